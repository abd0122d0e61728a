/- FnVal: a right value that is put is got, and no other word is another one; what is not right is not put; whatever the bytes of the draw. -/
import Derived.Test.YtpfbhjnlihhpkaaPFnValx5
import Derived.Test.YtpfbhjnlihhpkaaBase
namespace Go.Proofs.Ytpfbhjnlihhpkaa.Pure
open Go.RowKit Go.Proofs.Ytpfbhjnlihhpkaa.PFnVal Go.Proofs.YtpfbhjnlihhpkaaW.PrintWords Go.Proofs.YtpfbhjnlihhpkaaW.PrintLast Go.Proofs.Ytpfbhjnlihhpkaa.Base
namespace Val
theorem l1In (a b c : Int) : spec_l1In.f a b c = some (decide (b ≤ a ∧ a ≤ c)) := by
  unfold spec_l1In.f; split
  · exact some_decide (by omega)
  · rw [decide_eq_false (by omega)]
theorem within (a b c : Int) : impl_within.f a b c = some (decide (b ≤ a ∧ a ≤ c)) := by
  unfold impl_within.f; split
  · exact some_decide (by omega)
  · rw [decide_eq_false (by omega)]
theorem specIsRef (t n : Int) : spec_IsRef.f t n = some (decide (kindOf t ≠ 0)) := by
  have : spec_l1Kind.f t = some (kindOf t) := by
    unfold spec_l1Kind.f kindOf
    repeat' split
    all_goals rfl
  unfold spec_IsRef.f
  rw [this]; simp only [obind, bned]
theorem implKind (t : Int) : impl_kindOf.f t = some (kindOf t) := by
  unfold impl_kindOf.f kindOf
  repeat' split
  all_goals rfl
theorem specValOk (t n : Int) : spec_ValOk.f t n = some (decide (ValP t n)) := by
  unfold spec_ValOk.f
  simp only [specIsRef, l1In, obind, decide_eq_true_eq, beqd, kindOf_ne]
  repeat' split
  all_goals first
    | exact some_decide (by unfold ValP; omega)
    | exact some_true (by unfold ValP; omega)
    | exact some_false (by unfold ValP; omega)
theorem implValOk (t n : Int) : impl_ValOk.f t n = some (decide (ValP t n)) := by
  unfold impl_ValOk.f
  have hk := @kindOf_ne t
  simp only [implKind, within, obind, beqd]
  repeat' split
  all_goals first
    | exact some_decide (by unfold ValP; omega)
    | exact some_true (by unfold ValP; omega)
    | exact some_false (by unfold ValP; omega)
theorem and255 (x : Int) : 0 ≤ bits .and .i64 x 255 ∧ bits .and .i64 x 255 ≤ 255 := by
  have e : bits .and .i64 x 255 = IntKind.i64.wrap ((BitVec.ofInt 64 x &&& BitVec.ofInt 64 255).toNat : Int) := rfl
  have h : (BitVec.ofInt 64 x &&& BitVec.ofInt 64 255).toNat ≤ 255 := by
    rw [BitVec.toNat_and]
    exact Nat.le_trans Nat.and_le_right (by decide)
  rw [e, IntKind.wrap_i64]
  omega
section
variable (c : List Int) (hc : c.length ≤ 140737488351232)
include hc
theorem byte_some (i h : Int) (h0 : 0 ≤ i) (h1 : i ≤ c.length) : ∃ x i' h', spec_l1Byte.f c i h = some (x, i', h') ∧ (0 ≤ x ∧ x ≤ 255) ∧ 0 ≤ i' ∧ i' ≤ c.length := by
  unfold spec_l1Byte.f
  by_cases hi : i < (c.length : Int)
  · rw [if_pos hi, if_pos h0]
    refine ⟨_, _, _, rfl, and255 _, ?_⟩
    rw [wrap64_in (by omega) (by omega)]; omega
  · rw [if_neg hi]
    exact ⟨_, _, _, rfl, and255 _, h0, h1⟩
theorem below_some (i h n : Int) (h0 : 0 ≤ i) (h1 : i ≤ c.length) (hn : 0 < n) : ∃ x i' h', spec_l1Below.f c i h n = some (x, i', h') ∧ (0 ≤ x ∧ x < n) ∧ 0 ≤ i' ∧ i' ≤ c.length := by
  unfold spec_l1Below.f
  rw [if_neg (by omega)]
  obtain ⟨x, i1, h1', e1, rx, j0, j1⟩ := byte_some c hc i h h0 h1
  have key : ∀ y : Int, 0 ≤ y → 0 ≤ Int.tmod y n ∧ Int.tmod y n < n := fun y hy => by
    rw [Int.tmod_eq_emod_of_nonneg hy]; exact ⟨Int.emod_nonneg _ (by omega), Int.emod_lt_of_pos _ hn⟩
  by_cases hs : n ≤ 256
  · rw [if_pos hs, e1]
    simp only [obind]
    rw [if_neg (by omega)]
    exact ⟨_, _, _, rfl, key x rx.1, j0, j1⟩
  · rw [if_neg hs, e1]
    simp only [obind]
    obtain ⟨y, i2, h2', e2, ry, j0, j1⟩ := byte_some c hc i1 h1' j0 j1
    rw [e2]; simp only [obind]
    obtain ⟨z, i3, h3', e3, rz, j0, j1⟩ := byte_some c hc i2 h2' j0 j1
    rw [e3]; simp only [obind]
    obtain ⟨u, i4, h4', e4, ru, j0, j1⟩ := byte_some c hc i3 h3' j0 j1
    rw [e4]; simp only [obind]
    rw [if_neg (by omega)]
    refine ⟨_, _, _, rfl, key _ ?_, j0, j1⟩
    simp only [wrap64]; omega
theorem pick_some (i h : Int) (l : List Int) (h0 : 0 ≤ i) (h1 : i ≤ c.length) (hl : 0 < l.length) : ∃ x i' h', spec_l1PickInt.f c i h l = some (x, i', h') ∧ x ∈ l ∧ 0 ≤ i' ∧ i' ≤ c.length := by
  unfold spec_l1PickInt.f
  obtain ⟨x, i1, h1', e1, rx, j0, j1⟩ := below_some c hc i h l.length h0 h1 (by omega)
  rw [e1]; simp only [obind]
  rw [if_pos rx.1, if_pos rx.2]
  refine ⟨_, _, _, rfl, ?_, j0, j1⟩
  have hx : x.toNat < l.length := by omega
  have e : rd l x = l[x.toNat] := by simp [rd, hx]
  rw [e]; exact List.getElem_mem hx
theorem once_some (i h n : Int) (h0 : 0 ≤ i) (h1 : i ≤ c.length) (hn : 0 < n) : ∃ b i' h', spec_l1Once.f c i h n = some (b, i', h') ∧ 0 ≤ i' ∧ i' ≤ c.length := by
  unfold spec_l1Once.f
  obtain ⟨x, i1, h1', e1, _, j0, j1⟩ := below_some c hc i h n h0 h1 hn
  rw [e1]; simp only [obind]
  exact ⟨_, _, _, rfl, j0, j1⟩
theorem new_loop (d : Nat) : ∀ (k i : Nat) (h : Int), i + d = c.length → d < k → ∃ h', spec_l1New.l0 k c h (i : Int) = some (c, 0, h') := by
  induction d with
  | zero =>
    intro k i h hi hk
    obtain ⟨k, rfl⟩ : ∃ m, k = m + 1 := ⟨k - 1, by omega⟩
    simp only [spec_l1New.l0]
    rw [if_neg (by omega)]; exact ⟨_, rfl⟩
  | succ d ih =>
    intro k i h hi hk
    obtain ⟨k, rfl⟩ : ∃ m, k = m + 1 := ⟨k - 1, by omega⟩
    simp only [spec_l1New.l0]
    rw [if_pos (by omega)]
    by_cases h4 : (i : Int) < 4000
    · have e1 : wrap64 ((i : Int) + 1) = ((i + 1 : Nat) : Int) := by unfold wrap64; omega
      rw [if_pos h4, if_pos (by omega), e1]
      exact ih k (i + 1) _ (by omega) (by omega)
    · rw [if_neg h4]; exact ⟨_, rfl⟩
theorem new_some (k : Nat) (hk : c.length < k) : ∃ h, spec_l1New.f k c = some (c, 0, h) := by
  unfold spec_l1New.f
  exact new_loop c hc c.length k 0 _ (by omega) hk
end
section
variable (c : List Int) (hc : c.length ≤ 140737488351232)
include hc
theorem list_loop (d : Nat) : ∀ (k : Nat) (acc : List Int) (x i h m : Int), m - x = d → 0 ≤ x → m ≤ 100 → acc.length + d ≤ 100 → d < k → 0 ≤ i → i ≤ c.length →
    ∃ r i' h', spec_l1List.l0 k acc m x c i h = some (r, i', h') ∧ r.length ≤ 100 ∧ 0 ≤ i' ∧ i' ≤ c.length := by
  induction d with
  | zero =>
    intro k acc x i h m hm hx hx2 ha hk h0 h1
    obtain ⟨k, rfl⟩ : ∃ m, k = m + 1 := ⟨k - 1, by omega⟩
    simp only [spec_l1List.l0]
    rw [if_neg (by omega)]
    exact ⟨_, _, _, rfl, by omega, h0, h1⟩
  | succ d ih =>
    intro k acc x i h m hm hx hx2 ha hk h0 h1
    obtain ⟨k, rfl⟩ : ∃ m, k = m + 1 := ⟨k - 1, by omega⟩
    simp only [spec_l1List.l0]
    obtain ⟨v, i3, k3, e3, _, j0, j1⟩ := pick_some c hc i h [0, 1, 2, 3, 7, 9, (-1), 77] h0 h1 (by decide)
    rw [if_pos (by omega), e3]
    simp only [obind]
    rw [if_pos (by omega), wrap64_in (by omega) (by omega)]
    exact ih k _ (x + 1) i3 k3 m (by omega) (by omega) hx2 (by simp; omega) (by omega) j0 j1
theorem list_some (k : Nat) (i h : Int) (h0 : 0 ≤ i) (h1 : i ≤ c.length) (hk : 20 < k) : ∃ r i' h', spec_l1List.f k c i h = some (r, i', h') ∧ r.length ≤ 100 ∧ 0 ≤ i' ∧ i' ≤ c.length := by
  unfold spec_l1List.f
  obtain ⟨x, i2, k2, e2, rx, j0, j1⟩ := below_some c hc i h 9 h0 h1 (by omega)
  rw [e2]; simp only [obind]
  exact list_loop c hc x.toNat k [] 0 i2 k2 x (by omega) (by omega) (by omega) (by simp; omega) (by omega) j0 j1
def I64 (x : Int) : Prop := -9223372036854775808 ≤ x ∧ x < 9223372036854775808
omit hc in
theorem pick_in {l : List Int} (hl : ∀ x ∈ l, I64 x) {x : Int} (hx : x ∈ l) : I64 x := hl x hx
theorem val_j1 (k : Nat) (i h x y : Int) (h0 : 0 ≤ i) (h1 : i ≤ c.length) (hx : I64 x) (hy : I64 y) : ∃ x' y' i' h', spec_l1Val.j1 (k + 1) c i h x y = some (x', y', i', h') ∧ I64 x' ∧ I64 y' := by
  simp only [spec_l1Val.j1]
  obtain ⟨b, i1, k1, e1, j0, j1⟩ := once_some c hc i h 12 h0 h1 (by omega)
  rw [e1]; simp only [obind]
  cases b with
  | false => rw [if_neg (by simp)]; exact ⟨_, _, _, _, rfl, hx, hy⟩
  | true =>
    rw [if_pos rfl]
    obtain ⟨v, i3, k3, e3, m3, j0, j1⟩ := pick_some c hc i1 k1 [(-1), 10, 99] j0 j1 (by decide)
    rw [e3]; simp only [obind]
    exact ⟨_, _, _, _, rfl, pick_in (by simp [I64]) m3, hy⟩
theorem val_j0 (k : Nat) (i h x y : Int) (h0 : 0 ≤ i) (h1 : i ≤ c.length) (hx : I64 x) (hy : I64 y) : ∃ x' y' i' h', spec_l1Val.j0 (k + 2) c i h x y = some (x', y', i', h') ∧ I64 x' ∧ I64 y' := by
  simp only [spec_l1Val.j0]
  obtain ⟨b, i1, k1, e1, j0, j1⟩ := once_some c hc i h 8 h0 h1 (by omega)
  rw [e1]; simp only [obind]
  cases b with
  | false => rw [if_neg (by simp)]; exact val_j1 c hc k _ _ _ _ j0 j1 hx hy
  | true =>
    rw [if_pos rfl]
    obtain ⟨v, i3, k3, e3, m3, j0, j1⟩ := pick_some c hc i1 k1 [0, (-1), 2, 21, 1] j0 j1 (by decide)
    rw [e3]; simp only [obind]
    exact val_j1 c hc k _ _ _ _ j0 j1 hx (pick_in (by simp [I64]) m3)
theorem val_some (k : Nat) (i h : Int) (h0 : 0 ≤ i) (h1 : i ≤ c.length) (hk : 2 ≤ k) : ∃ x' y' i' h', spec_l1Val.f k c i h = some (x', y', i', h') ∧ I64 x' ∧ I64 y' := by
  obtain ⟨k, rfl⟩ : ∃ m, k = m + 2 := ⟨k - 2, by omega⟩
  unfold spec_l1Val.f
  obtain ⟨u, i2, k2, e2, ru, j0, j1⟩ := below_some c hc i h 10 h0 h1 (by omega)
  have hu : I64 u := by unfold I64; omega
  rw [e2]; simp only [obind]
  split
  · exact val_j0 c hc k _ _ _ _ j0 j1 hu (by unfold I64; omega)
  · split
    · obtain ⟨v, i3, k3, e3, rv, j0, j1⟩ := below_some c hc i2 k2 2 j0 j1 (by omega)
      rw [e3]; simp only [obind]; exact val_j0 c hc k _ _ _ _ j0 j1 hu (by unfold I64; omega)
    · split
      · obtain ⟨v, i3, k3, e3, m3, j0, j1⟩ := pick_some c hc i2 k2 [0, 1, (-1), 7, 9223372036854775807, (-9223372036854775808), 123456] j0 j1 (by decide)
        rw [e3]; simp only [obind]; exact val_j0 c hc k _ _ _ _ j0 j1 hu (pick_in (by simp [I64]) m3)
      · split
        · obtain ⟨v, i3, k3, e3, rv, j0, j1⟩ := below_some c hc i2 k2 20 j0 j1 (by omega)
          rw [e3]; simp only [obind]; exact val_j0 c hc k _ _ _ _ j0 j1 hu (by rw [wrap64_in (by omega) (by omega)]; unfold I64; omega)
        · obtain ⟨v, i3, k3, e3, rv, j0, j1⟩ := below_some c hc i2 k2 300 j0 j1 (by omega)
          rw [e3]; simp only [obind]; exact val_j0 c hc k _ _ _ _ j0 j1 hu (by rw [wrap64_in (by omega) (by omega)]; unfold I64; omega)
theorem draw_some (k : Nat) (hk : c.length + 30 < k) : ∃ l p t n, spec_DrawPutVal.f k c = some (l, p, t, n) ∧ l.length ≤ 100 ∧ -2 ≤ p ∧ p ≤ l.length ∧ I64 t ∧ I64 n := by
  unfold spec_DrawPutVal.f
  obtain ⟨h, e⟩ := new_some c hc k (by omega)
  rw [e]; simp only [obind]
  obtain ⟨l, i1, h1, e1, hl, j0, j1⟩ := list_some c hc k 0 h (by omega) (by omega) (by omega)
  rw [e1]; simp only [obind]
  rw [wrap64_in (x := (l.length : Int) + 3) (by omega) (by omega)]
  obtain ⟨u, i2, h2, e2, ru, j0, j1⟩ := below_some c hc i1 h1 ((l.length : Int) + 3) j0 j1 (by omega)
  rw [e2]; simp only [obind]
  obtain ⟨t, n, i3, h3, e3, ht, hn⟩ := val_some c hc k i2 h2 j0 j1 (by omega)
  rw [e3]; simp only [obind]
  exact ⟨l, _, t, n, rfl, hl, by rw [wrap64_in (by omega) (by omega)]; omega, by rw [wrap64_in (by omega) (by omega)]; omega, ht, hn⟩
end
theorem rd_nat (l : List Int) (i : Nat) (h : i < l.length) : rd l (i : Int) = l[i] := by simp [rd, h]
theorem put_both (l : List Int) (p t n : Int) (hl : l.length ≤ 100) :
    (if (0 ≤ p ∧ p ≤ (l.length : Int) - 2) ∧ ValP t n then impl_PutVal.f l p t n = some ((l.set p.toNat (IntKind.u64.wrap t)).set (p + 1).toNat (IntKind.u64.wrap n), true) ∧ spec_PutVal.f l p t n = some ((l.set p.toNat (IntKind.u64.wrap t)).set (p + 1).toNat (IntKind.u64.wrap n), true)
      else impl_PutVal.f l p t n = some (l, false) ∧ spec_PutVal.f l p t n = some (l, false)) := by
  have ew : wrap64 ((l.length : Int) - 2) = (l.length : Int) - 2 := wrap64_in (by omega) (by omega)
  unfold spec_PutVal.f impl_PutVal.f spec_l1Words.f impl_copyWords.f
  simp only [List.length_nil, List.nil_append, obind]
  rw [if_pos (c := 0 + l.length < 17592186044416) (by omega)]
  simp only [obind, l1In, within, ew, decide_eq_true_eq, specValOk, implValOk]
  by_cases c : 0 ≤ p ∧ p ≤ (l.length : Int) - 2
  · have ep : wrap64 (p + 1) = p + 1 := wrap64_in (by omega) (by omega)
    simp only [ep]
    rw [if_pos c, if_pos (show p < (l.length : Int) by omega), if_pos (show p + 1 < (l.length : Int) by omega), if_pos c.1, if_pos (show 0 ≤ p + 1 by omega)]
    by_cases v : ValP t n
    · rw [if_pos ⟨c, v⟩, if_pos v]; exact ⟨rfl, rfl⟩
    · rw [if_neg (fun h => v h.2), if_neg v]; exact ⟨rfl, rfl⟩
  · rw [if_neg (fun h => c h.1), if_neg c]; exact ⟨rfl, rfl⟩
theorem loop_end (l r : List Int) (p : Int) (b : Bool) (t n : Int) (hl : l.length ≤ 100) (hr : r.length = l.length) (hp : -2 ≤ p) (hp2 : p ≤ l.length)
    (hq : ∀ j : Nat, (hj : j < l.length) → (b = true → (j : Int) ≠ p ∧ (j : Int) ≠ p + 1) → rd r (j : Int) = rd l (j : Int)) (k0 : Nat)
    (hend : laws_FnVal.l0 (k0 + 1) l p r b (l.length : Int) t n = some true) (d : Nat) : ∀ (i : Nat), i + d = l.length → laws_FnVal.l0 (k0 + d + 1) l p r b (i : Int) t n = some true := by
  induction d with
  | zero =>
    intro i hi
    have : i = l.length := by omega
    subst this
    exact hend
  | succ d ih =>
    intro i hi
    have e1 : wrap64 ((i : Int) + 1) = ((i + 1 : Nat) : Int) := by unfold wrap64; omega
    have ep : wrap64 (p + 1) = p + 1 := wrap64_in (by omega) (by omega)
    have hn := ih (i + 1) (by omega)
    rw [show k0 + (d + 1) + 1 = (k0 + d + 1) + 1 by omega]
    generalize k0 + d + 1 = q at hn
    simp only [laws_FnVal.l0]
    rw [if_pos (by omega), e1, ep, hn]
    have hrd : (b = true → (i : Int) ≠ p ∧ (i : Int) ≠ p + 1) → rd r (i : Int) = rd l (i : Int) := hq i (by omega)
    cases b with
    | false =>
      rw [if_neg (by simp), if_pos (by omega), if_pos (by omega), if_pos (hrd (by simp))]
    | true =>
      rw [if_pos rfl]
      by_cases c1 : (i : Int) = p
      · rw [if_pos c1]
      · rw [if_neg c1]
        by_cases c2 : (i : Int) = p + 1
        · rw [if_pos c2]
        · rw [if_neg c2, if_pos (by omega), if_pos (by omega), if_pos (hrd (fun _ => ⟨c1, c2⟩))]
theorem get_back (l : List Int) (p t n : Int) (k : Nat) (hl : l.length ≤ 100) (c : 0 ≤ p ∧ p ≤ (l.length : Int) - 2) (v : ValP t n) (hn : I64 n) :
    impl_GetVal.f (k + 1) ((l.set p.toNat (IntKind.u64.wrap t)).set (p + 1).toNat (IntKind.u64.wrap n)) p = some (t, n, true) := by
  have ht : 0 ≤ t ∧ t ≤ 9 := by unfold ValP at v; omega
  have et : IntKind.u64.wrap t = t := by rw [IntKind.wrap_u64]; omega
  have en : wrap64 (IntKind.u64.wrap n) = n := by unfold I64 at hn; simp only [IntKind.wrap_u64, wrap64]; omega
  rw [et]
  generalize hm : IntKind.u64.wrap n = m at en
  have ew : wrap64 ((l.length : Int) - 2) = (l.length : Int) - 2 := wrap64_in (by omega) (by omega)
  have ep : wrap64 (p + 1) = p + 1 := wrap64_in (by omega) (by omega)
  have r1 : rd ((l.set p.toNat t).set (p + 1).toNat m) p = t := by
    have : (p + 1).toNat ≠ p.toNat := by omega
    have h2 : p.toNat < l.length := by omega
    simp [rd, this, h2]
  have r2 : rd ((l.set p.toNat t).set (p + 1).toNat m) (p + 1) = m := by
    have h2 : (p + 1).toNat < l.length := by omega
    simp [rd, h2]
  unfold impl_GetVal.f
  simp only [List.length_set, ew, within, obind, decide_eq_true_eq, r1]
  rw [if_pos c, if_pos c.1, if_pos (by omega)]
  simp only [impl_GetVal.j0, List.length_set, ep, r1, r2, implValOk, obind, decide_eq_true_eq]
  rw [if_neg (by omega), if_pos c.1, if_pos (show p < (l.length : Int) by omega), if_pos (show 0 ≤ p + 1 by omega), if_pos (show p + 1 < (l.length : Int) by omega), en, wrap64_in (x := t) (by omega) (by omega), if_pos v]
end Val
open Val
theorem FnVal : laws_FnVal.Pure := by
  intro c hl hc _
  have hc : c.length ≤ 140737488351232 := by omega
  obtain ⟨K, hK⟩ : ∃ K, K = c.length + 300 := ⟨_, rfl⟩
  obtain ⟨l, p, t, n, e, hll, hp, hp2, ht, hn⟩ := draw_some c hc (K + 2) (by omega)
  refine ⟨K + 2, ?_⟩
  unfold laws_FnVal.f laws_big.f
  simp only [obind]
  split
  · rfl
  rw [e]; simp only [obind]
  have hb := put_both l p t n hll
  by_cases q : (0 ≤ p ∧ p ≤ (l.length : Int) - 2) ∧ ValP t n
  · rw [if_pos q] at hb
    rw [hb.1, hb.2]
    simp only [obind, bne_self_eq_false, Bool.false_eq_true, if_false, List.length_set, laws_FnVal.j0]
    have := loop_end l ((l.set p.toNat (IntKind.u64.wrap t)).set (p + 1).toNat (IntKind.u64.wrap n)) p true t n hll (by simp) hp hp2 ?_ (K - l.length) ?_ l.length 0 (by omega)
    · rw [show K - l.length + l.length + 1 = K + 1 by omega] at this
      exact this
    · intro j hj hne
      obtain ⟨n1, n2⟩ := hne rfl
      have a1 : p.toNat ≠ j := by omega
      have a2 : (p + 1).toNat ≠ j := by omega
      simp [rd, a1, a2]
    · simp only [laws_FnVal.l0]
      obtain ⟨k, hk⟩ : ∃ k, K - l.length = k + 1 := ⟨K - l.length - 1, by omega⟩
      rw [if_neg (by omega), if_pos trivial, hk, get_back l p t n k hll q.1 q.2 hn]
      simp only [obind, if_true, beq_self_eq_true, Bool.and_self]
  · rw [if_neg q] at hb
    rw [hb.1, hb.2]
    simp only [obind, bne_self_eq_false, Bool.false_eq_true, if_false, laws_FnVal.j0]
    have := loop_end l l p false t n hll rfl hp hp2 (fun _ _ _ => rfl) (K - l.length) ?_ l.length 0 (by omega)
    · rw [show K - l.length + l.length + 1 = K + 1 by omega] at this
      exact this
    · simp only [laws_FnVal.l0]
      rw [if_neg (by omega), if_neg (by simp), specValOk]
      simp only [obind, decide_eq_true_eq]
      rw [wrap64_in (x := (l.length : Int) - 2) (by omega) (by omega)]
      by_cases v : ValP t n
      · rw [if_pos v]
        by_cases p0 : p < 0
        · rw [if_pos p0]
        · rw [if_neg p0, decide_eq_true]
          have : ¬ (0 ≤ p ∧ p ≤ (l.length : Int) - 2) := fun h => q ⟨h, v⟩
          omega
      · rw [if_neg v]
end Go.Proofs.Ytpfbhjnlihhpkaa.Pure
