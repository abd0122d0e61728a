/- FnWord: a right head's word is read as that head and is not forwarded; a word that is read as a head is that head's word; whatever the bytes of the draw. -/
import Derived.Test.YtpfbhjnlihhpkaaPFnWordx5
import Derived.Test.YtpfbhjnlihhpkaaBase
namespace Go.Proofs.Ytpfbhjnlihhpkaa.Pure
open Go.RowKit Go.Proofs.Ytpfbhjnlihhpkaa.PFnWord Go.Proofs.YtpfbhjnlihhpkaaW.PrintWords Go.Proofs.YtpfbhjnlihhpkaaW.PrintLast Go.Proofs.Ytpfbhjnlihhpkaa.Base
namespace Word
theorem l1In (a b c : Int) : spec_l1In.f a b c = some (decide (b ≤ a ∧ a ≤ c)) := by
  unfold spec_l1In.f; split
  · exact some_decide (by omega)
  · rw [decide_eq_false (by omega)]
theorem within (a b c : Int) : impl_within.f a b c = some (decide (b ≤ a ∧ a ≤ c)) := by
  unfold impl_within.f; split
  · exact some_decide (by omega)
  · rw [decide_eq_false (by omega)]
theorem specHeadOk (k s n : Int) : spec_HeadOk.f k s n = some (decide (HeadP k s n)) := by
  unfold spec_HeadOk.f
  simp only [l1In, obind, decide_eq_true_eq, beqd]
  by_cases h : 1 ≤ s ∧ s ≤ 25
  · rw [Int.tmod_eq_emod_of_nonneg (by omega), if_pos h]
    repeat' split
    all_goals first
      | exact some_decide (by unfold HeadP SizeP BornP; omega)
      | exact some_false (by unfold HeadP SizeP BornP; omega)
  · rw [if_neg h]
    repeat' split
    all_goals first
      | exact some_decide (by unfold HeadP SizeP BornP; omega)
      | exact some_false (by unfold HeadP SizeP BornP; omega)
theorem implSizeOk (k s : Int) : impl_sizeOk.f k s = some (decide (SizeP k s)) := by
  unfold impl_sizeOk.f
  simp only [within, obind, decide_eq_true_eq, beqd]
  by_cases h : 1 ≤ s ∧ s ≤ 25
  · rw [Int.tmod_eq_emod_of_nonneg (by omega), if_pos h]
    repeat' split
    all_goals first
      | exact some_decide (by unfold SizeP; omega)
      | exact some_false (by unfold SizeP; omega)
      | exact some_true (by unfold SizeP; omega)
  · rw [if_neg h]
    repeat' split
    all_goals first
      | exact some_decide (by unfold SizeP; omega)
      | exact some_false (by unfold SizeP; omega)
      | exact some_true (by unfold SizeP; omega)
theorem implHeadOk (k s n : Int) : impl_HeadOk.f k s n = some (decide (HeadP k s n)) := by
  have e2 : impl_isBorn.f k = some (decide (BornP k)) := by
    unfold impl_isBorn.f
    simp only [beqd]
    repeat' split
    all_goals first
      | exact some_decide (by unfold BornP; omega)
      | exact some_true (by unfold BornP; omega)
  unfold impl_HeadOk.f
  simp only [implSizeOk, e2, within, obind, decide_eq_true_eq, beqd]
  by_cases c : SizeP k s
  · rw [if_pos c]
    by_cases b : BornP k
    · rw [if_pos b]; exact some_decide (by simp [HeadP, c, b])
    · rw [if_neg b]; exact some_decide (by simp [HeadP, c, b])
  · rw [if_neg c]; exact some_false (by simp [HeadP, c])
theorem same_yes {x : Int} (h0 : 0 ≤ x) (h1 : x < 18446744073709551616) (p : HeadP (x % 16) (x / 16 % 65536) (x / 1048576 % 4294967296)) (c : x / 1048576 < 4294967296) :
    IntKind.u64.wrap ((IntKind.u64.wrap ((IntKind.u64.wrap (x % 16)) + (IntKind.u64.wrap ((IntKind.u64.wrap (x / 16 % 65536)) * 16)))) + (IntKind.u64.wrap ((IntKind.u64.wrap (x / 1048576 % 4294967296)) * 1048576))) = x := by
  have r := p.range
  simp only [IntKind.wrap_u64]
  omega
theorem same_no {x : Int} (_h0 : 0 ≤ x) (_h1 : x < 18446744073709551616) (p : HeadP (x % 16) (x / 16 % 65536) (x / 1048576 % 4294967296)) (c : ¬ x / 1048576 < 4294967296) :
    ¬ IntKind.u64.wrap ((IntKind.u64.wrap ((IntKind.u64.wrap (x % 16)) + (IntKind.u64.wrap ((IntKind.u64.wrap (x / 16 % 65536)) * 16)))) + (IntKind.u64.wrap ((IntKind.u64.wrap (x / 1048576 % 4294967296)) * 1048576))) = x := by
  have r := p.range
  simp only [IntKind.wrap_u64]
  omega
theorem spec_is {x : Int} (h0 : 0 ≤ x) (h1 : x < 18446744073709551616) :
    spec_ReadHead.f x = if HeadP (x % 16) (x / 16 % 65536) (x / 1048576) then some (x % 16, x / 16 % 65536, x / 1048576, true) else some (0, 0, 0, false) := by
  have d1 : 0 ≤ x / 16 ∧ x / 16 < 18446744073709551616 := by omega
  have d2 : 0 ≤ x / 1048576 ∧ x / 1048576 < 18446744073709551616 := by omega
  unfold spec_ReadHead.f spec_PackHead.f
  rw [and15 h0 h1, and65535 d1.1 d1.2, and32 d2.1 d2.2]
  rw [wrap64_in (x := x % 16) (by omega) (by omega), wrap64_in (x := x / 16 % 65536) (by omega) (by omega), wrap64_in (x := x / 1048576 % 4294967296) (by omega) (by omega)]
  simp only [specHeadOk, obind, decide_eq_true_eq]
  by_cases c : x / 1048576 < 4294967296
  · have e2 : x / 1048576 % 4294967296 = x / 1048576 := by omega
    by_cases p : HeadP (x % 16) (x / 16 % 65536) (x / 1048576 % 4294967296)
    · rw [if_pos p]
      simp only [obind, if_true]
      rw [if_pos (same_yes h0 h1 p c)]
      rw [e2] at p ⊢
      rw [if_pos p]
    · rw [if_neg p]
      rw [e2] at p
      rw [if_neg p]; simp
  · rw [if_neg (c := HeadP (x % 16) (x / 16 % 65536) (x / 1048576)) (fun p => by have := p.range; omega)]
    by_cases p : HeadP (x % 16) (x / 16 % 65536) (x / 1048576 % 4294967296)
    · rw [if_pos p]
      simp only [obind, if_true]
      rw [if_neg (same_no h0 h1 p c)]
    · rw [if_neg p]; simp
theorem impl_is {x : Int} (h0 : 0 ≤ x) (h1 : x < 18446744073709551616) :
    impl_ReadHead.f x = if HeadP (x % 16) (x / 16 % 65536) (x / 1048576) then some (x % 16, x / 16 % 65536, x / 1048576, true) else some (0, 0, 0, false) := by
  have d1 : 0 ≤ x / 16 ∧ x / 16 < 18446744073709551616 := by omega
  unfold impl_ReadHead.f
  rw [and15 h0 h1, and65535 d1.1 d1.2]
  rw [wrap64_in (x := x % 16) (by omega) (by omega), wrap64_in (x := x / 16 % 65536) (by omega) (by omega), wrap64_in (x := x / 1048576) (by omega) (by omega)]
  simp only [implHeadOk, obind, decide_eq_true_eq]
theorem and255 (x : Int) : 0 ≤ bits .and .i64 x 255 ∧ bits .and .i64 x 255 ≤ 255 := by
  have e : bits .and .i64 x 255 = IntKind.i64.wrap ((BitVec.ofInt 64 x &&& BitVec.ofInt 64 255).toNat : Int) := rfl
  have h : (BitVec.ofInt 64 x &&& BitVec.ofInt 64 255).toNat ≤ 255 := by
    rw [BitVec.toNat_and]
    exact Nat.le_trans Nat.and_le_right (by decide)
  rw [e, IntKind.wrap_i64]
  omega
section
variable (c : List Int) (hc : c.length ≤ 140737488351232)
include hc
theorem byte_some (i h : Int) (h0 : 0 ≤ i) (h1 : i ≤ c.length) : ∃ x i' h', spec_l1Byte.f c i h = some (x, i', h') ∧ (0 ≤ x ∧ x ≤ 255) ∧ 0 ≤ i' ∧ i' ≤ c.length := by
  unfold spec_l1Byte.f
  by_cases hi : i < (c.length : Int)
  · rw [if_pos hi, if_pos h0]
    refine ⟨_, _, _, rfl, and255 _, ?_⟩
    rw [wrap64_in (by omega) (by omega)]; omega
  · rw [if_neg hi]
    exact ⟨_, _, _, rfl, and255 _, h0, h1⟩
theorem below_some (i h n : Int) (h0 : 0 ≤ i) (h1 : i ≤ c.length) (hn : 0 < n) : ∃ x i' h', spec_l1Below.f c i h n = some (x, i', h') ∧ (0 ≤ x ∧ x < n) ∧ 0 ≤ i' ∧ i' ≤ c.length := by
  unfold spec_l1Below.f
  rw [if_neg (by omega)]
  obtain ⟨x, i1, h1', e1, rx, j0, j1⟩ := byte_some c hc i h h0 h1
  have key : ∀ y : Int, 0 ≤ y → 0 ≤ Int.tmod y n ∧ Int.tmod y n < n := fun y hy => by
    rw [Int.tmod_eq_emod_of_nonneg hy]; exact ⟨Int.emod_nonneg _ (by omega), Int.emod_lt_of_pos _ hn⟩
  by_cases hs : n ≤ 256
  · rw [if_pos hs, e1]
    simp only [obind]
    rw [if_neg (by omega)]
    exact ⟨_, _, _, rfl, key x rx.1, j0, j1⟩
  · rw [if_neg hs, e1]
    simp only [obind]
    obtain ⟨y, i2, h2', e2, ry, j0, j1⟩ := byte_some c hc i1 h1' j0 j1
    rw [e2]; simp only [obind]
    obtain ⟨z, i3, h3', e3, rz, j0, j1⟩ := byte_some c hc i2 h2' j0 j1
    rw [e3]; simp only [obind]
    obtain ⟨u, i4, h4', e4, ru, j0, j1⟩ := byte_some c hc i3 h3' j0 j1
    rw [e4]; simp only [obind]
    rw [if_neg (by omega)]
    refine ⟨_, _, _, rfl, key _ ?_, j0, j1⟩
    simp only [wrap64]; omega
theorem pick_some (i h : Int) (l : List Int) (h0 : 0 ≤ i) (h1 : i ≤ c.length) (hl : 0 < l.length) : ∃ x i' h', spec_l1PickInt.f c i h l = some (x, i', h') ∧ x ∈ l ∧ 0 ≤ i' ∧ i' ≤ c.length := by
  unfold spec_l1PickInt.f
  obtain ⟨x, i1, h1', e1, rx, j0, j1⟩ := below_some c hc i h l.length h0 h1 (by omega)
  rw [e1]; simp only [obind]
  rw [if_pos rx.1, if_pos rx.2]
  refine ⟨_, _, _, rfl, ?_, j0, j1⟩
  have hx : x.toNat < l.length := by omega
  have e : rd l x = l[x.toNat] := by simp [rd, hx]
  rw [e]; exact List.getElem_mem hx
theorem once_some (i h n : Int) (h0 : 0 ≤ i) (h1 : i ≤ c.length) (hn : 0 < n) : ∃ b i' h', spec_l1Once.f c i h n = some (b, i', h') ∧ 0 ≤ i' ∧ i' ≤ c.length := by
  unfold spec_l1Once.f
  obtain ⟨x, i1, h1', e1, _, j0, j1⟩ := below_some c hc i h n h0 h1 hn
  rw [e1]; simp only [obind]
  exact ⟨_, _, _, rfl, j0, j1⟩
theorem new_loop (d : Nat) : ∀ (k i : Nat) (h : Int), i + d = c.length → d < k → ∃ h', spec_l1New.l0 k c h (i : Int) = some (c, 0, h') := by
  induction d with
  | zero =>
    intro k i h hi hk
    obtain ⟨k, rfl⟩ : ∃ m, k = m + 1 := ⟨k - 1, by omega⟩
    simp only [spec_l1New.l0]
    rw [if_neg (by omega)]; exact ⟨_, rfl⟩
  | succ d ih =>
    intro k i h hi hk
    obtain ⟨k, rfl⟩ : ∃ m, k = m + 1 := ⟨k - 1, by omega⟩
    simp only [spec_l1New.l0]
    rw [if_pos (by omega)]
    by_cases h4 : (i : Int) < 4000
    · have e1 : wrap64 ((i : Int) + 1) = ((i + 1 : Nat) : Int) := by unfold wrap64; omega
      rw [if_pos h4, if_pos (by omega), e1]
      exact ih k (i + 1) _ (by omega) (by omega)
    · rw [if_neg h4]; exact ⟨_, rfl⟩
theorem new_some (k : Nat) (hk : c.length < k) : ∃ h, spec_l1New.f k c = some (c, 0, h) := by
  unfold spec_l1New.f
  exact new_loop c hc c.length k 0 _ (by omega) hk
end
section
variable (c : List Int) (hc : c.length ≤ 140737488351232)
include hc
theorem head_j2 (k : Nat) (i h x y z : Int) (h0 : 0 ≤ i) (h1 : i ≤ c.length) : ∃ x' y' z' i' h', spec_l1Head.j2 (k + 1) c i h x y z = some (x', y', z', i', h') ∧ 0 ≤ i' ∧ i' ≤ c.length := by
  simp only [spec_l1Head.j2]
  obtain ⟨b, i1, k1, e1, j0, j1⟩ := once_some c hc i h 5 h0 h1 (by omega)
  rw [e1]; simp only [obind]
  cases b with
  | false => rw [if_neg (by simp)]; exact ⟨_, _, _, _, _, rfl, j0, j1⟩
  | true =>
    rw [if_pos rfl]
    obtain ⟨u, i2, k2, e2, _, j0, j1⟩ := below_some c hc i1 k1 3 j0 j1 (by omega)
    rw [e2]; simp only [obind]
    by_cases c0 : u = 0
    · rw [if_pos c0]
      obtain ⟨v, i3, k3, e3, _, j0, j1⟩ := below_some c hc i2 k2 9 j0 j1 (by omega)
      rw [e3]; exact ⟨_, _, _, _, _, rfl, j0, j1⟩
    · rw [if_neg c0]
      by_cases c1 : u = 1
      · rw [if_pos c1]
        obtain ⟨v, i3, k3, e3, _, j0, j1⟩ := below_some c hc i2 k2 3 j0 j1 (by omega)
        rw [e3]; exact ⟨_, _, _, _, _, rfl, j0, j1⟩
      · rw [if_neg c1]
        obtain ⟨v, i3, k3, e3, _, j0, j1⟩ := pick_some c hc i2 k2 [0, (-1), 1000000001, 5] j0 j1 (by decide)
        rw [e3]; exact ⟨_, _, _, _, _, rfl, j0, j1⟩
theorem head_j1 (k : Nat) (b : Bool) (i h x y z : Int) (h0 : 0 ≤ i) (h1 : i ≤ c.length) : ∃ x' y' z' i' h', spec_l1Head.j1 (k + 2) b c i h x y z = some (x', y', z', i', h') ∧ 0 ≤ i' ∧ i' ≤ c.length := by
  simp only [spec_l1Head.j1]
  cases b with
  | false => rw [if_neg (by simp)]; exact head_j2 c hc k i h x y z h0 h1
  | true =>
    rw [if_pos rfl]
    obtain ⟨v, i3, k3, e3, _, j0, j1⟩ := pick_some c hc i h [1, 2, 77, 1000000000] h0 h1 (by decide)
    rw [e3]; simp only [obind]
    exact head_j2 c hc k i3 k3 x y v j0 j1
theorem head_j0 (k : Nat) (i h x y z : Int) (h0 : 0 ≤ i) (h1 : i ≤ c.length) : ∃ x' y' z' i' h', spec_l1Head.j0 (k + 3) c i h x y z = some (x', y', z', i', h') ∧ 0 ≤ i' ∧ i' ≤ c.length := by
  simp only [spec_l1Head.j0]
  split
  · exact head_j1 c hc k true i h x y z h0 h1
  · split
    · exact head_j1 c hc k true i h x y z h0 h1
    · exact head_j1 c hc k _ i h x y z h0 h1
theorem head_some (k : Nat) (i h : Int) (h0 : 0 ≤ i) (h1 : i ≤ c.length) (hk : 3 ≤ k) : ∃ x' y' z' i' h', spec_l1Head.f k c i h = some (x', y', z', i', h') ∧ 0 ≤ i' ∧ i' ≤ c.length := by
  obtain ⟨k, rfl⟩ : ∃ m, k = m + 3 := ⟨k - 3, by omega⟩
  unfold spec_l1Head.f
  obtain ⟨u, i2, k2, e2, _, j0, j1⟩ := below_some c hc i h 6 h0 h1 (by omega)
  rw [e2]; simp only [obind]
  split
  · obtain ⟨v, i3, k3, e3, _, j0, j1⟩ := below_some c hc i2 k2 21 j0 j1 (by omega)
    rw [e3]; simp only [obind]; exact head_j0 c hc k _ _ _ _ _ j0 j1
  · split
    · exact head_j0 c hc k _ _ _ _ _ j0 j1
    · split
      · obtain ⟨v, i3, k3, e3, _, j0, j1⟩ := pick_some c hc i2 k2 [16, 32, 64, 128, 256] j0 j1 (by decide)
        rw [e3]; simp only [obind]; exact head_j0 c hc k _ _ _ _ _ j0 j1
      · split
        · obtain ⟨v, i3, k3, e3, _, j0, j1⟩ := below_some c hc i2 k2 13 j0 j1 (by omega)
          rw [e3]; simp only [obind]; exact head_j0 c hc k _ _ _ _ _ j0 j1
        · split
          · exact head_j0 c hc k _ _ _ _ _ j0 j1
          · exact head_j0 c hc k _ _ _ _ _ j0 j1
end
def pack (a b d : Int) : Int := a + 16 * b + d * 1048576
theorem impl_pack (a b d : Int) : impl_PackHead.f a b d = if HeadP a b d then some (pack a b d, true) else some (0, false) := by
  unfold impl_PackHead.f
  simp only [implHeadOk, obind, decide_eq_true_eq]
  by_cases p : HeadP a b d
  · rw [if_pos p, if_pos p]
    have r := p.range
    congr 2
    simp only [IntKind.wrap_u64, wrap64, pack]
    omega
  · rw [if_neg p, if_neg p]
theorem wrap_range (x : Int) : 0 ≤ IntKind.u64.wrap x ∧ IntKind.u64.wrap x < 18446744073709551616 := by
  simp only [IntKind.wrap_u64]; omega
theorem bits_range (op : BinOp) (x y : Int) (h : op = .or ∨ op = .xor) : 0 ≤ bits op .u64 x y ∧ bits op .u64 x y < 18446744073709551616 := by
  rcases h with rfl | rfl <;> exact wrap_range _
theorem spec_pack_range (a b d : Int) : ∃ w u, spec_PackHead.f a b d = some (w, u) ∧ 0 ≤ w ∧ w < 18446744073709551616 := by
  unfold spec_PackHead.f
  simp only [specHeadOk, obind, decide_eq_true_eq]
  split
  · exact ⟨_, _, rfl, wrap_range _⟩
  · exact ⟨0, false, rfl, by omega, by omega⟩
theorem word_some (c : List Int) (hc : c.length ≤ 140737488351232) (k : Nat) (i h : Int) (h0 : 0 ≤ i) (h1 : i ≤ c.length) (hk : 3 ≤ k) : ∃ w i' h', spec_l1Word.f k c i h = some (w, i', h') ∧ 0 ≤ w ∧ w < 18446744073709551616 := by
  unfold spec_l1Word.f
  obtain ⟨x, y, z, i2, k2, e2, j0, j1⟩ := head_some c hc k i h h0 h1 hk
  rw [e2]; simp only [obind]
  obtain ⟨w, u, ew, rw_⟩ := spec_pack_range x y z
  rw [ew]; simp only [obind]
  obtain ⟨v, i3, k3, e3, _, j0, j1⟩ := below_some c hc i2 k2 6 j0 j1 (by omega)
  rw [e3]; simp only [obind]
  split
  · exact ⟨_, _, _, rfl, bits_range .or _ _ (.inl rfl)⟩
  · split
    · obtain ⟨v, i4, k4, e4, _, j0, j1⟩ := below_some c hc i3 k3 5000 j0 j1 (by omega)
      rw [e4]; exact ⟨_, _, _, rfl, bits_range .or _ _ (.inl rfl)⟩
    · split
      · obtain ⟨v, i4, k4, e4, _, j0, j1⟩ := below_some c hc i3 k3 64 j0 j1 (by omega)
        rw [e4]; simp only [obind]
        rw [if_pos (wrap_range v).1]
        exact ⟨_, _, _, rfl, bits_range .xor _ _ (.inr rfl)⟩
      · split
        · obtain ⟨v, i4, k4, e4, _, j0, j1⟩ := pick_some c hc i3 k3 [0, (-1), 2147483647, 2147483648] j0 j1 (by decide)
          rw [e4]; exact ⟨_, _, _, rfl, bits_range .or _ _ (.inl rfl)⟩
        · exact ⟨_, _, _, rfl, rw_⟩
theorem j1_true (c : List Int) (hc : c.length ≤ 140737488351232) (k : Nat) (hk : c.length + 3 < k) : laws_FnWord.j1 (k + 1) c = some true := by
  simp only [laws_FnWord.j1]
  have ⟨v, ev, v0, v1⟩ : ∃ v, spec_DrawReadHead.f k c = some v ∧ 0 ≤ v ∧ v < 18446744073709551616 := by
    unfold spec_DrawReadHead.f
    obtain ⟨h, e⟩ := new_some c hc k (by omega)
    rw [e]; simp only [obind]
    obtain ⟨w, i, h', e, r⟩ := word_some c hc k 0 h (by omega) (by omega) (by omega)
    rw [e]; exact ⟨_, rfl, r⟩
  rw [ev]; simp only [obind]
  rw [spec_is v0 v1, impl_is v0 v1]
  by_cases p : HeadP (v % 16) (v / 16 % 65536) (v / 1048576)
  · rw [if_pos p]
    simp only [obind, if_true]
    rw [impl_pack, if_pos p]
    simp only [obind, beqd]
    have : pack (v % 16) (v / 16 % 65536) (v / 1048576) = v := by unfold pack; omega
    rw [decide_eq_true this]
  · rw [if_neg p]; simp
end Word
open Word
theorem FnWord : laws_FnWord.Pure := by
  intro c hl hc _
  have hc : c.length ≤ 140737488351232 := by omega
  refine ⟨c.length + 20, ?_⟩
  unfold laws_FnWord.f laws_big.f
  simp only [obind]
  split
  · rfl
  have ⟨x, y, z, e⟩ : ∃ x y z, spec_DrawPackHead.f (c.length + 20) c = some (x, y, z) := by
    unfold spec_DrawPackHead.f
    obtain ⟨h, e⟩ := new_some c hc (c.length + 20) (by omega)
    rw [e]; simp only [obind]
    obtain ⟨x, y, z, i, h', e, _⟩ := head_some c hc (c.length + 20) 0 h (by omega) (by omega) (by omega)
    rw [e]; exact ⟨_, _, _, rfl⟩
  rw [e]; simp only [obind]
  rw [impl_pack, specHeadOk]
  by_cases p : HeadP x y z
  · rw [if_pos p, decide_eq_true p]
    simp only [obind, bne_self_eq_false, Bool.false_eq_true, if_false, if_true, laws_FnWord.j0]
    have r := p.range
    have w0 : 0 ≤ pack x y z ∧ pack x y z < 18446744073709551616 ∧ pack x y z < 9223372036854775808 := by unfold pack; omega
    have e1 : pack x y z % 16 = x := by unfold pack; omega
    have e2 : pack x y z / 16 % 65536 = y := by unfold pack; omega
    have e3 : pack x y z / 1048576 = z := by unfold pack; omega
    rw [impl_is w0.1 w0.2.1, e1, e2, e3, if_pos p]
    unfold impl_Forwarded.f
    rw [if_pos ((andTop w0.1 w0.2.1).2 w0.2.2)]
    simp only [obind, if_true, beq_self_eq_true, Bool.not_true, Bool.or_false, Bool.false_eq_true, if_false]
    exact j1_true c hc (c.length + 18) (by omega)
  · rw [if_neg p, decide_eq_false p]
    simp only [obind, bne_self_eq_false, Bool.false_eq_true, if_false, laws_FnWord.j0]
    exact j1_true c hc (c.length + 18) (by omega)
end Go.Proofs.Ytpfbhjnlihhpkaa.Pure
