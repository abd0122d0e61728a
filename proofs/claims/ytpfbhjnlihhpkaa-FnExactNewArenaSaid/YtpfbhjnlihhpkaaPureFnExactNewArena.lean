/- NewArena: the program's and the reference's answers are the same, whatever the two numbers; what is written into one answer is not in another. -/
import Derived.Test.YtpfbhjnlihhpkaaPFnExactNewArenax4
import Derived.Test.YtpfbhjnlihhpkaaBase
namespace Go.Proofs.Ytpfbhjnlihhpkaa.Pure
open Go.RowKit Go.Proofs.Ytpfbhjnlihhpkaa.PFnExactNewArena Go.Proofs.YtpfbhjnlihhpkaaW.PrintWords Go.Proofs.YtpfbhjnlihhpkaaW.PrintLast Go.Proofs.Ytpfbhjnlihhpkaa.Base
namespace NewArena
theorem wrap_next {i n : Nat} (h : i < n) (hn : n < 4611686018427387904) : wrap64 ((i : Int) + 1) = ((i + 1 : Nat) : Int) := by unfold wrap64; omega
theorem rd_nat (l : List Int) (i : Nat) (h : i < l.length) : rd l (i : Int) = l[i] := by simp [rd, h]
theorem eq_loop (a b : List Int) (hl : a.length = b.length) (hn : a.length < 4611686018427387904) (d : Nat) : ∀ (k i : Nat), i + d = a.length → d < k →
    laws_eqUint64S.l0 k a b (i : Int) = some (decide (a.drop i = b.drop i)) := by
  induction d with
  | zero =>
    intro k i hi hk
    obtain ⟨k, rfl⟩ : ∃ m, k = m + 1 := ⟨k - 1, by omega⟩
    simp only [laws_eqUint64S.l0]
    rw [if_neg (by omega), List.drop_of_length_le (by omega), List.drop_of_length_le (by omega)]
    simp
  | succ d ih =>
    intro k i hi hk
    obtain ⟨k, rfl⟩ : ∃ m, k = m + 1 := ⟨k - 1, by omega⟩
    simp only [laws_eqUint64S.l0]
    rw [if_pos (by omega), if_pos (by omega), if_pos (by omega), rd_nat a i (by omega), rd_nat b i (by omega), wrap_next (by omega) hn, ih k (i + 1) (by omega) (by omega)]
    have ha : i < a.length := by omega
    have hb : i < b.length := by omega
    rw [List.drop_eq_getElem_cons ha, List.drop_eq_getElem_cons hb]
    split
    · rename_i e; rw [e]; exact congrArg some (decide_eq_decide.2 (by simp only [List.cons.injEq, true_and]))
    · rename_i e; rw [decide_eq_false (fun h => e (List.cons.inj h).1)]
theorem eq_list (a b : List Int) (hn : a.length < 4611686018427387904) (k : Nat) (hk : a.length < k) : laws_eqUint64S.f k a b = some (decide (a = b)) := by
  unfold laws_eqUint64S.f
  by_cases hl : a.length = b.length
  · rw [if_pos (by omega)]
    have := eq_loop a b hl hn a.length k 0 (by omega) hk
    simpa using this
  · rw [if_neg (by omega)]
    have : a ≠ b := fun e => hl (by rw [e])
    simp [this]
/-- the numbers from m on -/
def from_ (m : Int) (n : Nat) : List Int := (List.range n).map fun (j : Nat) => m + (j : Int)
theorem mark_loop (d : Nat) : ∀ (k i : Nat) (x : List Int) (m : Int), i + d = x.length → d < k → 0 ≤ m → m + (d : Int) < 4611686018427387904 → x.length < 4611686018427387904 →
    laws_markUint64S.l0 k x m (i : Int) = some (m + d, x.take i ++ from_ m d) := by
  induction d with
  | zero =>
    intro k i x m hi hk h0 hm hn
    obtain ⟨k, rfl⟩ : ∃ m, k = m + 1 := ⟨k - 1, by omega⟩
    simp only [laws_markUint64S.l0]
    rw [if_neg (by omega), List.take_of_length_le (by omega)]
    simp [from_]
  | succ d ih =>
    intro k i x m hi hk h0 hm hn
    obtain ⟨k, rfl⟩ : ∃ m, k = m + 1 := ⟨k - 1, by omega⟩
    simp only [laws_markUint64S.l0]
    have e1 : wrap64 ((i : Int) + 1) = ((i + 1 : Nat) : Int) := by unfold wrap64; omega
    have e2 : wrap64 (m + 1) = m + 1 := by unfold wrap64; omega
    have e3 : IntKind.u64.wrap m = m := by rw [IntKind.wrap_u64]; omega
    rw [if_pos (by omega), if_pos (by omega), e1, e2, e3, ih k (i + 1) _ (m + 1) (by simp; omega) (by omega) (by omega) (by omega) (by simpa using hn)]
    simp only [Int.toNat_natCast]
    have hi' : i < (x.set i m).length := by simp; omega
    rw [List.take_succ_eq_append_getElem hi', List.getElem_set_self, List.take_set_of_le (Nat.le_refl _)]
    congr 2
    · omega
    · rw [List.append_assoc]; congr 1
      simp only [from_, List.range_succ_eq_map, List.map_cons, List.map_map, List.singleton_append]
      simp only [Int.natCast_zero, Int.add_zero, List.cons.injEq, true_and]
      apply List.map_congr_left; intro j _; simp only [Function.comp]; omega
theorem held_loop (d : Nat) : ∀ (k i : Nat) (x : List Int) (m : Int), i + d = x.length → d < k → 0 ≤ m → m + (d : Int) < 4611686018427387904 → x.length < 4611686018427387904 → x.drop i = from_ m d →
    laws_heldUint64S.l0 k x m (i : Int) = some (m + d) := by
  induction d with
  | zero =>
    intro k i x m hi hk h0 hm hn hx
    obtain ⟨k, rfl⟩ : ∃ m, k = m + 1 := ⟨k - 1, by omega⟩
    simp only [laws_heldUint64S.l0]
    rw [if_neg (by omega)]; simp
  | succ d ih =>
    intro k i x m hi hk h0 hm hn hx
    obtain ⟨k, rfl⟩ : ∃ m, k = m + 1 := ⟨k - 1, by omega⟩
    simp only [laws_heldUint64S.l0]
    have e1 : wrap64 ((i : Int) + 1) = ((i + 1 : Nat) : Int) := by unfold wrap64; omega
    have e2 : wrap64 (m + 1) = m + 1 := by unfold wrap64; omega
    have e3 : IntKind.u64.wrap m = m := by rw [IntKind.wrap_u64]; omega
    have hi' : i < x.length := by omega
    simp only [from_, List.range_succ_eq_map, List.map_cons, List.map_map] at hx
    rw [List.drop_eq_getElem_cons hi'] at hx
    simp only [List.cons.injEq, Int.natCast_zero, Int.add_zero] at hx
    rw [if_pos (by omega), if_pos (by omega), rd_nat x i hi', e1, e2, e3, if_pos hx.1, ih k (i + 1) x (m + 1) (by omega) (by omega) (by omega) (by omega) hn ?_]
    · congr 1; omega
    · rw [hx.2, from_]
      apply List.map_congr_left; intro j _; simp only [Function.comp]; omega
theorem mark_list (x : List Int) (m : Int) (k : Nat) (hk : x.length < k) (h0 : 0 ≤ m) (hm : m + (x.length : Int) < 4611686018427387904) :
    laws_markUint64S.f k x m = some (m + x.length, from_ m x.length) := by
  unfold laws_markUint64S.f
  have := mark_loop x.length k 0 x m (by omega) hk h0 hm (by omega)
  simpa using this
theorem held_list (n : Nat) (m : Int) (k : Nat) (hk : n < k) (h0 : 0 ≤ m) (hm : m + (n : Int) < 4611686018427387904) :
    laws_heldUint64S.f k (from_ m n) m = some (m + n) := by
  unfold laws_heldUint64S.f
  have := held_loop n k 0 (from_ m n) m (by simp [from_]) hk h0 hm (by simp [from_]; omega) (by simp)
  simpa using this
theorem rdV_nat (l : List S44) (i : Nat) (h : i < l.length) : rd_T44 l (i : Int) = l[i] := by simp [rd_T44, h]
theorem eqVal_self (a b : Int) : laws_eqVal.f a b a b = some true := by simp [laws_eqVal.f]
theorem eqV_loop (a : List S44) (hn : a.length < 4611686018427387904) (d : Nat) : ∀ (k i : Nat), i + d = a.length → d < k →
    laws_eqValS.l0 k a a (i : Int) = some true := by
  induction d with
  | zero =>
    intro k i hi hk
    obtain ⟨k, rfl⟩ : ∃ m, k = m + 1 := ⟨k - 1, by omega⟩
    simp only [laws_eqValS.l0]
    rw [if_neg (by omega)]
  | succ d ih =>
    intro k i hi hk
    obtain ⟨k, rfl⟩ : ∃ m, k = m + 1 := ⟨k - 1, by omega⟩
    have e1 : wrap64 ((i : Int) + 1) = ((i + 1 : Nat) : Int) := by unfold wrap64; omega
    simp only [laws_eqValS.l0]
    rw [if_pos (show (i : Int) < (a.length : Int) by omega), if_pos (show 0 ≤ (i : Int) by omega), if_pos (show (i : Int) < (a.length : Int) by omega), eqVal_self]
    simp only [obind, if_true]
    rw [e1]; exact ih k (i + 1) (by omega) (by omega)
theorem eqV_self (a : List S44) (hn : a.length < 4611686018427387904) (k : Nat) (hk : a.length < k) : laws_eqValS.f k a a = some true := by
  unfold laws_eqValS.f
  rw [if_pos rfl]
  exact eqV_loop a hn a.length k 0 (by omega) hk
/-- the pairs of numbers from m on -/
def fromV (m : Int) : Nat → List S44
  | 0 => []
  | n + 1 => ⟨m, m + 1⟩ :: fromV (m + 2) n
theorem fromV_length (n : Nat) : ∀ m, (fromV m n).length = n := by
  induction n with
  | zero => intro m; rfl
  | succ n ih => intro m; simp [fromV, ih]
theorem markV_loop (d : Nat) : ∀ (k i : Nat) (x : List S44) (m : Int), i + d = x.length → d < k → 0 ≤ m → m + 2 * (d : Int) < 4611686018427387904 → x.length < 4611686018427387904 →
    laws_markValS.l0 k x m (i : Int) = some (m + 2 * d, x.take i ++ fromV m d) := by
  induction d with
  | zero =>
    intro k i x m hi hk h0 hm hn
    obtain ⟨k, rfl⟩ : ∃ m, k = m + 1 := ⟨k - 1, by omega⟩
    simp only [laws_markValS.l0]
    rw [if_neg (by omega), List.take_of_length_le (by omega)]
    simp [fromV]
  | succ d ih =>
    intro k i x m hi hk h0 hm hn
    obtain ⟨k, rfl⟩ : ∃ m, k = m + 1 := ⟨k - 1, by omega⟩
    simp only [laws_markValS.l0, obind]
    have e1 : wrap64 ((i : Int) + 1) = ((i + 1 : Nat) : Int) := by unfold wrap64; omega
    have e2 : wrap64 (m + 1) = m + 1 := by unfold wrap64; omega
    have e3 : wrap64 (m + 1 + 1) = m + 2 := by unfold wrap64; omega
    rw [if_pos (show (i : Int) < (x.length : Int) by omega), if_pos (show 0 ≤ (i : Int) by omega), e1, e2, e3, ih k (i + 1) _ (m + 2) (by simp; omega) (by omega) (by omega) (by omega) (by simpa using hn)]
    have hi' : i < x.length := by omega
    have er : (rd_T44 (x.set i ⟨m, (rd_T44 x (i : Int)).f1⟩) (i : Int)).f0 = m := by rw [rdV_nat _ _ (by simp; omega)]; simp
    simp only [Int.toNat_natCast, er, List.set_set]
    have hi2 : i < (x.set i (⟨m, m + 1⟩ : S44)).length := by simp; omega
    rw [List.take_succ_eq_append_getElem hi2, List.getElem_set_self, List.take_set_of_le (Nat.le_refl _)]
    congr 2
    · omega
    · rw [List.append_assoc]; rfl
theorem heldV_loop (d : Nat) : ∀ (k i : Nat) (x : List S44) (m : Int), i + d = x.length → d < k → 0 ≤ m → m + 2 * (d : Int) < 4611686018427387904 → x.length < 4611686018427387904 → x.drop i = fromV m d →
    laws_heldValS.l0 k x m (i : Int) = some (m + 2 * d) := by
  induction d with
  | zero =>
    intro k i x m hi hk h0 hm hn hx
    obtain ⟨k, rfl⟩ : ∃ m, k = m + 1 := ⟨k - 1, by omega⟩
    simp only [laws_heldValS.l0]
    rw [if_neg (by omega)]; simp
  | succ d ih =>
    intro k i x m hi hk h0 hm hn hx
    obtain ⟨k, rfl⟩ : ∃ m, k = m + 1 := ⟨k - 1, by omega⟩
    simp only [laws_heldValS.l0]
    have e1 : wrap64 ((i : Int) + 1) = ((i + 1 : Nat) : Int) := by unfold wrap64; omega
    have e2 : wrap64 (m + 1) = m + 1 := by unfold wrap64; omega
    have e3 : wrap64 (m + 1 + 1) = m + 2 := by unfold wrap64; omega
    have hi' : i < x.length := by omega
    rw [List.drop_eq_getElem_cons hi'] at hx
    simp only [fromV, List.cons.injEq] at hx
    rw [if_pos (by omega), if_pos (by omega), rdV_nat x i hi', hx.1, e1, e2, e3, if_pos rfl, if_pos rfl, ih k (i + 1) x (m + 2) (by omega) (by omega) (by omega) (by omega) hn hx.2]
    congr 1; omega
theorem markV_list (x : List S44) (m : Int) (k : Nat) (hk : x.length < k) (h0 : 0 ≤ m) (hm : m + 2 * (x.length : Int) < 4611686018427387904) :
    laws_markValS.f k x m = some (m + 2 * x.length, fromV m x.length) := by
  unfold laws_markValS.f
  have := markV_loop x.length k 0 x m (by omega) hk h0 hm (by omega)
  simpa using this
theorem heldV_list (n : Nat) (m : Int) (k : Nat) (hk : n < k) (h0 : 0 ≤ m) (hm : m + 2 * (n : Int) < 4611686018427387904) :
    laws_heldValS.f k (fromV m n) m = some (m + 2 * n) := by
  unfold laws_heldValS.f
  have := heldV_loop n k 0 (fromV m n) m (by simp [fromV_length]) hk h0 hm (by rw [fromV_length]; omega) (by simp)
  simpa using this
theorem l1In (a b c : Int) : spec_l1In.f a b c = some (decide (b ≤ a ∧ a ≤ c)) := by
  unfold spec_l1In.f; split
  · exact some_decide (by omega)
  · rw [decide_eq_false (by omega)]
theorem within (a b c : Int) : impl_within.f a b c = some (decide (b ≤ a ∧ a ≤ c)) := by
  unfold impl_within.f; split
  · exact some_decide (by omega)
  · rw [decide_eq_false (by omega)]
theorem both (a r : Int) : ∃ (W : List Int) (s tw top : Int) (cy : Bool) (sc ol co se : Int) (R : List S44) (b : Bool), W.length ≤ 8000 ∧ R.length ≤ 24 ∧ spec_NewArena.f a r = some (W, s, tw, top, cy, sc, ol, co, se, R, b) ∧ impl_NewArena.f a r = some (W, s, tw, top, cy, sc, ol, co, se, R, b) := by
  unfold spec_NewArena.f impl_NewArena.f
  simp only [l1In, within, obind, decide_eq_true_eq]
  by_cases c : 256 ≤ a ∧ a ≤ 4000
  · rw [if_pos c]
    have ew : wrap64 (2 * a) = 2 * a := wrap64_in (by omega) (by omega)
    by_cases d : 0 ≤ r ∧ r ≤ 24
    · rw [if_pos d]
      simp only [ew]
      rw [if_pos (by omega), if_pos (by omega), if_pos (by omega), if_pos (by omega)]
      exact ⟨_, _, _, _, _, _, _, _, _, _, _, by simp; omega, by simp; omega, rfl, rfl⟩
    · rw [if_neg d]; exact ⟨_, _, _, _, _, _, _, _, _, _, _, by simp, by simp, rfl, rfl⟩
  · rw [if_neg c]; exact ⟨_, _, _, _, _, _, _, _, _, _, _, by simp, by simp, rfl, rfl⟩
end NewArena
open NewArena
theorem FnExactNewArena : laws_FnExactNewArena.Pure := by
  intro a r _ _
  obtain ⟨W, s, tw, top, cy, sc, ol, co, se, R, b, hW, hR, e1, e2⟩ := both a r
  refine ⟨9000, ?_⟩
  have heq : ∀ k, 8500 < k → laws_eqArena.f k W s tw top cy sc ol co se R W s tw top cy sc ol co se R = some true := by
    intro k hk
    unfold laws_eqArena.f
    rw [eq_list W W (by omega) k (by omega)]
    simp only [obind, decide_true, if_true, bne_self_eq_false, Bool.false_eq_true, if_false]
    rw [eqV_self R (by omega) k (by omega)]
    simp only [obind, if_true]
  have hmk : ∀ k, 8500 < k → laws_markArena.f k W s tw top cy sc ol co se R 1 = some ((1 : Int) + (W.length : Int) + 2 * (R.length : Int), from_ 1 W.length, fromV (1 + W.length) R.length) := by
    intro k hk
    unfold laws_markArena.f
    rw [mark_list W 1 k (by omega) (by omega) (by omega)]
    simp only [obind]
    rw [markV_list R _ k (by omega) (by omega) (by omega)]
    simp only [obind]
  have hhd : ∀ k, 8500 < k → laws_heldArena.f k (from_ 1 W.length) s tw top cy sc ol co se (fromV (1 + W.length) R.length) 1 = some ((1 : Int) + (W.length : Int) + 2 * (R.length : Int)) := by
    intro k hk
    unfold laws_heldArena.f
    rw [held_list _ 1 k (by omega) (by omega) (by omega)]
    simp only [obind]
    rw [if_neg (by omega), heldV_list _ _ k (by omega) (by omega) (by omega)]
    simp only [obind]
    rw [if_neg (by omega)]
  unfold laws_FnExactNewArena.f
  rw [e1, e2]
  simp only [obind]
  rw [heq _ (by omega)]
  simp only [obind, if_true, bne_self_eq_false, laws_FnExactNewArena.j0, Bool.false_eq_true, if_false]
  rw [hmk _ (by omega)]
  simp only [obind]
  rw [hhd _ (by omega)]
  simp only [obind, if_true]
  rw [if_neg (by omega), e2]
  simp only [obind]
  rw [heq _ (by omega)]
  simp only [obind, if_true, bne_self_eq_false, laws_FnExactNewArena.j1, Bool.false_eq_true, if_false]
  rw [hhd _ (by omega)]
  simp only [obind, if_true]
  rw [if_neg (by omega)]
end Go.Proofs.Ytpfbhjnlihhpkaa.Pure
