/- TreeSame: the program's and the reference's answers are the same at every two trees; the trees stay. -/
import Derived.Test.YtpfbhjnlihhpkaaPFnExactTreeSamex5
import Derived.Test.YtpfbhjnlihhpkaaBase
namespace Go.Proofs.Ytpfbhjnlihhpkaa.Pure
open Go.RowKit Go.Proofs.Ytpfbhjnlihhpkaa.PFnExactTreeSame Go.Proofs.YtpfbhjnlihhpkaaW.PrintWords Go.Proofs.YtpfbhjnlihhpkaaW.PrintLast Go.Proofs.Ytpfbhjnlihhpkaa.Base
namespace TreeSame
theorem wrap_next {i n : Nat} (h : i < n) (hn : n < 4611686018427387904) : wrap64 ((i : Int) + 1) = ((i + 1 : Nat) : Int) := by unfold wrap64; omega
theorem rd_nat (l : List Int) (i : Nat) (h : i < l.length) : rd l (i : Int) = l[i] := by simp [rd, h]
theorem eq_loop (a b : List Int) (hl : a.length = b.length) (hn : a.length < 4611686018427387904) (d : Nat) : ∀ (k i : Nat), i + d = a.length → d < k →
    laws_eqIntS.l0 k a b (i : Int) = some (decide (a.drop i = b.drop i)) := by
  induction d with
  | zero =>
    intro k i hi hk
    obtain ⟨k, rfl⟩ : ∃ m, k = m + 1 := ⟨k - 1, by omega⟩
    simp only [laws_eqIntS.l0]
    rw [if_neg (by omega), List.drop_of_length_le (by omega), List.drop_of_length_le (by omega)]
    simp
  | succ d ih =>
    intro k i hi hk
    obtain ⟨k, rfl⟩ : ∃ m, k = m + 1 := ⟨k - 1, by omega⟩
    simp only [laws_eqIntS.l0]
    rw [if_pos (by omega), if_pos (by omega), if_pos (by omega), rd_nat a i (by omega), rd_nat b i (by omega), wrap_next (by omega) hn, ih k (i + 1) (by omega) (by omega)]
    have ha : i < a.length := by omega
    have hb : i < b.length := by omega
    rw [List.drop_eq_getElem_cons ha, List.drop_eq_getElem_cons hb]
    split
    · rename_i e; rw [e]; exact congrArg some (decide_eq_decide.2 (by simp only [List.cons.injEq, true_and]))
    · rename_i e; rw [decide_eq_false (fun h => e (List.cons.inj h).1)]
theorem eq_list (a b : List Int) (hn : a.length < 4611686018427387904) (k : Nat) (hk : a.length < k) : laws_eqIntS.f k a b = some (decide (a = b)) := by
  unfold laws_eqIntS.f
  by_cases hl : a.length = b.length
  · rw [if_pos (by omega)]
    have := eq_loop a b hl hn a.length k 0 (by omega) hk
    simpa using this
  · rw [if_neg (by omega)]
    have : a ≠ b := fun e => hl (by rw [e])
    simp [this]
theorem to_loop (l : List Int) (hn : l.length < 4611686018427387904) (d : Nat) : ∀ (k i : Nat) (x : List Int), i + d = l.length → x.length = l.length → d < k → x.take i = l.take i →
    laws_toIntS.l0 k l x (i : Int) = some l := by
  induction d with
  | zero =>
    intro k i x hi hx hk ht
    obtain ⟨k, rfl⟩ : ∃ m, k = m + 1 := ⟨k - 1, by omega⟩
    simp only [laws_toIntS.l0]
    rw [if_neg (by omega)]
    rw [List.take_of_length_le (by omega), List.take_of_length_le (by omega)] at ht
    rw [ht]
  | succ d ih =>
    intro k i x hi hx hk ht
    obtain ⟨k, rfl⟩ : ∃ m, k = m + 1 := ⟨k - 1, by omega⟩
    simp only [laws_toIntS.l0]
    rw [if_pos (by omega), if_pos (by omega), if_pos (by omega), rd_nat l i (by omega), wrap_next (by omega) hn]
    refine ih k (i + 1) _ (by omega) (by simp [hx]) (by omega) ?_
    have hi' : i < l.length := by omega
    simp only [Int.toNat_natCast]
    rw [List.take_succ_eq_append_getElem (by simp; omega), List.take_succ_eq_append_getElem hi', List.getElem_set_self, List.take_set_of_le (Nat.le_refl _), ht]
theorem to_list (l : List Int) (hn : l.length < 35184372088832) (k : Nat) (hk : l.length < k) : laws_toIntS.f k l = some l := by
  unfold laws_toIntS.f
  rw [if_pos (by omega), if_pos (by omega)]
  have := to_loop l (by omega) l.length k 0 (List.replicate l.length 0) (by omega) (by simp) hk (by simp)
  simpa using this
theorem rdA_nat (l : List S141) (i : Nat) (h : i < l.length) : rd_T141 l (i : Int) = l[i] := by simp [rd_T141, h]
theorem rdB_nat (l : List S96) (i : Nat) (h : i < l.length) : rd_T96 l (i : Int) = l[i] := by simp [rd_T96, h]
def Fine (l : List S141) : Prop := l.length ≤ maxLen ∧ ∀ a ∈ l, a.f1.size ≤ maxLen ∧ a.f3.length ≤ maxLen
/-- how many numbers the elements hold, and three more each -/
def costA (l : List S141) : Nat := (l.map fun a => a.f3.length + 3).sum
def cost (l : List S96) : Nat := (l.map fun a => a.f3.length + 3).sum
theorem costA_cons (a : S141) (l : List S141) : costA (a :: l) = a.f3.length + 3 + costA l := by simp [costA]
theorem cost_cons (a : S96) (l : List S96) : cost (a :: l) = a.f3.length + 3 + cost l := by simp [cost]
def toK (a : S141) : S96 := ⟨a.f0, a.f1, a.f2, a.f3⟩
theorem cost_map (l : List S141) : cost (l.map toK) = costA l := by simp [cost, costA, toK, Function.comp_def]

/-! the size -/
theorem szInt (l : List Int) (m : Int) (hl : l.length ≤ maxLen) (h0 : 0 ≤ m) (h1 : m ≤ 1048576) :
    (∃ r : Int, laws_szIntS.f l m = some r ∧ r < 0) ∨ laws_szIntS.f l m = some (m - l.length) ∧ 0 ≤ m - l.length := by
  unfold laws_szIntS.f
  unfold maxLen at hl
  rw [wrap64_in (by omega) (by omega)]
  by_cases c : m - (l.length : Int) < 0
  · rw [if_pos c]; exact .inl ⟨-1, rfl, by omega⟩
  · rw [if_neg c]; exact .inr ⟨rfl, by omega⟩
theorem szKnot (a : S141) (m : Int) (hs : a.f1.size ≤ maxLen) (hl : a.f3.length ≤ maxLen) (h0 : 0 ≤ m) (h1 : m ≤ 1048576) :
    (∃ r : Int, laws_szKnot.f a.f0 a.f1 a.f2 a.f3 m = some r ∧ r < 0) ∨ ∃ r : Int, laws_szKnot.f a.f0 a.f1 a.f2 a.f3 m = some r ∧ 0 ≤ r ∧ r ≤ m - a.f3.length := by
  unfold laws_szKnot.f
  unfold maxLen at hs
  rw [wrap64_in (by omega) (by omega)]
  by_cases c : m - (a.f1.size : Int) < 0
  · rw [if_pos c]; exact .inl ⟨-1, rfl, by omega⟩
  · rw [if_neg c]
    rcases szInt a.f3 (m - a.f1.size) hl (by omega) (by omega) with ⟨r, e, hr⟩ | ⟨e, hr⟩
    · rw [e]; simp only [obind]; rw [if_pos hr]; exact .inl ⟨-1, rfl, by omega⟩
    · rw [e]; simp only [obind]; rw [if_neg (by omega)]; exact .inr ⟨_, rfl, hr, by omega⟩
theorem szLoop (l : List S141) (hf : Fine l) (hn : l.length ≤ 1048576) (d : Nat) : ∀ (k i : Nat) (m : Int), i + d = l.length → d < k → 0 ≤ m → m ≤ 1048576 →
    (∃ r : Int, laws_szKnotS.l0 k l m (i : Int) = some r ∧ r < 0) ∨ ∃ r : Int, laws_szKnotS.l0 k l m (i : Int) = some r ∧ 0 ≤ r ∧ r ≤ m ∧ r + (costA (l.drop i) : Int) ≤ m + 3 * d := by
  induction d with
  | zero =>
    intro k i m hi hk h0 h1
    obtain ⟨k, rfl⟩ : ∃ m, k = m + 1 := ⟨k - 1, by omega⟩
    simp only [laws_szKnotS.l0]
    rw [if_neg (by omega), List.drop_of_length_le (by omega)]
    exact .inr ⟨m, rfl, h0, by omega, by simp [costA]⟩
  | succ d ih =>
    intro k i m hi hk h0 h1
    obtain ⟨k, rfl⟩ : ∃ m, k = m + 1 := ⟨k - 1, by omega⟩
    have hi' : i < l.length := by omega
    obtain ⟨hs, hl⟩ := hf.2 l[i] (List.getElem_mem hi')
    have e1 : wrap64 ((i : Int) + 1) = ((i + 1 : Nat) : Int) := by unfold wrap64; omega
    simp only [laws_szKnotS.l0]
    rw [if_pos (by omega), if_pos (by omega), rdA_nat l i hi', e1]
    rcases szKnot l[i] m hs hl h0 h1 with ⟨r, e, hr⟩ | ⟨r, e, hr, hr2⟩
    · rw [e]; simp only [obind]; rw [if_pos hr]; exact .inl ⟨-1, rfl, by omega⟩
    · rw [e]; simp only [obind]; rw [if_neg (by omega)]
      rw [List.drop_eq_getElem_cons hi', costA_cons]
      rcases ih k (i + 1) r (by omega) (by omega) hr (by omega) with ⟨q, e, hq⟩ | ⟨q, e, hq, hq1, hq2⟩
      · exact .inl ⟨q, e, hq⟩
      · exact .inr ⟨q, e, hq, by omega, by omega⟩
theorem szAll (l : List S141) (t : Int) (hf : Fine l) (m : Int) (k : Nat) (hk : l.length < k) (h0 : 0 ≤ m) (h1 : m ≤ 1048576) :
    (∃ r : Int, laws_szTree.f k l t m = some r ∧ r < 0) ∨ ∃ r : Int, laws_szTree.f k l t m = some r ∧ 0 ≤ r ∧ r ≤ 1048576 ∧ l.length ≤ 1048576 ∧ costA l ≤ 5000000 := by
  have hl := hf.1
  unfold maxLen at hl
  unfold laws_szTree.f laws_szKnotS.f
  rw [wrap64_in (by omega) (by omega)]
  by_cases c : m - (l.length : Int) < 0
  · rw [if_pos c]; simp only [obind]; rw [if_pos (by omega)]; exact .inl ⟨-1, rfl, by omega⟩
  · rw [if_neg c]
    rcases szLoop l hf (by omega) l.length k 0 (m - l.length) (by omega) hk (by omega) (by omega) with ⟨r, e, hr⟩ | ⟨r, e, hr, hr1, hr2⟩
    · have e' : laws_szKnotS.l0 k l (m - l.length) 0 = some r := e
      rw [e']; simp only [obind]; rw [if_pos hr]; exact .inl ⟨-1, rfl, by omega⟩
    · have e' : laws_szKnotS.l0 k l (m - l.length) 0 = some r := e
      rw [e']; simp only [obind]; rw [if_neg (by omega)]
      simp only [List.drop_zero] at hr2
      exact .inr ⟨r, rfl, hr, by omega, by omega, by omega⟩

/-! the copy -/
theorem mem_cost (l : List S141) (a : S141) (h : a ∈ l) : a.f3.length + 3 ≤ costA l := by
  induction l with
  | nil => simp at h
  | cons b l ih =>
    rw [costA_cons]
    rcases List.mem_cons.1 h with rfl | h
    · omega
    · have := ih h; omega
theorem toLoop (l : List S141) (hn : l.length ≤ 1048576) (hc : costA l ≤ 5000000) (d : Nat) : ∀ (k i : Nat) (x : List S96), i + d = l.length → x.length = l.length → d + 5000000 < k → x.take i = (l.map toK).take i →
    laws_toKnotS.l0 k l x (i : Int) = some (l.map toK) := by
  induction d with
  | zero =>
    intro k i x hi hx hk ht
    obtain ⟨k, rfl⟩ : ∃ m, k = m + 1 := ⟨k - 1, by omega⟩
    simp only [laws_toKnotS.l0]
    rw [if_neg (by omega)]
    rw [List.take_of_length_le (by omega), List.take_of_length_le (by simp; omega)] at ht
    rw [ht]
  | succ d ih =>
    intro k i x hi hx hk ht
    obtain ⟨k, rfl⟩ : ∃ m, k = m + 1 := ⟨k - 1, by omega⟩
    have hi' : i < l.length := by omega
    have hm := mem_cost l l[i] (List.getElem_mem hi')
    have e1 : wrap64 ((i : Int) + 1) = ((i + 1 : Nat) : Int) := by unfold wrap64; omega
    simp only [laws_toKnotS.l0, laws_toKnot.f]
    rw [if_pos (by omega), if_pos (by omega), rdA_nat l i hi', to_list l[i].f3 (by omega) k (by omega), e1]
    simp only [obind]
    rw [if_pos (by omega)]
    refine ih k (i + 1) _ (by omega) (by simp [hx]) (by omega) ?_
    simp only [Int.toNat_natCast]
    rw [List.take_succ_eq_append_getElem (by simp; omega), List.take_succ_eq_append_getElem (by simp; omega), List.getElem_set_self, List.take_set_of_le (Nat.le_refl _), ht]
    simp [toK]
theorem toAll (l : List S141) (t : Int) (hn : l.length ≤ 1048576) (hc : costA l ≤ 5000000) (k : Nat) (hk : 7000000 < k) : laws_toTree.f k l t = some (l.map toK, t) := by
  unfold laws_toTree.f laws_toKnotS.f
  rw [if_pos (by omega), if_pos (by omega)]
  have := toLoop l hn hc l.length k 0 (List.replicate l.length z96) (by omega) (by simp) (by omega) (by simp)
  have e' : laws_toKnotS.l0 k l (List.replicate l.length z96) 0 = some (l.map toK) := this
  simp only [Int.toNat_natCast]
  rw [e']; simp only [obind]

/-! both comparisons -/
def Same (x y : S96) : Prop := x.f0 = y.f0 ∧ x.f1.toList = y.f1.toList ∧ x.f2 = y.f2 ∧ x.f3 = y.f3
instance (x y : S96) : Decidable (Same x y) := by unfold Same; infer_instance
def allSame : List S96 → List S96 → Bool
  | [], _ => true
  | _ :: _, [] => false
  | x :: xs, y :: ys => decide (Same x y) && allSame xs ys
theorem sl_loop (a b : List Int) (hl : a.length = b.length) (hn : a.length < 4611686018427387904) (d : Nat) : ∀ (k i : Nat), i + d = a.length → d < k →
    slices_Equal_int_int.l0 k a b (a.length : Int) (i : Int) = some (decide (a.drop i = b.drop i)) := by
  induction d with
  | zero =>
    intro k i hi hk
    obtain ⟨k, rfl⟩ : ∃ m, k = m + 1 := ⟨k - 1, by omega⟩
    simp only [slices_Equal_int_int.l0]
    rw [if_neg (by omega), List.drop_of_length_le (by omega), List.drop_of_length_le (by omega)]
    simp
  | succ d ih =>
    intro k i hi hk
    obtain ⟨k, rfl⟩ : ∃ m, k = m + 1 := ⟨k - 1, by omega⟩
    simp only [slices_Equal_int_int.l0]
    rw [if_pos (show (i : Int) < (a.length : Int) by omega), if_pos (show 0 ≤ (i : Int) by omega), if_pos (show (i : Int) < (a.length : Int) by omega), if_pos (show (i : Int) < (b.length : Int) by omega), rd_nat a i (by omega), rd_nat b i (by omega), wrap_next (by omega) hn, ih k (i + 1) (by omega) (by omega)]
    have ha : i < a.length := by omega
    have hb : i < b.length := by omega
    rw [List.drop_eq_getElem_cons ha, List.drop_eq_getElem_cons hb]
    split
    · rename_i e; rw [e]; exact congrArg some (decide_eq_decide.2 (by simp only [List.cons.injEq, true_and]))
    · rename_i e; rw [decide_eq_false (fun h => e (List.cons.inj h).1)]
theorem sl_list (a b : List Int) (hn : a.length < 4611686018427387904) (k : Nat) (hk : a.length < k) : slices_Equal_int_int.f k a b = some (decide (a = b)) := by
  unfold slices_Equal_int_int.f
  by_cases hl : a.length = b.length
  · rw [if_pos (by omega)]
    have := sl_loop a b hl hn a.length k 0 (by omega) hk
    simpa using this
  · rw [if_neg (by omega), decide_eq_false (fun e => hl (by rw [e]))]
theorem impl_one (x y : S96) (k : Nat) (hn : x.f3.length < 4611686018427387904) (hk : x.f3.length < k) : impl_TreeSame_1.f k x.f0 x.f1 x.f2 x.f3 y.f0 y.f1 y.f2 y.f3 = some (decide (Same x y)) := by
  unfold impl_TreeSame_1.f
  rw [sl_list _ _ hn k hk]
  simp only [obind]
  by_cases c0 : x.f0 = y.f0
  · rw [if_pos c0]
    by_cases c1 : x.f1.toList = y.f1.toList
    · rw [if_pos c1]
      by_cases c2 : x.f2 = y.f2
      · rw [if_pos c2]; exact some_decide (by simp [Same, c0, c1, c2])
      · rw [if_neg c2, decide_eq_false (by simp [Same, c2])]
    · rw [if_neg c1, decide_eq_false (by simp [Same, c1])]
  · rw [if_neg c0, decide_eq_false (by simp [Same, c0])]
theorem mem_costB (l : List S96) (a : S96) (h : a ∈ l) : a.f3.length + 3 ≤ cost l := by
  induction l with
  | nil => simp at h
  | cons b l ih =>
    rw [cost_cons]
    rcases List.mem_cons.1 h with rfl | h
    · omega
    · have := ih h; omega
theorem impl_loop (a b : List S96) (hl : a.length = b.length) (hn : a.length ≤ 1048576) (hc : cost a ≤ 5000000) (d : Nat) : ∀ (k i : Nat), i + d = a.length → d + 5000000 < k →
    impl_Knot.l0 k b a (a.length : Int) (i : Int) = some (allSame (a.drop i) (b.drop i)) := by
  induction d with
  | zero =>
    intro k i hi hk
    obtain ⟨k, rfl⟩ : ∃ m, k = m + 1 := ⟨k - 1, by omega⟩
    simp only [impl_Knot.l0]
    rw [if_neg (by omega), List.drop_of_length_le (by omega)]
    simp [allSame]
  | succ d ih =>
    intro k i hi hk
    obtain ⟨k, rfl⟩ : ∃ m, k = m + 1 := ⟨k - 1, by omega⟩
    have ha : i < a.length := by omega
    have hb : i < b.length := by omega
    have hm := mem_costB a a[i] (List.getElem_mem ha)
    have e1 : wrap64 ((i : Int) + 1) = ((i + 1 : Nat) : Int) := by unfold wrap64; omega
    simp only [impl_Knot.l0]
    rw [if_pos (show (i : Int) < (a.length : Int) by omega), if_pos (show 0 ≤ (i : Int) by omega), if_pos (show (i : Int) < (a.length : Int) by omega), if_pos (show (i : Int) < (b.length : Int) by omega), rdB_nat a i ha, rdB_nat b i hb, impl_one _ _ k (by omega) (by omega), e1]
    simp only [obind]
    rw [ih k (i + 1) (by omega) (by omega), List.drop_eq_getElem_cons ha, List.drop_eq_getElem_cons hb]
    by_cases s : Same a[i] b[i]
    · simp [allSame, s]
    · simp [allSame, s]
theorem spec_inner (T : List S96) (p : Int) (U : List S96) (q : Int) (x y : S96) (i : Int) (B : Bool) (n : Nat) (hl : x.f3.length = y.f3.length) (hn : x.f3.length < 4611686018427387904)
    (hB : ∀ k, n < k → spec_TreeSame.l0 k (wrap64 (i + 1)) T p U q = some B) (d : Nat) : ∀ (k j : Nat), j + d = x.f3.length → d + n + 1 < k →
    spec_TreeSame.l1 k i (j : Int) T p U q x.f0 x.f1 x.f2 x.f3 y.f0 y.f1 y.f2 y.f3 = some (decide (x.f3.drop j = y.f3.drop j) && B) := by
  induction d with
  | zero =>
    intro k j hj hk
    obtain ⟨k, rfl⟩ : ∃ m, k = m + 1 := ⟨k - 1, by omega⟩
    simp only [spec_TreeSame.l1]
    rw [if_neg (by omega), List.drop_of_length_le (by omega), List.drop_of_length_le (by omega), hB k (by omega)]
    simp
  | succ d ih =>
    intro k j hj hk
    obtain ⟨k, rfl⟩ : ∃ m, k = m + 1 := ⟨k - 1, by omega⟩
    have ha : j < x.f3.length := by omega
    have hb : j < y.f3.length := by omega
    simp only [spec_TreeSame.l1]
    rw [if_pos (by omega), if_pos (by omega), if_pos (by omega), rd_nat _ _ ha, rd_nat _ _ hb, wrap_next ha hn, ih k (j + 1) (by omega) (by omega), List.drop_eq_getElem_cons ha, List.drop_eq_getElem_cons hb]
    by_cases e : x.f3[j] = y.f3[j]
    · rw [if_pos e, e]; congr 2; exact decide_eq_decide.2 (by simp only [List.cons.injEq, true_and])
    · rw [if_neg e, decide_eq_false (fun h => e (List.cons.inj h).1)]; rfl
theorem spec_loop (T : List S96) (p : Int) (U : List S96) (q : Int) (hl : T.length = U.length) (hn : T.length ≤ 1048576) (hc : cost T ≤ 5000000) (d : Nat) : ∀ (k i : Nat), i + d = T.length → cost (T.drop i) + 1 < k →
    spec_TreeSame.l0 k (i : Int) T p U q = some (allSame (T.drop i) (U.drop i)) := by
  induction d with
  | zero =>
    intro k i hi hk
    obtain ⟨k, rfl⟩ : ∃ m, k = m + 1 := ⟨k - 1, by omega⟩
    simp only [spec_TreeSame.l0]
    rw [if_neg (by omega), List.drop_of_length_le (by omega)]
    simp [allSame]
  | succ d ih =>
    intro k i hi hk
    have ha : i < T.length := by omega
    have hb : i < U.length := by omega
    have hm := mem_costB T T[i] (List.getElem_mem ha)
    have e1 : wrap64 ((i : Int) + 1) = ((i + 1 : Nat) : Int) := by unfold wrap64; omega
    rw [List.drop_eq_getElem_cons ha, cost_cons] at hk
    obtain ⟨k, rfl⟩ : ∃ m, k = m + 2 := ⟨k - 2, by omega⟩
    simp only [spec_TreeSame.l0, spec_TreeSame.j2]
    rw [if_pos (show (i : Int) < (T.length : Int) by omega), if_pos (show 0 ≤ (i : Int) by omega), if_pos (show (i : Int) < (U.length : Int) by omega), rdB_nat T i ha, rdB_nat U i hb]
    rw [List.drop_eq_getElem_cons ha, List.drop_eq_getElem_cons hb]
    simp only [allSame]
    by_cases c0 : T[i].f0 = U[i].f0
    · rw [if_pos c0]
      by_cases c1 : T[i].f1.toList = U[i].f1.toList
      · rw [if_pos c1]
        by_cases c2 : T[i].f2 = U[i].f2
        · rw [if_pos c2]
          by_cases c3 : T[i].f3.length = U[i].f3.length
          · have c3' : ((T[i].f3.length : Int) != (U[i].f3.length : Int)) = false := by simp [c3]
            rw [c3', if_neg (by simp)]
            have := spec_inner T p U q T[i] U[i] (i : Int) (allSame (T.drop (i + 1)) (U.drop (i + 1))) (cost (T.drop (i + 1)) + 1) c3 (by omega) (fun k' hk' => by rw [e1]; exact ih k' (i + 1) (by omega) hk') T[i].f3.length k 0 (by omega) (by omega)
            have e0 : ((0 : Nat) : Int) = 0 := rfl
            rw [e0] at this
            rw [this]
            simp only [List.drop_zero]
            congr 2
            exact decide_eq_decide.2 (by simp [Same, c0, c1, c2])
          · have c3' : ((T[i].f3.length : Int) != (U[i].f3.length : Int)) = true := by simp; omega
            have ns : ¬ Same T[i] U[i] := fun s => c3 (by rw [s.2.2.2])
            rw [c3', if_pos rfl, decide_eq_false ns]; rfl
        · rw [if_neg c2, if_pos trivial, decide_eq_false (fun s => c2 s.2.2.1)]; rfl
      · rw [if_neg c1, if_pos trivial, decide_eq_false (fun s => c1 s.2.1)]; rfl
    · rw [if_neg c0, if_pos trivial, decide_eq_false (fun s => c0 s.1)]; rfl
theorem both (T : List S96) (p : Int) (U : List S96) (q : Int) (hn : T.length ≤ 1048576) (hc : cost T ≤ 5000000) (k : Nat) (hk : 7000000 < k) : ∃ b, spec_TreeSame.f k T p U q = some b ∧ impl_TreeSame.f k T p U q = some b := by
  unfold spec_TreeSame.f impl_TreeSame.f impl_Knot.f
  by_cases hl : T.length = U.length
  · have hl' : (T.length : Int) = (U.length : Int) := by omega
    rw [if_pos hl', if_pos hl']
    have e := impl_loop T U hl hn hc T.length k 0 (by omega) (by omega)
    have e' : impl_Knot.l0 k U T (T.length : Int) 0 = some (allSame T U) := e
    rw [e']; simp only [obind]
    obtain ⟨k, rfl⟩ : ∃ m, k = m + 1 := ⟨k - 1, by omega⟩
    simp only [spec_TreeSame.j0, bned, decide_eq_true_eq]
    by_cases c : p = q
    · have s := spec_loop T p U q hl hn hc T.length k 0 (by omega) (by simp; omega)
      have s' : spec_TreeSame.l0 k 0 T p U q = some (allSame T U) := s
      rw [if_neg (by simp [c]), if_pos c, s']
      exact ⟨_, rfl, rfl⟩
    · rw [if_pos c, if_neg c]
      exact ⟨_, rfl, rfl⟩
  · have hl' : ¬ (T.length : Int) = (U.length : Int) := by omega
    rw [if_neg hl', if_neg hl']
    obtain ⟨k, rfl⟩ : ∃ m, k = m + 1 := ⟨k - 1, by omega⟩
    simp only [spec_TreeSame.j0, obind, if_true]
    split <;> exact ⟨_, rfl, rfl⟩

/-! the trees stay -/
theorem eq_one (x : S96) (k : Nat) (hn : x.f3.length < 4611686018427387904) (hk : x.f3.length < k) : laws_eqKnot.f k x.f0 x.f1 x.f2 x.f3 x.f0 x.f1 x.f2 x.f3 = some true := by
  unfold laws_eqKnot.f
  rw [if_pos rfl, if_pos rfl, if_pos rfl, eq_list _ _ hn k hk]
  simp
theorem eqK_loop (a : List S96) (hn : a.length ≤ 1048576) (hc : cost a ≤ 5000000) (d : Nat) : ∀ (k i : Nat), i + d = a.length → d + 5000000 < k → laws_eqKnotS.l0 k a a (i : Int) = some true := by
  induction d with
  | zero =>
    intro k i hi hk
    obtain ⟨k, rfl⟩ : ∃ m, k = m + 1 := ⟨k - 1, by omega⟩
    simp only [laws_eqKnotS.l0]
    rw [if_neg (by omega)]
  | succ d ih =>
    intro k i hi hk
    obtain ⟨k, rfl⟩ : ∃ m, k = m + 1 := ⟨k - 1, by omega⟩
    have ha : i < a.length := by omega
    have hm := mem_costB a a[i] (List.getElem_mem ha)
    have e1 : wrap64 ((i : Int) + 1) = ((i + 1 : Nat) : Int) := by unfold wrap64; omega
    simp only [laws_eqKnotS.l0]
    rw [if_pos (show (i : Int) < (a.length : Int) by omega), if_pos (show 0 ≤ (i : Int) by omega), if_pos (show (i : Int) < (a.length : Int) by omega), rdB_nat a i ha, eq_one _ k (by omega) (by omega), e1]
    simp only [obind, if_true]
    exact ih k (i + 1) (by omega) (by omega)
theorem eqT (a : List S96) (t : Int) (hn : a.length ≤ 1048576) (hc : cost a ≤ 5000000) (k : Nat) (hk : 7000000 < k) : laws_eqTree.f k a t a t = some true := by
  unfold laws_eqTree.f laws_eqKnotS.f
  rw [if_pos rfl]
  have e := eqK_loop a hn hc a.length k 0 (by omega) (by omega)
  have e' : laws_eqKnotS.l0 k a a 0 = some true := e
  rw [e']; simp only [obind, if_true]
end TreeSame
open TreeSame
theorem FnExactTreeSame (l : List S141) (p : Int) (m : List S141) (q : Int) (hl : Fine l) (hm : Fine m) : ∃ k, laws_FnExactTreeSame.f k l p m q = some true := by
  obtain ⟨K, hK⟩ : ∃ K, K = l.length + m.length + 8000000 := ⟨_, rfl⟩
  refine ⟨K, ?_⟩
  unfold laws_FnExactTreeSame.f
  rcases szAll l p hl 1048576 K (by omega) (by omega) (by omega) with ⟨r, e, hr⟩ | ⟨r, e, hr, hr1, hl1, hl2⟩
  · rw [e]; simp only [obind]; rw [if_pos hr]
  rw [e]; simp only [obind]; rw [if_neg (by omega)]
  rcases szAll m q hm r K (by omega) (by omega) (by omega) with ⟨s, e, hs⟩ | ⟨s, e, hs, hs1, hm1, hm2⟩
  · rw [e]; simp only [obind]; rw [if_pos hs]
  rw [e]; simp only [obind]; rw [if_neg (by omega)]
  rw [toAll l p hl1 hl2 K (by omega)]; simp only [obind]
  rw [toAll m q hm1 hm2 K (by omega)]; simp only [obind]
  have hc1 : cost (l.map toK) ≤ 5000000 := by rw [cost_map]; exact hl2
  have hc2 : cost (m.map toK) ≤ 5000000 := by rw [cost_map]; exact hm2
  have hn1 : (l.map toK).length ≤ 1048576 := by simpa using hl1
  have hn2 : (m.map toK).length ≤ 1048576 := by simpa using hm1
  obtain ⟨b, e1, e2⟩ := both (l.map toK) p (m.map toK) q hn1 hc1 K (by omega)
  rw [e1]; simp only [obind]
  rw [e2]; simp only [obind, bne_self_eq_false, Bool.false_eq_true, if_false]
  rw [eqT _ p hn1 hc1 K (by omega)]; simp only [obind, if_true]
  rw [eqT _ q hn2 hc2 K (by omega)]; simp only [obind, if_true]
end Go.Proofs.Ytpfbhjnlihhpkaa.Pure
