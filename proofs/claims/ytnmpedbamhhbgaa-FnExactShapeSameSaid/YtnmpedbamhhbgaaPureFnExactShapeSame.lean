/- ShapeSame: the program's and the reference's answers are the same at every two shapes; the shapes stay. -/
import Derived.Test.YtnmpedbamhhbgaaPFnExactShapeSamex7
import Derived.Test.YtnmpedbamhhbgaaBase
namespace Go.Proofs.Ytnmpedbamhhbgaa.Pure
open Go.RowKit Go.Proofs.Ytnmpedbamhhbgaa.PFnExactShapeSame Go.Proofs.YtnmpedbamhhbgaaW.PrintWords Go.Proofs.YtnmpedbamhhbgaaW.PrintLast Go.Proofs.Ytnmpedbamhhbgaa.Base
set_option linter.unusedVariables false
set_option linter.unusedSimpArgs false
namespace ShSame
def valB (a : S50) : S42 := ⟨a.f0, a.f1⟩
def nodeB (a : S48) : S38 := ⟨a.f0, a.f1, a.f2, a.f3, a.f4, a.f5.map valB⟩
theorem val_rdA (l : List S50) (i : Nat) (h : i < l.length) : rd_T50 l (i : Int) = l[i] := by simp [rd_T50, h]
theorem val_toLoop (l : List S50) (hn : l.length ≤ 1048576) (d : Nat) : ∀ (k i : Nat) (x : List S42), i + d = l.length → x.length = l.length → d < k → x.take i = (l.map valB).take i →
    laws_toValS.l0 k l x (i : Int) = some (l.map valB) := by
  induction d with
  | zero =>
    intro k i x hi hx hk ht
    obtain ⟨k, rfl⟩ : ∃ m, k = m + 1 := ⟨k - 1, by omega⟩
    simp only [laws_toValS.l0]
    rw [if_neg (by omega)]
    rw [List.take_of_length_le (by omega), List.take_of_length_le (by simp; omega)] at ht
    rw [ht]
  | succ d ih =>
    intro k i x hi hx hk ht
    obtain ⟨k, rfl⟩ : ∃ m, k = m + 1 := ⟨k - 1, by omega⟩
    have hi' : i < l.length := by omega
    have e1 : wrap64 ((i : Int) + 1) = ((i + 1 : Nat) : Int) := by unfold wrap64; omega
    simp only [laws_toValS.l0, laws_toVal.f, obind]
    rw [if_pos (by omega), if_pos (by omega), if_pos (by omega), val_rdA l i hi', e1]
    refine ih k (i + 1) _ (by omega) (by simp [hx]) (by omega) ?_
    simp only [Int.toNat_natCast]
    rw [List.take_succ_eq_append_getElem (by simp; omega), List.take_succ_eq_append_getElem (by simp; omega), List.getElem_set_self, List.take_set_of_le (Nat.le_refl _), ht]
    simp [valB]
theorem val_to (l : List S50) (hn : l.length ≤ 1048576) (k : Nat) (hk : l.length < k) : laws_toValS.f k l = some (l.map valB) := by
  unfold laws_toValS.f
  rw [if_pos (by omega), if_pos (by omega)]
  have := val_toLoop l hn l.length k 0 (List.replicate l.length z42) (by omega) (by simp) hk (by simp)
  simpa using this
theorem val_rdB (l : List S42) (i : Nat) (h : i < l.length) : rd_T42 l (i : Int) = l[i] := by simp [rd_T42, h]
theorem val_eqLoop (a : List S42) (hn : a.length ≤ 1048576) (d : Nat) : ∀ (k i : Nat), i + d = a.length → d < k → laws_eqValS.l0 k a a (i : Int) = some true := by
  induction d with
  | zero =>
    intro k i hi hk
    obtain ⟨k, rfl⟩ : ∃ m, k = m + 1 := ⟨k - 1, by omega⟩
    simp only [laws_eqValS.l0]
    rw [if_neg (by omega)]
  | succ d ih =>
    intro k i hi hk
    obtain ⟨k, rfl⟩ : ∃ m, k = m + 1 := ⟨k - 1, by omega⟩
    have e1 : wrap64 ((i : Int) + 1) = ((i + 1 : Nat) : Int) := by unfold wrap64; omega
    simp only [laws_eqValS.l0, laws_eqVal.f, bne_self_eq_false, Bool.false_eq_true, if_false, if_true, obind]
    rw [if_pos (show (i : Int) < (a.length : Int) by omega), if_pos (show 0 ≤ (i : Int) by omega), if_pos (show (i : Int) < (a.length : Int) by omega), e1]
    exact ih k (i + 1) (by omega) (by omega)
theorem val_eq (a : List S42) (hn : a.length ≤ 1048576) (k : Nat) (hk : a.length < k) : laws_eqValS.f k a a = some true := by
  unfold laws_eqValS.f
  rw [if_pos rfl]
  exact val_eqLoop a hn a.length k 0 (by omega) hk
theorem nA_nat (l : List S48) (i : Nat) (h : i < l.length) : rd_T48 l (i : Int) = l[i] := by simp [rd_T48, h]
theorem nB_nat (l : List S38) (i : Nat) (h : i < l.length) : rd_T38 l (i : Int) = l[i] := by simp [rd_T38, h]
def Fine (v : List S50) (l : List S48) : Prop := v.length ≤ maxLen ∧ l.length ≤ maxLen ∧ ∀ a ∈ l, a.f4.size ≤ maxLen ∧ a.f5.length ≤ maxLen
def costA (l : List S48) : Nat := (l.map fun a => a.f5.length).sum
def cost (l : List S38) : Nat := (l.map fun a => a.f5.length).sum
theorem costA_cons (a : S48) (l : List S48) : costA (a :: l) = a.f5.length + costA l := by simp [costA]
theorem cost_map (l : List S48) : cost (l.map nodeB) = costA l := by simp [cost, costA, nodeB, Function.comp_def]
theorem mem_costA (l : List S48) (a : S48) (h : a ∈ l) : a.f5.length ≤ costA l := by
  induction l with
  | nil => simp at h
  | cons b l ih =>
    rw [costA_cons]
    rcases List.mem_cons.1 h with rfl | h
    · omega
    · have := ih h; omega
theorem mem_cost (l : List S38) (a : S38) (h : a ∈ l) : a.f5.length ≤ cost l := by
  induction l with
  | nil => simp at h
  | cons b l ih =>
    have : cost (b :: l) = b.f5.length + cost l := by simp [cost]
    rw [this]
    rcases List.mem_cons.1 h with rfl | h
    · omega
    · have := ih h; omega
/-! the size -/
theorem szV (l : List S50) (m : Int) (hl : l.length ≤ maxLen) (h0 : 0 ≤ m) (h1 : m ≤ 1048576) :
    (∃ r : Int, laws_szValS.f l m = some r ∧ r < 0) ∨ laws_szValS.f l m = some (m - l.length) ∧ 0 ≤ m - l.length := by
  unfold laws_szValS.f
  unfold maxLen at hl
  rw [wrap64_in (by omega) (by omega)]
  by_cases c : m - (l.length : Int) < 0
  · rw [if_pos c]; exact .inl ⟨-1, rfl, by omega⟩
  · rw [if_neg c]; exact .inr ⟨rfl, by omega⟩
theorem szN (a : S48) (m : Int) (hs : a.f4.size ≤ maxLen) (hl : a.f5.length ≤ maxLen) (h0 : 0 ≤ m) (h1 : m ≤ 1048576) :
    (∃ r : Int, laws_szNode.f a.f0 a.f1 a.f2 a.f3 a.f4 a.f5 m = some r ∧ r < 0) ∨ ∃ r : Int, laws_szNode.f a.f0 a.f1 a.f2 a.f3 a.f4 a.f5 m = some r ∧ 0 ≤ r ∧ r ≤ m - a.f5.length := by
  unfold laws_szNode.f
  unfold maxLen at hs
  rw [wrap64_in (by omega) (by omega)]
  by_cases c : m - (a.f4.size : Int) < 0
  · rw [if_pos c]; exact .inl ⟨-1, rfl, by omega⟩
  · rw [if_neg c]
    rcases szV a.f5 (m - a.f4.size) hl (by omega) (by omega) with ⟨r, e, hr⟩ | ⟨e, hr⟩
    · rw [e]; simp only [obind]; rw [if_pos hr]; exact .inl ⟨-1, rfl, by omega⟩
    · rw [e]; simp only [obind]; rw [if_neg (by omega)]; exact .inr ⟨_, rfl, hr, by omega⟩
theorem szLoop (l : List S48) (hf : ∀ a ∈ l, a.f4.size ≤ maxLen ∧ a.f5.length ≤ maxLen) (hn : l.length ≤ 1048576) (d : Nat) : ∀ (k i : Nat) (m : Int), i + d = l.length → d < k → 0 ≤ m → m ≤ 1048576 →
    (∃ r : Int, laws_szNodeS.l0 k l m (i : Int) = some r ∧ r < 0) ∨ ∃ r : Int, laws_szNodeS.l0 k l m (i : Int) = some r ∧ 0 ≤ r ∧ r + (costA (l.drop i) : Int) ≤ m := by
  induction d with
  | zero =>
    intro k i m hi hk h0 h1
    obtain ⟨k, rfl⟩ : ∃ m, k = m + 1 := ⟨k - 1, by omega⟩
    simp only [laws_szNodeS.l0]
    rw [if_neg (by omega), List.drop_of_length_le (by omega)]
    exact .inr ⟨m, rfl, h0, by simp [costA]⟩
  | succ d ih =>
    intro k i m hi hk h0 h1
    obtain ⟨k, rfl⟩ : ∃ m, k = m + 1 := ⟨k - 1, by omega⟩
    have hi' : i < l.length := by omega
    obtain ⟨h2, h3⟩ := hf l[i] (List.getElem_mem hi')
    have e1 : wrap64 ((i : Int) + 1) = ((i + 1 : Nat) : Int) := by unfold wrap64; omega
    simp only [laws_szNodeS.l0]
    rw [if_pos (by omega), if_pos (by omega), nA_nat l i hi', e1]
    rcases szN l[i] m h2 h3 h0 h1 with ⟨r, e, hr⟩ | ⟨r, e, hr, hr2⟩
    · rw [e]; simp only [obind]; rw [if_pos hr]; exact .inl ⟨-1, rfl, by omega⟩
    · rw [e]; simp only [obind]; rw [if_neg (by omega)]
      rw [List.drop_eq_getElem_cons hi', costA_cons]
      rcases ih k (i + 1) r (by omega) (by omega) hr (by omega) with ⟨q, e, hq⟩ | ⟨q, e, hq, hq2⟩
      · exact .inl ⟨q, e, hq⟩
      · exact .inr ⟨q, e, hq, by omega⟩
theorem szAll (v : List S50) (l : List S48) (hf : Fine v l) (m : Int) (k : Nat) (hk : v.length + l.length < k) (h0 : 0 ≤ m) (h1 : m ≤ 1048576) :
    (∃ r : Int, laws_szShape.f k v l m = some r ∧ r < 0) ∨ ∃ r : Int, laws_szShape.f k v l m = some r ∧ 0 ≤ r ∧ r ≤ 1048576 ∧ v.length ≤ 1048576 ∧ l.length ≤ 1048576 ∧ costA l ≤ 1048576 := by
  obtain ⟨hv, hl, hp⟩ := hf
  unfold laws_szShape.f laws_szNodeS.f
  rcases szV v m hv h0 h1 with ⟨r, e, hr⟩ | ⟨e, hr⟩
  · rw [e]; simp only [obind]; rw [if_pos hr]; exact .inl ⟨-1, rfl, by omega⟩
  rw [e]; simp only [obind]; rw [if_neg (by omega)]
  unfold maxLen at hl hv
  rw [wrap64_in (x := m - (v.length : Int) - (l.length : Int)) (by omega) (by omega)]
  by_cases c : m - (v.length : Int) - (l.length : Int) < 0
  · rw [if_pos c]; simp only [obind]; rw [if_pos (by omega)]; exact .inl ⟨-1, rfl, by omega⟩
  · rw [if_neg c]
    rcases szLoop l hp (by omega) l.length k 0 (m - v.length - l.length) (by omega) (by omega) (by omega) (by omega) with ⟨r, e, hr⟩ | ⟨r, e, hr, hr2⟩
    · have e' : laws_szNodeS.l0 k l (m - (v.length : Int) - (l.length : Int)) 0 = some r := e
      rw [e']; simp only [obind]; rw [if_pos hr]; exact .inl ⟨-1, rfl, by omega⟩
    · have e' : laws_szNodeS.l0 k l (m - (v.length : Int) - (l.length : Int)) 0 = some r := e
      simp only [List.drop_zero] at hr2
      rw [e']; simp only [obind]; rw [if_neg (by omega)]
      exact .inr ⟨r, rfl, hr, by omega, by omega, by omega, by omega⟩
/-! the copy -/
theorem toNLoop (l : List S48) (hn : l.length ≤ 1048576) (hc : costA l ≤ 1048576) (d : Nat) : ∀ (k i : Nat) (x : List S38), i + d = l.length → x.length = l.length → d + 1048580 < k → x.take i = (l.map nodeB).take i →
    laws_toNodeS.l0 k l x (i : Int) = some (l.map nodeB) := by
  induction d with
  | zero =>
    intro k i x hi hx hk ht
    obtain ⟨k, rfl⟩ : ∃ m, k = m + 1 := ⟨k - 1, by omega⟩
    simp only [laws_toNodeS.l0]
    rw [if_neg (by omega)]
    rw [List.take_of_length_le (by omega), List.take_of_length_le (by simp; omega)] at ht
    rw [ht]
  | succ d ih =>
    intro k i x hi hx hk ht
    obtain ⟨k, rfl⟩ : ∃ m, k = m + 1 := ⟨k - 1, by omega⟩
    have hi' : i < l.length := by omega
    have hm := mem_costA l l[i] (List.getElem_mem hi')
    have e1 : wrap64 ((i : Int) + 1) = ((i + 1 : Nat) : Int) := by unfold wrap64; omega
    simp only [laws_toNodeS.l0, laws_toNode.f]
    rw [if_pos (by omega), if_pos (by omega), nA_nat l i hi', val_to l[i].f5 (by omega) k (by omega)]
    simp only [obind]
    rw [if_pos (by omega), e1]
    refine ih k (i + 1) _ (by omega) (by simp [hx]) (by omega) ?_
    simp only [Int.toNat_natCast]
    rw [List.take_succ_eq_append_getElem (by simp; omega), List.take_succ_eq_append_getElem (by simp; omega), List.getElem_set_self, List.take_set_of_le (Nat.le_refl _), ht]
    simp [nodeB]
theorem toAll (v : List S50) (l : List S48) (hv : v.length ≤ 1048576) (hn : l.length ≤ 1048576) (hc : costA l ≤ 1048576) (k : Nat) (hk : 3000000 < k) : laws_toShape.f k v l = some (v.map valB, l.map nodeB) := by
  unfold laws_toShape.f laws_toNodeS.f
  rw [val_to v hv k (by omega)]
  simp only [obind]
  rw [if_pos (by omega), if_pos (by omega)]
  have e := toNLoop l hn hc l.length k 0 (List.replicate l.length z38) (by omega) (by simp) (by omega) (by simp)
  have e' : laws_toNodeS.l0 k l (List.replicate l.length z38) 0 = some (l.map nodeB) := e
  simp only [Int.toNat_natCast]
  rw [e']; simp only [obind]
/-! the shape stays -/
theorem eqNLoop (a : List S38) (hn : a.length ≤ 1048576) (hc : cost a ≤ 1048576) (d : Nat) : ∀ (k i : Nat), i + d = a.length → d + 1048580 < k → laws_eqNodeS.l0 k a a (i : Int) = some true := by
  induction d with
  | zero =>
    intro k i hi hk
    obtain ⟨k, rfl⟩ : ∃ m, k = m + 1 := ⟨k - 1, by omega⟩
    simp only [laws_eqNodeS.l0]
    rw [if_neg (by omega)]
  | succ d ih =>
    intro k i hi hk
    obtain ⟨k, rfl⟩ : ∃ m, k = m + 1 := ⟨k - 1, by omega⟩
    have ha : i < a.length := by omega
    have hm := mem_cost a a[i] (List.getElem_mem ha)
    have e1 : wrap64 ((i : Int) + 1) = ((i + 1 : Nat) : Int) := by unfold wrap64; omega
    simp only [laws_eqNodeS.l0, laws_eqNode.f]
    rw [if_pos (show (i : Int) < (a.length : Int) by omega), if_pos (show 0 ≤ (i : Int) by omega), if_pos (show (i : Int) < (a.length : Int) by omega), nB_nat a i ha, if_pos trivial, if_pos trivial, if_pos trivial, if_pos trivial, if_pos trivial, val_eq _ (by omega) k (by omega)]
    simp only [obind, if_true]
    rw [e1]
    exact ih k (i + 1) (by omega) (by omega)
theorem eqAll (v : List S42) (a : List S38) (hv : v.length ≤ 1048576) (hn : a.length ≤ 1048576) (hc : cost a ≤ 1048576) (k : Nat) (hk : 3000000 < k) : laws_eqShape.f k v a v a = some true := by
  unfold laws_eqShape.f laws_eqNodeS.f
  rw [val_eq v hv k (by omega), if_pos rfl]
  simp only [obind, if_true]
  have e := eqNLoop a hn hc a.length k 0 (by omega) (by omega)
  have e' : laws_eqNodeS.l0 k a a 0 = some true := e
  rw [e']; simp only [obind, if_true]
/-! both comparisons -/
def all2 {α : Type} (p : α → α → Bool) : List α → List α → Bool
  | [], _ => true
  | _ :: _, [] => false
  | x :: xs, y :: ys => p x y && all2 p xs ys
def vEq (x y : S42) : Bool := !((!(x.f0 == y.f0)) || (!(x.f1 == y.f1)))
theorem val_loop2 (a b : List S42) (hl : a.length = b.length) (hn : a.length ≤ 1048576) (d : Nat) : ∀ (k i : Nat), i + d = a.length → d < k →
    impl_Val.l0 k a b (a.length : Int) (i : Int) = some (all2 vEq (a.drop i) (b.drop i)) := by
  induction d with
  | zero =>
    intro k i hi hk
    obtain ⟨k, rfl⟩ : ∃ m, k = m + 1 := ⟨k - 1, by omega⟩
    simp only [impl_Val.l0]
    rw [if_neg (by omega), List.drop_of_length_le (by omega)]
    simp [all2]
  | succ d ih =>
    intro k i hi hk
    obtain ⟨k, rfl⟩ : ∃ m, k = m + 1 := ⟨k - 1, by omega⟩
    have ha : i < a.length := by omega
    have hb : i < b.length := by omega
    have e1 : wrap64 ((i : Int) + 1) = ((i + 1 : Nat) : Int) := by unfold wrap64; omega
    simp only [impl_Val.l0]
    rw [if_pos (show (i : Int) < (a.length : Int) by omega), if_pos (show 0 ≤ (i : Int) by omega), if_pos (show (i : Int) < (a.length : Int) by omega), if_pos (show (i : Int) < (b.length : Int) by omega), val_rdB a i ha, val_rdB b i hb, e1, ih k (i + 1) (by omega) (by omega), List.drop_eq_getElem_cons ha, List.drop_eq_getElem_cons hb]
    simp only [all2, vEq]
    cases ((!(a[i].f0 == b[i].f0)) || (!(a[i].f1 == b[i].f1))) <;> rfl
theorem val_same (a b : List S42) (hn : a.length ≤ 1048576) (k : Nat) (hk : a.length < k) : impl_Val.f k a b = some (decide (a.length = b.length) && all2 vEq a b) := by
  unfold impl_Val.f
  by_cases hl : a.length = b.length
  · rw [if_pos (by omega), decide_eq_true hl]
    exact val_loop2 a b hl hn a.length k 0 (by omega) hk
  · rw [if_neg (by omega), decide_eq_false hl]; rfl
theorem spec_vloop (a b : List S42) (hl : a.length = b.length) (hn : a.length ≤ 1048576) (d : Nat) : ∀ (k i : Nat), i + d = a.length → d < k →
    spec_l7Vals.l0 k a b (i : Int) = some (all2 vEq (a.drop i) (b.drop i)) := by
  induction d with
  | zero =>
    intro k i hi hk
    obtain ⟨k, rfl⟩ : ∃ m, k = m + 1 := ⟨k - 1, by omega⟩
    simp only [spec_l7Vals.l0]
    rw [if_neg (by omega), List.drop_of_length_le (by omega)]
    simp [all2]
  | succ d ih =>
    intro k i hi hk
    obtain ⟨k, rfl⟩ : ∃ m, k = m + 1 := ⟨k - 1, by omega⟩
    have ha : i < a.length := by omega
    have hb : i < b.length := by omega
    have e1 : wrap64 ((i : Int) + 1) = ((i + 1 : Nat) : Int) := by unfold wrap64; omega
    simp only [spec_l7Vals.l0]
    rw [if_pos (show (i : Int) < (a.length : Int) by omega), if_pos (show 0 ≤ (i : Int) by omega), if_pos (show (i : Int) < (b.length : Int) by omega), val_rdB a i ha, val_rdB b i hb, e1, ih k (i + 1) (by omega) (by omega), List.drop_eq_getElem_cons ha, List.drop_eq_getElem_cons hb]
    simp only [all2, vEq]
    cases ((!(a[i].f0 == b[i].f0)) || (!(a[i].f1 == b[i].f1))) <;> rfl
theorem spec_vals (a b : List S42) (hn : a.length ≤ 1048576) (k : Nat) (hk : a.length < k) : spec_l7Vals.f k a b = some (decide (a.length = b.length) && all2 vEq a b) := by
  unfold spec_l7Vals.f
  by_cases hl : a.length = b.length
  · rw [if_pos (by omega), decide_eq_true hl]
    exact spec_vloop a b hl hn a.length k 0 (by omega) hk
  · rw [if_neg (by omega), decide_eq_false hl]; rfl
def nEq (x y : S38) : Bool := decide (x.f0 = y.f0) && (decide (x.f1 = y.f1) && (decide (x.f2 = y.f2) && (decide (x.f3 = y.f3) && (decide (x.f4.toList = y.f4.toList) && (decide (x.f5.length = y.f5.length) && all2 vEq x.f5 y.f5)))))
theorem impl_one (x y : S38) (k : Nat) (hn : x.f5.length ≤ 1048576) (hk : 1048580 < k) : impl_ShapeSame_1.f k x.f0 x.f1 x.f2 x.f3 x.f4 x.f5 y.f0 y.f1 y.f2 y.f3 y.f4 y.f5 = some (nEq x y) := by
  unfold impl_ShapeSame_1.f
  rw [val_same _ _ (by omega) k (by omega)]
  simp only [obind, nEq]
  by_cases c0 : x.f0 = y.f0
  · rw [if_pos c0, decide_eq_true c0]
    by_cases c1 : x.f1 = y.f1
    · rw [if_pos c1, decide_eq_true c1]
      by_cases c2 : x.f2 = y.f2
      · rw [if_pos c2, decide_eq_true c2]
        by_cases c3 : x.f3 = y.f3
        · rw [if_pos c3, decide_eq_true c3]
          by_cases c4 : x.f4.toList = y.f4.toList
          · rw [if_pos c4, decide_eq_true c4]; rfl
          · rw [if_neg c4, decide_eq_false c4]; rfl
        · rw [if_neg c3, decide_eq_false c3]; rfl
      · rw [if_neg c2, decide_eq_false c2]; rfl
    · rw [if_neg c1, decide_eq_false c1]; rfl
  · rw [if_neg c0, decide_eq_false c0]; rfl
theorem impl_loop (a b : List S38) (hl : a.length = b.length) (hn : a.length ≤ 1048576) (hc : cost a ≤ 1048576) (d : Nat) : ∀ (k i : Nat), i + d = a.length → d + 1048580 < k →
    impl_Node.l0 k b a (a.length : Int) (i : Int) = some (all2 nEq (a.drop i) (b.drop i)) := by
  induction d with
  | zero =>
    intro k i hi hk
    obtain ⟨k, rfl⟩ : ∃ m, k = m + 1 := ⟨k - 1, by omega⟩
    simp only [impl_Node.l0]
    rw [if_neg (by omega), List.drop_of_length_le (by omega)]
    simp [all2]
  | succ d ih =>
    intro k i hi hk
    obtain ⟨k, rfl⟩ : ∃ m, k = m + 1 := ⟨k - 1, by omega⟩
    have ha : i < a.length := by omega
    have hb : i < b.length := by omega
    have hm := mem_cost a a[i] (List.getElem_mem ha)
    have e1 : wrap64 ((i : Int) + 1) = ((i + 1 : Nat) : Int) := by unfold wrap64; omega
    simp only [impl_Node.l0]
    rw [if_pos (show (i : Int) < (a.length : Int) by omega), if_pos (show 0 ≤ (i : Int) by omega), if_pos (show (i : Int) < (a.length : Int) by omega), if_pos (show (i : Int) < (b.length : Int) by omega), nB_nat a i ha, nB_nat b i hb, impl_one _ _ k (by omega) (by omega), e1]
    simp only [obind]
    rw [ih k (i + 1) (by omega) (by omega), List.drop_eq_getElem_cons ha, List.drop_eq_getElem_cons hb]
    simp only [all2]
    cases nEq a[i] b[i] <;> simp
section
variable (V : List S42) (P : List S38) (U : List S42) (Q : List S38)
theorem spec_loop (hl : P.length = Q.length) (hn : P.length ≤ 1048576) (hc : cost P ≤ 1048576) (d : Nat) : ∀ (k i : Nat), i + d = P.length → d + 1048580 < k →
    spec_ShapeSame.l0 k (i : Int) V P U Q = some (all2 nEq (P.drop i) (Q.drop i)) := by
  induction d with
  | zero =>
    intro k i hi hk
    obtain ⟨k, rfl⟩ : ∃ m, k = m + 1 := ⟨k - 1, by omega⟩
    simp only [spec_ShapeSame.l0]
    rw [if_neg (by omega), List.drop_of_length_le (by omega)]
    simp [all2]
  | succ d ih =>
    intro k i hi hk
    obtain ⟨k, rfl⟩ : ∃ m, k = m + 1 := ⟨k - 1, by omega⟩
    have ha : i < P.length := by omega
    have hb : i < Q.length := by omega
    have hm := mem_cost P P[i] (List.getElem_mem ha)
    have e1 : wrap64 ((i : Int) + 1) = ((i + 1 : Nat) : Int) := by unfold wrap64; omega
    simp only [spec_ShapeSame.l0]
    rw [if_pos (show (i : Int) < (P.length : Int) by omega), if_pos (show 0 ≤ (i : Int) by omega), if_pos (show (i : Int) < (Q.length : Int) by omega), nB_nat P i ha, nB_nat Q i hb, spec_vals _ _ (by omega) k (by omega), e1]
    simp only [obind]
    rw [ih k (i + 1) (by omega) (by omega), List.drop_eq_getElem_cons ha, List.drop_eq_getElem_cons hb]
    simp only [all2, nEq]
    by_cases c0 : P[i].f0 = Q[i].f0
    · rw [if_pos c0, decide_eq_true c0]
      by_cases c1 : P[i].f1 = Q[i].f1
      · rw [if_pos c1, decide_eq_true c1]
        by_cases c2 : P[i].f2 = Q[i].f2
        · rw [if_pos c2, decide_eq_true c2]
          by_cases c3 : P[i].f3 = Q[i].f3
          · rw [if_pos c3, decide_eq_true c3]
            by_cases c4 : P[i].f4.toList = Q[i].f4.toList
            · rw [if_pos c4, decide_eq_true c4]
              cases (decide (P[i].f5.length = Q[i].f5.length) && all2 vEq P[i].f5 Q[i].f5) <;> simp
            · rw [if_neg c4, decide_eq_false c4]; rfl
          · rw [if_neg c3, decide_eq_false c3]; rfl
        · rw [if_neg c2, decide_eq_false c2]; rfl
      · rw [if_neg c1, decide_eq_false c1]; rfl
    · rw [if_neg c0, decide_eq_false c0]; rfl
theorem both (hv : V.length ≤ 1048576) (hn : P.length ≤ 1048576) (hc : cost P ≤ 1048576) (k : Nat) (hk : 9000000 < k) :
    ∃ b, spec_ShapeSame.f k V P U Q = some b ∧ impl_ShapeSame.f k V P U Q = some b := by
  have ei : impl_ShapeSame.f k V P U Q = some ((decide (V.length = U.length) && all2 vEq V U) && (decide (P.length = Q.length) && all2 nEq P Q)) := by
    unfold impl_ShapeSame.f impl_Node.f
    rw [val_same V U hv k (by omega)]
    simp only [obind]
    by_cases c : P.length = Q.length
    · have e : impl_Node.l0 k Q P (P.length : Int) 0 = some (all2 nEq P Q) := impl_loop P Q c hn hc P.length k 0 (by omega) (by omega)
      rw [if_pos (show (P.length : Int) = (Q.length : Int) by omega), e, decide_eq_true c]
      simp only [obind, Bool.true_and]
      cases (decide (V.length = U.length) && all2 vEq V U) <;> simp
    · rw [if_neg (show ¬ (P.length : Int) = (Q.length : Int) by omega), decide_eq_false c]
      simp only [obind, Bool.false_and, Bool.and_false]
      split <;> rfl
  have es : spec_ShapeSame.f k V P U Q = some ((decide (V.length = U.length) && all2 vEq V U) && (decide (P.length = Q.length) && all2 nEq P Q)) := by
    obtain ⟨k', rfl⟩ : ∃ m, k = m + 1 := ⟨k - 1, by omega⟩
    unfold spec_ShapeSame.f
    rw [spec_vals V U hv (k' + 1) (by omega)]
    simp only [obind, spec_ShapeSame.j0, if_true]
    cases (decide (V.length = U.length) && all2 vEq V U) with
    | false => simp
    | true =>
      rw [if_pos rfl]
      by_cases c : P.length = Q.length
      · have e2 : spec_ShapeSame.l0 k' 0 V P U Q = some (all2 nEq P Q) := spec_loop V P U Q c hn hc P.length k' 0 (by omega) (by omega)
        rw [if_neg (by simp [c]), e2, decide_eq_true c]; rfl
      · rw [if_pos (by simp; omega), decide_eq_false c]; rfl
  exact ⟨_, es, ei⟩
end
end ShSame
open ShSame
theorem FnExactShapeSame (v : List S50) (l : List S48) (u : List S50) (m : List S48) (hf : Fine v l) (hg : Fine u m) : ∃ k, laws_FnExactShapeSame.f k v l u m = some true := by
  obtain ⟨K, hK⟩ : ∃ K, K = v.length + l.length + (u.length + m.length) + 10000000 := ⟨_, rfl⟩
  refine ⟨K, ?_⟩
  unfold laws_FnExactShapeSame.f
  rcases szAll v l hf 1048576 K (by omega) (by omega) (by omega) with ⟨r, e, hr⟩ | ⟨r, e, hr, hr1, hv, hl, hc⟩
  · rw [e]; simp only [obind]; rw [if_pos hr]
  rw [e]; simp only [obind]; rw [if_neg (by omega)]
  rcases szAll u m hg r K (by omega) (by omega) (by omega) with ⟨s, e, hs⟩ | ⟨s, e, hs, hs1, hu, hm, hd⟩
  · rw [e]; simp only [obind]; rw [if_pos hs]
  rw [e]; simp only [obind]; rw [if_neg (by omega)]
  rw [toAll v l hv hl hc K (by omega)]; simp only [obind]
  rw [toAll u m hu hm hd K (by omega)]; simp only [obind]
  have hc1 : cost (l.map nodeB) ≤ 1048576 := by rw [cost_map]; exact hc
  have hn1 : (l.map nodeB).length ≤ 1048576 := by simpa using hl
  have hv1 : (v.map valB).length ≤ 1048576 := by simpa using hv
  have hc2 : cost (m.map nodeB) ≤ 1048576 := by rw [cost_map]; exact hd
  have hn2 : (m.map nodeB).length ≤ 1048576 := by simpa using hm
  have hv2 : (u.map valB).length ≤ 1048576 := by simpa using hu
  obtain ⟨b, e1, e2⟩ := both (v.map valB) (l.map nodeB) (u.map valB) (m.map nodeB) hv1 hn1 hc1 K (by omega)
  rw [e1]; simp only [obind]
  rw [e2]; simp only [obind, bne_self_eq_false, Bool.false_eq_true, if_false]
  rw [eqAll _ _ hv1 hn1 hc1 K (by omega)]; simp only [obind, if_true]
  rw [eqAll _ _ hv2 hn2 hc2 K (by omega)]; simp only [obind, if_true]
end Go.Proofs.Ytnmpedbamhhbgaa.Pure
