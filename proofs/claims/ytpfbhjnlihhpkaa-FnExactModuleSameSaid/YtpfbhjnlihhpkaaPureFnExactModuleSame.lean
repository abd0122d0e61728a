/- ModuleSame: the program's and the reference's answers are the same at every two modules; the modules stay. -/
import Derived.Test.YtpfbhjnlihhpkaaPFnExactModuleSamex10
import Derived.Test.YtpfbhjnlihhpkaaBase
namespace Go.Proofs.Ytpfbhjnlihhpkaa.Pure
open Go.RowKit Go.Proofs.Ytpfbhjnlihhpkaa.PFnExactModuleSame Go.Proofs.YtpfbhjnlihhpkaaW.PrintWords Go.Proofs.YtpfbhjnlihhpkaaW.PrintLast Go.Proofs.Ytpfbhjnlihhpkaa.Base
set_option linter.unusedVariables false
set_option linter.unusedSimpArgs false
namespace ModOk
def upB (a : S170) : S133 := ⟨a.f0, a.f1⟩
def insB (a : S172) : S136 := ⟨a.f0, a.f1⟩
def protoB (a : S160) : S126 := ⟨a.f0, a.f1, a.f2.map upB, a.f3.map insB⟩
theorem up_rdA (l : List S170) (i : Nat) (h : i < l.length) : rd_T170 l (i : Int) = l[i] := by simp [rd_T170, h]
theorem up_toLoop (l : List S170) (hn : l.length ≤ 1048576) (d : Nat) : ∀ (k i : Nat) (x : List S133), i + d = l.length → x.length = l.length → d < k → x.take i = (l.map upB).take i →
    laws_toUpS.l0 k l x (i : Int) = some (l.map upB) := by
  induction d with
  | zero =>
    intro k i x hi hx hk ht
    obtain ⟨k, rfl⟩ : ∃ m, k = m + 1 := ⟨k - 1, by omega⟩
    simp only [laws_toUpS.l0]
    rw [if_neg (by omega)]
    rw [List.take_of_length_le (by omega), List.take_of_length_le (by simp; omega)] at ht
    rw [ht]
  | succ d ih =>
    intro k i x hi hx hk ht
    obtain ⟨k, rfl⟩ : ∃ m, k = m + 1 := ⟨k - 1, by omega⟩
    have hi' : i < l.length := by omega
    have e1 : wrap64 ((i : Int) + 1) = ((i + 1 : Nat) : Int) := by unfold wrap64; omega
    simp only [laws_toUpS.l0, laws_toUp.f, obind]
    rw [if_pos (by omega), if_pos (by omega), if_pos (by omega), up_rdA l i hi', e1]
    refine ih k (i + 1) _ (by omega) (by simp [hx]) (by omega) ?_
    simp only [Int.toNat_natCast]
    rw [List.take_succ_eq_append_getElem (by simp; omega), List.take_succ_eq_append_getElem (by simp; omega), List.getElem_set_self, List.take_set_of_le (Nat.le_refl _), ht]
    simp [upB]
theorem up_to (l : List S170) (hn : l.length ≤ 1048576) (k : Nat) (hk : l.length < k) : laws_toUpS.f k l = some (l.map upB) := by
  unfold laws_toUpS.f
  rw [if_pos (by omega), if_pos (by omega)]
  have := up_toLoop l hn l.length k 0 (List.replicate l.length z133) (by omega) (by simp) hk (by simp)
  simpa using this
theorem ins_rdA (l : List S172) (i : Nat) (h : i < l.length) : rd_T172 l (i : Int) = l[i] := by simp [rd_T172, h]
theorem ins_toLoop (l : List S172) (hn : l.length ≤ 1048576) (d : Nat) : ∀ (k i : Nat) (x : List S136), i + d = l.length → x.length = l.length → d < k → x.take i = (l.map insB).take i →
    laws_toInsS.l0 k l x (i : Int) = some (l.map insB) := by
  induction d with
  | zero =>
    intro k i x hi hx hk ht
    obtain ⟨k, rfl⟩ : ∃ m, k = m + 1 := ⟨k - 1, by omega⟩
    simp only [laws_toInsS.l0]
    rw [if_neg (by omega)]
    rw [List.take_of_length_le (by omega), List.take_of_length_le (by simp; omega)] at ht
    rw [ht]
  | succ d ih =>
    intro k i x hi hx hk ht
    obtain ⟨k, rfl⟩ : ∃ m, k = m + 1 := ⟨k - 1, by omega⟩
    have hi' : i < l.length := by omega
    have e1 : wrap64 ((i : Int) + 1) = ((i + 1 : Nat) : Int) := by unfold wrap64; omega
    simp only [laws_toInsS.l0, laws_toIns.f, obind]
    rw [if_pos (by omega), if_pos (by omega), if_pos (by omega), ins_rdA l i hi', e1]
    refine ih k (i + 1) _ (by omega) (by simp [hx]) (by omega) ?_
    simp only [Int.toNat_natCast]
    rw [List.take_succ_eq_append_getElem (by simp; omega), List.take_succ_eq_append_getElem (by simp; omega), List.getElem_set_self, List.take_set_of_le (Nat.le_refl _), ht]
    simp [insB]
theorem ins_to (l : List S172) (hn : l.length ≤ 1048576) (k : Nat) (hk : l.length < k) : laws_toInsS.f k l = some (l.map insB) := by
  unfold laws_toInsS.f
  rw [if_pos (by omega), if_pos (by omega)]
  have := ins_toLoop l hn l.length k 0 (List.replicate l.length z136) (by omega) (by simp) hk (by simp)
  simpa using this
theorem up_rdB (l : List S133) (i : Nat) (h : i < l.length) : rd_T133 l (i : Int) = l[i] := by simp [rd_T133, h]
theorem up_eqLoop (a : List S133) (hn : a.length ≤ 1048576) (d : Nat) : ∀ (k i : Nat), i + d = a.length → d < k → laws_eqUpS.l0 k a a (i : Int) = some true := by
  induction d with
  | zero =>
    intro k i hi hk
    obtain ⟨k, rfl⟩ : ∃ m, k = m + 1 := ⟨k - 1, by omega⟩
    simp only [laws_eqUpS.l0]
    rw [if_neg (by omega)]
  | succ d ih =>
    intro k i hi hk
    obtain ⟨k, rfl⟩ : ∃ m, k = m + 1 := ⟨k - 1, by omega⟩
    have e1 : wrap64 ((i : Int) + 1) = ((i + 1 : Nat) : Int) := by unfold wrap64; omega
    simp only [laws_eqUpS.l0, laws_eqUp.f, bne_self_eq_false, Bool.false_eq_true, if_false, if_true, obind]
    rw [if_pos (show (i : Int) < (a.length : Int) by omega), if_pos (show 0 ≤ (i : Int) by omega), if_pos (show (i : Int) < (a.length : Int) by omega), e1]
    exact ih k (i + 1) (by omega) (by omega)
theorem up_eq (a : List S133) (hn : a.length ≤ 1048576) (k : Nat) (hk : a.length < k) : laws_eqUpS.f k a a = some true := by
  unfold laws_eqUpS.f
  rw [if_pos rfl]
  exact up_eqLoop a hn a.length k 0 (by omega) hk
theorem ins_rdB (l : List S136) (i : Nat) (h : i < l.length) : rd_T136 l (i : Int) = l[i] := by simp [rd_T136, h]
theorem ins_eqLoop (a : List S136) (hn : a.length ≤ 1048576) (d : Nat) : ∀ (k i : Nat), i + d = a.length → d < k → laws_eqInsS.l0 k a a (i : Int) = some true := by
  induction d with
  | zero =>
    intro k i hi hk
    obtain ⟨k, rfl⟩ : ∃ m, k = m + 1 := ⟨k - 1, by omega⟩
    simp only [laws_eqInsS.l0]
    rw [if_neg (by omega)]
  | succ d ih =>
    intro k i hi hk
    obtain ⟨k, rfl⟩ : ∃ m, k = m + 1 := ⟨k - 1, by omega⟩
    have e1 : wrap64 ((i : Int) + 1) = ((i + 1 : Nat) : Int) := by unfold wrap64; omega
    simp only [laws_eqInsS.l0, laws_eqIns.f, bne_self_eq_false, Bool.false_eq_true, if_false, if_true, obind]
    rw [if_pos (show (i : Int) < (a.length : Int) by omega), if_pos (show 0 ≤ (i : Int) by omega), if_pos (show (i : Int) < (a.length : Int) by omega), e1]
    exact ih k (i + 1) (by omega) (by omega)
theorem ins_eq (a : List S136) (hn : a.length ≤ 1048576) (k : Nat) (hk : a.length < k) : laws_eqInsS.f k a a = some true := by
  unfold laws_eqInsS.f
  rw [if_pos rfl]
  exact ins_eqLoop a hn a.length k 0 (by omega) hk
theorem pA_nat (l : List S160) (i : Nat) (h : i < l.length) : rd_T160 l (i : Int) = l[i] := by simp [rd_T160, h]
theorem pB_nat (l : List S126) (i : Nat) (h : i < l.length) : rd_T126 l (i : Int) = l[i] := by simp [rd_T126, h]
theorem s_nat (l : List ByteArray) (i : Nat) (h : i < l.length) : rdOf ByteArray.empty l (i : Int) = l[i] := by simp [rdOf, h]
def Fine (l : List S160) (t : List ByteArray) : Prop := l.length ≤ maxLen ∧ (∀ a ∈ l, a.f2.length ≤ maxLen ∧ a.f3.length ≤ maxLen) ∧ t.length ≤ maxLen ∧ ∀ s ∈ t, s.size ≤ maxLen
def costA (l : List S160) : Nat := (l.map fun a => a.f2.length + a.f3.length).sum
def cost (l : List S126) : Nat := (l.map fun a => a.f2.length + a.f3.length).sum
theorem costA_cons (a : S160) (l : List S160) : costA (a :: l) = a.f2.length + a.f3.length + costA l := by simp [costA]
theorem cost_map (l : List S160) : cost (l.map protoB) = costA l := by simp [cost, costA, protoB, Function.comp_def]
theorem mem_costA (l : List S160) (a : S160) (h : a ∈ l) : a.f2.length + a.f3.length ≤ costA l := by
  induction l with
  | nil => simp at h
  | cons b l ih =>
    rw [costA_cons]
    rcases List.mem_cons.1 h with rfl | h
    · omega
    · have := ih h; omega
theorem mem_cost (l : List S126) (a : S126) (h : a ∈ l) : a.f2.length + a.f3.length ≤ cost l := by
  induction l with
  | nil => simp at h
  | cons b l ih =>
    have : cost (b :: l) = b.f2.length + b.f3.length + cost l := by simp [cost]
    rw [this]
    rcases List.mem_cons.1 h with rfl | h
    · omega
    · have := ih h; omega
/-! the size -/
theorem szP (a : S160) (m : Int) (h2 : a.f2.length ≤ maxLen) (h3 : a.f3.length ≤ maxLen) (h0 : 0 ≤ m) (h1 : m ≤ 1048576) :
    (∃ r : Int, laws_szProto.f a.f0 a.f1 a.f2 a.f3 m = some r ∧ r < 0) ∨ ∃ r : Int, laws_szProto.f a.f0 a.f1 a.f2 a.f3 m = some r ∧ 0 ≤ r ∧ r = m - a.f2.length - a.f3.length := by
  unfold maxLen at h2 h3
  unfold laws_szProto.f laws_szUpS.f laws_szInsS.f
  rw [wrap64_in (x := m - (a.f2.length : Int)) (by omega) (by omega)]
  by_cases c : m - (a.f2.length : Int) < 0
  · rw [if_pos c]; simp only [obind]; rw [if_pos (by omega)]; exact .inl ⟨-1, rfl, by omega⟩
  · rw [if_neg c]; simp only [obind]
    rw [if_neg c, wrap64_in (by omega) (by omega)]
    by_cases c : m - (a.f2.length : Int) - (a.f3.length : Int) < 0
    · rw [if_pos c]; simp only [obind]; rw [if_pos (by omega)]; exact .inl ⟨-1, rfl, by omega⟩
    · rw [if_neg c]; simp only [obind]; rw [if_neg (by omega)]; exact .inr ⟨_, rfl, by omega, rfl⟩
theorem szLoop (l : List S160) (hf : ∀ a ∈ l, a.f2.length ≤ maxLen ∧ a.f3.length ≤ maxLen) (hn : l.length ≤ 1048576) (d : Nat) : ∀ (k i : Nat) (m : Int), i + d = l.length → d < k → 0 ≤ m → m ≤ 1048576 →
    (∃ r : Int, laws_szProtoS.l0 k l m (i : Int) = some r ∧ r < 0) ∨ ∃ r : Int, laws_szProtoS.l0 k l m (i : Int) = some r ∧ 0 ≤ r ∧ r + (costA (l.drop i) : Int) = m := by
  induction d with
  | zero =>
    intro k i m hi hk h0 h1
    obtain ⟨k, rfl⟩ : ∃ m, k = m + 1 := ⟨k - 1, by omega⟩
    simp only [laws_szProtoS.l0]
    rw [if_neg (by omega), List.drop_of_length_le (by omega)]
    exact .inr ⟨m, rfl, h0, by simp [costA]⟩
  | succ d ih =>
    intro k i m hi hk h0 h1
    obtain ⟨k, rfl⟩ : ∃ m, k = m + 1 := ⟨k - 1, by omega⟩
    have hi' : i < l.length := by omega
    obtain ⟨h2, h3⟩ := hf l[i] (List.getElem_mem hi')
    have e1 : wrap64 ((i : Int) + 1) = ((i + 1 : Nat) : Int) := by unfold wrap64; omega
    simp only [laws_szProtoS.l0]
    rw [if_pos (by omega), if_pos (by omega), pA_nat l i hi', e1]
    rcases szP l[i] m h2 h3 h0 h1 with ⟨r, e, hr⟩ | ⟨r, e, hr, hr2⟩
    · rw [e]; simp only [obind]; rw [if_pos hr]; exact .inl ⟨-1, rfl, by omega⟩
    · rw [e]; simp only [obind]; rw [if_neg (by omega)]
      rw [List.drop_eq_getElem_cons hi', costA_cons]
      rcases ih k (i + 1) r (by omega) (by omega) hr (by omega) with ⟨q, e, hq⟩ | ⟨q, e, hq, hq2⟩
      · exact .inl ⟨q, e, hq⟩
      · exact .inr ⟨q, e, hq, by omega⟩
theorem szSLoop (l : List ByteArray) (hf : ∀ a ∈ l, a.size ≤ maxLen) (hn : l.length ≤ 1048576) (d : Nat) : ∀ (k i : Nat) (m : Int), i + d = l.length → d < k → 0 ≤ m → m ≤ 1048576 →
    ∃ r : Int, laws_szStringS.l0 k l m (i : Int) = some r ∧ r ≤ 1048576 := by
  induction d with
  | zero =>
    intro k i m hi hk h0 h1
    obtain ⟨k, rfl⟩ : ∃ m, k = m + 1 := ⟨k - 1, by omega⟩
    simp only [laws_szStringS.l0]
    rw [if_neg (by omega)]; exact ⟨_, rfl, h1⟩
  | succ d ih =>
    intro k i m hi hk h0 h1
    obtain ⟨k, rfl⟩ : ∃ m, k = m + 1 := ⟨k - 1, by omega⟩
    have hi' : i < l.length := by omega
    have hs := hf l[i] (List.getElem_mem hi')
    unfold maxLen at hs
    have e1 : wrap64 ((i : Int) + 1) = ((i + 1 : Nat) : Int) := by unfold wrap64; omega
    simp only [laws_szStringS.l0]
    rw [if_pos (by omega), if_pos (by omega), s_nat l i hi', e1, wrap64_in (by omega) (by omega)]
    by_cases c : m - (l[i].size : Int) < 0
    · rw [if_pos c]; exact ⟨_, rfl, by omega⟩
    · rw [if_neg c]; exact ih k (i + 1) _ (by omega) (by omega) (by omega) (by omega)
theorem szAll (l : List S160) (t : List ByteArray) (hf : Fine l t) (m : Int) (k : Nat) (hk : l.length + t.length < k) (h0 : 0 ≤ m) (h1 : m ≤ 1048576) :
    (∃ r : Int, laws_szModule.f k l t m = some r ∧ r < 0) ∨ ∃ r : Int, laws_szModule.f k l t m = some r ∧ 0 ≤ r ∧ r ≤ 1048576 ∧ l.length ≤ 1048576 ∧ t.length ≤ 1048576 ∧ costA l ≤ 1048576 := by
  obtain ⟨hl, hp, ht, hs⟩ := hf
  unfold maxLen at hl ht
  unfold laws_szModule.f laws_szProtoS.f laws_szStringS.f
  rw [wrap64_in (x := m - (l.length : Int)) (by omega) (by omega)]
  by_cases c : m - (l.length : Int) < 0
  · rw [if_pos c]; simp only [obind]; rw [if_pos (by omega)]; exact .inl ⟨-1, rfl, by omega⟩
  · rw [if_neg c]
    rcases szLoop l hp (by omega) l.length k 0 (m - l.length) (by omega) (by omega) (by omega) (by omega) with ⟨r, e, hr⟩ | ⟨r, e, hr, hr2⟩
    · have e' : laws_szProtoS.l0 k l (m - (l.length : Int)) 0 = some r := e
      rw [e']; simp only [obind]; rw [if_pos hr]; exact .inl ⟨-1, rfl, by omega⟩
    · have e' : laws_szProtoS.l0 k l (m - (l.length : Int)) 0 = some r := e
      simp only [List.drop_zero] at hr2
      rw [e']; simp only [obind]; rw [if_neg (by omega), wrap64_in (by omega) (by omega)]
      by_cases c : r - (t.length : Int) < 0
      · rw [if_pos c]; simp only [obind]; rw [if_pos (by omega)]; exact .inl ⟨-1, rfl, by omega⟩
      · rw [if_neg c]
        obtain ⟨q, e, hq⟩ := szSLoop t hs (by omega) t.length k 0 (r - t.length) (by omega) (by omega) (by omega) (by omega)
        have e' : laws_szStringS.l0 k t (r - (t.length : Int)) 0 = some q := e
        rw [e']; simp only [obind]
        by_cases cq : q < 0
        · rw [if_pos cq]; exact .inl ⟨-1, rfl, by omega⟩
        · rw [if_neg cq]; exact .inr ⟨q, rfl, by omega, by omega, by omega, by omega, by omega⟩
/-! the copy -/
theorem toPLoop (l : List S160) (hn : l.length ≤ 1048576) (hc : costA l ≤ 1048576) (d : Nat) : ∀ (k i : Nat) (x : List S126), i + d = l.length → x.length = l.length → d + 1048580 < k → x.take i = (l.map protoB).take i →
    laws_toProtoS.l0 k l x (i : Int) = some (l.map protoB) := by
  induction d with
  | zero =>
    intro k i x hi hx hk ht
    obtain ⟨k, rfl⟩ : ∃ m, k = m + 1 := ⟨k - 1, by omega⟩
    simp only [laws_toProtoS.l0]
    rw [if_neg (by omega)]
    rw [List.take_of_length_le (by omega), List.take_of_length_le (by simp; omega)] at ht
    rw [ht]
  | succ d ih =>
    intro k i x hi hx hk ht
    obtain ⟨k, rfl⟩ : ∃ m, k = m + 1 := ⟨k - 1, by omega⟩
    have hi' : i < l.length := by omega
    have hm := mem_costA l l[i] (List.getElem_mem hi')
    have e1 : wrap64 ((i : Int) + 1) = ((i + 1 : Nat) : Int) := by unfold wrap64; omega
    simp only [laws_toProtoS.l0, laws_toProto.f]
    rw [if_pos (by omega), if_pos (by omega), pA_nat l i hi', up_to l[i].f2 (by omega) k (by omega)]
    simp only [obind]
    rw [ins_to l[i].f3 (by omega) k (by omega)]
    simp only [obind]
    rw [if_pos (by omega), e1]
    refine ih k (i + 1) _ (by omega) (by simp [hx]) (by omega) ?_
    simp only [Int.toNat_natCast]
    rw [List.take_succ_eq_append_getElem (by simp; omega), List.take_succ_eq_append_getElem (by simp; omega), List.getElem_set_self, List.take_set_of_le (Nat.le_refl _), ht]
    simp [protoB]
theorem toSLoop (l : List ByteArray) (hn : l.length ≤ 1048576) (d : Nat) : ∀ (k i : Nat) (x : List ByteArray), i + d = l.length → x.length = l.length → d < k → x.take i = l.take i →
    laws_toStringS.l0 k l x (i : Int) = some l := by
  induction d with
  | zero =>
    intro k i x hi hx hk ht
    obtain ⟨k, rfl⟩ : ∃ m, k = m + 1 := ⟨k - 1, by omega⟩
    simp only [laws_toStringS.l0]
    rw [if_neg (by omega)]
    rw [List.take_of_length_le (by omega), List.take_of_length_le (by omega)] at ht
    rw [ht]
  | succ d ih =>
    intro k i x hi hx hk ht
    obtain ⟨k, rfl⟩ : ∃ m, k = m + 1 := ⟨k - 1, by omega⟩
    have hi' : i < l.length := by omega
    have e1 : wrap64 ((i : Int) + 1) = ((i + 1 : Nat) : Int) := by unfold wrap64; omega
    simp only [laws_toStringS.l0]
    rw [if_pos (by omega), if_pos (by omega), if_pos (by omega), s_nat l i hi', e1]
    refine ih k (i + 1) _ (by omega) (by simp [hx]) (by omega) ?_
    simp only [Int.toNat_natCast]
    rw [List.take_succ_eq_append_getElem (by simp; omega), List.take_succ_eq_append_getElem hi', List.getElem_set_self, List.take_set_of_le (Nat.le_refl _), ht]
theorem toAll (l : List S160) (t : List ByteArray) (hn : l.length ≤ 1048576) (ht : t.length ≤ 1048576) (hc : costA l ≤ 1048576) (k : Nat) (hk : 3000000 < k) : laws_toModule.f k l t = some (l.map protoB, t) := by
  unfold laws_toModule.f laws_toProtoS.f laws_toStringS.f
  rw [if_pos (by omega), if_pos (by omega)]
  have e := toPLoop l hn hc l.length k 0 (List.replicate l.length z126) (by omega) (by simp) (by omega) (by simp)
  have e' : laws_toProtoS.l0 k l (List.replicate l.length z126) 0 = some (l.map protoB) := e
  simp only [Int.toNat_natCast]
  rw [e']; simp only [obind]
  rw [if_pos (by omega), if_pos (by omega)]
  have e := toSLoop t ht t.length k 0 (List.replicate t.length ⟨#[]⟩) (by omega) (by simp) (by omega) (by simp)
  have e' : laws_toStringS.l0 k t (List.replicate t.length ⟨#[]⟩) 0 = some t := e
  rw [e']; simp only [obind]
/-! the module stays -/
theorem eqPLoop (a : List S126) (hn : a.length ≤ 1048576) (hc : cost a ≤ 1048576) (d : Nat) : ∀ (k i : Nat), i + d = a.length → d + 1048580 < k → laws_eqProtoS.l0 k a a (i : Int) = some true := by
  induction d with
  | zero =>
    intro k i hi hk
    obtain ⟨k, rfl⟩ : ∃ m, k = m + 1 := ⟨k - 1, by omega⟩
    simp only [laws_eqProtoS.l0]
    rw [if_neg (by omega)]
  | succ d ih =>
    intro k i hi hk
    obtain ⟨k, rfl⟩ : ∃ m, k = m + 1 := ⟨k - 1, by omega⟩
    have ha : i < a.length := by omega
    have hm := mem_cost a a[i] (List.getElem_mem ha)
    have e1 : wrap64 ((i : Int) + 1) = ((i + 1 : Nat) : Int) := by unfold wrap64; omega
    simp only [laws_eqProtoS.l0, laws_eqProto.f]
    rw [if_pos (show (i : Int) < (a.length : Int) by omega), if_pos (show 0 ≤ (i : Int) by omega), if_pos (show (i : Int) < (a.length : Int) by omega), pB_nat a i ha, if_pos trivial, if_pos trivial, up_eq _ (by omega) k (by omega)]
    simp only [obind, if_true]
    rw [ins_eq _ (by omega) k (by omega)]
    simp only [obind, if_true]
    rw [e1]
    exact ih k (i + 1) (by omega) (by omega)
theorem eqSLoop (a : List ByteArray) (hn : a.length ≤ 1048576) (d : Nat) : ∀ (k i : Nat), i + d = a.length → d < k → laws_eqStringS.l0 k a a (i : Int) = some true := by
  induction d with
  | zero =>
    intro k i hi hk
    obtain ⟨k, rfl⟩ : ∃ m, k = m + 1 := ⟨k - 1, by omega⟩
    simp only [laws_eqStringS.l0]
    rw [if_neg (by omega)]
  | succ d ih =>
    intro k i hi hk
    obtain ⟨k, rfl⟩ : ∃ m, k = m + 1 := ⟨k - 1, by omega⟩
    have e1 : wrap64 ((i : Int) + 1) = ((i + 1 : Nat) : Int) := by unfold wrap64; omega
    simp only [laws_eqStringS.l0]
    rw [if_pos (show (i : Int) < (a.length : Int) by omega), if_pos (show 0 ≤ (i : Int) by omega), if_pos (show (i : Int) < (a.length : Int) by omega), if_pos trivial, e1]
    exact ih k (i + 1) (by omega) (by omega)
theorem eqAll (a : List S126) (t : List ByteArray) (hn : a.length ≤ 1048576) (ht : t.length ≤ 1048576) (hc : cost a ≤ 1048576) (k : Nat) (hk : 3000000 < k) : laws_eqModule.f k a t a t = some true := by
  unfold laws_eqModule.f laws_eqProtoS.f laws_eqStringS.f
  rw [if_pos rfl, if_pos rfl]
  have e := eqPLoop a hn hc a.length k 0 (by omega) (by omega)
  have e' : laws_eqProtoS.l0 k a a 0 = some true := e
  rw [e']; simp only [obind, if_true]
  have e := eqSLoop t ht t.length k 0 (by omega) (by omega)
  have e' : laws_eqStringS.l0 k t t 0 = some true := e
  rw [e']; simp only [obind, if_true]
/-! both comparisons -/
def all2 {α : Type} (p : α → α → Bool) : List α → List α → Bool
  | [], _ => true
  | _ :: _, [] => false
  | x :: xs, y :: ys => p x y && all2 p xs ys
def upEq (x y : S133) : Bool := !((!(x.f0 == y.f0)) || (!(x.f1 == y.f1)))
def insEq (x y : S136) : Bool := !((!(x.f0 == y.f0)) || (!(x.f1 == y.f1)))
def txEq (x y : ByteArray) : Bool := decide (x.toList = y.toList)
theorem up_loop2 (a b : List S133) (hl : a.length = b.length) (hn : a.length ≤ 1048576) (d : Nat) : ∀ (k i : Nat), i + d = a.length → d < k →
    impl_Up.l0 k a b (a.length : Int) (i : Int) = some (all2 upEq (a.drop i) (b.drop i)) := by
  induction d with
  | zero =>
    intro k i hi hk
    obtain ⟨k, rfl⟩ : ∃ m, k = m + 1 := ⟨k - 1, by omega⟩
    simp only [impl_Up.l0]
    rw [if_neg (by omega), List.drop_of_length_le (by omega)]
    simp [all2]
  | succ d ih =>
    intro k i hi hk
    obtain ⟨k, rfl⟩ : ∃ m, k = m + 1 := ⟨k - 1, by omega⟩
    have ha : i < a.length := by omega
    have hb : i < b.length := by omega
    have e1 : wrap64 ((i : Int) + 1) = ((i + 1 : Nat) : Int) := by unfold wrap64; omega
    simp only [impl_Up.l0]
    rw [if_pos (show (i : Int) < (a.length : Int) by omega), if_pos (show 0 ≤ (i : Int) by omega), if_pos (show (i : Int) < (a.length : Int) by omega), if_pos (show (i : Int) < (b.length : Int) by omega), up_rdB a i ha, up_rdB b i hb, e1, ih k (i + 1) (by omega) (by omega), List.drop_eq_getElem_cons ha, List.drop_eq_getElem_cons hb]
    simp only [all2, upEq]
    cases ((!(a[i].f0 == b[i].f0)) || (!(a[i].f1 == b[i].f1))) <;> rfl
theorem up_same (a b : List S133) (hn : a.length ≤ 1048576) (k : Nat) (hk : a.length < k) : impl_Up.f k a b = some (decide (a.length = b.length) && all2 upEq a b) := by
  unfold impl_Up.f
  by_cases hl : a.length = b.length
  · rw [if_pos (by omega), decide_eq_true hl]
    exact up_loop2 a b hl hn a.length k 0 (by omega) hk
  · rw [if_neg (by omega), decide_eq_false hl]; rfl
theorem ins_loop2 (a b : List S136) (hl : a.length = b.length) (hn : a.length ≤ 1048576) (d : Nat) : ∀ (k i : Nat), i + d = a.length → d < k →
    impl_Ins.l0 k a b (a.length : Int) (i : Int) = some (all2 insEq (a.drop i) (b.drop i)) := by
  induction d with
  | zero =>
    intro k i hi hk
    obtain ⟨k, rfl⟩ : ∃ m, k = m + 1 := ⟨k - 1, by omega⟩
    simp only [impl_Ins.l0]
    rw [if_neg (by omega), List.drop_of_length_le (by omega)]
    simp [all2]
  | succ d ih =>
    intro k i hi hk
    obtain ⟨k, rfl⟩ : ∃ m, k = m + 1 := ⟨k - 1, by omega⟩
    have ha : i < a.length := by omega
    have hb : i < b.length := by omega
    have e1 : wrap64 ((i : Int) + 1) = ((i + 1 : Nat) : Int) := by unfold wrap64; omega
    simp only [impl_Ins.l0]
    rw [if_pos (show (i : Int) < (a.length : Int) by omega), if_pos (show 0 ≤ (i : Int) by omega), if_pos (show (i : Int) < (a.length : Int) by omega), if_pos (show (i : Int) < (b.length : Int) by omega), ins_rdB a i ha, ins_rdB b i hb, e1, ih k (i + 1) (by omega) (by omega), List.drop_eq_getElem_cons ha, List.drop_eq_getElem_cons hb]
    simp only [all2, insEq]
    cases ((!(a[i].f0 == b[i].f0)) || (!(a[i].f1 == b[i].f1))) <;> rfl
theorem ins_same (a b : List S136) (hn : a.length ≤ 1048576) (k : Nat) (hk : a.length < k) : impl_Ins.f k a b = some (decide (a.length = b.length) && all2 insEq a b) := by
  unfold impl_Ins.f
  by_cases hl : a.length = b.length
  · rw [if_pos (by omega), decide_eq_true hl]
    exact ins_loop2 a b hl hn a.length k 0 (by omega) hk
  · rw [if_neg (by omega), decide_eq_false hl]; rfl
theorem tx_loop (a b : List ByteArray) (hl : a.length = b.length) (hn : a.length ≤ 1048576) (d : Nat) : ∀ (k i : Nat), i + d = a.length → d < k →
    slices_Equal_string_string.l0 k a b (a.length : Int) (i : Int) = some (all2 txEq (a.drop i) (b.drop i)) := by
  induction d with
  | zero =>
    intro k i hi hk
    obtain ⟨k, rfl⟩ : ∃ m, k = m + 1 := ⟨k - 1, by omega⟩
    simp only [slices_Equal_string_string.l0]
    rw [if_neg (by omega), List.drop_of_length_le (by omega)]
    simp [all2]
  | succ d ih =>
    intro k i hi hk
    obtain ⟨k, rfl⟩ : ∃ m, k = m + 1 := ⟨k - 1, by omega⟩
    have ha : i < a.length := by omega
    have hb : i < b.length := by omega
    have e1 : wrap64 ((i : Int) + 1) = ((i + 1 : Nat) : Int) := by unfold wrap64; omega
    simp only [slices_Equal_string_string.l0]
    rw [if_pos (show (i : Int) < (a.length : Int) by omega), if_pos (show 0 ≤ (i : Int) by omega), if_pos (show (i : Int) < (a.length : Int) by omega), if_pos (show (i : Int) < (b.length : Int) by omega), s_nat a i ha, s_nat b i hb, e1, ih k (i + 1) (by omega) (by omega), List.drop_eq_getElem_cons ha, List.drop_eq_getElem_cons hb]
    simp only [all2, txEq]
    by_cases c : a[i].toList = b[i].toList
    · rw [if_pos c, decide_eq_true c]; rfl
    · rw [if_neg c, decide_eq_false c]; rfl
theorem tx_same (a b : List ByteArray) (hn : a.length ≤ 1048576) (k : Nat) (hk : a.length < k) : slices_Equal_string_string.f k a b = some (decide (a.length = b.length) && all2 txEq a b) := by
  unfold slices_Equal_string_string.f
  by_cases hl : a.length = b.length
  · rw [if_pos (by omega), decide_eq_true hl]
    exact tx_loop a b hl hn a.length k 0 (by omega) hk
  · rw [if_neg (by omega), decide_eq_false hl]; rfl
def pEq (x y : S126) : Bool := decide (x.f0 = y.f0) && (decide (x.f1 = y.f1) && ((decide (x.f2.length = y.f2.length) && all2 upEq x.f2 y.f2) && (decide (x.f3.length = y.f3.length) && all2 insEq x.f3 y.f3)))
theorem impl_one (x y : S126) (k : Nat) (hn : x.f2.length + x.f3.length ≤ 1048576) (hk : 1048580 < k) : impl_ModuleSame_1.f k x.f0 x.f1 x.f2 x.f3 y.f0 y.f1 y.f2 y.f3 = some (pEq x y) := by
  unfold impl_ModuleSame_1.f
  rw [up_same _ _ (by omega) k (by omega), ins_same _ _ (by omega) k (by omega)]
  simp only [obind, pEq]
  by_cases c0 : x.f0 = y.f0
  · rw [if_pos c0, decide_eq_true c0]
    by_cases c1 : x.f1 = y.f1
    · rw [if_pos c1, decide_eq_true c1]
      cases (decide (x.f2.length = y.f2.length) && all2 upEq x.f2 y.f2) <;> simp
    · rw [if_neg c1, decide_eq_false c1]; rfl
  · rw [if_neg c0, decide_eq_false c0]; rfl
theorem impl_loop (a b : List S126) (hl : a.length = b.length) (hn : a.length ≤ 1048576) (hc : cost a ≤ 1048576) (d : Nat) : ∀ (k i : Nat), i + d = a.length → d + 1048580 < k →
    impl_Proto.l0 k b a (a.length : Int) (i : Int) = some (all2 pEq (a.drop i) (b.drop i)) := by
  induction d with
  | zero =>
    intro k i hi hk
    obtain ⟨k, rfl⟩ : ∃ m, k = m + 1 := ⟨k - 1, by omega⟩
    simp only [impl_Proto.l0]
    rw [if_neg (by omega), List.drop_of_length_le (by omega)]
    simp [all2]
  | succ d ih =>
    intro k i hi hk
    obtain ⟨k, rfl⟩ : ∃ m, k = m + 1 := ⟨k - 1, by omega⟩
    have ha : i < a.length := by omega
    have hb : i < b.length := by omega
    have hm := mem_cost a a[i] (List.getElem_mem ha)
    have e1 : wrap64 ((i : Int) + 1) = ((i + 1 : Nat) : Int) := by unfold wrap64; omega
    simp only [impl_Proto.l0]
    rw [if_pos (show (i : Int) < (a.length : Int) by omega), if_pos (show 0 ≤ (i : Int) by omega), if_pos (show (i : Int) < (a.length : Int) by omega), if_pos (show (i : Int) < (b.length : Int) by omega), pB_nat a i ha, pB_nat b i hb, impl_one _ _ k (by omega) (by omega), e1]
    simp only [obind]
    rw [ih k (i + 1) (by omega) (by omega), List.drop_eq_getElem_cons ha, List.drop_eq_getElem_cons hb]
    simp only [all2]
    cases pEq a[i] b[i] <;> simp
theorem spec_ins (p0 p1 : Int) (p2 : List S133) (a : List S136) (q0 q1 : Int) (q2 : List S133) (b : List S136) (hl : a.length = b.length) (hn : a.length ≤ 1048576) (d : Nat) : ∀ (k i : Nat), i + d = a.length → d < k →
    spec_l10SameProto.l1 k (i : Int) p0 p1 p2 a q0 q1 q2 b = some (all2 insEq (a.drop i) (b.drop i)) := by
  induction d with
  | zero =>
    intro k i hi hk
    obtain ⟨k, rfl⟩ : ∃ m, k = m + 1 := ⟨k - 1, by omega⟩
    simp only [spec_l10SameProto.l1]
    rw [if_neg (by omega), List.drop_of_length_le (by omega)]
    simp [all2]
  | succ d ih =>
    intro k i hi hk
    obtain ⟨k, rfl⟩ : ∃ m, k = m + 1 := ⟨k - 1, by omega⟩
    have ha : i < a.length := by omega
    have hb : i < b.length := by omega
    have e1 : wrap64 ((i : Int) + 1) = ((i + 1 : Nat) : Int) := by unfold wrap64; omega
    simp only [spec_l10SameProto.l1]
    rw [if_pos (show (i : Int) < (a.length : Int) by omega), if_pos (show 0 ≤ (i : Int) by omega), if_pos (show (i : Int) < (b.length : Int) by omega), ins_rdB a i ha, ins_rdB b i hb, e1, ih k (i + 1) (by omega) (by omega), List.drop_eq_getElem_cons ha, List.drop_eq_getElem_cons hb]
    simp only [all2, insEq]
    cases ((!(a[i].f0 == b[i].f0)) || (!(a[i].f1 == b[i].f1))) <;> rfl
theorem spec_ups (p0 p1 : Int) (a : List S133) (p3 : List S136) (q0 q1 : Int) (b : List S133) (q3 : List S136) (hl : a.length = b.length) (hn : a.length ≤ 1048576) (h3 : p3.length = q3.length) (hn3 : p3.length ≤ 1048576) (d : Nat) : ∀ (k i : Nat), i + d = a.length → d + 1048580 < k →
    spec_l10SameProto.l0 k (i : Int) p0 p1 a p3 q0 q1 b q3 = some (all2 upEq (a.drop i) (b.drop i) && all2 insEq p3 q3) := by
  induction d with
  | zero =>
    intro k i hi hk
    obtain ⟨k, rfl⟩ : ∃ m, k = m + 1 := ⟨k - 1, by omega⟩
    simp only [spec_l10SameProto.l0]
    have e : spec_l10SameProto.l1 k 0 p0 p1 a p3 q0 q1 b q3 = some (all2 insEq p3 q3) := spec_ins p0 p1 a p3 q0 q1 b q3 h3 hn3 p3.length k 0 (by omega) (by omega)
    rw [if_neg (by omega), List.drop_of_length_le (by omega), e]
    simp [all2]
  | succ d ih =>
    intro k i hi hk
    obtain ⟨k, rfl⟩ : ∃ m, k = m + 1 := ⟨k - 1, by omega⟩
    have ha : i < a.length := by omega
    have hb : i < b.length := by omega
    have e1 : wrap64 ((i : Int) + 1) = ((i + 1 : Nat) : Int) := by unfold wrap64; omega
    simp only [spec_l10SameProto.l0]
    rw [if_pos (show (i : Int) < (a.length : Int) by omega), if_pos (show 0 ≤ (i : Int) by omega), if_pos (show (i : Int) < (b.length : Int) by omega), up_rdB a i ha, up_rdB b i hb, e1, ih k (i + 1) (by omega) (by omega), List.drop_eq_getElem_cons ha, List.drop_eq_getElem_cons hb]
    simp only [all2, upEq]
    cases ((!(a[i].f0 == b[i].f0)) || (!(a[i].f1 == b[i].f1))) <;> rfl
theorem spec_one (x y : S126) (k : Nat) (hn : x.f2.length + x.f3.length ≤ 1048576) (hk : 3000000 < k) : spec_l10SameProto.f k x.f0 x.f1 x.f2 x.f3 y.f0 y.f1 y.f2 y.f3 = some (pEq x y) := by
  obtain ⟨k, rfl⟩ : ∃ m, k = m + 1 := ⟨k - 1, by omega⟩
  unfold spec_l10SameProto.f
  simp only [spec_l10SameProto.j0, pEq, if_true]
  by_cases c0 : x.f0 = y.f0
  · rw [if_pos c0, decide_eq_true c0]
    by_cases c1 : x.f1 = y.f1
    · rw [if_pos c1, decide_eq_true c1]
      by_cases c2 : x.f2.length = y.f2.length
      · rw [if_pos (by omega), decide_eq_true c2]
        by_cases c3 : x.f3.length = y.f3.length
        · have e : spec_l10SameProto.l0 k 0 x.f0 x.f1 x.f2 x.f3 y.f0 y.f1 y.f2 y.f3 = some (all2 upEq x.f2 y.f2 && all2 insEq x.f3 y.f3) := spec_ups x.f0 x.f1 x.f2 x.f3 y.f0 y.f1 y.f2 y.f3 c2 (by omega) c3 (by omega) x.f2.length k 0 (by omega) (by omega)
          rw [if_neg (by simp [c3]), decide_eq_true c3, e]
          rfl
        · rw [if_pos (by simp; omega), decide_eq_false c3]
          simp
      · rw [if_neg (by omega), decide_eq_false c2]; rfl
    · rw [if_neg c1, decide_eq_false c1]; rfl
  · rw [if_neg c0, decide_eq_false c0]; rfl
section
variable (P : List S126) (T : List ByteArray) (Q : List S126) (U : List ByteArray)
theorem spec_txt (hl : T.length = U.length) (hn : T.length ≤ 1048576) (d : Nat) : ∀ (k i : Nat), i + d = T.length → d < k →
    spec_ModuleSame.l1 k (i : Int) P T Q U = some (all2 txEq (T.drop i) (U.drop i)) := by
  induction d with
  | zero =>
    intro k i hi hk
    obtain ⟨k, rfl⟩ : ∃ m, k = m + 1 := ⟨k - 1, by omega⟩
    simp only [spec_ModuleSame.l1]
    rw [if_neg (by omega), List.drop_of_length_le (by omega)]
    simp [all2]
  | succ d ih =>
    intro k i hi hk
    obtain ⟨k, rfl⟩ : ∃ m, k = m + 1 := ⟨k - 1, by omega⟩
    have ha : i < T.length := by omega
    have hb : i < U.length := by omega
    have e1 : wrap64 ((i : Int) + 1) = ((i + 1 : Nat) : Int) := by unfold wrap64; omega
    simp only [spec_ModuleSame.l1]
    rw [if_pos (show (i : Int) < (T.length : Int) by omega), if_pos (show 0 ≤ (i : Int) by omega), if_pos (show (i : Int) < (U.length : Int) by omega), s_nat T i ha, s_nat U i hb, e1, ih k (i + 1) (by omega) (by omega), List.drop_eq_getElem_cons ha, List.drop_eq_getElem_cons hb]
    simp only [all2, txEq]
    by_cases c : T[i].toList = U[i].toList
    · rw [if_pos c, decide_eq_true c]; rfl
    · rw [if_neg c, decide_eq_false c]; rfl
theorem spec_loop (hl : P.length = Q.length) (hn : P.length ≤ 1048576) (hc : cost P ≤ 1048576) (ht : T.length = U.length) (hn2 : T.length ≤ 1048576) (M : Nat) (hM : 3000000 < M) (d : Nat) : ∀ (k i : Nat), i + d = P.length → d + M < k →
    spec_ModuleSame.l0 k (i : Int) P T Q U = some (all2 pEq (P.drop i) (Q.drop i) && all2 txEq T U) := by
  induction d with
  | zero =>
    intro k i hi hk
    obtain ⟨k, rfl⟩ : ∃ m, k = m + 1 := ⟨k - 1, by omega⟩
    simp only [spec_ModuleSame.l0]
    have e : spec_ModuleSame.l1 k 0 P T Q U = some (all2 txEq T U) := spec_txt P T Q U ht hn2 T.length k 0 (by omega) (by omega)
    rw [if_neg (by omega), List.drop_of_length_le (by omega), e]
    simp [all2]
  | succ d ih =>
    intro k i hi hk
    obtain ⟨k, rfl⟩ : ∃ m, k = m + 1 := ⟨k - 1, by omega⟩
    have hk3 : 3000000 < k := by clear ih hn hc hn2; omega
    have hk4 : d + M < k := by clear hM; omega
    clear hM
    have ha : i < P.length := by omega
    have hb : i < Q.length := by omega
    have hm := mem_cost P P[i] (List.getElem_mem ha)
    have e1 : wrap64 ((i : Int) + 1) = ((i + 1 : Nat) : Int) := by unfold wrap64; omega
    simp only [spec_ModuleSame.l0]
    rw [if_pos (Int.ofNat_lt.2 ha), if_pos (Int.natCast_nonneg i), if_pos (Int.ofNat_lt.2 hb), pB_nat P i ha, pB_nat Q i hb, spec_one _ _ k (by clear hk3; omega) hk3, e1]
    simp only [obind]
    rw [ih k (i + 1) (by clear hk3; omega) hk4, List.drop_eq_getElem_cons ha, List.drop_eq_getElem_cons hb]
    simp only [all2]
    cases pEq P[i] Q[i] <;> simp
theorem both (hn : P.length ≤ 1048576) (hc : cost P ≤ 1048576) (hn2 : T.length ≤ 1048576) (k : Nat) (hk : 9000000 < k) :
    ∃ b, spec_ModuleSame.f k P T Q U = some b ∧ impl_ModuleSame.f k P T Q U = some b := by
  have ei : impl_ModuleSame.f k P T Q U = some ((decide (T.length = U.length) && all2 txEq T U) && (decide (P.length = Q.length) && all2 pEq P Q)) := by
    unfold impl_ModuleSame.f impl_Proto.f
    rw [tx_same T U hn2 k (by omega)]
    simp only [obind]
    by_cases c : P.length = Q.length
    · have e : impl_Proto.l0 k Q P (P.length : Int) 0 = some (all2 pEq P Q) := impl_loop P Q c hn hc P.length k 0 (by omega) (by omega)
      rw [if_pos (show (P.length : Int) = (Q.length : Int) by omega), e, decide_eq_true c]
      simp only [obind, Bool.true_and]
      cases (decide (T.length = U.length) && all2 txEq T U) <;> simp
    · rw [if_neg (show ¬ (P.length : Int) = (Q.length : Int) by omega), decide_eq_false c]
      simp only [obind, Bool.false_and, Bool.and_false]
      split <;> rfl
  have es : spec_ModuleSame.f k P T Q U = some ((decide (T.length = U.length) && all2 txEq T U) && (decide (P.length = Q.length) && all2 pEq P Q)) := by
    obtain ⟨k', rfl⟩ : ∃ m, k = m + 1 := ⟨k - 1, by omega⟩
    unfold spec_ModuleSame.f
    simp only [spec_ModuleSame.j0, if_true]
    by_cases c : P.length = Q.length
    · rw [if_pos (show (P.length : Int) = (Q.length : Int) by omega), decide_eq_true c]
      by_cases c2 : T.length = U.length
      · have e2 : spec_ModuleSame.l0 k' 0 P T Q U = some (all2 pEq P Q && all2 txEq T U) := spec_loop P T Q U c hn hc c2 hn2 3000001 (by omega) P.length k' 0 (by omega) (by omega)
        rw [if_neg (by simp [c2]), e2, decide_eq_true c2]
        cases all2 txEq T U <;> simp
      · rw [if_pos (by simp; omega), decide_eq_false c2]; rfl
    · rw [if_neg (show ¬ (P.length : Int) = (Q.length : Int) by omega), decide_eq_false c]
      simp
  exact ⟨_, es, ei⟩
end
end ModOk
open ModOk
theorem FnExactModuleSame (l : List S160) (t : List ByteArray) (m : List S160) (u : List ByteArray) (hf : Fine l t) (hg : Fine m u) : ∃ k, laws_FnExactModuleSame.f k l t m u = some true := by
  obtain ⟨K, hK⟩ : ∃ K, K = l.length + t.length + (m.length + u.length) + 10000000 := ⟨_, rfl⟩
  refine ⟨K, ?_⟩
  unfold laws_FnExactModuleSame.f
  rcases szAll l t hf 1048576 K (by omega) (by omega) (by omega) with ⟨r, e, hr⟩ | ⟨r, e, hr, hr1, hl, ht, hc⟩
  · rw [e]; simp only [obind]; rw [if_pos hr]
  rw [e]; simp only [obind]; rw [if_neg (by omega)]
  rcases szAll m u hg r K (by omega) (by omega) (by omega) with ⟨s, e, hs⟩ | ⟨s, e, hs, hs1, hm, hu, hd⟩
  · rw [e]; simp only [obind]; rw [if_pos hs]
  rw [e]; simp only [obind]; rw [if_neg (by omega)]
  rw [toAll l t hl ht hc K (by omega)]; simp only [obind]
  rw [toAll m u hm hu hd K (by omega)]; simp only [obind]
  have hc1 : cost (l.map protoB) ≤ 1048576 := by rw [cost_map]; exact hc
  have hn1 : (l.map protoB).length ≤ 1048576 := by simpa using hl
  have hc2 : cost (m.map protoB) ≤ 1048576 := by rw [cost_map]; exact hd
  have hn2 : (m.map protoB).length ≤ 1048576 := by simpa using hm
  obtain ⟨b, e1, e2⟩ := both (l.map protoB) t (m.map protoB) u hn1 hc1 ht K (by omega)
  rw [e1]; simp only [obind]
  rw [e2]; simp only [obind, bne_self_eq_false, Bool.false_eq_true, if_false]
  rw [eqAll _ t hn1 ht hc1 K (by omega)]; simp only [obind, if_true]
  rw [eqAll _ u hn2 hu hc2 K (by omega)]; simp only [obind, if_true]
end Go.Proofs.Ytpfbhjnlihhpkaa.Pure
