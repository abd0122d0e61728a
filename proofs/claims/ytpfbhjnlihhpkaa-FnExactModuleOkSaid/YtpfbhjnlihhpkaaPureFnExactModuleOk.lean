/- ModuleOk: the program's and the reference's answers are the same at every module; the module stays. -/
import Derived.Test.YtpfbhjnlihhpkaaPFnExactModuleOkx10
import Derived.Test.YtpfbhjnlihhpkaaBase
namespace Go.Proofs.Ytpfbhjnlihhpkaa.Pure
open Go.RowKit Go.Proofs.Ytpfbhjnlihhpkaa.PFnExactModuleOk Go.Proofs.YtpfbhjnlihhpkaaW.PrintWords Go.Proofs.YtpfbhjnlihhpkaaW.PrintLast Go.Proofs.Ytpfbhjnlihhpkaa.Base
set_option linter.unusedVariables false
set_option linter.unusedSimpArgs false
namespace ModOk
def upB (a : S170) : S133 := ⟨a.f0, a.f1⟩
def insB (a : S172) : S136 := ⟨a.f0, a.f1⟩
def protoB (a : S160) : S126 := ⟨a.f0, a.f1, a.f2.map upB, a.f3.map insB⟩
theorem up_rdA (l : List S170) (i : Nat) (h : i < l.length) : rd_T170 l (i : Int) = l[i] := by simp [rd_T170, h]
theorem up_toLoop (l : List S170) (hn : l.length ≤ 1048576) (d : Nat) : ∀ (k i : Nat) (x : List S133), i + d = l.length → x.length = l.length → d < k → x.take i = (l.map upB).take i →
    laws_toUpS.l0 k l x (i : Int) = some (l.map upB) := by
  induction d with
  | zero =>
    intro k i x hi hx hk ht
    obtain ⟨k, rfl⟩ : ∃ m, k = m + 1 := ⟨k - 1, by omega⟩
    simp only [laws_toUpS.l0]
    rw [if_neg (by omega)]
    rw [List.take_of_length_le (by omega), List.take_of_length_le (by simp; omega)] at ht
    rw [ht]
  | succ d ih =>
    intro k i x hi hx hk ht
    obtain ⟨k, rfl⟩ : ∃ m, k = m + 1 := ⟨k - 1, by omega⟩
    have hi' : i < l.length := by omega
    have e1 : wrap64 ((i : Int) + 1) = ((i + 1 : Nat) : Int) := by unfold wrap64; omega
    simp only [laws_toUpS.l0, laws_toUp.f, obind]
    rw [if_pos (by omega), if_pos (by omega), if_pos (by omega), up_rdA l i hi', e1]
    refine ih k (i + 1) _ (by omega) (by simp [hx]) (by omega) ?_
    simp only [Int.toNat_natCast]
    rw [List.take_succ_eq_append_getElem (by simp; omega), List.take_succ_eq_append_getElem (by simp; omega), List.getElem_set_self, List.take_set_of_le (Nat.le_refl _), ht]
    simp [upB]
theorem up_to (l : List S170) (hn : l.length ≤ 1048576) (k : Nat) (hk : l.length < k) : laws_toUpS.f k l = some (l.map upB) := by
  unfold laws_toUpS.f
  rw [if_pos (by omega), if_pos (by omega)]
  have := up_toLoop l hn l.length k 0 (List.replicate l.length z133) (by omega) (by simp) hk (by simp)
  simpa using this
theorem ins_rdA (l : List S172) (i : Nat) (h : i < l.length) : rd_T172 l (i : Int) = l[i] := by simp [rd_T172, h]
theorem ins_toLoop (l : List S172) (hn : l.length ≤ 1048576) (d : Nat) : ∀ (k i : Nat) (x : List S136), i + d = l.length → x.length = l.length → d < k → x.take i = (l.map insB).take i →
    laws_toInsS.l0 k l x (i : Int) = some (l.map insB) := by
  induction d with
  | zero =>
    intro k i x hi hx hk ht
    obtain ⟨k, rfl⟩ : ∃ m, k = m + 1 := ⟨k - 1, by omega⟩
    simp only [laws_toInsS.l0]
    rw [if_neg (by omega)]
    rw [List.take_of_length_le (by omega), List.take_of_length_le (by simp; omega)] at ht
    rw [ht]
  | succ d ih =>
    intro k i x hi hx hk ht
    obtain ⟨k, rfl⟩ : ∃ m, k = m + 1 := ⟨k - 1, by omega⟩
    have hi' : i < l.length := by omega
    have e1 : wrap64 ((i : Int) + 1) = ((i + 1 : Nat) : Int) := by unfold wrap64; omega
    simp only [laws_toInsS.l0, laws_toIns.f, obind]
    rw [if_pos (by omega), if_pos (by omega), if_pos (by omega), ins_rdA l i hi', e1]
    refine ih k (i + 1) _ (by omega) (by simp [hx]) (by omega) ?_
    simp only [Int.toNat_natCast]
    rw [List.take_succ_eq_append_getElem (by simp; omega), List.take_succ_eq_append_getElem (by simp; omega), List.getElem_set_self, List.take_set_of_le (Nat.le_refl _), ht]
    simp [insB]
theorem ins_to (l : List S172) (hn : l.length ≤ 1048576) (k : Nat) (hk : l.length < k) : laws_toInsS.f k l = some (l.map insB) := by
  unfold laws_toInsS.f
  rw [if_pos (by omega), if_pos (by omega)]
  have := ins_toLoop l hn l.length k 0 (List.replicate l.length z136) (by omega) (by simp) hk (by simp)
  simpa using this
theorem up_rdB (l : List S133) (i : Nat) (h : i < l.length) : rd_T133 l (i : Int) = l[i] := by simp [rd_T133, h]
theorem up_eqLoop (a : List S133) (hn : a.length ≤ 1048576) (d : Nat) : ∀ (k i : Nat), i + d = a.length → d < k → laws_eqUpS.l0 k a a (i : Int) = some true := by
  induction d with
  | zero =>
    intro k i hi hk
    obtain ⟨k, rfl⟩ : ∃ m, k = m + 1 := ⟨k - 1, by omega⟩
    simp only [laws_eqUpS.l0]
    rw [if_neg (by omega)]
  | succ d ih =>
    intro k i hi hk
    obtain ⟨k, rfl⟩ : ∃ m, k = m + 1 := ⟨k - 1, by omega⟩
    have e1 : wrap64 ((i : Int) + 1) = ((i + 1 : Nat) : Int) := by unfold wrap64; omega
    simp only [laws_eqUpS.l0, laws_eqUp.f, bne_self_eq_false, Bool.false_eq_true, if_false, if_true, obind]
    rw [if_pos (show (i : Int) < (a.length : Int) by omega), if_pos (show 0 ≤ (i : Int) by omega), if_pos (show (i : Int) < (a.length : Int) by omega), e1]
    exact ih k (i + 1) (by omega) (by omega)
theorem up_eq (a : List S133) (hn : a.length ≤ 1048576) (k : Nat) (hk : a.length < k) : laws_eqUpS.f k a a = some true := by
  unfold laws_eqUpS.f
  rw [if_pos rfl]
  exact up_eqLoop a hn a.length k 0 (by omega) hk
theorem ins_rdB (l : List S136) (i : Nat) (h : i < l.length) : rd_T136 l (i : Int) = l[i] := by simp [rd_T136, h]
theorem ins_eqLoop (a : List S136) (hn : a.length ≤ 1048576) (d : Nat) : ∀ (k i : Nat), i + d = a.length → d < k → laws_eqInsS.l0 k a a (i : Int) = some true := by
  induction d with
  | zero =>
    intro k i hi hk
    obtain ⟨k, rfl⟩ : ∃ m, k = m + 1 := ⟨k - 1, by omega⟩
    simp only [laws_eqInsS.l0]
    rw [if_neg (by omega)]
  | succ d ih =>
    intro k i hi hk
    obtain ⟨k, rfl⟩ : ∃ m, k = m + 1 := ⟨k - 1, by omega⟩
    have e1 : wrap64 ((i : Int) + 1) = ((i + 1 : Nat) : Int) := by unfold wrap64; omega
    simp only [laws_eqInsS.l0, laws_eqIns.f, bne_self_eq_false, Bool.false_eq_true, if_false, if_true, obind]
    rw [if_pos (show (i : Int) < (a.length : Int) by omega), if_pos (show 0 ≤ (i : Int) by omega), if_pos (show (i : Int) < (a.length : Int) by omega), e1]
    exact ih k (i + 1) (by omega) (by omega)
theorem ins_eq (a : List S136) (hn : a.length ≤ 1048576) (k : Nat) (hk : a.length < k) : laws_eqInsS.f k a a = some true := by
  unfold laws_eqInsS.f
  rw [if_pos rfl]
  exact ins_eqLoop a hn a.length k 0 (by omega) hk
theorem pA_nat (l : List S160) (i : Nat) (h : i < l.length) : rd_T160 l (i : Int) = l[i] := by simp [rd_T160, h]
theorem pB_nat (l : List S126) (i : Nat) (h : i < l.length) : rd_T126 l (i : Int) = l[i] := by simp [rd_T126, h]
theorem s_nat (l : List ByteArray) (i : Nat) (h : i < l.length) : rdOf ByteArray.empty l (i : Int) = l[i] := by simp [rdOf, h]
def Fine (l : List S160) (t : List ByteArray) : Prop := l.length ≤ maxLen ∧ (∀ a ∈ l, a.f2.length ≤ maxLen ∧ a.f3.length ≤ maxLen) ∧ t.length ≤ maxLen ∧ ∀ s ∈ t, s.size ≤ maxLen
def costA (l : List S160) : Nat := (l.map fun a => a.f2.length + a.f3.length).sum
def cost (l : List S126) : Nat := (l.map fun a => a.f2.length + a.f3.length).sum
theorem costA_cons (a : S160) (l : List S160) : costA (a :: l) = a.f2.length + a.f3.length + costA l := by simp [costA]
theorem cost_map (l : List S160) : cost (l.map protoB) = costA l := by simp [cost, costA, protoB, Function.comp_def]
theorem mem_costA (l : List S160) (a : S160) (h : a ∈ l) : a.f2.length + a.f3.length ≤ costA l := by
  induction l with
  | nil => simp at h
  | cons b l ih =>
    rw [costA_cons]
    rcases List.mem_cons.1 h with rfl | h
    · omega
    · have := ih h; omega
theorem mem_cost (l : List S126) (a : S126) (h : a ∈ l) : a.f2.length + a.f3.length ≤ cost l := by
  induction l with
  | nil => simp at h
  | cons b l ih =>
    have : cost (b :: l) = b.f2.length + b.f3.length + cost l := by simp [cost]
    rw [this]
    rcases List.mem_cons.1 h with rfl | h
    · omega
    · have := ih h; omega
/-! the size -/
theorem szP (a : S160) (m : Int) (h2 : a.f2.length ≤ maxLen) (h3 : a.f3.length ≤ maxLen) (h0 : 0 ≤ m) (h1 : m ≤ 1048576) :
    (∃ r : Int, laws_szProto.f a.f0 a.f1 a.f2 a.f3 m = some r ∧ r < 0) ∨ ∃ r : Int, laws_szProto.f a.f0 a.f1 a.f2 a.f3 m = some r ∧ 0 ≤ r ∧ r = m - a.f2.length - a.f3.length := by
  unfold maxLen at h2 h3
  unfold laws_szProto.f laws_szUpS.f laws_szInsS.f
  rw [wrap64_in (x := m - (a.f2.length : Int)) (by omega) (by omega)]
  by_cases c : m - (a.f2.length : Int) < 0
  · rw [if_pos c]; simp only [obind]; rw [if_pos (by omega)]; exact .inl ⟨-1, rfl, by omega⟩
  · rw [if_neg c]; simp only [obind]
    rw [if_neg c, wrap64_in (by omega) (by omega)]
    by_cases c : m - (a.f2.length : Int) - (a.f3.length : Int) < 0
    · rw [if_pos c]; simp only [obind]; rw [if_pos (by omega)]; exact .inl ⟨-1, rfl, by omega⟩
    · rw [if_neg c]; simp only [obind]; rw [if_neg (by omega)]; exact .inr ⟨_, rfl, by omega, rfl⟩
theorem szLoop (l : List S160) (hf : ∀ a ∈ l, a.f2.length ≤ maxLen ∧ a.f3.length ≤ maxLen) (hn : l.length ≤ 1048576) (d : Nat) : ∀ (k i : Nat) (m : Int), i + d = l.length → d < k → 0 ≤ m → m ≤ 1048576 →
    (∃ r : Int, laws_szProtoS.l0 k l m (i : Int) = some r ∧ r < 0) ∨ ∃ r : Int, laws_szProtoS.l0 k l m (i : Int) = some r ∧ 0 ≤ r ∧ r + (costA (l.drop i) : Int) = m := by
  induction d with
  | zero =>
    intro k i m hi hk h0 h1
    obtain ⟨k, rfl⟩ : ∃ m, k = m + 1 := ⟨k - 1, by omega⟩
    simp only [laws_szProtoS.l0]
    rw [if_neg (by omega), List.drop_of_length_le (by omega)]
    exact .inr ⟨m, rfl, h0, by simp [costA]⟩
  | succ d ih =>
    intro k i m hi hk h0 h1
    obtain ⟨k, rfl⟩ : ∃ m, k = m + 1 := ⟨k - 1, by omega⟩
    have hi' : i < l.length := by omega
    obtain ⟨h2, h3⟩ := hf l[i] (List.getElem_mem hi')
    have e1 : wrap64 ((i : Int) + 1) = ((i + 1 : Nat) : Int) := by unfold wrap64; omega
    simp only [laws_szProtoS.l0]
    rw [if_pos (by omega), if_pos (by omega), pA_nat l i hi', e1]
    rcases szP l[i] m h2 h3 h0 h1 with ⟨r, e, hr⟩ | ⟨r, e, hr, hr2⟩
    · rw [e]; simp only [obind]; rw [if_pos hr]; exact .inl ⟨-1, rfl, by omega⟩
    · rw [e]; simp only [obind]; rw [if_neg (by omega)]
      rw [List.drop_eq_getElem_cons hi', costA_cons]
      rcases ih k (i + 1) r (by omega) (by omega) hr (by omega) with ⟨q, e, hq⟩ | ⟨q, e, hq, hq2⟩
      · exact .inl ⟨q, e, hq⟩
      · exact .inr ⟨q, e, hq, by omega⟩
theorem szSLoop (l : List ByteArray) (hf : ∀ a ∈ l, a.size ≤ maxLen) (hn : l.length ≤ 1048576) (d : Nat) : ∀ (k i : Nat) (m : Int), i + d = l.length → d < k → 0 ≤ m → m ≤ 1048576 →
    ∃ r : Int, laws_szStringS.l0 k l m (i : Int) = some r := by
  induction d with
  | zero =>
    intro k i m hi hk h0 h1
    obtain ⟨k, rfl⟩ : ∃ m, k = m + 1 := ⟨k - 1, by omega⟩
    simp only [laws_szStringS.l0]
    rw [if_neg (by omega)]; exact ⟨_, rfl⟩
  | succ d ih =>
    intro k i m hi hk h0 h1
    obtain ⟨k, rfl⟩ : ∃ m, k = m + 1 := ⟨k - 1, by omega⟩
    have hi' : i < l.length := by omega
    have hs := hf l[i] (List.getElem_mem hi')
    unfold maxLen at hs
    have e1 : wrap64 ((i : Int) + 1) = ((i + 1 : Nat) : Int) := by unfold wrap64; omega
    simp only [laws_szStringS.l0]
    rw [if_pos (by omega), if_pos (by omega), s_nat l i hi', e1, wrap64_in (by omega) (by omega)]
    by_cases c : m - (l[i].size : Int) < 0
    · rw [if_pos c]; exact ⟨_, rfl⟩
    · rw [if_neg c]; exact ih k (i + 1) _ (by omega) (by omega) (by omega) (by omega)
theorem szAll (l : List S160) (t : List ByteArray) (hf : Fine l t) (k : Nat) (hk : l.length + t.length < k) :
    (∃ r : Int, laws_szModule.f k l t 1048576 = some r ∧ r < 0) ∨ ∃ r : Int, laws_szModule.f k l t 1048576 = some r ∧ 0 ≤ r ∧ l.length ≤ 1048576 ∧ t.length ≤ 1048576 ∧ costA l ≤ 1048576 := by
  obtain ⟨hl, hp, ht, hs⟩ := hf
  unfold maxLen at hl ht
  unfold laws_szModule.f laws_szProtoS.f laws_szStringS.f
  rw [wrap64_in (x := 1048576 - (l.length : Int)) (by omega) (by omega)]
  by_cases c : 1048576 - (l.length : Int) < 0
  · rw [if_pos c]; simp only [obind]; rw [if_pos (by omega)]; exact .inl ⟨-1, rfl, by omega⟩
  · rw [if_neg c]
    rcases szLoop l hp (by omega) l.length k 0 (1048576 - l.length) (by omega) (by omega) (by omega) (by omega) with ⟨r, e, hr⟩ | ⟨r, e, hr, hr2⟩
    · have e' : laws_szProtoS.l0 k l (1048576 - (l.length : Int)) 0 = some r := e
      rw [e']; simp only [obind]; rw [if_pos hr]; exact .inl ⟨-1, rfl, by omega⟩
    · have e' : laws_szProtoS.l0 k l (1048576 - (l.length : Int)) 0 = some r := e
      simp only [List.drop_zero] at hr2
      rw [e']; simp only [obind]; rw [if_neg (by omega), wrap64_in (by omega) (by omega)]
      by_cases c : r - (t.length : Int) < 0
      · rw [if_pos c]; simp only [obind]; rw [if_pos (by omega)]; exact .inl ⟨-1, rfl, by omega⟩
      · rw [if_neg c]
        obtain ⟨q, e⟩ := szSLoop t hs (by omega) t.length k 0 (r - t.length) (by omega) (by omega) (by omega) (by omega)
        have e' : laws_szStringS.l0 k t (r - (t.length : Int)) 0 = some q := e
        rw [e']; simp only [obind]
        by_cases cq : q < 0
        · rw [if_pos cq]; exact .inl ⟨-1, rfl, by omega⟩
        · rw [if_neg cq]; exact .inr ⟨q, rfl, by omega, by omega, by omega, by omega⟩
/-! the copy -/
theorem toPLoop (l : List S160) (hn : l.length ≤ 1048576) (hc : costA l ≤ 1048576) (d : Nat) : ∀ (k i : Nat) (x : List S126), i + d = l.length → x.length = l.length → d + 1048580 < k → x.take i = (l.map protoB).take i →
    laws_toProtoS.l0 k l x (i : Int) = some (l.map protoB) := by
  induction d with
  | zero =>
    intro k i x hi hx hk ht
    obtain ⟨k, rfl⟩ : ∃ m, k = m + 1 := ⟨k - 1, by omega⟩
    simp only [laws_toProtoS.l0]
    rw [if_neg (by omega)]
    rw [List.take_of_length_le (by omega), List.take_of_length_le (by simp; omega)] at ht
    rw [ht]
  | succ d ih =>
    intro k i x hi hx hk ht
    obtain ⟨k, rfl⟩ : ∃ m, k = m + 1 := ⟨k - 1, by omega⟩
    have hi' : i < l.length := by omega
    have hm := mem_costA l l[i] (List.getElem_mem hi')
    have e1 : wrap64 ((i : Int) + 1) = ((i + 1 : Nat) : Int) := by unfold wrap64; omega
    simp only [laws_toProtoS.l0, laws_toProto.f]
    rw [if_pos (by omega), if_pos (by omega), pA_nat l i hi', up_to l[i].f2 (by omega) k (by omega)]
    simp only [obind]
    rw [ins_to l[i].f3 (by omega) k (by omega)]
    simp only [obind]
    rw [if_pos (by omega), e1]
    refine ih k (i + 1) _ (by omega) (by simp [hx]) (by omega) ?_
    simp only [Int.toNat_natCast]
    rw [List.take_succ_eq_append_getElem (by simp; omega), List.take_succ_eq_append_getElem (by simp; omega), List.getElem_set_self, List.take_set_of_le (Nat.le_refl _), ht]
    simp [protoB]
theorem toSLoop (l : List ByteArray) (hn : l.length ≤ 1048576) (d : Nat) : ∀ (k i : Nat) (x : List ByteArray), i + d = l.length → x.length = l.length → d < k → x.take i = l.take i →
    laws_toStringS.l0 k l x (i : Int) = some l := by
  induction d with
  | zero =>
    intro k i x hi hx hk ht
    obtain ⟨k, rfl⟩ : ∃ m, k = m + 1 := ⟨k - 1, by omega⟩
    simp only [laws_toStringS.l0]
    rw [if_neg (by omega)]
    rw [List.take_of_length_le (by omega), List.take_of_length_le (by omega)] at ht
    rw [ht]
  | succ d ih =>
    intro k i x hi hx hk ht
    obtain ⟨k, rfl⟩ : ∃ m, k = m + 1 := ⟨k - 1, by omega⟩
    have hi' : i < l.length := by omega
    have e1 : wrap64 ((i : Int) + 1) = ((i + 1 : Nat) : Int) := by unfold wrap64; omega
    simp only [laws_toStringS.l0]
    rw [if_pos (by omega), if_pos (by omega), if_pos (by omega), s_nat l i hi', e1]
    refine ih k (i + 1) _ (by omega) (by simp [hx]) (by omega) ?_
    simp only [Int.toNat_natCast]
    rw [List.take_succ_eq_append_getElem (by simp; omega), List.take_succ_eq_append_getElem hi', List.getElem_set_self, List.take_set_of_le (Nat.le_refl _), ht]
theorem toAll (l : List S160) (t : List ByteArray) (hn : l.length ≤ 1048576) (ht : t.length ≤ 1048576) (hc : costA l ≤ 1048576) (k : Nat) (hk : 3000000 < k) : laws_toModule.f k l t = some (l.map protoB, t) := by
  unfold laws_toModule.f laws_toProtoS.f laws_toStringS.f
  rw [if_pos (by omega), if_pos (by omega)]
  have e := toPLoop l hn hc l.length k 0 (List.replicate l.length z126) (by omega) (by simp) (by omega) (by simp)
  have e' : laws_toProtoS.l0 k l (List.replicate l.length z126) 0 = some (l.map protoB) := e
  simp only [Int.toNat_natCast]
  rw [e']; simp only [obind]
  rw [if_pos (by omega), if_pos (by omega)]
  have e := toSLoop t ht t.length k 0 (List.replicate t.length ⟨#[]⟩) (by omega) (by simp) (by omega) (by simp)
  have e' : laws_toStringS.l0 k t (List.replicate t.length ⟨#[]⟩) 0 = some t := e
  rw [e']; simp only [obind]
/-! the module stays -/
theorem eqPLoop (a : List S126) (hn : a.length ≤ 1048576) (hc : cost a ≤ 1048576) (d : Nat) : ∀ (k i : Nat), i + d = a.length → d + 1048580 < k → laws_eqProtoS.l0 k a a (i : Int) = some true := by
  induction d with
  | zero =>
    intro k i hi hk
    obtain ⟨k, rfl⟩ : ∃ m, k = m + 1 := ⟨k - 1, by omega⟩
    simp only [laws_eqProtoS.l0]
    rw [if_neg (by omega)]
  | succ d ih =>
    intro k i hi hk
    obtain ⟨k, rfl⟩ : ∃ m, k = m + 1 := ⟨k - 1, by omega⟩
    have ha : i < a.length := by omega
    have hm := mem_cost a a[i] (List.getElem_mem ha)
    have e1 : wrap64 ((i : Int) + 1) = ((i + 1 : Nat) : Int) := by unfold wrap64; omega
    simp only [laws_eqProtoS.l0, laws_eqProto.f]
    rw [if_pos (show (i : Int) < (a.length : Int) by omega), if_pos (show 0 ≤ (i : Int) by omega), if_pos (show (i : Int) < (a.length : Int) by omega), pB_nat a i ha, if_pos trivial, if_pos trivial, up_eq _ (by omega) k (by omega)]
    simp only [obind, if_true]
    rw [ins_eq _ (by omega) k (by omega)]
    simp only [obind, if_true]
    rw [e1]
    exact ih k (i + 1) (by omega) (by omega)
theorem eqSLoop (a : List ByteArray) (hn : a.length ≤ 1048576) (d : Nat) : ∀ (k i : Nat), i + d = a.length → d < k → laws_eqStringS.l0 k a a (i : Int) = some true := by
  induction d with
  | zero =>
    intro k i hi hk
    obtain ⟨k, rfl⟩ : ∃ m, k = m + 1 := ⟨k - 1, by omega⟩
    simp only [laws_eqStringS.l0]
    rw [if_neg (by omega)]
  | succ d ih =>
    intro k i hi hk
    obtain ⟨k, rfl⟩ : ∃ m, k = m + 1 := ⟨k - 1, by omega⟩
    have e1 : wrap64 ((i : Int) + 1) = ((i + 1 : Nat) : Int) := by unfold wrap64; omega
    simp only [laws_eqStringS.l0]
    rw [if_pos (show (i : Int) < (a.length : Int) by omega), if_pos (show 0 ≤ (i : Int) by omega), if_pos (show (i : Int) < (a.length : Int) by omega), if_pos trivial, e1]
    exact ih k (i + 1) (by omega) (by omega)
theorem eqAll (a : List S126) (t : List ByteArray) (hn : a.length ≤ 1048576) (ht : t.length ≤ 1048576) (hc : cost a ≤ 1048576) (k : Nat) (hk : 3000000 < k) : laws_eqModule.f k a t a t = some true := by
  unfold laws_eqModule.f laws_eqProtoS.f laws_eqStringS.f
  rw [if_pos rfl, if_pos rfl]
  have e := eqPLoop a hn hc a.length k 0 (by omega) (by omega)
  have e' : laws_eqProtoS.l0 k a a 0 = some true := e
  rw [e']; simp only [obind, if_true]
  have e := eqSLoop t ht t.length k 0 (by omega) (by omega)
  have e' : laws_eqStringS.l0 k t t 0 = some true := e
  rw [e']; simp only [obind, if_true]
/-! an instruction -/
theorem l1In (a b c : Int) : spec_l1In.f a b c = some (decide (b ≤ a ∧ a ≤ c)) := by
  unfold spec_l1In.f; split
  · exact some_decide (by omega)
  · rw [decide_eq_false (by omega)]
theorem within (a b c : Int) : impl_within.f a b c = some (decide (b ≤ a ∧ a ≤ c)) := by
  unfold impl_within.f; split
  · exact some_decide (by omega)
  · rw [decide_eq_false (by omega)]
theorem ups_both (u : List S133) (hn : u.length ≤ 1048576) (a0 a1 : Int) (b c d e : Int) (l2 : List S133) (l3 : List S136) (d' : Nat) : ∀ (k k' i : Nat), i + d' = u.length → d' < k → d' < k' →
    ∃ r, spec_l11InsOk.l0 k u (i : Int) a0 a1 l2 l3 = some r ∧ impl_upsOk.l0 k' u (u.length : Int) (i : Int) a0 a1 l2 l3 = some r := by
  induction d' with
  | zero =>
    intro k k' i hi hk hk'
    obtain ⟨k, rfl⟩ : ∃ m, k = m + 1 := ⟨k - 1, by omega⟩
    obtain ⟨k', rfl⟩ : ∃ m, k' = m + 1 := ⟨k' - 1, by omega⟩
    simp only [spec_l11InsOk.l0, impl_upsOk.l0]
    rw [if_neg (by omega), if_neg (by omega)]
    exact ⟨_, rfl, rfl⟩
  | succ d' ih =>
    intro k k' i hi hk hk'
    obtain ⟨k, rfl⟩ : ∃ m, k = m + 1 := ⟨k - 1, by omega⟩
    obtain ⟨k', rfl⟩ : ∃ m, k' = m + 1 := ⟨k' - 1, by omega⟩
    have e1 : wrap64 ((i : Int) + 1) = ((i + 1 : Nat) : Int) := by unfold wrap64; omega
    have hr := ih k k' (i + 1) (by omega) (by omega) (by omega)
    simp only [spec_l11InsOk.l0, impl_upsOk.l0, l1In, within, obind, decide_eq_true_eq]
    rw [if_pos (show (i : Int) < (u.length : Int) by omega), if_pos (show 0 ≤ (i : Int) by omega), if_pos (show (i : Int) < (u.length : Int) by omega), if_pos (show 0 ≤ (i : Int) by omega), if_pos (show (i : Int) < (u.length : Int) by omega), e1]
    split
    · split
      · exact hr
      · exact ⟨_, rfl, rfl⟩
    · split
      · exact hr
      · exact ⟨_, rfl, rfl⟩
section
variable (l : List S126) (t : List ByteArray) (hn : l.length ≤ 1048576) (hc : cost l ≤ 1048576) (p0 p1 : Int) (p2 : List S133) (p3 : List S136) (op a : Int)
theorem j3_both (h27 : True) (k k' : Nat) (b : Bool) : ∃ r, spec_l11InsOk.j3 (k + 1) op b p0 p1 p2 p3 op a = some r ∧ impl_insOk.j2 (k' + 1) op b p0 p1 p2 p3 op a = some r := by
  simp only [spec_l11InsOk.j3, impl_insOk.j2, impl_libNames.f, l1In, within, obind, beqd]
  split
  · exact ⟨_, rfl, rfl⟩
  · split
    · exact ⟨_, rfl, rfl⟩
    · split
      · exact ⟨_, rfl, rfl⟩
      · by_cases c : 1 ≤ op ∧ op ≤ 26
        · rw [if_pos (by simp; omega), if_pos (by simp; omega)]; exact ⟨_, rfl, rfl⟩
        · rw [if_neg (by simp; omega), if_neg (by simp; omega)]; exact ⟨_, rfl, rfl⟩
include hn hc in
theorem j1_both (k k' : Nat) (hk : 1048580 < k) (hk' : 1048580 < k') (b : Bool) : ∃ r, spec_l11InsOk.j1 (k + 1) op b l t p0 p1 p2 p3 op a = some r ∧ impl_insOk.j1 (k' + 1) op b l t p0 p1 p2 p3 op a = some r := by
  have hj := fun b => j3_both p0 p1 p2 p3 op a trivial (k - 1) (k' - 1) b
  rw [show k - 1 + 1 = k by omega, show k' - 1 + 1 = k' by omega] at hj
  simp only [spec_l11InsOk.j1, impl_insOk.j1, l1In, within, obind, decide_eq_true_eq]
  split
  · exact ⟨_, rfl, rfl⟩
  · split
    · rw [wrap64_in (x := (l.length : Int) - 1) (by omega) (by omega)]
      by_cases c : 0 ≤ a ∧ a ≤ (l.length : Int) - 1
      · rw [if_pos c, if_pos c, if_pos c.1, if_pos c.1, if_pos (by omega), if_pos (by omega)]
        have hi : a.toNat < l.length := by omega
        have e : rd_T126 l a = l[a.toNat] := by
          have := pB_nat l a.toNat hi
          rwa [Int.toNat_of_nonneg c.1] at this
        have hm := mem_cost l l[a.toNat] (List.getElem_mem hi)
        rw [e]
        obtain ⟨r, e1, e2⟩ := ups_both l[a.toNat].f2 (by omega) p0 p1 0 0 0 0 p2 p3 l[a.toNat].f2.length k k' 0 (by omega) (by omega) (by omega)
        have e1' : spec_l11InsOk.l0 k l[a.toNat].f2 0 p0 p1 p2 p3 = some r := e1
        have e2' : impl_upsOk.l0 k' l[a.toNat].f2 (l[a.toNat].f2.length : Int) 0 p0 p1 p2 p3 = some r := e2
        unfold impl_upsOk.f
        rw [e1', e2']; simp only [obind]
        exact ⟨_, rfl, rfl⟩
      · rw [if_neg c, if_neg c]; exact ⟨_, rfl, rfl⟩
    · split
      · exact ⟨_, rfl, rfl⟩
      · split
        · exact ⟨_, rfl, rfl⟩
        · split
          · exact hj _
          · split
            · exact hj _
            · split
              · exact hj _
              · exact hj _
include hn hc in
theorem j0_both (k k' : Nat) (hk : 1048581 < k) (hk' : 1048581 < k') (b : Bool) : ∃ r, spec_l11InsOk.j0 (k + 1) op b l t p0 p1 p2 p3 op a = some r ∧ impl_insOk.j0 (k' + 1) op b l t p0 p1 p2 p3 op a = some r := by
  have hj := fun b => j1_both l t hn hc p0 p1 p2 p3 op a (k - 1) (k' - 1) (by omega) (by omega) b
  rw [show k - 1 + 1 = k by omega, show k' - 1 + 1 = k' by omega] at hj
  simp only [spec_l11InsOk.j0, impl_insOk.j0, l1In, within, obind]
  split
  · exact ⟨_, rfl, rfl⟩
  · split
    · exact hj _
    · exact hj _
include hn hc in
theorem ins_both (k k' : Nat) (hk : 1048583 < k) (hk' : 1048583 < k') : ∃ r, spec_l11InsOk.f k l t p0 p1 p2 p3 op a = some r ∧ impl_insOk.f k' l t p0 p1 p2 p3 op a = some r := by
  have hj := fun b => j0_both l t hn hc p0 p1 p2 p3 op a (k - 1) (k' - 1) (by omega) (by omega) b
  rw [show k - 1 + 1 = k by omega, show k' - 1 + 1 = k' by omega] at hj
  unfold spec_l11InsOk.f impl_insOk.f
  simp only [l1In, within, obind, beqd]
  split
  · by_cases c : a = 0
    · rw [if_pos c, decide_eq_true (show 0 ≤ a ∧ a ≤ 1 by omega)]; exact ⟨_, rfl, rfl⟩
    · rw [if_neg c]
      exact ⟨_, rfl, some_decide (by omega)⟩
  · split
    · exact ⟨_, rfl, rfl⟩
    · split
      · exact ⟨_, rfl, rfl⟩
      · split
        · exact hj _
        · split
          · exact hj _
          · split
            · exact hj _
            · split
              · exact hj _
              · exact hj _
end
/-! the module -/
section
variable (l : List S126) (t : List ByteArray)
def insV (p : S126) (x : S136) : Bool := (impl_insOk.f 1048600 l t p.f0 p.f1 p.f2 p.f3 x.f0 x.f1).getD false
def Hd (p : S126) : Bool := decide ((0 ≤ p.f1 ∧ p.f1 ≤ 20) ∧ (0 ≤ p.f0 ∧ p.f0 ≤ p.f1) ∧ p.f2.length ≤ 12 ∧ (1 ≤ (p.f3.length : Int) ∧ (p.f3.length : Int) ≤ 4000) ∧ (rd_T136 p.f3 ((p.f3.length : Int) - 1)).f0 = 24)
def code (p : S126) : Bool := p.f3.all (insV l t p)
def need (l : List S126) : Nat := (l.map fun p => p.f3.length + 3).sum
theorem need_cons (p : S126) (l : List S126) : need (p :: l) = p.f3.length + 3 + need l := by simp [need]
theorem need_le (l : List S126) : need l ≤ cost l + 3 * l.length := by
  induction l with
  | nil => simp [need]
  | cons p l ih =>
    have : cost (p :: l) = p.f2.length + p.f3.length + cost l := by simp [cost]
    rw [need_cons, this, List.length_cons]; omega
variable (hn : l.length ≤ 1048576) (hc : cost l ≤ 1048576) (M : Nat) (hM : 1048583 < M)
include hn hc
theorem spec_ins (p : S126) (x : S136) (k : Nat) (hk : 1048583 < k) : spec_l11InsOk.f k l t p.f0 p.f1 p.f2 p.f3 x.f0 x.f1 = some (insV l t p x) := by
  obtain ⟨r, e1, e2⟩ := ins_both l t hn hc p.f0 p.f1 p.f2 p.f3 x.f0 x.f1 k 1048600 hk (by omega)
  rw [e1, insV, e2]; rfl
theorem impl_ins (p : S126) (x : S136) (k : Nat) (hk : 1048583 < k) : impl_insOk.f k l t p.f0 p.f1 p.f2 p.f3 x.f0 x.f1 = some (insV l t p x) := by
  obtain ⟨r, e1, e2⟩ := ins_both l t hn hc p.f0 p.f1 p.f2 p.f3 x.f0 x.f1 1048600 k (by omega) hk
  rw [e2, ← e1]; exact spec_ins l t hn hc p x 1048600 (by omega)
omit hn hc in
theorem x_nat (u : List S136) (i : Nat) (h : i < u.length) : rd_T136 u (i : Int) = u[i] := by simp [rd_T136, h]
theorem spec_l3 (p : S126) (hp : p.f3.length ≤ 1048576) (i : Int) (B : Bool) (n : Nat) (hB : ∀ k, n < k → spec_ModuleOk.l2 k (wrap64 (i + 1)) l t = some B) (hn2 : 1048583 < n) (d : Nat) : ∀ (k j : Nat), j + d = p.f3.length → d + n + 1 < k →
    spec_ModuleOk.l3 k i (j : Int) l t p.f0 p.f1 p.f2 p.f3 = some ((p.f3.drop j).all (insV l t p) && B) := by
  induction d with
  | zero =>
    intro k j hj hk
    obtain ⟨k, rfl⟩ : ∃ m, k = m + 1 := ⟨k - 1, by omega⟩
    simp only [spec_ModuleOk.l3]
    rw [if_neg (by omega), List.drop_of_length_le (by omega), hB k (by omega)]
    simp
  | succ d ih =>
    intro k j hj hk
    obtain ⟨k, rfl⟩ : ∃ m, k = m + 1 := ⟨k - 1, by omega⟩
    have ha : j < p.f3.length := by omega
    have e1 : wrap64 ((j : Int) + 1) = ((j + 1 : Nat) : Int) := by unfold wrap64; omega
    simp only [spec_ModuleOk.l3]
    rw [if_pos (by omega), if_pos (by omega), x_nat _ _ ha, spec_ins l t hn hc p _ k (by omega), e1, ih k (j + 1) (by omega) (by omega), List.drop_eq_getElem_cons ha, List.all_cons]
    simp only [obind]
    cases insV l t p p.f3[j] <;> simp
include hM in
theorem spec_l2 (d : Nat) : ∀ (k i : Nat), i + d = l.length → need (l.drop i) + M < k → spec_ModuleOk.l2 k (i : Int) l t = some ((l.drop i).all (code l t)) := by
  induction d with
  | zero =>
    intro k i hi hk
    obtain ⟨k, rfl⟩ : ∃ m, k = m + 1 := ⟨k - 1, by omega⟩
    simp only [spec_ModuleOk.l2]
    rw [if_neg (by omega), List.drop_of_length_le (by omega)]
    simp
  | succ d ih =>
    intro k i hi hk
    have ha : i < l.length := by omega
    have hm := mem_cost l l[i] (List.getElem_mem ha)
    have e1 : wrap64 ((i : Int) + 1) = ((i + 1 : Nat) : Int) := by unfold wrap64; omega
    rw [List.drop_eq_getElem_cons ha, need_cons] at hk
    obtain ⟨k, rfl⟩ : ∃ m, k = m + 1 := ⟨k - 1, by omega⟩
    simp only [spec_ModuleOk.l2]
    rw [if_pos (by omega), if_pos (by omega), pB_nat l i ha, List.drop_eq_getElem_cons ha, List.all_cons]
    have := spec_l3 l t hn hc l[i] (by omega) (i : Int) ((l.drop (i + 1)).all (code l t)) (need (l.drop (i + 1)) + M) (fun k' hk' => by rw [e1]; exact ih k' (i + 1) (by omega) hk') (by omega) l[i].f3.length k 0 (by omega) (by omega)
    have e0 : ((0 : Nat) : Int) = 0 := rfl
    rw [e0, List.drop_zero] at this
    rw [this]; rfl
omit hn hc in
theorem head_test (p : S126) (hp : p.f3.length ≤ 1048576) {α : Type} (yes no : Option α) :
    ((spec_l1In.f p.f1 0 20).bind fun t215 => (if t215 = true then ((spec_l1In.f p.f0 0 p.f1).bind fun t216 => (if t216 = true then (if ((p.f2).length : Int) > 12 then no else ((spec_l1In.f ((p.f3).length : Int) 1 4000).bind fun t217 => (if t217 = true then (if 0 ≤ (wrap64 (((p.f3).length : Int) - 1)) then (if (wrap64 (((p.f3).length : Int) - 1)) < ((p.f3).length : Int) then (if ((rd_T136 (p.f3) (wrap64 (((p.f3).length : Int) - 1))).f0) = 24 then yes else no) else (none)) else (none)) else no))) else no)) else no)) =
      if Hd p = true then yes else no := by
  simp only [l1In, obind, decide_eq_true_eq, Hd]
  rw [wrap64_in (x := (p.f3.length : Int) - 1) (by omega) (by omega)]
  by_cases c1 : 0 ≤ p.f1 ∧ p.f1 ≤ 20
  · rw [if_pos c1]
    by_cases c2 : 0 ≤ p.f0 ∧ p.f0 ≤ p.f1
    · rw [if_pos c2]
      by_cases c3 : (p.f2.length : Int) > 12
      · rw [if_pos c3, if_neg (fun h => by omega)]
      · rw [if_neg c3]
        by_cases c4 : 1 ≤ (p.f3.length : Int) ∧ (p.f3.length : Int) ≤ 4000
        · rw [if_pos c4, if_pos (by omega), if_pos (by omega)]
          by_cases c5 : (rd_T136 p.f3 ((p.f3.length : Int) - 1)).f0 = 24
          · rw [if_pos c5, if_pos ⟨c1, c2, by omega, c4, c5⟩]
          · rw [if_neg c5, if_neg (fun h => c5 h.2.2.2.2)]
        · rw [if_neg c4, if_neg (fun h => c4 h.2.2.2.1)]
    · rw [if_neg c2, if_neg (fun h => c2 h.2.1)]
  · rw [if_neg c1, if_neg (fun h => c1 h.1)]
include hM in
theorem spec_l1 (d : Nat) : ∀ (k i : Nat), i + d = l.length → d + need l + M + 5 < k → spec_ModuleOk.l1 k (i : Int) l t = some ((l.drop i).all Hd && l.all (code l t)) := by
  induction d with
  | zero =>
    intro k i hi hk
    obtain ⟨k, rfl⟩ : ∃ m, k = m + 1 := ⟨k - 1, by omega⟩
    simp only [spec_ModuleOk.l1]
    rw [if_neg (by omega), List.drop_of_length_le (by omega)]
    have := spec_l2 l t hn hc M hM l.length k 0 (by omega) (by rw [List.drop_zero]; omega)
    have e' : spec_ModuleOk.l2 k 0 l t = some ((l.drop 0).all (code l t)) := this
    rw [e']; simp
  | succ d ih =>
    intro k i hi hk
    obtain ⟨k, rfl⟩ : ∃ m, k = m + 1 := ⟨k - 1, by omega⟩
    have ha : i < l.length := by omega
    have hm := mem_cost l l[i] (List.getElem_mem ha)
    have e1 : wrap64 ((i : Int) + 1) = ((i + 1 : Nat) : Int) := by unfold wrap64; omega
    simp only [spec_ModuleOk.l1]
    rw [if_pos (by omega), if_pos (by omega), pB_nat l i ha, head_test l[i] (by omega), e1, ih k (i + 1) (by omega) (by omega), List.drop_eq_getElem_cons ha, List.all_cons]
    cases Hd l[i] <;> simp
include hM in
theorem spec_l0 (ht : t.length ≤ 1048576) (d : Nat) : ∀ (k i : Nat), i + d = t.length → d + l.length + need l + M + 10 < k → spec_ModuleOk.l0 k (i : Int) l t = some ((t.drop i).all (fun s => decide (s.size ≤ 160)) && (l.all Hd && l.all (code l t))) := by
  induction d with
  | zero =>
    intro k i hi hk
    obtain ⟨k, rfl⟩ : ∃ m, k = m + 1 := ⟨k - 1, by omega⟩
    simp only [spec_ModuleOk.l0]
    rw [if_neg (by omega), List.drop_of_length_le (by omega)]
    have := spec_l1 l t hn hc M hM l.length k 0 (by omega) (by omega)
    have e' : spec_ModuleOk.l1 k 0 l t = some ((l.drop 0).all Hd && l.all (code l t)) := this
    rw [e']; simp
  | succ d ih =>
    intro k i hi hk
    obtain ⟨k, rfl⟩ : ∃ m, k = m + 1 := ⟨k - 1, by omega⟩
    have ha : i < t.length := by omega
    have e1 : wrap64 ((i : Int) + 1) = ((i + 1 : Nat) : Int) := by unfold wrap64; omega
    simp only [spec_ModuleOk.l0]
    rw [if_pos (by omega), if_pos (by omega), s_nat t i ha, e1, ih k (i + 1) (by omega) (by omega), List.drop_eq_getElem_cons ha, List.all_cons]
    by_cases c : t[i].size ≤ 160
    · rw [if_neg (by omega), decide_eq_true c]; rfl
    · rw [if_pos (by omega), decide_eq_false c]; rfl
theorem impl_l2 (p : S126) (hp : p.f3.length ≤ 1048576) (i : Int) (B : Bool) (n : Nat) (hB : ∀ k, n < k → impl_ModuleOk.l1 k l (l.length : Int) (wrap64 (i + 1)) l t = some B) (hn2 : 1048583 < n) (d : Nat) : ∀ (k j : Nat), j + d = p.f3.length → d + n + 1 < k →
    impl_ModuleOk.l2 k l (l.length : Int) i p.f3 (p.f3.length : Int) (j : Int) l t p.f0 p.f1 p.f2 p.f3 = some ((p.f3.drop j).all (insV l t p) && B) := by
  induction d with
  | zero =>
    intro k j hj hk
    obtain ⟨k, rfl⟩ : ∃ m, k = m + 1 := ⟨k - 1, by omega⟩
    simp only [impl_ModuleOk.l2]
    rw [if_neg (by omega), List.drop_of_length_le (by omega), hB k (by omega)]
    simp
  | succ d ih =>
    intro k j hj hk
    obtain ⟨k, rfl⟩ : ∃ m, k = m + 1 := ⟨k - 1, by omega⟩
    have ha : j < p.f3.length := by omega
    have e1 : wrap64 ((j : Int) + 1) = ((j + 1 : Nat) : Int) := by unfold wrap64; omega
    simp only [impl_ModuleOk.l2]
    rw [if_pos (show (j : Int) < (p.f3.length : Int) by omega), if_pos (show 0 ≤ (j : Int) by omega), if_pos (show (j : Int) < (p.f3.length : Int) by omega), x_nat _ _ ha, impl_ins l t hn hc p _ k (by omega), e1, ih k (j + 1) (by omega) (by omega), List.drop_eq_getElem_cons ha, List.all_cons]
    simp only [obind]
    cases insV l t p p.f3[j] <;> simp
include hM in
theorem impl_l1 (d : Nat) : ∀ (k i : Nat), i + d = l.length → need (l.drop i) + M < k → impl_ModuleOk.l1 k l (l.length : Int) (i : Int) l t = some ((l.drop i).all fun p => Hd p && code l t p) := by
  induction d with
  | zero =>
    intro k i hi hk
    obtain ⟨k, rfl⟩ : ∃ m, k = m + 1 := ⟨k - 1, by omega⟩
    simp only [impl_ModuleOk.l1]
    rw [if_neg (by omega), List.drop_of_length_le (by omega)]
    simp
  | succ d ih =>
    intro k i hi hk
    have ha : i < l.length := by omega
    have hm := mem_cost l l[i] (List.getElem_mem ha)
    have e1 : wrap64 ((i : Int) + 1) = ((i + 1 : Nat) : Int) := by unfold wrap64; omega
    rw [List.drop_eq_getElem_cons ha, need_cons] at hk
    obtain ⟨k, rfl⟩ : ∃ m, k = m + 2 := ⟨k - 2, by omega⟩
    simp only [impl_ModuleOk.l1, impl_ModuleOk.j3]
    rw [if_pos (show (i : Int) < (l.length : Int) by omega), if_pos (show 0 ≤ (i : Int) by omega), if_pos (show (i : Int) < (l.length : Int) by omega), pB_nat l i ha, List.drop_eq_getElem_cons ha, List.all_cons]
    have := impl_l2 l t hn hc l[i] (by omega) (i : Int) ((l.drop (i + 1)).all fun p => Hd p && code l t p) (need (l.drop (i + 1)) + M) (fun k' hk' => by rw [e1]; exact ih k' (i + 1) (by omega) hk') (by omega) l[i].f3.length k 0 (by omega) (by omega)
    have e0 : ((0 : Nat) : Int) = 0 := rfl
    rw [e0, List.drop_zero] at this
    rw [this]
    generalize l[i] = p at *
    simp only [within, obind, decide_eq_true_eq, Hd, bned]
    rw [wrap64_in (x := (p.f3.length : Int) - 1) (by omega) (by omega)]
    by_cases c1 : 0 ≤ p.f1 ∧ p.f1 ≤ 20
    · rw [if_pos c1]
      by_cases c2 : 0 ≤ p.f0 ∧ p.f0 ≤ p.f1
      · rw [if_pos c2]
        by_cases c3 : (p.f2.length : Int) > 12
        · rw [if_pos c3, if_pos trivial, decide_eq_false (fun h => by omega)]; rfl
        · rw [if_neg c3]
          by_cases c4 : 1 ≤ (p.f3.length : Int) ∧ (p.f3.length : Int) ≤ 4000
          · rw [if_pos c4, if_pos (by omega), if_pos (by omega)]
            by_cases c5 : (rd_T136 p.f3 ((p.f3.length : Int) - 1)).f0 = 24
            · rw [if_neg (fun h => h c5), decide_eq_true ⟨c1, c2, by omega, c4, c5⟩]; rfl
            · rw [if_pos c5, decide_eq_false (fun h => c5 h.2.2.2.2)]; rfl
          · rw [if_neg c4, if_pos trivial, decide_eq_false (fun h => c4 h.2.2.2.1)]; rfl
      · rw [if_neg c2, if_pos trivial, decide_eq_false (fun h => c2 h.2.1)]; rfl
    · rw [if_neg c1, if_pos trivial, decide_eq_false (fun h => c1 h.1)]; rfl
include hM in
theorem impl_l0 (ht : t.length ≤ 1048576) (d : Nat) : ∀ (k i : Nat), i + d = t.length → d + need l + M + 10 < k → impl_ModuleOk.l0 k t (t.length : Int) (i : Int) l t = some ((t.drop i).all (fun s => decide (s.size ≤ 160)) && l.all fun p => Hd p && code l t p) := by
  induction d with
  | zero =>
    intro k i hi hk
    obtain ⟨k, rfl⟩ : ∃ m, k = m + 1 := ⟨k - 1, by omega⟩
    simp only [impl_ModuleOk.l0]
    rw [if_neg (by omega), List.drop_of_length_le (by omega)]
    have := impl_l1 l t hn hc M hM l.length k 0 (by omega) (by rw [List.drop_zero]; omega)
    have e' : impl_ModuleOk.l1 k l (l.length : Int) 0 l t = some ((l.drop 0).all fun p => Hd p && code l t p) := this
    rw [e']; simp
  | succ d ih =>
    intro k i hi hk
    obtain ⟨k, rfl⟩ : ∃ m, k = m + 1 := ⟨k - 1, by omega⟩
    have ha : i < t.length := by omega
    have e1 : wrap64 ((i : Int) + 1) = ((i + 1 : Nat) : Int) := by unfold wrap64; omega
    simp only [impl_ModuleOk.l0]
    rw [if_pos (show (i : Int) < (t.length : Int) by omega), if_pos (show 0 ≤ (i : Int) by omega), if_pos (show (i : Int) < (t.length : Int) by omega), s_nat t i ha, e1, ih k (i + 1) (by omega) (by omega), List.drop_eq_getElem_cons ha, List.all_cons]
    by_cases c : t[i].size ≤ 160
    · rw [if_neg (by omega), decide_eq_true c]; rfl
    · rw [if_pos (by omega), decide_eq_false c]; rfl
omit hn hc in
theorem all_two (f g : S126 → Bool) (u : List S126) : (u.all fun p => f p && g p) = (u.all f && u.all g) := by
  induction u with
  | nil => rfl
  | cons p u ih =>
    simp only [List.all_cons, ih]
    cases f p <;> cases g p <;> simp
theorem mod_both (ht : t.length ≤ 1048576) (k : Nat) (hk : 9000000 < k) : ∃ b, spec_ModuleOk.f k l t = some b ∧ impl_ModuleOk.f k l t = some b := by
  have hnd := need_le l
  have key : ∀ b : Bool, ∃ r, spec_ModuleOk.j0 k b l t = some r ∧ impl_ModuleOk.j0 k b l t = some r := by
    intro b
    obtain ⟨k, rfl⟩ : ∃ m, k = m + 1 := ⟨k - 1, by omega⟩
    simp only [spec_ModuleOk.j0, impl_ModuleOk.j0]
    cases b with
    | true => exact ⟨_, rfl, rfl⟩
    | false =>
      rw [if_neg (by simp), if_neg (by simp)]
      have e1 := spec_l0 l t hn hc 1048590 (by omega) ht t.length k 0 (by omega) (by omega)
      have e2 := impl_l0 l t hn hc 1048590 (by omega) ht t.length k 0 (by omega) (by omega)
      rw [all_two] at e2
      exact ⟨_, e1, e2⟩
  unfold spec_ModuleOk.f impl_ModuleOk.f
  simp only [l1In, within, obind, decide_eq_true_eq]
  by_cases c : 1 ≤ (l.length : Int) ∧ (l.length : Int) ≤ 100
  · rw [if_pos c, if_pos c]
    have hl0 : 0 < (l.length : Int) := by omega
    by_cases ct : (t.length : Int) > 255
    · rw [if_pos ct, if_pos ct]; exact key _
    · rw [if_neg ct, if_neg ct, if_pos hl0, if_pos hl0]
      by_cases cz : (rd_T126 l 0).f0 = 0
      · have e : ((((rd_T126 l 0).f2).length : Int) != 0) = decide ((((rd_T126 l 0).f2).length : Int) > 0) := by
          rw [bned]; exact decide_eq_decide.2 (by omega)
        rw [if_pos cz, if_pos cz, e]; exact key _
      · rw [if_neg cz, if_neg cz]; exact key _
  · rw [if_neg c, if_neg c]; exact key _
end
end ModOk
open ModOk
theorem FnExactModuleOk (l : List S160) (t : List ByteArray) (hf : Fine l t) : ∃ k, laws_FnExactModuleOk.f k l t = some true := by
  obtain ⟨K, hK⟩ : ∃ K, K = l.length + t.length + 10000000 := ⟨_, rfl⟩
  refine ⟨K, ?_⟩
  unfold laws_FnExactModuleOk.f
  rcases szAll l t hf K (by omega) with ⟨r, e, hr⟩ | ⟨r, e, hr, hl, ht, hc⟩
  · rw [e]; simp only [obind]; rw [if_pos hr]
  rw [e]; simp only [obind]; rw [if_neg (by omega)]
  rw [toAll l t hl ht hc K (by omega)]; simp only [obind]
  have hc1 : cost (l.map protoB) ≤ 1048576 := by rw [cost_map]; exact hc
  have hn1 : (l.map protoB).length ≤ 1048576 := by simpa using hl
  obtain ⟨b, e1, e2⟩ := mod_both (l.map protoB) t hn1 hc1 ht K (by omega)
  rw [e1]; simp only [obind]
  rw [e2]; simp only [obind, bne_self_eq_false, Bool.false_eq_true, if_false]
  rw [eqAll _ t hn1 ht hc1 K (by omega)]; simp only [obind, if_true]
end Go.Proofs.Ytpfbhjnlihhpkaa.Pure
