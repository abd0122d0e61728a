/- GetVal: the program's and the reference's answers are the same, whatever the words and the place; the words stay. -/
import Derived.Test.YtbjfhnajlcakdaaPFnExactGetValx3
import Derived.Test.YtbjfhnajlcakdaaBase
namespace Go.Proofs.Ytbjfhnajlcakdaa.Pure
open Go.RowKit Go.Proofs.Ytbjfhnajlcakdaa.PFnExactGetVal Go.Proofs.YtbjfhnajlcakdaaW.PrintWords Go.Proofs.YtbjfhnajlcakdaaW.PrintLast Go.Proofs.Ytbjfhnajlcakdaa.Base
namespace GetVal
theorem l1In (a b c : Int) : spec_l1In.f a b c = some (decide (b ≤ a ∧ a ≤ c)) := by
  unfold spec_l1In.f; split
  · exact some_decide (by omega)
  · rw [decide_eq_false (by omega)]
theorem within (a b c : Int) : impl_within.f a b c = some (decide (b ≤ a ∧ a ≤ c)) := by
  unfold impl_within.f; split
  · exact some_decide (by omega)
  · rw [decide_eq_false (by omega)]
theorem specIsRef (t n : Int) : spec_IsRef.f t n = some (decide (kindOf t ≠ 0)) := by
  have : spec_l1Kind.f t = some (kindOf t) := by
    unfold spec_l1Kind.f kindOf
    repeat' split
    all_goals rfl
  unfold spec_IsRef.f
  rw [this]; simp only [Option.bind_some, bned]
theorem implKind (t : Int) : impl_kindOf.f t = some (kindOf t) := by
  unfold impl_kindOf.f kindOf
  repeat' split
  all_goals rfl
theorem specValOk (t n : Int) : spec_ValOk.f t n = some (decide (ValP t n)) := by
  unfold spec_ValOk.f
  simp only [specIsRef, l1In, Option.bind_some, decide_eq_true_eq, beqd, kindOf_ne]
  repeat' split
  all_goals first
    | exact some_decide (by unfold ValP; omega)
    | exact some_true (by unfold ValP; omega)
    | exact some_false (by unfold ValP; omega)
theorem implValOk (t n : Int) : impl_ValOk.f t n = some (decide (ValP t n)) := by
  unfold impl_ValOk.f
  have hk := @kindOf_ne t
  simp only [implKind, within, Option.bind_some, beqd]
  repeat' split
  all_goals first
    | exact some_decide (by unfold ValP; omega)
    | exact some_true (by unfold ValP; omega)
    | exact some_false (by unfold ValP; omega)
theorem wrap_next {i n : Nat} (h : i < n) (hn : n < 4611686018427387904) : wrap64 ((i : Int) + 1) = ((i + 1 : Nat) : Int) := by unfold wrap64; omega
theorem rd_nat (l : List Int) (i : Nat) (h : i < l.length) : rd l (i : Int) = l[i] := by simp [rd, h]
theorem eq_loop (a b : List Int) (hl : a.length = b.length) (hn : a.length < 4611686018427387904) (d : Nat) : ∀ (k i : Nat), i + d = a.length → d < k →
    laws_eqUint64S.l0 k a b (i : Int) = some (decide (a.drop i = b.drop i)) := by
  induction d with
  | zero =>
    intro k i hi hk
    obtain ⟨k, rfl⟩ : ∃ m, k = m + 1 := ⟨k - 1, by omega⟩
    simp only [laws_eqUint64S.l0]
    rw [if_neg (by omega), List.drop_of_length_le (by omega), List.drop_of_length_le (by omega)]
    simp
  | succ d ih =>
    intro k i hi hk
    obtain ⟨k, rfl⟩ : ∃ m, k = m + 1 := ⟨k - 1, by omega⟩
    simp only [laws_eqUint64S.l0]
    rw [if_pos (by omega), if_pos (by omega), if_pos (by omega), rd_nat a i (by omega), rd_nat b i (by omega), wrap_next (by omega) hn, ih k (i + 1) (by omega) (by omega)]
    have ha : i < a.length := by omega
    have hb : i < b.length := by omega
    rw [List.drop_eq_getElem_cons ha, List.drop_eq_getElem_cons hb]
    split
    · rename_i e; rw [e]; exact congrArg some (decide_eq_decide.2 (by simp only [List.cons.injEq, true_and]))
    · rename_i e; rw [decide_eq_false (fun h => e (List.cons.inj h).1)]
theorem eq_list (a b : List Int) (hn : a.length < 4611686018427387904) (k : Nat) (hk : a.length < k) : laws_eqUint64S.f k a b = some (decide (a = b)) := by
  unfold laws_eqUint64S.f
  by_cases hl : a.length = b.length
  · rw [if_pos (by omega)]
    have := eq_loop a b hl hn a.length k 0 (by omega) hk
    simpa using this
  · rw [if_neg (by omega)]
    have : a ≠ b := fun e => hl (by rw [e])
    simp [this]
theorem to_loop (l : List Int) (hn : l.length < 4611686018427387904) (d : Nat) : ∀ (k i : Nat) (x : List Int), i + d = l.length → x.length = l.length → d < k → x.take i = l.take i →
    laws_toUint64S.l0 k l x (i : Int) = some l := by
  induction d with
  | zero =>
    intro k i x hi hx hk ht
    obtain ⟨k, rfl⟩ : ∃ m, k = m + 1 := ⟨k - 1, by omega⟩
    simp only [laws_toUint64S.l0]
    rw [if_neg (by omega)]
    rw [List.take_of_length_le (by omega), List.take_of_length_le (by omega)] at ht
    rw [ht]
  | succ d ih =>
    intro k i x hi hx hk ht
    obtain ⟨k, rfl⟩ : ∃ m, k = m + 1 := ⟨k - 1, by omega⟩
    simp only [laws_toUint64S.l0]
    rw [if_pos (by omega), if_pos (by omega), if_pos (by omega), rd_nat l i (by omega), wrap_next (by omega) hn]
    refine ih k (i + 1) _ (by omega) (by simp [hx]) (by omega) ?_
    have hi' : i < l.length := by omega
    simp only [Int.toNat_natCast]
    rw [List.take_succ_eq_append_getElem (by simp; omega), List.take_succ_eq_append_getElem hi', List.getElem_set_self, List.take_set_of_le (Nat.le_refl _), ht]
theorem to_list (l : List Int) (hn : l.length < 35184372088832) (k : Nat) (hk : l.length < k) : laws_toUint64S.f k l = some l := by
  unfold laws_toUint64S.f
  rw [if_pos (by omega), if_pos (by omega)]
  have := to_loop l (by omega) l.length k 0 (List.replicate l.length 0) (by omega) (by simp) hk (by simp)
  simpa using this
end GetVal
open GetVal
theorem FnExactGetVal : laws_FnExactGetVal.Pure := by
  intro l p hl hl8 hw hp
  obtain ⟨p0, p1⟩ := wf_i64 hp
  by_cases big : (l.length : Int) > 1048576
  · exact ⟨0, by unfold laws_FnExactGetVal.f; rw [if_pos big]⟩
  refine ⟨l.length + 3, ?_⟩
  have hto : ∀ k, l.length < k → laws_toUint64S.f k l = some l := fun k hk => to_list l (by omega) k hk
  have hin : ∀ i : Int, 0 ≤ i → i < l.length → 0 ≤ rd l i ∧ rd l i < 18446744073709551616 := by
    intro i h0 h1
    have hi : i.toNat < l.length := by omega
    have e : rd l i = l[i.toNat] := by simp [rd, hi]
    rw [e]; exact wf_u64 (hw _ (List.getElem_mem hi))
  have ew : wrap64 ((l.length : Int) - 2) = (l.length : Int) - 2 := wrap64_in (by omega) (by omega)
  have e : ∃ r, spec_GetVal.f l p = some r ∧ impl_GetVal.f (l.length + 3) l p = some r := by
    unfold spec_GetVal.f impl_GetVal.f
    rw [l1In, within, ew]
    simp only [Option.bind_some, decide_eq_true_eq]
    by_cases c : 0 ≤ p ∧ p ≤ (l.length : Int) - 2
    · rw [if_pos c, if_pos c, if_pos c.1, if_pos (by omega)]
      have ep : wrap64 (p + 1) = p + 1 := wrap64_in (by omega) (by omega)
      have hr := hin p c.1 (by omega)
      simp only [spec_l1Read.f, impl_GetVal.j0, specValOk, implValOk, ep, Option.bind_some, decide_eq_true_eq]
      rw [if_pos c.1, if_pos (show p < (l.length : Int) by omega), if_pos (show 0 ≤ p + 1 by omega), if_pos (show p + 1 < (l.length : Int) by omega)]
      by_cases c9 : rd l p > 9
      · rw [if_pos c9]
        by_cases c15 : rd l p > 15
        · rw [if_pos c15]; exact ⟨_, rfl, rfl⟩
        · rw [if_neg c15, if_neg]
          · exact ⟨_, rfl, rfl⟩
          · rw [wrap64_in (x := rd l p) (by omega) (by omega)]; unfold ValP; omega
      · rw [if_neg c9, if_neg (show ¬ rd l p > 15 by omega), if_pos c.1, if_pos (show p < (l.length : Int) by omega)]
        split <;> exact ⟨_, rfl, rfl⟩
    · rw [if_neg c, if_neg c]
      simp only [impl_GetVal.j0, if_true]
      exact ⟨_, rfl, rfl⟩
  obtain ⟨r, e1, e2⟩ := e
  unfold laws_FnExactGetVal.f
  rw [if_neg big, hto _ (by omega)]
  simp only [Option.bind_some]
  rw [e1, e2]
  simp only [Option.bind_some, laws_eqVal.f, if_true, bne_self_eq_false, laws_FnExactGetVal.j0, Bool.false_eq_true, if_false]
  rw [hto _ (by omega)]
  simp only [Option.bind_some]
  rw [eq_list l l (by omega) _ (by omega)]
  simp
end Go.Proofs.Ytbjfhnajlcakdaa.Pure
