/- PutVal: the program's and the reference's answers are the same, whatever the words, the place and the value; the words that came in stay, and what is written into one answer is not in another. -/
import Derived.Test.YtbjfhnajlcakdaaPFnExactPutValx3
import Derived.Test.YtbjfhnajlcakdaaBase
namespace Go.Proofs.Ytbjfhnajlcakdaa.Pure
open Go.RowKit Go.Proofs.Ytbjfhnajlcakdaa.PFnExactPutVal Go.Proofs.YtbjfhnajlcakdaaW.PrintWords Go.Proofs.YtbjfhnajlcakdaaW.PrintLast Go.Proofs.Ytbjfhnajlcakdaa.Base
namespace PutVal
theorem l1In (a b c : Int) : spec_l1In.f a b c = some (decide (b ≤ a ∧ a ≤ c)) := by
  unfold spec_l1In.f; split
  · exact some_decide (by omega)
  · rw [decide_eq_false (by omega)]
theorem within (a b c : Int) : impl_within.f a b c = some (decide (b ≤ a ∧ a ≤ c)) := by
  unfold impl_within.f; split
  · exact some_decide (by omega)
  · rw [decide_eq_false (by omega)]
theorem specIsRef (t n : Int) : spec_IsRef.f t n = some (decide (kindOf t ≠ 0)) := by
  have : spec_l1Kind.f t = some (kindOf t) := by
    unfold spec_l1Kind.f kindOf
    repeat' split
    all_goals rfl
  unfold spec_IsRef.f
  rw [this]; simp only [Option.bind_some, bned]
theorem implKind (t : Int) : impl_kindOf.f t = some (kindOf t) := by
  unfold impl_kindOf.f kindOf
  repeat' split
  all_goals rfl
theorem specValOk (t n : Int) : spec_ValOk.f t n = some (decide (ValP t n)) := by
  unfold spec_ValOk.f
  simp only [specIsRef, l1In, Option.bind_some, decide_eq_true_eq, beqd, kindOf_ne]
  repeat' split
  all_goals first
    | exact some_decide (by unfold ValP; omega)
    | exact some_true (by unfold ValP; omega)
    | exact some_false (by unfold ValP; omega)
theorem implValOk (t n : Int) : impl_ValOk.f t n = some (decide (ValP t n)) := by
  unfold impl_ValOk.f
  have hk := @kindOf_ne t
  simp only [implKind, within, Option.bind_some, beqd]
  repeat' split
  all_goals first
    | exact some_decide (by unfold ValP; omega)
    | exact some_true (by unfold ValP; omega)
    | exact some_false (by unfold ValP; omega)
theorem wrap_next {i n : Nat} (h : i < n) (hn : n < 4611686018427387904) : wrap64 ((i : Int) + 1) = ((i + 1 : Nat) : Int) := by unfold wrap64; omega
theorem rd_nat (l : List Int) (i : Nat) (h : i < l.length) : rd l (i : Int) = l[i] := by simp [rd, h]
theorem eq_loop (a b : List Int) (hl : a.length = b.length) (hn : a.length < 4611686018427387904) (d : Nat) : ∀ (k i : Nat), i + d = a.length → d < k →
    laws_eqUint64S.l0 k a b (i : Int) = some (decide (a.drop i = b.drop i)) := by
  induction d with
  | zero =>
    intro k i hi hk
    obtain ⟨k, rfl⟩ : ∃ m, k = m + 1 := ⟨k - 1, by omega⟩
    simp only [laws_eqUint64S.l0]
    rw [if_neg (by omega), List.drop_of_length_le (by omega), List.drop_of_length_le (by omega)]
    simp
  | succ d ih =>
    intro k i hi hk
    obtain ⟨k, rfl⟩ : ∃ m, k = m + 1 := ⟨k - 1, by omega⟩
    simp only [laws_eqUint64S.l0]
    rw [if_pos (by omega), if_pos (by omega), if_pos (by omega), rd_nat a i (by omega), rd_nat b i (by omega), wrap_next (by omega) hn, ih k (i + 1) (by omega) (by omega)]
    have ha : i < a.length := by omega
    have hb : i < b.length := by omega
    rw [List.drop_eq_getElem_cons ha, List.drop_eq_getElem_cons hb]
    split
    · rename_i e; rw [e]; exact congrArg some (decide_eq_decide.2 (by simp only [List.cons.injEq, true_and]))
    · rename_i e; rw [decide_eq_false (fun h => e (List.cons.inj h).1)]
theorem eq_list (a b : List Int) (hn : a.length < 4611686018427387904) (k : Nat) (hk : a.length < k) : laws_eqUint64S.f k a b = some (decide (a = b)) := by
  unfold laws_eqUint64S.f
  by_cases hl : a.length = b.length
  · rw [if_pos (by omega)]
    have := eq_loop a b hl hn a.length k 0 (by omega) hk
    simpa using this
  · rw [if_neg (by omega)]
    have : a ≠ b := fun e => hl (by rw [e])
    simp [this]
theorem to_loop (l : List Int) (hn : l.length < 4611686018427387904) (d : Nat) : ∀ (k i : Nat) (x : List Int), i + d = l.length → x.length = l.length → d < k → x.take i = l.take i →
    laws_toUint64S.l0 k l x (i : Int) = some l := by
  induction d with
  | zero =>
    intro k i x hi hx hk ht
    obtain ⟨k, rfl⟩ : ∃ m, k = m + 1 := ⟨k - 1, by omega⟩
    simp only [laws_toUint64S.l0]
    rw [if_neg (by omega)]
    rw [List.take_of_length_le (by omega), List.take_of_length_le (by omega)] at ht
    rw [ht]
  | succ d ih =>
    intro k i x hi hx hk ht
    obtain ⟨k, rfl⟩ : ∃ m, k = m + 1 := ⟨k - 1, by omega⟩
    simp only [laws_toUint64S.l0]
    rw [if_pos (by omega), if_pos (by omega), if_pos (by omega), rd_nat l i (by omega), wrap_next (by omega) hn]
    refine ih k (i + 1) _ (by omega) (by simp [hx]) (by omega) ?_
    have hi' : i < l.length := by omega
    simp only [Int.toNat_natCast]
    rw [List.take_succ_eq_append_getElem (by simp; omega), List.take_succ_eq_append_getElem hi', List.getElem_set_self, List.take_set_of_le (Nat.le_refl _), ht]
theorem to_list (l : List Int) (hn : l.length < 35184372088832) (k : Nat) (hk : l.length < k) : laws_toUint64S.f k l = some l := by
  unfold laws_toUint64S.f
  rw [if_pos (by omega), if_pos (by omega)]
  have := to_loop l (by omega) l.length k 0 (List.replicate l.length 0) (by omega) (by simp) hk (by simp)
  simpa using this
/-- the numbers from m on -/
def from_ (m : Int) (n : Nat) : List Int := (List.range n).map fun (j : Nat) => m + (j : Int)
theorem mark_loop (d : Nat) : ∀ (k i : Nat) (x : List Int) (m : Int), i + d = x.length → d < k → 0 ≤ m → m + (d : Int) < 4611686018427387904 → x.length < 4611686018427387904 →
    laws_markUint64S.l0 k x m (i : Int) = some (m + d, x.take i ++ from_ m d) := by
  induction d with
  | zero =>
    intro k i x m hi hk h0 hm hn
    obtain ⟨k, rfl⟩ : ∃ m, k = m + 1 := ⟨k - 1, by omega⟩
    simp only [laws_markUint64S.l0]
    rw [if_neg (by omega), List.take_of_length_le (by omega)]
    simp [from_]
  | succ d ih =>
    intro k i x m hi hk h0 hm hn
    obtain ⟨k, rfl⟩ : ∃ m, k = m + 1 := ⟨k - 1, by omega⟩
    simp only [laws_markUint64S.l0]
    have e1 : wrap64 ((i : Int) + 1) = ((i + 1 : Nat) : Int) := by unfold wrap64; omega
    have e2 : wrap64 (m + 1) = m + 1 := by unfold wrap64; omega
    have e3 : IntKind.u64.wrap m = m := by rw [IntKind.wrap_u64]; omega
    rw [if_pos (by omega), if_pos (by omega), e1, e2, e3, ih k (i + 1) _ (m + 1) (by simp; omega) (by omega) (by omega) (by omega) (by simpa using hn)]
    simp only [Int.toNat_natCast]
    have hi' : i < (x.set i m).length := by simp; omega
    rw [List.take_succ_eq_append_getElem hi', List.getElem_set_self, List.take_set_of_le (Nat.le_refl _)]
    congr 2
    · omega
    · rw [List.append_assoc]; congr 1
      simp only [from_, List.range_succ_eq_map, List.map_cons, List.map_map, List.singleton_append]
      simp only [Int.natCast_zero, Int.add_zero, List.cons.injEq, true_and]
      apply List.map_congr_left; intro j _; simp only [Function.comp]; omega
theorem held_loop (d : Nat) : ∀ (k i : Nat) (x : List Int) (m : Int), i + d = x.length → d < k → 0 ≤ m → m + (d : Int) < 4611686018427387904 → x.length < 4611686018427387904 → x.drop i = from_ m d →
    laws_heldUint64S.l0 k x m (i : Int) = some (m + d) := by
  induction d with
  | zero =>
    intro k i x m hi hk h0 hm hn hx
    obtain ⟨k, rfl⟩ : ∃ m, k = m + 1 := ⟨k - 1, by omega⟩
    simp only [laws_heldUint64S.l0]
    rw [if_neg (by omega)]; simp
  | succ d ih =>
    intro k i x m hi hk h0 hm hn hx
    obtain ⟨k, rfl⟩ : ∃ m, k = m + 1 := ⟨k - 1, by omega⟩
    simp only [laws_heldUint64S.l0]
    have e1 : wrap64 ((i : Int) + 1) = ((i + 1 : Nat) : Int) := by unfold wrap64; omega
    have e2 : wrap64 (m + 1) = m + 1 := by unfold wrap64; omega
    have e3 : IntKind.u64.wrap m = m := by rw [IntKind.wrap_u64]; omega
    have hi' : i < x.length := by omega
    simp only [from_, List.range_succ_eq_map, List.map_cons, List.map_map] at hx
    rw [List.drop_eq_getElem_cons hi'] at hx
    simp only [List.cons.injEq, Int.natCast_zero, Int.add_zero] at hx
    rw [if_pos (by omega), if_pos (by omega), rd_nat x i hi', e1, e2, e3, if_pos hx.1, ih k (i + 1) x (m + 1) (by omega) (by omega) (by omega) (by omega) hn ?_]
    · congr 1; omega
    · rw [hx.2, from_]
      apply List.map_congr_left; intro j _; simp only [Function.comp]; omega
theorem mark_list (x : List Int) (m : Int) (k : Nat) (hk : x.length < k) (h0 : 0 ≤ m) (hm : m + (x.length : Int) < 4611686018427387904) :
    laws_markUint64S.f k x m = some (m + x.length, from_ m x.length) := by
  unfold laws_markUint64S.f
  have := mark_loop x.length k 0 x m (by omega) hk h0 hm (by omega)
  simpa using this
theorem held_list (n : Nat) (m : Int) (k : Nat) (hk : n < k) (h0 : 0 ≤ m) (hm : m + (n : Int) < 4611686018427387904) :
    laws_heldUint64S.f k (from_ m n) m = some (m + n) := by
  unfold laws_heldUint64S.f
  have := held_loop n k 0 (from_ m n) m (by simp [from_]) hk h0 hm (by simp [from_]; omega) (by simp)
  simpa using this
end PutVal
open PutVal
theorem FnExactPutVal (l : List Int) (p t n : Int) (_hl : l.length ≤ maxLen) (hl8 : l.length * 8 ≤ 140737488351232) (_hw : ∀ x ∈ l, (Lit.int .u64 x).wf = true) (hp : (Lit.int .i64 p).wf = true)
    (_ : (Lit.int .i64 t).wf = true) (_ : (Lit.int .i64 n).wf = true) : ∃ k, laws_FnExactPutVal.f k l p t n = some true := by
  obtain ⟨p0, p1⟩ := wf_i64 hp
  by_cases big : (l.length : Int) > 1048576
  · exact ⟨0, by unfold laws_FnExactPutVal.f; rw [if_pos big]⟩
  refine ⟨l.length + 5, ?_⟩
  have hto : ∀ k, l.length < k → laws_toUint64S.f k l = some l := fun k hk => to_list l (by omega) k hk
  have ew : wrap64 ((l.length : Int) - 2) = (l.length : Int) - 2 := wrap64_in (by omega) (by omega)
  have e : ∃ (r : List Int) (b : Bool), r.length = l.length ∧ spec_PutVal.f l p t n = some (r, b) ∧ impl_PutVal.f l p t n = some (r, b) := by
    unfold spec_PutVal.f impl_PutVal.f spec_l1Words.f impl_copyWords.f
    simp only [List.length_nil, List.nil_append, Option.bind_some]
    rw [if_pos (by omega)]
    simp only [Option.bind_some, l1In, within, ew, decide_eq_true_eq, specValOk, implValOk]
    by_cases c : 0 ≤ p ∧ p ≤ (l.length : Int) - 2
    · have ep : wrap64 (p + 1) = p + 1 := wrap64_in (by omega) (by omega)
      simp only [ep]
      rw [if_pos c, if_pos (show p < (l.length : Int) by omega), if_pos (show p + 1 < (l.length : Int) by omega), if_pos c.1, if_pos (show 0 ≤ p + 1 by omega)]
      split
      · exact ⟨_, _, by simp, rfl, rfl⟩
      · exact ⟨_, _, rfl, rfl, rfl⟩
    · rw [if_neg c]; exact ⟨_, _, rfl, rfl, rfl⟩
  obtain ⟨r, b, hr, e1, e2⟩ := e
  unfold laws_FnExactPutVal.f laws_toVal.f
  rw [if_neg big, hto _ (by omega)]
  simp only [Option.bind_some]
  rw [e1, e2]
  simp only [Option.bind_some]
  have heq : ∀ k, l.length < k → laws_eqUint64S.f k r r = some true := fun k hk => by rw [eq_list r r (by omega) k (by omega)]; simp
  have heq2 : ∀ k, l.length < k → laws_eqUint64S.f k l l = some true := fun k hk => by rw [eq_list l l (by omega) k (by omega)]; simp
  rw [heq _ (by omega)]
  simp only [Option.bind_some, if_true, bne_self_eq_false, laws_FnExactPutVal.j0, Bool.false_eq_true, if_false]
  rw [hto _ (by omega)]
  simp only [Option.bind_some]
  rw [heq2 _ (by omega)]
  simp only [Option.bind_some, if_true]
  rw [mark_list l 1 _ (by omega) (by omega) (by omega)]
  simp only [Option.bind_some]
  rw [if_neg (by omega), heq _ (by omega)]
  simp only [Option.bind_some, if_true, laws_FnExactPutVal.j1, Bool.false_eq_true, if_false]
  rw [mark_list r 1 _ (by omega) (by omega) (by omega)]
  simp only [Option.bind_some]
  rw [held_list _ 1 _ (by omega) (by omega) (by omega)]
  simp only [Option.bind_some, if_true]
  rw [if_neg (by omega), hto _ (by omega)]
  simp only [Option.bind_some, laws_toVal.f]
  rw [e2]
  simp only [Option.bind_some]
  rw [heq _ (by omega)]
  simp only [Option.bind_some, if_true, bne_self_eq_false, laws_FnExactPutVal.j2, Bool.false_eq_true, if_false]
  rw [held_list _ 1 _ (by omega) (by omega) (by omega)]
  simp only [Option.bind_some, if_true]
  rw [if_neg (by omega)]
end Go.Proofs.Ytbjfhnajlcakdaa.Pure
