/- ValOk: the program's and the reference's answers are the same at every value. -/
import Derived.Test.YtbjfhnajlcakdaaPFnExactValOkx1
import Derived.Test.YtbjfhnajlcakdaaBase
namespace Go.Proofs.Ytbjfhnajlcakdaa.Pure
open Go.RowKit Go.Proofs.Ytbjfhnajlcakdaa.PFnExactValOk Go.Proofs.YtbjfhnajlcakdaaW.PrintWords Go.Proofs.YtbjfhnajlcakdaaW.PrintLast Go.Proofs.Ytbjfhnajlcakdaa.Base
namespace ValOk
theorem l1In (a b c : Int) : spec_l1In.f a b c = some (decide (b ≤ a ∧ a ≤ c)) := by
  unfold spec_l1In.f; split
  · exact some_decide (by omega)
  · rw [decide_eq_false (by omega)]
theorem within (a b c : Int) : impl_within.f a b c = some (decide (b ≤ a ∧ a ≤ c)) := by
  unfold impl_within.f; split
  · exact some_decide (by omega)
  · rw [decide_eq_false (by omega)]
theorem specIsRef (t n : Int) : spec_IsRef.f t n = some (decide (kindOf t ≠ 0)) := by
  have : spec_l1Kind.f t = some (kindOf t) := by
    unfold spec_l1Kind.f kindOf
    repeat' split
    all_goals rfl
  unfold spec_IsRef.f
  rw [this]; simp only [Option.bind_some, bned]
theorem implKind (t : Int) : impl_kindOf.f t = some (kindOf t) := by
  unfold impl_kindOf.f kindOf
  repeat' split
  all_goals rfl
theorem specValOk (t n : Int) : spec_ValOk.f t n = some (decide (ValP t n)) := by
  unfold spec_ValOk.f
  simp only [specIsRef, l1In, Option.bind_some, decide_eq_true_eq, beqd, kindOf_ne]
  repeat' split
  all_goals first
    | exact some_decide (by unfold ValP; omega)
    | exact some_true (by unfold ValP; omega)
    | exact some_false (by unfold ValP; omega)
theorem implValOk (t n : Int) : impl_ValOk.f t n = some (decide (ValP t n)) := by
  unfold impl_ValOk.f
  have hk := @kindOf_ne t
  simp only [implKind, within, Option.bind_some, beqd]
  repeat' split
  all_goals first
    | exact some_decide (by unfold ValP; omega)
    | exact some_true (by unfold ValP; omega)
    | exact some_false (by unfold ValP; omega)
end ValOk
open ValOk
theorem FnExactValOk (a b : Int) (_ : (Lit.int .i64 a).wf = true) (_ : (Lit.int .i64 b).wf = true) : laws_FnExactValOk.f a b = some true := by
  unfold laws_FnExactValOk.f laws_toVal.f
  simp only [Option.bind_some, specValOk, implValOk]
  simp
end Go.Proofs.Ytbjfhnajlcakdaa.Pure
