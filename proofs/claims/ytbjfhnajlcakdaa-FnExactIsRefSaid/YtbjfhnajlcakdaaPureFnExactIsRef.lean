/- IsRef: the program's and the reference's answers are the same at every value. -/
import Derived.Test.YtbjfhnajlcakdaaPFnExactIsRefx1
import Derived.Test.YtbjfhnajlcakdaaBase
namespace Go.Proofs.Ytbjfhnajlcakdaa.Pure
open Go.RowKit Go.Proofs.Ytbjfhnajlcakdaa.PFnExactIsRef Go.Proofs.YtbjfhnajlcakdaaW.PrintWords Go.Proofs.YtbjfhnajlcakdaaW.PrintLast Go.Proofs.Ytbjfhnajlcakdaa.Base
theorem FnExactIsRef (a b : Int) (_ : (Lit.int .i64 a).wf = true) (_ : (Lit.int .i64 b).wf = true) : laws_FnExactIsRef.f a b = some true := by
  have e1 : spec_l1Kind.f a = some (kindOf a) := by
    unfold spec_l1Kind.f kindOf
    repeat' split
    all_goals rfl
  have e2 : impl_kindOf.f a = some (kindOf a) := by
    unfold impl_kindOf.f kindOf
    repeat' split
    all_goals rfl
  unfold laws_FnExactIsRef.f laws_toVal.f
  simp only [Option.bind_some, spec_IsRef.f, impl_IsRef.f, e1, e2]
  simp
end Go.Proofs.Ytbjfhnajlcakdaa.Pure
