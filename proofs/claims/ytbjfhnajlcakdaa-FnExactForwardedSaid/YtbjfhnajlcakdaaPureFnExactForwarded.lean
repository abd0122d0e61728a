/- Forwarded: the program's and the reference's answers are the same pair at every word. -/
import Derived.Test.YtbjfhnajlcakdaaPFnExactForwardedx1
import Derived.Test.YtbjfhnajlcakdaaBase
namespace Go.Proofs.Ytbjfhnajlcakdaa.Pure
open Go.RowKit Go.Proofs.Ytbjfhnajlcakdaa.PFnExactForwarded Go.Proofs.YtbjfhnajlcakdaaW.PrintWords Go.Proofs.YtbjfhnajlcakdaaW.PrintLast Go.Proofs.Ytbjfhnajlcakdaa.Base
theorem FnExactForwarded : laws_FnExactForwarded.Pure := by
  intro x hx
  obtain ⟨h0, h1⟩ := wf_u64 hx
  have e : spec_Forwarded.f x = impl_Forwarded.f x := by
    unfold spec_Forwarded.f impl_Forwarded.f
    rw [and63 h0 h1, andNot63 h0 h1]
    by_cases c : x < 9223372036854775808
    · rw [if_pos (by omega), if_pos ((andTop h0 h1).2 c)]
    · rw [if_neg (by omega), if_neg (fun h => c ((andTop h0 h1).1 h))]
  unfold laws_FnExactForwarded.f
  rw [e]
  have : ∃ r, impl_Forwarded.f x = some r := by
    unfold impl_Forwarded.f
    split
    · exact ⟨_, rfl⟩
    · split <;> exact ⟨_, rfl⟩
  obtain ⟨r, hr⟩ := this
  rw [hr]
  simp
end Go.Proofs.Ytbjfhnajlcakdaa.Pure
