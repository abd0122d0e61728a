/- HeadOk: the program's and the reference's answers are the same at every head. -/
import Derived.Test.YtbjfhnajlcakdaaPFnExactHeadOkx1
import Derived.Test.YtbjfhnajlcakdaaBase
namespace Go.Proofs.Ytbjfhnajlcakdaa.Pure
open Go.RowKit Go.Proofs.Ytbjfhnajlcakdaa.PFnExactHeadOk Go.Proofs.YtbjfhnajlcakdaaW.PrintWords Go.Proofs.YtbjfhnajlcakdaaW.PrintLast Go.Proofs.Ytbjfhnajlcakdaa.Base
namespace HeadOk
theorem l1In (a b c : Int) : spec_l1In.f a b c = some (decide (b ≤ a ∧ a ≤ c)) := by
  unfold spec_l1In.f; split
  · exact some_decide (by omega)
  · rw [decide_eq_false (by omega)]
theorem within (a b c : Int) : impl_within.f a b c = some (decide (b ≤ a ∧ a ≤ c)) := by
  unfold impl_within.f; split
  · exact some_decide (by omega)
  · rw [decide_eq_false (by omega)]
theorem specHeadOk (k s n : Int) : spec_HeadOk.f k s n = some (decide (HeadP k s n)) := by
  unfold spec_HeadOk.f
  simp only [l1In, Option.bind_some, decide_eq_true_eq, beqd]
  by_cases h : 1 ≤ s ∧ s ≤ 25
  · rw [Int.tmod_eq_emod_of_nonneg (by omega), if_pos h]
    repeat' split
    all_goals first
      | exact some_decide (by unfold HeadP SizeP BornP; omega)
      | exact some_false (by unfold HeadP SizeP BornP; omega)
  · rw [if_neg h]
    repeat' split
    all_goals first
      | exact some_decide (by unfold HeadP SizeP BornP; omega)
      | exact some_false (by unfold HeadP SizeP BornP; omega)
theorem implSizeOk (k s : Int) : impl_sizeOk.f k s = some (decide (SizeP k s)) := by
  unfold impl_sizeOk.f
  simp only [within, Option.bind_some, decide_eq_true_eq, beqd]
  by_cases h : 1 ≤ s ∧ s ≤ 25
  · rw [Int.tmod_eq_emod_of_nonneg (by omega), if_pos h]
    repeat' split
    all_goals first
      | exact some_decide (by unfold SizeP; omega)
      | exact some_false (by unfold SizeP; omega)
      | exact some_true (by unfold SizeP; omega)
  · rw [if_neg h]
    repeat' split
    all_goals first
      | exact some_decide (by unfold SizeP; omega)
      | exact some_false (by unfold SizeP; omega)
      | exact some_true (by unfold SizeP; omega)
theorem implHeadOk (k s n : Int) : impl_HeadOk.f k s n = some (decide (HeadP k s n)) := by
  have e2 : impl_isBorn.f k = some (decide (BornP k)) := by
    unfold impl_isBorn.f
    simp only [beqd]
    repeat' split
    all_goals first
      | exact some_decide (by unfold BornP; omega)
      | exact some_true (by unfold BornP; omega)
  unfold impl_HeadOk.f
  simp only [implSizeOk, e2, within, Option.bind_some, decide_eq_true_eq, beqd]
  by_cases c : SizeP k s
  · rw [if_pos c]
    by_cases b : BornP k
    · rw [if_pos b]; exact some_decide (by simp [HeadP, c, b])
    · rw [if_neg b]; exact some_decide (by simp [HeadP, c, b])
  · rw [if_neg c]; exact some_false (by simp [HeadP, c])
end HeadOk
open HeadOk
theorem FnExactHeadOk (a b c : Int) (_ : (Lit.int .i64 a).wf = true) (_ : (Lit.int .i64 b).wf = true) (_ : (Lit.int .i64 c).wf = true) : laws_FnExactHeadOk.f a b c = some true := by
  unfold laws_FnExactHeadOk.f laws_toHead.f
  simp only [Option.bind_some, specHeadOk, implHeadOk]
  simp
end Go.Proofs.Ytbjfhnajlcakdaa.Pure
