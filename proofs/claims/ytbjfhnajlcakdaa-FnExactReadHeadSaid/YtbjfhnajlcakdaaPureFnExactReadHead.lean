/- ReadHead: the program's and the reference's answers are the same at every word. -/
import Derived.Test.YtbjfhnajlcakdaaPFnExactReadHeadx1
import Derived.Test.YtbjfhnajlcakdaaBase
namespace Go.Proofs.Ytbjfhnajlcakdaa.Pure
open Go.RowKit Go.Proofs.Ytbjfhnajlcakdaa.PFnExactReadHead Go.Proofs.YtbjfhnajlcakdaaW.PrintWords Go.Proofs.YtbjfhnajlcakdaaW.PrintLast Go.Proofs.Ytbjfhnajlcakdaa.Base
namespace ReadHead
theorem l1In (a b c : Int) : spec_l1In.f a b c = some (decide (b ≤ a ∧ a ≤ c)) := by
  unfold spec_l1In.f; split
  · exact some_decide (by omega)
  · rw [decide_eq_false (by omega)]
theorem within (a b c : Int) : impl_within.f a b c = some (decide (b ≤ a ∧ a ≤ c)) := by
  unfold impl_within.f; split
  · exact some_decide (by omega)
  · rw [decide_eq_false (by omega)]
theorem specHeadOk (k s n : Int) : spec_HeadOk.f k s n = some (decide (HeadP k s n)) := by
  unfold spec_HeadOk.f
  simp only [l1In, Option.bind_some, decide_eq_true_eq, beqd]
  by_cases h : 1 ≤ s ∧ s ≤ 25
  · rw [Int.tmod_eq_emod_of_nonneg (by omega), if_pos h]
    repeat' split
    all_goals first
      | exact some_decide (by unfold HeadP SizeP BornP; omega)
      | exact some_false (by unfold HeadP SizeP BornP; omega)
  · rw [if_neg h]
    repeat' split
    all_goals first
      | exact some_decide (by unfold HeadP SizeP BornP; omega)
      | exact some_false (by unfold HeadP SizeP BornP; omega)
theorem implSizeOk (k s : Int) : impl_sizeOk.f k s = some (decide (SizeP k s)) := by
  unfold impl_sizeOk.f
  simp only [within, Option.bind_some, decide_eq_true_eq, beqd]
  by_cases h : 1 ≤ s ∧ s ≤ 25
  · rw [Int.tmod_eq_emod_of_nonneg (by omega), if_pos h]
    repeat' split
    all_goals first
      | exact some_decide (by unfold SizeP; omega)
      | exact some_false (by unfold SizeP; omega)
      | exact some_true (by unfold SizeP; omega)
  · rw [if_neg h]
    repeat' split
    all_goals first
      | exact some_decide (by unfold SizeP; omega)
      | exact some_false (by unfold SizeP; omega)
      | exact some_true (by unfold SizeP; omega)
theorem implHeadOk (k s n : Int) : impl_HeadOk.f k s n = some (decide (HeadP k s n)) := by
  have e2 : impl_isBorn.f k = some (decide (BornP k)) := by
    unfold impl_isBorn.f
    simp only [beqd]
    repeat' split
    all_goals first
      | exact some_decide (by unfold BornP; omega)
      | exact some_true (by unfold BornP; omega)
  unfold impl_HeadOk.f
  simp only [implSizeOk, e2, within, Option.bind_some, decide_eq_true_eq, beqd]
  by_cases c : SizeP k s
  · rw [if_pos c]
    by_cases b : BornP k
    · rw [if_pos b]; exact some_decide (by simp [HeadP, c, b])
    · rw [if_neg b]; exact some_decide (by simp [HeadP, c, b])
  · rw [if_neg c]; exact some_false (by simp [HeadP, c])
end ReadHead
open ReadHead
theorem same_yes {x : Int} (h0 : 0 ≤ x) (h1 : x < 18446744073709551616) (p : HeadP (x % 16) (x / 16 % 65536) (x / 1048576 % 4294967296)) (c : x / 1048576 < 4294967296) :
    IntKind.u64.wrap ((IntKind.u64.wrap ((IntKind.u64.wrap (x % 16)) + (IntKind.u64.wrap ((IntKind.u64.wrap (x / 16 % 65536)) * 16)))) + (IntKind.u64.wrap ((IntKind.u64.wrap (x / 1048576 % 4294967296)) * 1048576))) = x := by
  have r := p.range
  simp only [IntKind.wrap_u64]
  omega
theorem same_no {x : Int} (_h0 : 0 ≤ x) (_h1 : x < 18446744073709551616) (p : HeadP (x % 16) (x / 16 % 65536) (x / 1048576 % 4294967296)) (c : ¬ x / 1048576 < 4294967296) :
    ¬ IntKind.u64.wrap ((IntKind.u64.wrap ((IntKind.u64.wrap (x % 16)) + (IntKind.u64.wrap ((IntKind.u64.wrap (x / 16 % 65536)) * 16)))) + (IntKind.u64.wrap ((IntKind.u64.wrap (x / 1048576 % 4294967296)) * 1048576))) = x := by
  have r := p.range
  simp only [IntKind.wrap_u64]
  omega
theorem spec_is {x : Int} (h0 : 0 ≤ x) (h1 : x < 18446744073709551616) :
    spec_ReadHead.f x = if HeadP (x % 16) (x / 16 % 65536) (x / 1048576) then some (x % 16, x / 16 % 65536, x / 1048576, true) else some (0, 0, 0, false) := by
  have d1 : 0 ≤ x / 16 ∧ x / 16 < 18446744073709551616 := by omega
  have d2 : 0 ≤ x / 1048576 ∧ x / 1048576 < 18446744073709551616 := by omega
  unfold spec_ReadHead.f spec_PackHead.f
  rw [and15 h0 h1, and65535 d1.1 d1.2, and32 d2.1 d2.2]
  rw [wrap64_in (x := x % 16) (by omega) (by omega), wrap64_in (x := x / 16 % 65536) (by omega) (by omega), wrap64_in (x := x / 1048576 % 4294967296) (by omega) (by omega)]
  simp only [specHeadOk, Option.bind_some, decide_eq_true_eq]
  by_cases c : x / 1048576 < 4294967296
  · have e2 : x / 1048576 % 4294967296 = x / 1048576 := by omega
    by_cases p : HeadP (x % 16) (x / 16 % 65536) (x / 1048576 % 4294967296)
    · rw [if_pos p]
      simp only [Option.bind_some, if_true]
      rw [if_pos (same_yes h0 h1 p c)]
      rw [e2] at p ⊢
      rw [if_pos p]
    · rw [if_neg p]
      rw [e2] at p
      rw [if_neg p]; simp
  · rw [if_neg (c := HeadP (x % 16) (x / 16 % 65536) (x / 1048576)) (fun p => by have := p.range; omega)]
    by_cases p : HeadP (x % 16) (x / 16 % 65536) (x / 1048576 % 4294967296)
    · rw [if_pos p]
      simp only [Option.bind_some, if_true]
      rw [if_neg (same_no h0 h1 p c)]
    · rw [if_neg p]; simp
theorem impl_is {x : Int} (h0 : 0 ≤ x) (h1 : x < 18446744073709551616) :
    impl_ReadHead.f x = if HeadP (x % 16) (x / 16 % 65536) (x / 1048576) then some (x % 16, x / 16 % 65536, x / 1048576, true) else some (0, 0, 0, false) := by
  have d1 : 0 ≤ x / 16 ∧ x / 16 < 18446744073709551616 := by omega
  unfold impl_ReadHead.f
  rw [and15 h0 h1, and65535 d1.1 d1.2]
  rw [wrap64_in (x := x % 16) (by omega) (by omega), wrap64_in (x := x / 16 % 65536) (by omega) (by omega), wrap64_in (x := x / 1048576) (by omega) (by omega)]
  simp only [implHeadOk, Option.bind_some, decide_eq_true_eq]
theorem FnExactReadHead : laws_FnExactReadHead.Pure := by
  intro x hx
  obtain ⟨h0, h1⟩ := wf_u64 hx
  unfold laws_FnExactReadHead.f laws_eqHead.f
  rw [spec_is h0 h1, impl_is h0 h1]
  by_cases p : HeadP (x % 16) (x / 16 % 65536) (x / 1048576)
  · rw [if_pos p]; simp
  · rw [if_neg p]; simp
end Go.Proofs.Ytbjfhnajlcakdaa.Pure
