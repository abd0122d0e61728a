/- The implementation's slots. -/
import Derived.Test.YtepddopgmhdllaaI1
namespace Go.Proofs.Ytepddopgmhdllaa.Eng
open Go Go.RowKit Go.Proofs.Ytepddopgmhdllaa.Sl Go.Proofs.Ytepddopgmhdllaa.Ar Go.Proofs.Ytepddopgmhdllaa.Base
set_option linter.unusedVariables false
set_option linter.unusedSimpArgs false
set_option maxRecDepth 10000
variable {w0 : World} {H : HL} {C : Cn} {A : Ar} {ba : Nat}
theorem islots0_c {s : Int} :
    Fn Try.prog w0 81 #[.int .i64 1, .int .i64 s] H fun v H' => v = .slice none 0 0 ∧ H' = H := by
  refine enter2 Try.func81 rfl rfl Try.ntmps81 rfl ?_
  repeat' (first | (apply gL; first | refine L_nil ?_ | (apply gMk; first | (apply L_mkcap rfl rfl rfl rfl rfl rfl; (· omega); (· omega); (· omega); intro _ _) | (apply L_makeI rfl rfl rfl rfl rfl rfl; (· omega); (· omega); intro _) | (apply L_makeB rfl rfl rfl rfl rfl rfl; (· omega); (· omega); intro _) | (apply L_makeV rfl rfl rfl rfl rfl rfl; (· omega); (· omega); intro _)) | (apply gBs; first | (refine L_bs0 rfl rfl rfl rfl (fun _ => ?_)) | (refine L_bs1 rfl rfl rfl rfl rfl rfl rfl (fun _ => ?_))) | (apply gApp; apply L_appI rfl rfl rfl rfl rfl rfl; (· exact at_); (· exact tk_); (· rfl); (· omega); intro _ _) | refine kV ?_) | (apply gW; first | refine W_seq ?_ | refine W_region ?_ | refine W_ret ?_ | refine W_skip ?_ | refine W_block ?_ | refine W_exit ?_ | refine W_cond1 rfl ?_ | refine W_cond0 rfl ?_ | refine cN (fun h => ?_) fun h => ?_ | refine cP (fun h => ?_) fun h => ?_ | refine cB (fun h => ?_) fun h => ?_ | refine cK (fun h => ?_) fun h => ?_) | (first | refine seqR.normal ?_ | refine seqR.ret ?_ | refine seqR.exit ?_ | refine blockR.normal ?_ | refine blockR.ret ?_ | refine blockR.here ?_ | refine blockR.exit rfl ?_ | refine loopR.ret ?_ | refine loopR.exit ?_ | refine midA.ret ?_ | refine midA.exit ?_) | fail)
  all_goals (first | (exfalso; omega) | skip)
  all_goals refine retR.ret _ _ (ret1 rfl rfl) cv_ ⟨?_, rfl⟩
  all_goals rfl
theorem islots_c {k s : Int} (hz : SizeP k s) (hk : k ≠ 1) :
    Fn Try.prog w0 81 #[.int .i64 k, .int .i64 s] H fun v H' => ∃ b sp, v = .slice (some ⟨b, 0, none⟩) (slots k s).length ((slots k s).length + List.length sp) ∧ H' = (b, .cells (rowA .i64 (slots k s) sp) 3 (0, 0)) :: H := by
  have hs : 1 ≤ s ∧ s ≤ 256 ∧ 1 ≤ k ∧ k ≤ 6 := by unfold SizeP at hz; omega
  refine enter2 Try.func81 rfl rfl Try.ntmps81 rfl ?_
  repeat' (fail_if_success apply gAt 2); (first | (apply gL; first | refine L_nil ?_ | (apply gMk; first | (apply L_mkcap rfl rfl rfl rfl rfl rfl; (· omega); (· omega); (· omega); intro _ _) | (apply L_makeI rfl rfl rfl rfl rfl rfl; (· omega); (· omega); intro _) | (apply L_makeB rfl rfl rfl rfl rfl rfl; (· omega); (· omega); intro _) | (apply L_makeV rfl rfl rfl rfl rfl rfl; (· omega); (· omega); intro _)) | (apply gBs; first | (refine L_bs0 rfl rfl rfl rfl (fun _ => ?_)) | (refine L_bs1 rfl rfl rfl rfl rfl rfl rfl (fun _ => ?_))) | (apply gApp; apply L_appI rfl rfl rfl rfl rfl rfl; (· exact at_); (· exact tk_); (· rfl); (· omega); intro _ _) | refine kV ?_) | (apply gW; first | refine W_seq ?_ | refine W_region ?_ | refine W_ret ?_ | refine W_skip ?_ | refine W_block ?_ | refine W_exit ?_ | refine W_cond1 rfl ?_ | refine W_cond0 rfl ?_ | refine cN (fun h => ?_) fun h => ?_ | refine cP (fun h => ?_) fun h => ?_ | refine cB (fun h => ?_) fun h => ?_ | refine cK (fun h => ?_) fun h => ?_) | (first | refine seqR.normal ?_ | refine seqR.ret ?_ | refine seqR.exit ?_ | refine blockR.normal ?_ | refine blockR.ret ?_ | refine blockR.here ?_ | refine blockR.exit rfl ?_ | refine loopR.ret ?_ | refine loopR.exit ?_ | refine midA.ret ?_ | refine midA.exit ?_) | fail)
  refine W_midA (α := Unit) (fun y => [(1, .int .i64 s), (5, .int .i64 (from_ k s))]) (fun y => H) (fun y => True) ?_ ?_
  · repeat' (first | (apply gL; first | refine L_nil ?_ | (apply gMk; first | (apply L_mkcap rfl rfl rfl rfl rfl rfl; (· omega); (· omega); (· omega); intro _ _) | (apply L_makeI rfl rfl rfl rfl rfl rfl; (· omega); (· omega); intro _) | (apply L_makeB rfl rfl rfl rfl rfl rfl; (· omega); (· omega); intro _) | (apply L_makeV rfl rfl rfl rfl rfl rfl; (· omega); (· omega); intro _)) | (apply gBs; first | (refine L_bs0 rfl rfl rfl rfl (fun _ => ?_)) | (refine L_bs1 rfl rfl rfl rfl rfl rfl rfl (fun _ => ?_))) | (apply gApp; apply L_appI rfl rfl rfl rfl rfl rfl; (· exact at_); (· exact tk_); (· rfl); (· omega); intro _ _) | refine kV ?_) | (apply gW; first | refine W_seq ?_ | refine W_region ?_ | refine W_ret ?_ | refine W_skip ?_ | refine W_block ?_ | refine W_exit ?_ | refine W_cond1 rfl ?_ | refine W_cond0 rfl ?_ | refine cN (fun h => ?_) fun h => ?_ | refine cP (fun h => ?_) fun h => ?_ | refine cB (fun h => ?_) fun h => ?_ | refine cK (fun h => ?_) fun h => ?_) | (first | refine seqR.normal ?_ | refine seqR.ret ?_ | refine seqR.exit ?_ | refine blockR.normal ?_ | refine blockR.ret ?_ | refine blockR.here ?_ | refine blockR.exit rfl ?_ | refine loopR.ret ?_ | refine loopR.exit ?_ | refine midA.ret ?_ | refine midA.exit ?_) | fail)
    all_goals (first | (exfalso; omega) | skip)
    all_goals (refine midA.at_ () trivial ⟨rfl, lk (by unfold from_; omega), trivial⟩ cvt_)
  rintro _ _
  repeat' (first | (apply gL; first | refine L_nil ?_ | (apply gMk; first | (apply L_mkcap rfl rfl rfl rfl rfl rfl; (· omega); (· omega); (· omega); intro _ _) | (apply L_makeI rfl rfl rfl rfl rfl rfl; (· omega); (· omega); intro _) | (apply L_makeB rfl rfl rfl rfl rfl rfl; (· omega); (· omega); intro _) | (apply L_makeV rfl rfl rfl rfl rfl rfl; (· omega); (· omega); intro _)) | (apply gBs; first | (refine L_bs0 rfl rfl rfl rfl (fun _ => ?_)) | (refine L_bs1 rfl rfl rfl rfl rfl rfl rfl (fun _ => ?_))) | (apply gApp; apply L_appI rfl rfl rfl rfl rfl rfl; (· exact at_); (· exact tk_); (· rfl); (· omega); intro _ _) | refine kV ?_) | (apply gW; first | refine W_seq ?_ | refine W_region ?_ | refine W_ret ?_ | refine W_skip ?_ | refine W_block ?_ | refine W_exit ?_ | refine W_cond1 rfl ?_ | refine W_cond0 rfl ?_ | refine cN (fun h => ?_) fun h => ?_ | refine cP (fun h => ?_) fun h => ?_ | refine cB (fun h => ?_) fun h => ?_ | refine cK (fun h => ?_) fun h => ?_) | (first | refine seqR.normal ?_ | refine seqR.ret ?_ | refine seqR.exit ?_ | refine blockR.normal ?_ | refine blockR.ret ?_ | refine blockR.here ?_ | refine blockR.exit rfl ?_ | refine loopR.ret ?_ | refine loopR.exit ?_ | refine midA.ret ?_ | refine midA.exit ?_) | fail)
  rename_i b0 sp0
  apply W_loopX (α := List Int × List Value × Nat × Int) (fun y => [(1, .int .i64 s), (6, .slice (some ⟨y.2.2.1, 0, none⟩) y.1.length (y.1.length + y.2.1.length)), (7, .int .i64 y.2.2.2)]) (fun y => (y.2.2.1, .cells (rowA .i64 y.1 y.2.1) 3 (0, 0)) :: H)
    (fun y => (∃ f, y.1 ++ slotsFrom f y.2.2.2 s = slots k s ∧ s - y.2.2.2 + 2 ≤ 2 * (f : Int)) ∧ y.1.length ≤ 130 ∧ 1 ≤ y.2.2.2 ∧ y.2.2.2 ≤ 300) (fun y => (s - y.2.2.2 + 2).toNat) ([], sp0, b0, from_ k s)
  · exact sub_
  · exact cvt_
  · exact ⟨⟨130, rfl, by simp only [from_]; omega⟩, by simp, by simp only [from_]; omega, by simp only [from_]; omega⟩
  rintro ⟨xs, sp, b2, i⟩ ⟨⟨f, hf, hf2⟩, hl, hi, hi2⟩
  dsimp only at hf hf2 hl hi hi2 ⊢
  repeat' (first | (apply gL; first | refine L_nil ?_ | (apply gMk; first | (apply L_mkcap rfl rfl rfl rfl rfl rfl; (· omega); (· omega); (· omega); intro _ _) | (apply L_makeI rfl rfl rfl rfl rfl rfl; (· omega); (· omega); intro _) | (apply L_makeB rfl rfl rfl rfl rfl rfl; (· omega); (· omega); intro _) | (apply L_makeV rfl rfl rfl rfl rfl rfl; (· omega); (· omega); intro _)) | (apply gBs; first | (refine L_bs0 rfl rfl rfl rfl (fun _ => ?_)) | (refine L_bs1 rfl rfl rfl rfl rfl rfl rfl (fun _ => ?_))) | (apply gApp; apply L_appI rfl rfl rfl rfl rfl rfl; (· exact at_); (· exact tk_); (· rfl); (· omega); intro _ _) | refine kV ?_) | (apply gW; first | refine W_seq ?_ | refine W_region ?_ | refine W_ret ?_ | refine W_skip ?_ | refine W_block ?_ | refine W_exit ?_ | refine W_cond1 rfl ?_ | refine W_cond0 rfl ?_ | refine cN (fun h => ?_) fun h => ?_ | refine cP (fun h => ?_) fun h => ?_ | refine cB (fun h => ?_) fun h => ?_ | refine cK (fun h => ?_) fun h => ?_) | (first | refine seqR.normal ?_ | refine seqR.ret ?_ | refine seqR.exit ?_ | refine blockR.normal ?_ | refine blockR.ret ?_ | refine blockR.here ?_ | refine blockR.exit rfl ?_ | refine loopR.ret ?_ | refine loopR.exit ?_ | refine midA.ret ?_ | refine midA.exit ?_) | fail)
  · rename_i h _ _ _
    obtain ⟨f', rfl, e⟩ := slotsFrom_lt (show i + 1 ≤ s by omega) hf2
    rw [e] at hf
    have := congrArg List.length hf
    have h3 := slotsLen (f := 130) (i := from_ k s) (s := s)
    simp only [slots, List.length_append, List.length_cons] at this
    apply loopR.mk (xs ++ [i], _, _, i + 2)
    · exact sub_
    · exact cvt_
    · exact ⟨⟨f', by simpa using hf, by dsimp only; omega⟩, by simp; omega, by dsimp only; omega, by dsimp only; omega⟩
    dsimp only; omega
  · rename_i h
    rw [slotsFrom_ge (show ¬ i + 1 ≤ s by omega), List.append_nil] at hf
    subst hf
    exact retR.ret _ _ (ret1 rfl rfl) cvt_ ⟨_, _, rfl, rfl⟩
end Go.Proofs.Ytepddopgmhdllaa.Eng
