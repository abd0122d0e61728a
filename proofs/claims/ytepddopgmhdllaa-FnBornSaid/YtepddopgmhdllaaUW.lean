/- The implementation's SerialOf. -/
import Derived.Test.YtepddopgmhdllaaBkT0
import Derived.Test.YtepddopgmhdllaaU0
namespace Go.Proofs.Ytepddopgmhdllaa.Eng
open Go Go.RowKit Go.Proofs.Ytepddopgmhdllaa.Sl Go.Proofs.Ytepddopgmhdllaa.Ar Go.Proofs.Ytepddopgmhdllaa.Base
set_option linter.unusedVariables false
set_option linter.unusedSimpArgs false
set_option maxRecDepth 10000
variable {w0 : World} {H : HL} {C : Cn} {A : Ar} {ba : Nat}
theorem implSerialOf_c {r : Int} (hA : At H C.bw (wObj C A)) (hR : At H C.br (rObj C A)) (hw : Wf A.ws) (hc : A.ws.length ≤ C.wc) (hx : A.vs.length ≤ 1048576) :
    Fn Try.prog w0 51 #[arV C A, .int .i64 r] H fun v H' => v = .int .i64 (A.serialR r) ∧ H' = H := by
  cases hok : A.ok with
  | false =>
    refine enter2 Try.func51 rfl rfl Try.ntmps51 rfl ?_
    repeat' (first | (apply gCall; apply L_call rfl rfl rfl rfl rfl; (· first | exact implArenaOkB_c hok at_ at_ hw hc hx | exact isRoot1_c at_ at_ hx | exact implIsRef_c _ _ | exact head_c at_ at_ hw om om); rintro _ _ ⟨rfl, rfl⟩) | (apply gL; first | refine L_nil ?_ | refine yS ?_ | refine yX fun _ => ?_ | (apply gBs; first | (refine L_bs0 rfl rfl rfl rfl (fun _ => ?_)) | (refine L_bs1 rfl rfl rfl rfl rfl rfl rfl (fun _ => ?_))) | refine kV ?_ | (apply L_val rfl rfl rfl; (· first | (apply gBin; first | fail ) | fail | (apply v_ld rfl; (· exact at_); (· first | exact ld_rowV0 om om | exact ld_rowV1 om om); done))) | ((fail_if_success (refine L_known rfl ?_)); refine yW (fun h => ?_) fun h => ?_)) | (apply gW; first | refine W_seq ?_ | refine W_region ?_ | refine W_ret ?_ | refine W_skip ?_ | refine W_cond1 rfl ?_ | refine W_cond0 rfl ?_ | refine cW (fun h => ?_) fun h => ?_) | (first | refine seqR.normal ?_ | refine seqR.ret ?_) | fail)
    all_goals refine retR.ret _ _ (ret1 rfl rfl) cv_ ⟨?_, rfl⟩
    unfold Ar.serialR; rw [hok]; rfl
  | true =>
    obtain ⟨m, hP⟩ := okP_of hok
    obtain ⟨⟨l1, l2⟩, l3, l4, l5⟩ := hP.lens
    have hf : 0 ≤ r → r < (A.vs.length : Int) → kd (rT A r) ≠ 0 → 0 ≤ rN A r ∧ rN A r < (A.ws.length : Int) := fun h0 h1 h2 => by
      have h3 := hP.root h0 h1 h2
      exact ⟨h3.1, h3.2.1⟩
    dsimp only [rT, rN] at hf
    refine enter2 Try.func51 rfl rfl Try.ntmps51 rfl ?_
    repeat' (fail_if_success apply gAt 3); (first | (apply gCall; apply L_call rfl rfl rfl rfl rfl; (· first | exact implArenaOkB_c hok at_ at_ hw hc hx | exact isRoot1_c at_ at_ hx | exact implIsRef_c _ _ | exact head_c at_ at_ hw om om); rintro _ _ ⟨rfl, rfl⟩) | (apply gL; first | refine L_nil ?_ | refine yS ?_ | refine yX fun _ => ?_ | (apply gBs; first | (refine L_bs0 rfl rfl rfl rfl (fun _ => ?_)) | (refine L_bs1 rfl rfl rfl rfl rfl rfl rfl (fun _ => ?_))) | refine kV ?_ | (apply L_val rfl rfl rfl; (· first | (apply gBin; first | fail ) | fail | (apply v_ld rfl; (· exact at_); (· first | exact ld_rowV0 om om | exact ld_rowV1 om om); done))) | ((fail_if_success (refine L_known rfl ?_)); refine yW (fun h => ?_) fun h => ?_)) | (apply gW; first | refine W_seq ?_ | refine W_region ?_ | refine W_ret ?_ | refine W_skip ?_ | refine W_cond1 rfl ?_ | refine W_cond0 rfl ?_ | refine cW (fun h => ?_) fun h => ?_) | (first | refine seqR.normal ?_ | refine seqR.ret ?_) | fail)
    · refine retR.ret _ _ (ret1 rfl rfl) cv_ ⟨?_, rfl⟩
      unfold Ar.serialR; rw [if_neg (fun c => h (of_decide_eq_true c.2.1))]
    · refine retR.ret _ _ (ret1 rfl rfl) cv_ ⟨?_, rfl⟩
      unfold Ar.serialR; rw [if_neg (fun c => h c.2.2)]
    · have hf := hf (by omega) (by omega) h
      repeat' (first | (apply gCall; apply L_call rfl rfl rfl rfl rfl; (· first | exact implArenaOkB_c hok at_ at_ hw hc hx | exact isRoot1_c at_ at_ hx | exact implIsRef_c _ _ | exact head_c at_ at_ hw om om); rintro _ _ ⟨rfl, rfl⟩) | (apply gL; first | refine L_nil ?_ | refine yS ?_ | refine yX fun _ => ?_ | (apply gBs; first | (refine L_bs0 rfl rfl rfl rfl (fun _ => ?_)) | (refine L_bs1 rfl rfl rfl rfl rfl rfl rfl (fun _ => ?_))) | refine kV ?_ | (apply L_val rfl rfl rfl; (· first | (apply gBin; first | fail ) | fail | (apply v_ld rfl; (· exact at_); (· first | exact ld_rowV0 om om | exact ld_rowV1 om om); done))) | ((fail_if_success (refine L_known rfl ?_)); refine yW (fun h => ?_) fun h => ?_)) | (apply gW; first | refine W_seq ?_ | refine W_region ?_ | refine W_ret ?_ | refine W_skip ?_ | refine W_cond1 rfl ?_ | refine W_cond0 rfl ?_ | refine cW (fun h => ?_) fun h => ?_) | (first | refine seqR.normal ?_ | refine seqR.ret ?_) | fail)
      refine retR.ret _ _ (ret1 rfl rfl) cv_ ⟨?_, rfl⟩
      unfold Ar.serialR; rw [if_pos ⟨hok, decide_eq_true (by assumption), h⟩]
end Go.Proofs.Ytepddopgmhdllaa.Eng
