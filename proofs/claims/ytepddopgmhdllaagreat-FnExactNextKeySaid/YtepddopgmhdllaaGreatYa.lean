/- NextKey: the reference's door. -/
import Derived.Test.YtepddopgmhdllaaGreatY8
import Derived.Test.YtepddopgmhdllaaGreatT6x
import Derived.Test.YtepddopgmhdllaaGreatBkH
namespace Go.Proofs.YtepddopgmhdllaaGreat.Eng
open Go Go.RowKit Go.Proofs.YtepddopgmhdllaaGreat.Sl Go.Proofs.YtepddopgmhdllaaGreat.Ar Go.Proofs.YtepddopgmhdllaaGreat.Base
set_option linter.unusedVariables false
set_option linter.unusedSimpArgs false
set_option maxRecDepth 10000
variable {w0 : World} {H : HL} {C : Cn} {A : Ar} {m : List Int}
theorem l6IsC_c {r : Int} {b : Bool} (e : (A.inR r && decide (rT A r = 4)) = b) (hR : At H C.br (rObj C A)) (hx : A.vs.length ≤ 1048576) :
    Fn Tryz.prog w0 31 #[arV C A, .int .i64 r] H fun v H' => v = .bool b ∧ H' = H := e ▸ l6Is_c hR hx
set_option maxHeartbeats 4000000 in
theorem specNextKey_c {r k s u : Int} (hA : At H C.bw (wObj C A)) (hR : At H C.br (rObj C A)) (hw : Wf A.ws) (hl : A.ws.length ≤ 1048576) (hx : A.vs.length ≤ 1048576) :
    Fn Tryz.prog w0 14 #[arV C A, .int .i64 r, .int .i64 k, .int .i64 s, .int .i64 u] H (SRes (A.nextR r k s u).1 (.bool (A.nextR r k s u).2) H) := by
  refine enter5 Tryz.func14 rfl rfl Tryz.ntmps14 rfl ?_
  repeat' (first | (apply gCall; apply L_call rfl rfl rfl rfl rfl; (· first | exact specArenaOkB_c hok at_ at_ hw hx | exact l6IsC_c h6 at_ hx | exact l2RootB_c hx); rintro _ _ ⟨rfl, rfl⟩) | (apply gL; first | refine L_nil ?_ | refine yS ?_ | refine yX fun _ => ?_ | refine yA fun _ => ?_ | (apply gSt; first | refine sR ?_ | refine sB ?_ | refine s1 ?_ | refine sW ?_ | refine sN ?_) | refine kV ?_ | (apply L_val rfl rfl rfl; (· first | (apply gBin; first | fail ) | fail | (apply v_ld rfl; (· exact at_); (· first | exact ld_rowV0 om om | exact ld_rowV1 om om); done))) | ((fail_if_success (refine L_known rfl ?_)); refine yW (fun h => ?_) fun h => ?_)) | (apply gW; first | refine W_seq ?_ | refine W_region ?_ | refine W_ret ?_ | refine W_skip ?_ | refine W_cond1 rfl ?_ | refine W_cond0 rfl ?_ | refine cW (fun h => ?_) fun h => ?_) | (first | refine seqR.normal ?_ | refine seqR.ret ?_) | fail)
  apply L_call rfl rfl rfl rfl rfl
  · exact l2Copy_c at_ at_ hl hx
  rintro _ _ ⟨C1, rfl, hc1, rfl⟩
  cases hok : A.ok with
  | false =>
    have e : A.nextR r k s u = (A, false) := by unfold Ar.nextR; rw [hok]; rfl
    rw [e]
    repeat' (first | (apply gCall; apply L_call rfl rfl rfl rfl rfl; (· first | exact specArenaOkB_c hok at_ at_ hw hx | exact l6IsC_c h6 at_ hx | exact l2RootB_c hx); rintro _ _ ⟨rfl, rfl⟩) | (apply gL; first | refine L_nil ?_ | refine yS ?_ | refine yX fun _ => ?_ | refine yA fun _ => ?_ | (apply gSt; first | refine sR ?_ | refine sB ?_ | refine s1 ?_ | refine sW ?_ | refine sN ?_) | refine kV ?_ | (apply L_val rfl rfl rfl; (· first | (apply gBin; first | fail ) | fail | (apply v_ld rfl; (· exact at_); (· first | exact ld_rowV0 om om | exact ld_rowV1 om om); done))) | ((fail_if_success (refine L_known rfl ?_)); refine yW (fun h => ?_) fun h => ?_)) | (apply gW; first | refine W_seq ?_ | refine W_region ?_ | refine W_ret ?_ | refine W_skip ?_ | refine W_cond1 rfl ?_ | refine W_cond0 rfl ?_ | refine cW (fun h => ?_) fun h => ?_) | (first | refine seqR.normal ?_ | refine seqR.ret ?_) | fail)
    refine retR.ret _ _ (retCT rfl rfl at_ (by rfl) rfl) cvt_ ⟨_, rfl, rfl⟩
  | true =>
    obtain ⟨m, hP⟩ := okP_of hok
    have hSI := okSI hP hw
    cases h6 : (A.inR r && decide (rT A r = 4)) with
    | false =>
      have e : A.nextR r k s u = (A, false) := by
        unfold Ar.nextR
        rw [if_neg]
        rintro ⟨-, c1, -, -, -, c4, -⟩
        rw [c1, Bool.true_and, decide_eq_false_iff_not] at h6
        exact h6 c4
      rw [e]
      repeat' (first | (apply gCall; apply L_call rfl rfl rfl rfl rfl; (· first | exact specArenaOkB_c hok at_ at_ hw hx | exact l6IsC_c h6 at_ hx | exact l2RootB_c hx); rintro _ _ ⟨rfl, rfl⟩) | (apply gL; first | refine L_nil ?_ | refine yS ?_ | refine yX fun _ => ?_ | refine yA fun _ => ?_ | (apply gSt; first | refine sR ?_ | refine sB ?_ | refine s1 ?_ | refine sW ?_ | refine sN ?_) | refine kV ?_ | (apply L_val rfl rfl rfl; (· first | (apply gBin; first | fail ) | fail | (apply v_ld rfl; (· exact at_); (· first | exact ld_rowV0 om om | exact ld_rowV1 om om); done))) | ((fail_if_success (refine L_known rfl ?_)); refine yW (fun h => ?_) fun h => ?_)) | (apply gW; first | refine W_seq ?_ | refine W_region ?_ | refine W_ret ?_ | refine W_skip ?_ | refine W_cond1 rfl ?_ | refine W_cond0 rfl ?_ | refine cW (fun h => ?_) fun h => ?_) | (first | refine seqR.normal ?_ | refine seqR.ret ?_) | fail)
      refine retR.ret _ _ (retCT rfl rfl at_ (by rfl) rfl) cvt_ ⟨_, rfl, rfl⟩
    | true =>
      have h6' := h6
      rw [Bool.and_eq_true, decide_eq_true_eq] at h6'
      obtain ⟨h61, h64⟩ := h6'
      have hr := inR_iff.1 h61
      have hkeys : rvT A.ws (rN A r + 2) = 8 → A.keysOk (A.where_ (rvN A.ws (rN A r + 2))) = true := fun c => by
        rcases (hP.rootTab hr.1 hr.2 h64).2.2.2 with d | d
        · omega
        · exact d.2.2.2.ok
      repeat' ((fail_if_success apply gAtR 4); (first | (apply gCall; apply L_call rfl rfl rfl rfl rfl; (· first | exact specArenaOkB_c hok at_ at_ hw hx | exact l6IsC_c h6 at_ hx | exact l2RootB_c hx); rintro _ _ ⟨rfl, rfl⟩) | (apply gL; first | refine L_nil ?_ | refine yS ?_ | refine yX fun _ => ?_ | refine yA fun _ => ?_ | (apply gSt; first | refine sR ?_ | refine sB ?_ | refine s1 ?_ | refine sW ?_ | refine sN ?_) | refine kV ?_ | (apply L_val rfl rfl rfl; (· first | (apply gBin; first | fail ) | fail | (apply v_ld rfl; (· exact at_); (· first | exact ld_rowV0 om om | exact ld_rowV1 om om); done))) | ((fail_if_success (refine L_known rfl ?_)); refine yW (fun h => ?_) fun h => ?_)) | (apply gW; first | refine W_seq ?_ | refine W_region ?_ | refine W_ret ?_ | refine W_skip ?_ | refine W_cond1 rfl ?_ | refine W_cond0 rfl ?_ | refine cW (fun h => ?_) fun h => ?_) | (first | refine seqR.normal ?_ | refine seqR.ret ?_) | fail))
      all_goals (try (
        have e : A.nextR r k s u = (A, false) := by
          unfold Ar.nextR
          rw [if_neg]
          rintro ⟨-, -, c2, c3, c5, -, c6⟩
          have c2 := of_decide_eq_true (show decide _ = true from c2)
          have c3 := of_decide_eq_true (show decide _ = true from c3)
          have c5 := of_decide_eq_true (show decide _ = true from c5)
          first | exact absurd c2 (by assumption) | exact absurd c3 (by assumption) | exact absurd c5 (by assumption) | exact absurd (show s = u by assumption) c6
        rw [e]
        refine retR.ret _ _ (retCT rfl rfl at_ (by rfl) rfl) cvt_ ⟨_, rfl, rfl⟩
        done))
      have hsu : ¬ s = u := by assumption
      have hcond : A.ok = true ∧ A.inR r = true ∧ A.inR k = true ∧ A.inR s = true ∧ A.inR u = true ∧ (A.vs.getD r.toNat (0, 0)).1 = 4 ∧ s ≠ u := ⟨hok, h61, inR_iff.2 (by omega), inR_iff.2 (by omega), inR_iff.2 (by omega), h64, hsu⟩
      repeat' (first | (apply gCall; apply L_call rfl rfl rfl rfl rfl; (· first | exact specArenaOkB_c hok at_ at_ hw hx | exact l6IsC_c h6 at_ hx | exact l2RootB_c hx); rintro _ _ ⟨rfl, rfl⟩) | (apply gL; first | refine L_nil ?_ | refine yS ?_ | refine yX fun _ => ?_ | refine yA fun _ => ?_ | (apply gSt; first | refine sR ?_ | refine sB ?_ | refine s1 ?_ | refine sW ?_ | refine sN ?_) | refine kV ?_ | (apply L_val rfl rfl rfl; (· first | (apply gBin; first | fail ) | fail | (apply v_ld rfl; (· exact at_); (· first | exact ld_rowV0 om om | exact ld_rowV1 om om); done))) | ((fail_if_success (refine L_known rfl ?_)); refine yW (fun h => ?_) fun h => ?_)) | (apply gW; first | refine W_seq ?_ | refine W_region ?_ | refine W_ret ?_ | refine W_skip ?_ | refine W_cond1 rfl ?_ | refine W_cond0 rfl ?_ | refine cW (fun h => ?_) fun h => ?_) | (first | refine seqR.normal ?_ | refine seqR.ret ?_) | fail)
      apply L_call rfl rfl rfl rfl rfl
      · exact l6Next_c tk_ tk_ hSI hr.1 hr.2 (by omega) (by omega) (by omega) (by omega) hsu hx h64 hkeys
      rintro _ _ hN
      rcases hN with ⟨B, eB, rfl, rfl⟩ | ⟨eB, B, rfl, rfl⟩
      · have e : A.nextR r k s u = (B, true) := by unfold Ar.nextR; rw [if_pos hcond, eB]
        rw [e]
        repeat' (first | exact absurd rfl h | first | (apply gCall; apply L_call rfl rfl rfl rfl rfl; (· first | exact specArenaOkB_c hok at_ at_ hw hx | exact l6IsC_c h6 at_ hx | exact l2RootB_c hx); rintro _ _ ⟨rfl, rfl⟩) | (apply gL; first | refine L_nil ?_ | refine yS ?_ | refine yX fun _ => ?_ | refine yA fun _ => ?_ | (apply gSt; first | refine sR ?_ | refine sB ?_ | refine s1 ?_ | refine sW ?_ | refine sN ?_) | refine kV ?_ | (apply L_val rfl rfl rfl; (· first | (apply gBin; first | fail ) | fail | (apply v_ld rfl; (· exact at_); (· first | exact ld_rowV0 om om | exact ld_rowV1 om om); done))) | ((fail_if_success (refine L_known rfl ?_)); refine yW (fun h => ?_) fun h => ?_)) | (apply gW; first | refine W_seq ?_ | refine W_region ?_ | refine W_ret ?_ | refine W_skip ?_ | refine W_cond1 rfl ?_ | refine W_cond0 rfl ?_ | refine cW (fun h => ?_) fun h => ?_) | (first | refine seqR.normal ?_ | refine seqR.ret ?_) | fail)
        refine retR.ret _ _ (retCT rfl rfl at_ (by rfl) rfl) cvt_ ⟨_, rfl, rfl⟩
      · have e : A.nextR r k s u = (A, false) := by unfold Ar.nextR; rw [if_pos hcond, eB]
        rw [e]
        repeat' (first | exact absurd rfl h | first | (apply gCall; apply L_call rfl rfl rfl rfl rfl; (· first | exact specArenaOkB_c hok at_ at_ hw hx | exact l6IsC_c h6 at_ hx | exact l2RootB_c hx); rintro _ _ ⟨rfl, rfl⟩) | (apply gL; first | refine L_nil ?_ | refine yS ?_ | refine yX fun _ => ?_ | refine yA fun _ => ?_ | (apply gSt; first | refine sR ?_ | refine sB ?_ | refine s1 ?_ | refine sW ?_ | refine sN ?_) | refine kV ?_ | (apply L_val rfl rfl rfl; (· first | (apply gBin; first | fail ) | fail | (apply v_ld rfl; (· exact at_); (· first | exact ld_rowV0 om om | exact ld_rowV1 om om); done))) | ((fail_if_success (refine L_known rfl ?_)); refine yW (fun h => ?_) fun h => ?_)) | (apply gW; first | refine W_seq ?_ | refine W_region ?_ | refine W_ret ?_ | refine W_skip ?_ | refine W_cond1 rfl ?_ | refine W_cond0 rfl ?_ | refine cW (fun h => ?_) fun h => ?_) | (first | refine seqR.normal ?_ | refine seqR.ret ?_) | fail)
        apply L_call rfl rfl rfl rfl rfl
        · exact l2Copy_c at_ at_ hl hx
        rintro _ _ ⟨C2, rfl, hc2, rfl⟩
        repeat' (first | (apply gCall; apply L_call rfl rfl rfl rfl rfl; (· first | exact specArenaOkB_c hok at_ at_ hw hx | exact l6IsC_c h6 at_ hx | exact l2RootB_c hx); rintro _ _ ⟨rfl, rfl⟩) | (apply gL; first | refine L_nil ?_ | refine yS ?_ | refine yX fun _ => ?_ | refine yA fun _ => ?_ | (apply gSt; first | refine sR ?_ | refine sB ?_ | refine s1 ?_ | refine sW ?_ | refine sN ?_) | refine kV ?_ | (apply L_val rfl rfl rfl; (· first | (apply gBin; first | fail ) | fail | (apply v_ld rfl; (· exact at_); (· first | exact ld_rowV0 om om | exact ld_rowV1 om om); done))) | ((fail_if_success (refine L_known rfl ?_)); refine yW (fun h => ?_) fun h => ?_)) | (apply gW; first | refine W_seq ?_ | refine W_region ?_ | refine W_ret ?_ | refine W_skip ?_ | refine W_cond1 rfl ?_ | refine W_cond0 rfl ?_ | refine cW (fun h => ?_) fun h => ?_) | (first | refine seqR.normal ?_ | refine seqR.ret ?_) | fail)
        refine retR.ret _ _ (retCT rfl rfl at_ (by rfl) rfl) cvt_ ⟨_, rfl, rfl⟩
end Go.Proofs.YtepddopgmhdllaaGreat.Eng
