/- The implementation's SameRoots. -/
import Derived.Test.YtepddopgmhdllaaBkT0
import Derived.Test.YtepddopgmhdllaaU0
namespace Go.Proofs.Ytepddopgmhdllaa.Eng
open Go Go.RowKit Go.Proofs.Ytepddopgmhdllaa.Sl Go.Proofs.Ytepddopgmhdllaa.Ar Go.Proofs.Ytepddopgmhdllaa.Base
set_option linter.unusedVariables false
set_option linter.unusedSimpArgs false
set_option maxRecDepth 10000
variable {w0 : World} {H : HL} {C : Cn} {A : Ar} {ba : Nat}
theorem implSameRoots_c {r s : Int} (hA : At H C.bw (wObj C A)) (hR : At H C.br (rObj C A)) (hw : Wf A.ws) (hc : A.ws.length ≤ C.wc) (hx : A.vs.length ≤ 1048576) :
    Fn Try.prog w0 39 #[arV C A, .int .i64 r, .int .i64 s] H fun v H' => v = .bool (A.sameR r s) ∧ H' = H := by
  cases hok : A.ok with
  | false =>
    refine enter3 Try.func39 rfl rfl Try.ntmps39 rfl ?_
    repeat' (fail_if_success apply gAtR 1); (first | (apply gCall; apply L_call rfl rfl rfl rfl rfl; (· first | exact implArenaOkB_c hok at_ at_ hw hc hx | exact isRoot2_c at_ at_ hx | exact isame_c at_ at_ hw l2 l3 l4 (hKey om om) (hKey om om) (hPl om om) (hPl om om)); rintro _ _ ⟨rfl, rfl⟩) | (apply gL; first | refine L_nil ?_ | refine yS ?_ | refine yX fun _ => ?_ | (apply gBs; first | (refine L_bs0 rfl rfl rfl rfl (fun _ => ?_)) | (refine L_bs1 rfl rfl rfl rfl rfl rfl rfl (fun _ => ?_))) | refine kV ?_ | (apply L_val rfl rfl rfl; (· first | (apply gBin; first | fail ) | fail | (apply v_ld rfl; (· exact at_); (· first | exact ld_rowV0 om om | exact ld_rowV1 om om); done))) | ((fail_if_success (refine L_known rfl ?_)); refine yW (fun h => ?_) fun h => ?_)) | (apply gW; first | refine W_seq ?_ | refine W_region ?_ | refine W_ret ?_ | refine W_skip ?_) | (first | refine seqR.normal ?_ | refine seqR.ret ?_) | fail)
    refine W_seq ?_
    apply W_regionA (by kernel_rfl)
    first | refine kA 0 ?_ | (apply A_val 0 rfl (by kernel_rfl) rfl rfl rfl cv_; (· first | (apply gBin; first | fail ) | fail | (apply v_ld rfl; (· exact at_); (· first | exact ld_rowV0 om om | exact ld_rowV1 om om); done)))
    refine A_one (i := 1) (by kernel_rfl) cv_ rfl (O_of_L fun S hS => ?_)
    first | (apply gCall; apply L_call rfl rfl rfl rfl rfl; (· first | exact implArenaOkB_c hok at_ at_ hw hc hx | exact isRoot2_c at_ at_ hx | exact isame_c at_ at_ hw l2 l3 l4 (hKey om om) (hKey om om) (hPl om om) (hPl om om)); rintro _ _ ⟨rfl, rfl⟩) | (apply gL; first | refine L_nil ?_ | refine yS ?_ | refine yX fun _ => ?_ | (apply gBs; first | (refine L_bs0 rfl rfl rfl rfl (fun _ => ?_)) | (refine L_bs1 rfl rfl rfl rfl rfl rfl rfl (fun _ => ?_))) | refine kV ?_ | (apply L_val rfl rfl rfl; (· first | (apply gBin; first | fail ) | fail | (apply v_ld rfl; (· exact at_); (· first | exact ld_rowV0 om om | exact ld_rowV1 om om); done))) | ((fail_if_success (refine L_known rfl ?_)); refine yW (fun h => ?_) fun h => ?_))
    refine L_nil (hS _ _ ?_)
    clear hS
    first | refine kA 2 ?_ | refine kS 2 ?_
    first | refine kA 3 ?_ | refine kS 3 ?_
    first | refine kA 4 ?_ | refine kS 4 ?_
    first | refine kA 5 ?_ | refine kS 5 ?_
    first | refine kA 6 ?_ | refine kS 6 ?_
    first | refine kA 7 ?_ | refine kS 7 ?_
    first | refine kA 8 ?_ | refine kS 8 ?_
    first | refine kA 9 ?_ | refine kS 9 ?_
    first | refine kA 10 ?_ | refine kS 10 ?_
    first | refine kA 11 ?_ | refine kS 11 ?_
    first | refine kA 12 ?_ | refine kS 12 ?_
    first | refine kA 13 ?_ | refine kS 13 ?_
    first | refine kA 14 ?_ | refine kS 14 ?_
    first | refine kA 15 ?_ | refine kS 15 ?_
    first | refine kA 16 ?_ | refine kS 16 ?_
    first | refine kA 17 ?_ | refine kS 17 ?_
    first | refine kA 18 ?_ | refine kS 18 ?_
    first | refine kA 19 ?_ | refine kS 19 ?_
    first | refine kA 20 ?_ | refine kS 20 ?_
    first | refine kA 21 ?_ | refine kS 21 ?_
    refine A_nil (by kernel_rfl) cv_ ?_
    repeat' (first | (apply gCall; apply L_call rfl rfl rfl rfl rfl; (· first | exact implArenaOkB_c hok at_ at_ hw hc hx | exact isRoot2_c at_ at_ hx | exact isame_c at_ at_ hw l2 l3 l4 (hKey om om) (hKey om om) (hPl om om) (hPl om om)); rintro _ _ ⟨rfl, rfl⟩) | (apply gL; first | refine L_nil ?_ | refine yS ?_ | refine yX fun _ => ?_ | (apply gBs; first | (refine L_bs0 rfl rfl rfl rfl (fun _ => ?_)) | (refine L_bs1 rfl rfl rfl rfl rfl rfl rfl (fun _ => ?_))) | refine kV ?_ | (apply L_val rfl rfl rfl; (· first | (apply gBin; first | fail ) | fail | (apply v_ld rfl; (· exact at_); (· first | exact ld_rowV0 om om | exact ld_rowV1 om om); done))) | ((fail_if_success (refine L_known rfl ?_)); refine yW (fun h => ?_) fun h => ?_)) | (apply gW; first | refine W_seq ?_ | refine W_region ?_ | refine W_ret ?_ | refine W_skip ?_) | (first | refine seqR.normal ?_ | refine seqR.ret ?_) | fail)
    refine retR.ret _ _ (ret1 rfl rfl) cv_ ⟨?_, rfl⟩
    unfold Ar.sameR; rw [hok]; rfl
  | true =>
    obtain ⟨m, hP⟩ := okP_of hok
    obtain ⟨⟨l1, l2⟩, l3, l4, l5⟩ := hP.lens
    have hKey : ∀ {i : Int}, 0 ≤ i → i < (A.vs.length : Int) → KeyP A (A.vs.getD i.toNat (0, 0)).1 (A.vs.getD i.toNat (0, 0)).2 := fun h0 h1 => hP.rootKey h0 h1
    have hPl : ∀ {i : Int}, 0 ≤ i → i < (A.vs.length : Int) → kd (A.vs.getD i.toNat (0, 0)).1 ≠ 0 → PlaceP A (A.vs.getD i.toNat (0, 0)).2 := fun h0 h1 h2 => hP.rootPl h0 h1 h2
    refine enter3 Try.func39 rfl rfl Try.ntmps39 rfl ?_
    repeat' (fail_if_success apply gAtR 1); (first | (apply gCall; apply L_call rfl rfl rfl rfl rfl; (· first | exact implArenaOkB_c hok at_ at_ hw hc hx | exact isRoot2_c at_ at_ hx | exact isame_c at_ at_ hw l2 l3 l4 (hKey om om) (hKey om om) (hPl om om) (hPl om om)); rintro _ _ ⟨rfl, rfl⟩) | (apply gL; first | refine L_nil ?_ | refine yS ?_ | refine yX fun _ => ?_ | (apply gBs; first | (refine L_bs0 rfl rfl rfl rfl (fun _ => ?_)) | (refine L_bs1 rfl rfl rfl rfl rfl rfl rfl (fun _ => ?_))) | refine kV ?_ | (apply L_val rfl rfl rfl; (· first | (apply gBin; first | fail ) | fail | (apply v_ld rfl; (· exact at_); (· first | exact ld_rowV0 om om | exact ld_rowV1 om om); done))) | ((fail_if_success (refine L_known rfl ?_)); refine yW (fun h => ?_) fun h => ?_)) | (apply gW; first | refine W_seq ?_ | refine W_region ?_ | refine W_ret ?_ | refine W_skip ?_) | (first | refine seqR.normal ?_ | refine seqR.ret ?_) | fail)
    refine W_seq ?_
    apply W_regionA (by kernel_rfl)
    first | refine kA 0 ?_ | (apply A_val 0 rfl (by kernel_rfl) rfl rfl rfl cv_; (· first | (apply gBin; first | fail ) | fail | (apply v_ld rfl; (· exact at_); (· first | exact ld_rowV0 om om | exact ld_rowV1 om om); done)))
    refine A_one (i := 1) (by kernel_rfl) cv_ rfl (O_of_L fun S hS => ?_)
    first | (apply gCall; apply L_call rfl rfl rfl rfl rfl; (· first | exact implArenaOkB_c hok at_ at_ hw hc hx | exact isRoot2_c at_ at_ hx | exact isame_c at_ at_ hw l2 l3 l4 (hKey om om) (hKey om om) (hPl om om) (hPl om om)); rintro _ _ ⟨rfl, rfl⟩) | (apply gL; first | refine L_nil ?_ | refine yS ?_ | refine yX fun _ => ?_ | (apply gBs; first | (refine L_bs0 rfl rfl rfl rfl (fun _ => ?_)) | (refine L_bs1 rfl rfl rfl rfl rfl rfl rfl (fun _ => ?_))) | refine kV ?_ | (apply L_val rfl rfl rfl; (· first | (apply gBin; first | fail ) | fail | (apply v_ld rfl; (· exact at_); (· first | exact ld_rowV0 om om | exact ld_rowV1 om om); done))) | ((fail_if_success (refine L_known rfl ?_)); refine yW (fun h => ?_) fun h => ?_))
    refine L_nil (hS _ _ ?_)
    clear hS
    first | refine kA 2 ?_ | (apply A_val 2 rfl (by kernel_rfl) rfl rfl rfl cv_; (· first | (apply gBin; first | fail ) | fail | (apply v_ld rfl; (· exact at_); (· first | exact ld_rowV0 om om | exact ld_rowV1 om om); done)))
    first | refine kA 3 ?_ | (apply A_val 3 rfl (by kernel_rfl) rfl rfl rfl cv_; (· first | (apply gBin; first | fail ) | fail | (apply v_ld rfl; (· exact at_); (· first | exact ld_rowV0 om om | exact ld_rowV1 om om); done)))
    first | refine kA 4 ?_ | (apply A_val 4 rfl (by kernel_rfl) rfl rfl rfl cv_; (· first | (apply gBin; first | fail ) | fail | (apply v_ld rfl; (· exact at_); (· first | exact ld_rowV0 om om | exact ld_rowV1 om om); done)))
    refine A_one (i := 5) (by kernel_rfl) cv_ rfl (O_of_L fun S hS => ?_)
    refine L_bs2 rfl rfl rfl rfl rfl rfl rfl rfl rfl (fun b => ?_)
    refine L_nil (hS _ _ ?_)
    clear hS
    refine A_one (i := 6) (by kernel_rfl) cv_ rfl (O_of_L fun S hS => ?_)
    first | (apply gCall; apply L_call rfl rfl rfl rfl rfl; (· first | exact implArenaOkB_c hok at_ at_ hw hc hx | exact isRoot2_c at_ at_ hx | exact isame_c at_ at_ hw l2 l3 l4 (hKey om om) (hKey om om) (hPl om om) (hPl om om)); rintro _ _ ⟨rfl, rfl⟩) | (apply gL; first | refine L_nil ?_ | refine yS ?_ | refine yX fun _ => ?_ | (apply gBs; first | (refine L_bs0 rfl rfl rfl rfl (fun _ => ?_)) | (refine L_bs1 rfl rfl rfl rfl rfl rfl rfl (fun _ => ?_))) | refine kV ?_ | (apply L_val rfl rfl rfl; (· first | (apply gBin; first | fail ) | fail | (apply v_ld rfl; (· exact at_); (· first | exact ld_rowV0 om om | exact ld_rowV1 om om); done))) | ((fail_if_success (refine L_known rfl ?_)); refine yW (fun h => ?_) fun h => ?_))
    refine L_nil (hS _ _ ?_)
    clear hS
    first | refine kA 7 ?_ | (apply A_val 7 rfl (by kernel_rfl) rfl rfl rfl cv_; (· first | (apply gBin; first | fail ) | fail | (apply v_ld rfl; (· exact at_); (· first | exact ld_rowV0 om om | exact ld_rowV1 om om); done)))
    first | refine kA 8 ?_ | (apply A_val 8 rfl (by kernel_rfl) rfl rfl rfl cv_; (· first | (apply gBin; first | fail ) | fail | (apply v_ld rfl; (· exact at_); (· first | exact ld_rowV0 om om | exact ld_rowV1 om om); done)))
    refine A_know 9 rfl rfl rfl rfl (fun h => ?_) (fun h => ?_)
    · have hrs : (0 ≤ r ∧ r < (A.vs.length : Int)) ∧ (0 ≤ s ∧ s < (A.vs.length : Int)) := by
        rw [Bool.and_eq_true] at h
        exact ⟨inR_iff.1 h.1, inR_iff.1 h.2⟩
      first | refine kA 9 ?_ | (apply A_val 9 rfl (by kernel_rfl) rfl rfl rfl cv_; (· first | (apply gBin; first | fail ) | fail | (apply v_ld rfl; (· exact at_); (· first | exact ld_rowV0 om om | exact ld_rowV1 om om); done)))
      first | refine kA 10 ?_ | (apply A_val 10 rfl (by kernel_rfl) rfl rfl rfl cv_; (· first | (apply gBin; first | fail ) | fail | (apply v_ld rfl; (· exact at_); (· first | exact ld_rowV0 om om | exact ld_rowV1 om om); done)))
      first | refine kA 11 ?_ | (apply A_val 11 rfl (by kernel_rfl) rfl rfl rfl cv_; (· first | (apply gBin; first | fail ) | fail | (apply v_ld rfl; (· exact at_); (· first | exact ld_rowV0 om om | exact ld_rowV1 om om); done)))
      first | refine kA 12 ?_ | (apply A_val 12 rfl (by kernel_rfl) rfl rfl rfl cv_; (· first | (apply gBin; first | fail ) | fail | (apply v_ld rfl; (· exact at_); (· first | exact ld_rowV0 om om | exact ld_rowV1 om om); done)))
      first | refine kA 13 ?_ | (apply A_val 13 rfl (by kernel_rfl) rfl rfl rfl cv_; (· first | (apply gBin; first | fail ) | fail | (apply v_ld rfl; (· exact at_); (· first | exact ld_rowV0 om om | exact ld_rowV1 om om); done)))
      first | refine kA 14 ?_ | (apply A_val 14 rfl (by kernel_rfl) rfl rfl rfl cv_; (· first | (apply gBin; first | fail ) | fail | (apply v_ld rfl; (· exact at_); (· first | exact ld_rowV0 om om | exact ld_rowV1 om om); done)))
      first | refine kA 15 ?_ | (apply A_val 15 rfl (by kernel_rfl) rfl rfl rfl cv_; (· first | (apply gBin; first | fail ) | fail | (apply v_ld rfl; (· exact at_); (· first | exact ld_rowV0 om om | exact ld_rowV1 om om); done)))
      first | refine kA 16 ?_ | (apply A_val 16 rfl (by kernel_rfl) rfl rfl rfl cv_; (· first | (apply gBin; first | fail ) | fail | (apply v_ld rfl; (· exact at_); (· first | exact ld_rowV0 om om | exact ld_rowV1 om om); done)))
      first | refine kA 17 ?_ | (apply A_val 17 rfl (by kernel_rfl) rfl rfl rfl cv_; (· first | (apply gBin; first | fail ) | fail | (apply v_ld rfl; (· exact at_); (· first | exact ld_rowV0 om om | exact ld_rowV1 om om); done)))
      first | refine kA 18 ?_ | (apply A_val 18 rfl (by kernel_rfl) rfl rfl rfl cv_; (· first | (apply gBin; first | fail ) | fail | (apply v_ld rfl; (· exact at_); (· first | exact ld_rowV0 om om | exact ld_rowV1 om om); done)))
      refine A_one (i := 19) (by kernel_rfl) cv_ rfl (O_of_L fun S hS => ?_)
      first | (apply gCall; apply L_call rfl rfl rfl rfl rfl; (· first | exact implArenaOkB_c hok at_ at_ hw hc hx | exact isRoot2_c at_ at_ hx | exact isame_c at_ at_ hw l2 l3 l4 (hKey om om) (hKey om om) (hPl om om) (hPl om om)); rintro _ _ ⟨rfl, rfl⟩) | (apply gL; first | refine L_nil ?_ | refine yS ?_ | refine yX fun _ => ?_ | (apply gBs; first | (refine L_bs0 rfl rfl rfl rfl (fun _ => ?_)) | (refine L_bs1 rfl rfl rfl rfl rfl rfl rfl (fun _ => ?_))) | refine kV ?_ | (apply L_val rfl rfl rfl; (· first | (apply gBin; first | fail ) | fail | (apply v_ld rfl; (· exact at_); (· first | exact ld_rowV0 om om | exact ld_rowV1 om om); done))) | ((fail_if_success (refine L_known rfl ?_)); refine yW (fun h => ?_) fun h => ?_))
      refine L_nil (hS _ _ ?_)
      clear hS
      first | refine kA 20 ?_ | (apply A_val 20 rfl (by kernel_rfl) rfl rfl rfl cv_; (· first | (apply gBin; first | fail ) | fail | (apply v_ld rfl; (· exact at_); (· first | exact ld_rowV0 om om | exact ld_rowV1 om om); done)))
      first | refine kA 21 ?_ | (apply A_val 21 rfl (by kernel_rfl) rfl rfl rfl cv_; (· first | (apply gBin; first | fail ) | fail | (apply v_ld rfl; (· exact at_); (· first | exact ld_rowV0 om om | exact ld_rowV1 om om); done)))
      refine A_nil (by kernel_rfl) cv_ ?_
      repeat' (first | (apply gCall; apply L_call rfl rfl rfl rfl rfl; (· first | exact implArenaOkB_c hok at_ at_ hw hc hx | exact isRoot2_c at_ at_ hx | exact isame_c at_ at_ hw l2 l3 l4 (hKey om om) (hKey om om) (hPl om om) (hPl om om)); rintro _ _ ⟨rfl, rfl⟩) | (apply gL; first | refine L_nil ?_ | refine yS ?_ | refine yX fun _ => ?_ | (apply gBs; first | (refine L_bs0 rfl rfl rfl rfl (fun _ => ?_)) | (refine L_bs1 rfl rfl rfl rfl rfl rfl rfl (fun _ => ?_))) | refine kV ?_ | (apply L_val rfl rfl rfl; (· first | (apply gBin; first | fail ) | fail | (apply v_ld rfl; (· exact at_); (· first | exact ld_rowV0 om om | exact ld_rowV1 om om); done))) | ((fail_if_success (refine L_known rfl ?_)); refine yW (fun h => ?_) fun h => ?_)) | (apply gW; first | refine W_seq ?_ | refine W_region ?_ | refine W_ret ?_ | refine W_skip ?_) | (first | refine seqR.normal ?_ | refine seqR.ret ?_) | fail)
      refine retR.ret _ _ (ret1 rfl rfl) cv_ ⟨?_, rfl⟩
      unfold Ar.sameR; rw [if_pos ⟨hok, inR_iff.2 hrs.1, inR_iff.2 hrs.2⟩]
    · have h0 := h
      first | refine kA 9 ?_ | refine kS 9 ?_
      first | refine kA 10 ?_ | refine kS 10 ?_
      first | refine kA 11 ?_ | refine kS 11 ?_
      first | refine kA 12 ?_ | refine kS 12 ?_
      first | refine kA 13 ?_ | refine kS 13 ?_
      first | refine kA 14 ?_ | refine kS 14 ?_
      first | refine kA 15 ?_ | refine kS 15 ?_
      first | refine kA 16 ?_ | refine kS 16 ?_
      first | refine kA 17 ?_ | refine kS 17 ?_
      first | refine kA 18 ?_ | refine kS 18 ?_
      first | refine kA 19 ?_ | refine kS 19 ?_
      first | refine kA 20 ?_ | refine kS 20 ?_
      first | refine kA 21 ?_ | refine kS 21 ?_
      refine A_nil (by kernel_rfl) cv_ ?_
      repeat' (first | (apply gCall; apply L_call rfl rfl rfl rfl rfl; (· first | exact implArenaOkB_c hok at_ at_ hw hc hx | exact isRoot2_c at_ at_ hx | exact isame_c at_ at_ hw l2 l3 l4 (hKey om om) (hKey om om) (hPl om om) (hPl om om)); rintro _ _ ⟨rfl, rfl⟩) | (apply gL; first | refine L_nil ?_ | refine yS ?_ | refine yX fun _ => ?_ | (apply gBs; first | (refine L_bs0 rfl rfl rfl rfl (fun _ => ?_)) | (refine L_bs1 rfl rfl rfl rfl rfl rfl rfl (fun _ => ?_))) | refine kV ?_ | (apply L_val rfl rfl rfl; (· first | (apply gBin; first | fail ) | fail | (apply v_ld rfl; (· exact at_); (· first | exact ld_rowV0 om om | exact ld_rowV1 om om); done))) | ((fail_if_success (refine L_known rfl ?_)); refine yW (fun h => ?_) fun h => ?_)) | (apply gW; first | refine W_seq ?_ | refine W_region ?_ | refine W_ret ?_ | refine W_skip ?_) | (first | refine seqR.normal ?_ | refine seqR.ret ?_) | fail)
      refine retR.ret _ _ (ret1 rfl rfl) cv_ ⟨?_, rfl⟩
      unfold Ar.sameR; rw [if_neg (fun c => by rw [c.2.1, c.2.2] at h; cases h)]
end Go.Proofs.Ytepddopgmhdllaa.Eng
