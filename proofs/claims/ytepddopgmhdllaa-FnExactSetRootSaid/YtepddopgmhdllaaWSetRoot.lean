/- The law of SetRoot returns true. -/
import Derived.Test.YtepddopgmhdllaaBkF
namespace Go.Proofs.Ytepddopgmhdllaa.Eng
open Go Go.RowKit Go.Proofs.Ytepddopgmhdllaa.Sl Go.Proofs.Ytepddopgmhdllaa.Ar Go.Proofs.Ytepddopgmhdllaa.Base
set_option linter.unusedVariables false
set_option linter.unusedSimpArgs false
set_option maxRecDepth 10000
variable {w0 : World} {A : Ar}
theorem cvNil : ∀ {H : HL}, Cv H []
  | [] => Cv.refl
  | _ :: _ => Cv.skip cvNil
set_option maxHeartbeats 8000000 in
theorem lawSetRoot_c {aW aR : Option Addr} {cW cR : Nat} {x0 t n : Int} (hW : InU w0 aW cW A.ws) (hR : InV w0 aR cR A.vs) (hw : Wf A.ws) (wx0 : (Lit.int .i64 x0).wf = true) (wt : (Lit.int .i64 t).wf = true) (wn : (Lit.int .i64 n).wf = true) :
    Fn Try.prog w0 4 #[laV aW cW aR cR A, .int .i64 x0, .agg #[.int .i64 t, .int .i64 n]] [] fun v H' => v = .bool true := by
  refine enter3 Try.func4 rfl rfl Try.ntmps4 rfl ?_
  repeat' (first | (apply gL; first | refine L_nil ?_ | refine yS ?_ | refine yX fun _ => ?_ | refine yA fun _ => ?_ | (apply gSt; first | refine sR ?_ | refine sB ?_ | refine s1 ?_ | refine sW ?_ | refine sN ?_) | (apply gCall; apply L_call rfl rfl rfl rfl rfl; (· exact eqArena_c (C := ⟨bw2, A.ws.length, [], br2, A.vs.length, []⟩) (C' := ⟨bw3, A.ws.length, [], br3, A.vs.length, []⟩) at_ at_ at_ at_ hl hl2); rintro _ _ ⟨rfl, rfl⟩) | refine kV ?_ | (apply L_val rfl rfl rfl; (· first | (apply gBin; first | fail | exact v_nebs rfl rfl) | fail )) | ((fail_if_success (refine L_known rfl ?_)); first | refine yN (fun h => ?_) fun h => ?_ | refine yP (fun h => ?_) fun h => ?_ | refine yB (fun h => ?_) fun h => ?_ | refine yK (fun h => ?_) fun h => ?_)) | (apply gW; first | refine W_seq ?_ | refine W_region ?_ | refine W_ret ?_ | refine W_skip ?_ | refine W_cond1 rfl ?_ | refine W_cond0 rfl ?_ | refine cN (fun h => ?_) fun h => ?_ | refine cP (fun h => ?_) fun h => ?_ | refine cB (fun h => ?_) fun h => ?_ | refine cK (fun h => ?_) fun h => ?_ | refine wQ ?_) | (first | refine seqR.normal ?_ | refine seqR.ret ?_ | refine midA.ret ?_ | refine midA.exit ?_) | (apply gQ; first | refine Q_nil ?_ | refine Q_skip rfl rfl rfl ?_ | (apply Q_call rfl rfl rfl rfl rfl; (· exact eqArena_c (C := ⟨bw2, A.ws.length, [], br2, A.vs.length, []⟩) (C' := ⟨bw3, A.ws.length, [], br3, A.vs.length, []⟩) at_ at_ at_ at_ hl hl2)) | refine kQ ?_ | (apply Q_val rfl rfl rfl; (· first | (apply gBin; first | fail | exact v_nebs rfl rfl) | fail )) | ((fail_if_success (refine Q_known rfl ?_)); first | refine zN (fun h => ?_) fun h => ?_ | refine zP (fun h => ?_) fun h => ?_ | refine zB (fun h => ?_) fun h => ?_ | refine zK (fun h => ?_) fun h => ?_)) | fail)
  apply L_call rfl rfl rfl rfl rfl
  · exact szArena_c hW hR
  rintro _ _ ⟨⟨r, rfl, hr⟩, rfl⟩
  repeat' ((fail_if_success apply gAtR 5); (first | (apply gL; first | refine L_nil ?_ | refine yS ?_ | refine yX fun _ => ?_ | refine yA fun _ => ?_ | (apply gSt; first | refine sR ?_ | refine sB ?_ | refine s1 ?_ | refine sW ?_ | refine sN ?_) | (apply gCall; apply L_call rfl rfl rfl rfl rfl; (· exact eqArena_c (C := ⟨bw2, A.ws.length, [], br2, A.vs.length, []⟩) (C' := ⟨bw3, A.ws.length, [], br3, A.vs.length, []⟩) at_ at_ at_ at_ hl hl2); rintro _ _ ⟨rfl, rfl⟩) | refine kV ?_ | (apply L_val rfl rfl rfl; (· first | (apply gBin; first | fail | exact v_nebs rfl rfl) | fail )) | ((fail_if_success (refine L_known rfl ?_)); first | refine yN (fun h => ?_) fun h => ?_ | refine yP (fun h => ?_) fun h => ?_ | refine yB (fun h => ?_) fun h => ?_ | refine yK (fun h => ?_) fun h => ?_)) | (apply gW; first | refine W_seq ?_ | refine W_region ?_ | refine W_ret ?_ | refine W_skip ?_ | refine W_cond1 rfl ?_ | refine W_cond0 rfl ?_ | refine cN (fun h => ?_) fun h => ?_ | refine cP (fun h => ?_) fun h => ?_ | refine cB (fun h => ?_) fun h => ?_ | refine cK (fun h => ?_) fun h => ?_ | refine wQ ?_) | (first | refine seqR.normal ?_ | refine seqR.ret ?_ | refine midA.ret ?_ | refine midA.exit ?_) | (apply gQ; first | refine Q_nil ?_ | refine Q_skip rfl rfl rfl ?_ | (apply Q_call rfl rfl rfl rfl rfl; (· exact eqArena_c (C := ⟨bw2, A.ws.length, [], br2, A.vs.length, []⟩) (C' := ⟨bw3, A.ws.length, [], br3, A.vs.length, []⟩) at_ at_ at_ at_ hl hl2)) | refine kQ ?_ | (apply Q_val rfl rfl rfl; (· first | (apply gBin; first | fail | exact v_nebs rfl rfl) | fail )) | ((fail_if_success (refine Q_known rfl ?_)); first | refine zN (fun h => ?_) fun h => ?_ | refine zP (fun h => ?_) fun h => ?_ | refine zB (fun h => ?_) fun h => ?_ | refine zK (fun h => ?_) fun h => ?_)) | fail))
  · exact retR.ret _ _ (ret1 rfl rfl) cvt_ rfl
  obtain ⟨hl, hl2⟩ := hr h
  rename_i b3 b5
  repeat' ((fail_if_success apply gAtR 5); (first | (apply gL; first | refine L_nil ?_ | refine yS ?_ | refine yX fun _ => ?_ | refine yA fun _ => ?_ | (apply gSt; first | refine sR ?_ | refine sB ?_ | refine s1 ?_ | refine sW ?_ | refine sN ?_) | (apply gCall; apply L_call rfl rfl rfl rfl rfl; (· exact eqArena_c (C := ⟨bw2, A.ws.length, [], br2, A.vs.length, []⟩) (C' := ⟨bw3, A.ws.length, [], br3, A.vs.length, []⟩) at_ at_ at_ at_ hl hl2); rintro _ _ ⟨rfl, rfl⟩) | refine kV ?_ | (apply L_val rfl rfl rfl; (· first | (apply gBin; first | fail | exact v_nebs rfl rfl) | fail )) | ((fail_if_success (refine L_known rfl ?_)); first | refine yN (fun h => ?_) fun h => ?_ | refine yP (fun h => ?_) fun h => ?_ | refine yB (fun h => ?_) fun h => ?_ | refine yK (fun h => ?_) fun h => ?_)) | (apply gW; first | refine W_seq ?_ | refine W_region ?_ | refine W_ret ?_ | refine W_skip ?_ | refine W_cond1 rfl ?_ | refine W_cond0 rfl ?_ | refine cN (fun h => ?_) fun h => ?_ | refine cP (fun h => ?_) fun h => ?_ | refine cB (fun h => ?_) fun h => ?_ | refine cK (fun h => ?_) fun h => ?_ | refine wQ ?_) | (first | refine seqR.normal ?_ | refine seqR.ret ?_ | refine midA.ret ?_ | refine midA.exit ?_) | (apply gQ; first | refine Q_nil ?_ | refine Q_skip rfl rfl rfl ?_ | (apply Q_call rfl rfl rfl rfl rfl; (· exact eqArena_c (C := ⟨bw2, A.ws.length, [], br2, A.vs.length, []⟩) (C' := ⟨bw3, A.ws.length, [], br3, A.vs.length, []⟩) at_ at_ at_ at_ hl hl2)) | refine kQ ?_ | (apply Q_val rfl rfl rfl; (· first | (apply gBin; first | fail | exact v_nebs rfl rfl) | fail )) | ((fail_if_success (refine Q_known rfl ?_)); first | refine zN (fun h => ?_) fun h => ?_ | refine zP (fun h => ?_) fun h => ?_ | refine zB (fun h => ?_) fun h => ?_ | refine zK (fun h => ?_) fun h => ?_)) | fail))
  refine W_midA (α := Cn × Nat) (fun y => [(1, .int .i64 x0), (3, .pointer (some ⟨b3, 0, none⟩)), (5, .pointer (some ⟨b5, 0, none⟩)), (8, .pointer (some ⟨y.2, 0, none⟩)), (9, .bool (A.setRootR x0 t n).2)])
    (fun y => (y.2, aObj y.1 (A.setRootR x0 t n).1) :: (y.1.br, rObj y.1 (A.setRootR x0 t n).1) :: (y.1.bw, wObj y.1 (A.setRootR x0 t n).1) :: (b5, .cells #[.int .i64 t, .int .i64 n] 37 (0, 0)) :: (b3, .cells (laV aW cW aR cR A).cells 25 (0, 0)) :: []) (fun _ => True) ?_ ?_
  · apply W_regionA (D := [(b3, .cells (laV aW cW aR cR A).cells 25 (0, 0)), (b5, .cells #[.int .i64 t, .int .i64 n] 37 (0, 0))]) (by kernel_rfl)
    refine kAt 0 ?_ (cv := by exact Cv.take tk_ (Cv.take tk_ cvNil))
    refine kAt 2 ?_ (cv := by exact Cv.take tk_ (Cv.take tk_ cvNil))
    refine kAt 3 ?_ (cv := by exact Cv.take tk_ (Cv.take tk_ cvNil))
    refine A_two (i := 1) (j := 9) (by kernel_rfl) (by exact Cv.take tk_ (Cv.take tk_ cvNil)) rfl rfl ?_ ?_
    · refine O_of_L fun S hS => ?_
      apply L_call rfl rfl rfl rfl rfl
      · exact toArena_c hW hR hl hl2
      rintro _ _ ⟨bw, br, rfl, rfl⟩
      refine L_nil (hS _ _ ?_)
      clear hS
      refine A_two (i := 4) (j := 9) (by kernel_rfl) (by exact Cv.take tk_ (Cv.take tk_ cvNil)) rfl rfl ?_ ?_
      · refine O_of_L fun S hS => ?_
        apply L_call rfl rfl rfl rfl rfl
        · exact toVal_c
        rintro _ _ ⟨rfl, rfl⟩
        refine L_nil (hS _ _ ?_)
        clear hS
        refine A_two (i := 5) (j := 9) (by kernel_rfl) (by exact Cv.take tk_ (Cv.take tk_ cvNil)) rfl rfl ?_ ?_
        · refine O_of_L fun S hS => ?_
          apply L_call rfl rfl rfl rfl rfl
          · exact specSetRoot_c at_ at_ hw hl hl2
          rintro _ _ ⟨C0, rfl, rfl⟩
          refine L_nil (hS _ _ ?_)
          clear hS
          refine kAt 6 ?_ (cv := by exact Cv.take tk_ (Cv.take tk_ cvNil))
          refine kAt 7 ?_ (cv := by exact Cv.take tk_ (Cv.take tk_ cvNil))
          refine kAt 8 ?_ (cv := by exact Cv.take tk_ (Cv.take tk_ cvNil))
          refine A_one (i := 9) (by kernel_rfl) (by exact Cv.take tk_ (Cv.take tk_ cvNil)) rfl ?_
          refine O_of_L fun S hS => ?_
          (apply gL; first | refine L_nil ?_ | refine yS ?_ | refine yX fun _ => ?_ | refine yA fun _ => ?_ | (apply gSt; first | refine sR ?_ | refine sB ?_ | refine s1 ?_ | refine sW ?_ | refine sN ?_) | (apply gCall; apply L_call rfl rfl rfl rfl rfl; (· exact eqArena_c (C := ⟨bw2, A.ws.length, [], br2, A.vs.length, []⟩) (C' := ⟨bw3, A.ws.length, [], br3, A.vs.length, []⟩) at_ at_ at_ at_ hl hl2); rintro _ _ ⟨rfl, rfl⟩) | refine kV ?_ | (apply L_val rfl rfl rfl; (· first | (apply gBin; first | fail | exact v_nebs rfl rfl) | fail )) | ((fail_if_success (refine L_known rfl ?_)); first | refine yN (fun h => ?_) fun h => ?_ | refine yP (fun h => ?_) fun h => ?_ | refine yB (fun h => ?_) fun h => ?_ | refine yK (fun h => ?_) fun h => ?_))
          refine L_nil (hS _ _ ?_)
          clear hS
          refine A_one (i := 10) (by kernel_rfl) cvt_ rfl (O_of_L fun S hS => ?_)
          (apply gL; first | refine L_nil ?_ | refine yS ?_ | refine yX fun _ => ?_ | refine yA fun _ => ?_ | (apply gSt; first | refine sR ?_ | refine sB ?_ | refine s1 ?_ | refine sW ?_ | refine sN ?_) | (apply gCall; apply L_call rfl rfl rfl rfl rfl; (· exact eqArena_c (C := ⟨bw2, A.ws.length, [], br2, A.vs.length, []⟩) (C' := ⟨bw3, A.ws.length, [], br3, A.vs.length, []⟩) at_ at_ at_ at_ hl hl2); rintro _ _ ⟨rfl, rfl⟩) | refine kV ?_ | (apply L_val rfl rfl rfl; (· first | (apply gBin; first | fail | exact v_nebs rfl rfl) | fail )) | ((fail_if_success (refine L_known rfl ?_)); first | refine yN (fun h => ?_) fun h => ?_ | refine yP (fun h => ?_) fun h => ?_ | refine yB (fun h => ?_) fun h => ?_ | refine yK (fun h => ?_) fun h => ?_))
          refine L_nil (hS _ _ ?_)
          clear hS
          refine A_one (i := 11) (by kernel_rfl) cvt_ rfl (O_of_L fun S hS => ?_)
          (apply gL; first | refine L_nil ?_ | refine yS ?_ | refine yX fun _ => ?_ | refine yA fun _ => ?_ | (apply gSt; first | refine sR ?_ | refine sB ?_ | refine s1 ?_ | refine sW ?_ | refine sN ?_) | (apply gCall; apply L_call rfl rfl rfl rfl rfl; (· exact eqArena_c (C := ⟨bw2, A.ws.length, [], br2, A.vs.length, []⟩) (C' := ⟨bw3, A.ws.length, [], br3, A.vs.length, []⟩) at_ at_ at_ at_ hl hl2); rintro _ _ ⟨rfl, rfl⟩) | refine kV ?_ | (apply L_val rfl rfl rfl; (· first | (apply gBin; first | fail | exact v_nebs rfl rfl) | fail )) | ((fail_if_success (refine L_known rfl ?_)); first | refine yN (fun h => ?_) fun h => ?_ | refine yP (fun h => ?_) fun h => ?_ | refine yB (fun h => ?_) fun h => ?_ | refine yK (fun h => ?_) fun h => ?_))
          refine L_nil (hS _ _ ?_)
          clear hS
          refine A_nil (by kernel_rfl) (by exact Cv.take tk_ (Cv.take tk_ cvNil)) ?_
          apply midA.mk (C0, _)
          · exact sub_
          · exact cvt_
          · trivial
        · refine O_of_L fun S hS => ?_
          (apply gL; first | refine L_nil ?_ | refine yS ?_ | refine yX fun _ => ?_ | refine yA fun _ => ?_ | (apply gSt; first | refine sR ?_ | refine sB ?_ | refine s1 ?_ | refine sW ?_ | refine sN ?_) | (apply gCall; apply L_call rfl rfl rfl rfl rfl; (· exact eqArena_c (C := ⟨bw2, A.ws.length, [], br2, A.vs.length, []⟩) (C' := ⟨bw3, A.ws.length, [], br3, A.vs.length, []⟩) at_ at_ at_ at_ hl hl2); rintro _ _ ⟨rfl, rfl⟩) | refine kV ?_ | (apply L_val rfl rfl rfl; (· first | (apply gBin; first | fail | exact v_nebs rfl rfl) | fail )) | ((fail_if_success (refine L_known rfl ?_)); first | refine yN (fun h => ?_) fun h => ?_ | refine yP (fun h => ?_) fun h => ?_ | refine yB (fun h => ?_) fun h => ?_ | refine yK (fun h => ?_) fun h => ?_))
          refine L_nil (hS _ _ ?_)
          clear hS
          refine A_one (i := 5) (by kernel_rfl) (by exact Cv.take tk_ (Cv.take tk_ cvNil)) rfl ?_
          refine O_of_L fun S hS => ?_
          apply L_call rfl rfl rfl rfl rfl
          · exact specSetRoot_c at_ at_ hw hl hl2
          rintro _ _ ⟨C0, rfl, rfl⟩
          refine L_nil (hS _ _ ?_)
          clear hS
          refine kAt 6 ?_ (cv := by exact Cv.take tk_ (Cv.take tk_ cvNil))
          refine kAt 7 ?_ (cv := by exact Cv.take tk_ (Cv.take tk_ cvNil))
          refine kAt 8 ?_ (cv := by exact Cv.take tk_ (Cv.take tk_ cvNil))
          refine A_one (i := 10) (by kernel_rfl) cvt_ rfl (O_of_L fun S hS => ?_)
          (apply gL; first | refine L_nil ?_ | refine yS ?_ | refine yX fun _ => ?_ | refine yA fun _ => ?_ | (apply gSt; first | refine sR ?_ | refine sB ?_ | refine s1 ?_ | refine sW ?_ | refine sN ?_) | (apply gCall; apply L_call rfl rfl rfl rfl rfl; (· exact eqArena_c (C := ⟨bw2, A.ws.length, [], br2, A.vs.length, []⟩) (C' := ⟨bw3, A.ws.length, [], br3, A.vs.length, []⟩) at_ at_ at_ at_ hl hl2); rintro _ _ ⟨rfl, rfl⟩) | refine kV ?_ | (apply L_val rfl rfl rfl; (· first | (apply gBin; first | fail | exact v_nebs rfl rfl) | fail )) | ((fail_if_success (refine L_known rfl ?_)); first | refine yN (fun h => ?_) fun h => ?_ | refine yP (fun h => ?_) fun h => ?_ | refine yB (fun h => ?_) fun h => ?_ | refine yK (fun h => ?_) fun h => ?_))
          refine L_nil (hS _ _ ?_)
          clear hS
          refine A_one (i := 11) (by kernel_rfl) cvt_ rfl (O_of_L fun S hS => ?_)
          (apply gL; first | refine L_nil ?_ | refine yS ?_ | refine yX fun _ => ?_ | refine yA fun _ => ?_ | (apply gSt; first | refine sR ?_ | refine sB ?_ | refine s1 ?_ | refine sW ?_ | refine sN ?_) | (apply gCall; apply L_call rfl rfl rfl rfl rfl; (· exact eqArena_c (C := ⟨bw2, A.ws.length, [], br2, A.vs.length, []⟩) (C' := ⟨bw3, A.ws.length, [], br3, A.vs.length, []⟩) at_ at_ at_ at_ hl hl2); rintro _ _ ⟨rfl, rfl⟩) | refine kV ?_ | (apply L_val rfl rfl rfl; (· first | (apply gBin; first | fail | exact v_nebs rfl rfl) | fail )) | ((fail_if_success (refine L_known rfl ?_)); first | refine yN (fun h => ?_) fun h => ?_ | refine yP (fun h => ?_) fun h => ?_ | refine yB (fun h => ?_) fun h => ?_ | refine yK (fun h => ?_) fun h => ?_))
          refine L_nil (hS _ _ ?_)
          clear hS
          refine A_nil (by kernel_rfl) (by exact Cv.take tk_ (Cv.take tk_ cvNil)) ?_
          apply midA.mk (C0, _)
          · exact sub_
          · exact cvt_
          · trivial
      · refine O_of_L fun S hS => ?_
        (apply gL; first | refine L_nil ?_ | refine yS ?_ | refine yX fun _ => ?_ | refine yA fun _ => ?_ | (apply gSt; first | refine sR ?_ | refine sB ?_ | refine s1 ?_ | refine sW ?_ | refine sN ?_) | (apply gCall; apply L_call rfl rfl rfl rfl rfl; (· exact eqArena_c (C := ⟨bw2, A.ws.length, [], br2, A.vs.length, []⟩) (C' := ⟨bw3, A.ws.length, [], br3, A.vs.length, []⟩) at_ at_ at_ at_ hl hl2); rintro _ _ ⟨rfl, rfl⟩) | refine kV ?_ | (apply L_val rfl rfl rfl; (· first | (apply gBin; first | fail | exact v_nebs rfl rfl) | fail )) | ((fail_if_success (refine L_known rfl ?_)); first | refine yN (fun h => ?_) fun h => ?_ | refine yP (fun h => ?_) fun h => ?_ | refine yB (fun h => ?_) fun h => ?_ | refine yK (fun h => ?_) fun h => ?_))
        refine L_nil (hS _ _ ?_)
        clear hS
        refine A_one (i := 4) (by kernel_rfl) (by exact Cv.take tk_ (Cv.take tk_ cvNil)) rfl ?_
        refine O_of_L fun S hS => ?_
        apply L_call rfl rfl rfl rfl rfl
        · exact toVal_c
        rintro _ _ ⟨rfl, rfl⟩
        refine L_nil (hS _ _ ?_)
        clear hS
        refine A_one (i := 5) (by kernel_rfl) (by exact Cv.take tk_ (Cv.take tk_ cvNil)) rfl ?_
        refine O_of_L fun S hS => ?_
        apply L_call rfl rfl rfl rfl rfl
        · exact specSetRoot_c at_ at_ hw hl hl2
        rintro _ _ ⟨C0, rfl, rfl⟩
        refine L_nil (hS _ _ ?_)
        clear hS
        refine kAt 6 ?_ (cv := by exact Cv.take tk_ (Cv.take tk_ cvNil))
        refine kAt 7 ?_ (cv := by exact Cv.take tk_ (Cv.take tk_ cvNil))
        refine kAt 8 ?_ (cv := by exact Cv.take tk_ (Cv.take tk_ cvNil))
        refine A_one (i := 10) (by kernel_rfl) cvt_ rfl (O_of_L fun S hS => ?_)
        (apply gL; first | refine L_nil ?_ | refine yS ?_ | refine yX fun _ => ?_ | refine yA fun _ => ?_ | (apply gSt; first | refine sR ?_ | refine sB ?_ | refine s1 ?_ | refine sW ?_ | refine sN ?_) | (apply gCall; apply L_call rfl rfl rfl rfl rfl; (· exact eqArena_c (C := ⟨bw2, A.ws.length, [], br2, A.vs.length, []⟩) (C' := ⟨bw3, A.ws.length, [], br3, A.vs.length, []⟩) at_ at_ at_ at_ hl hl2); rintro _ _ ⟨rfl, rfl⟩) | refine kV ?_ | (apply L_val rfl rfl rfl; (· first | (apply gBin; first | fail | exact v_nebs rfl rfl) | fail )) | ((fail_if_success (refine L_known rfl ?_)); first | refine yN (fun h => ?_) fun h => ?_ | refine yP (fun h => ?_) fun h => ?_ | refine yB (fun h => ?_) fun h => ?_ | refine yK (fun h => ?_) fun h => ?_))
        refine L_nil (hS _ _ ?_)
        clear hS
        refine A_one (i := 11) (by kernel_rfl) cvt_ rfl (O_of_L fun S hS => ?_)
        (apply gL; first | refine L_nil ?_ | refine yS ?_ | refine yX fun _ => ?_ | refine yA fun _ => ?_ | (apply gSt; first | refine sR ?_ | refine sB ?_ | refine s1 ?_ | refine sW ?_ | refine sN ?_) | (apply gCall; apply L_call rfl rfl rfl rfl rfl; (· exact eqArena_c (C := ⟨bw2, A.ws.length, [], br2, A.vs.length, []⟩) (C' := ⟨bw3, A.ws.length, [], br3, A.vs.length, []⟩) at_ at_ at_ at_ hl hl2); rintro _ _ ⟨rfl, rfl⟩) | refine kV ?_ | (apply L_val rfl rfl rfl; (· first | (apply gBin; first | fail | exact v_nebs rfl rfl) | fail )) | ((fail_if_success (refine L_known rfl ?_)); first | refine yN (fun h => ?_) fun h => ?_ | refine yP (fun h => ?_) fun h => ?_ | refine yB (fun h => ?_) fun h => ?_ | refine yK (fun h => ?_) fun h => ?_))
        refine L_nil (hS _ _ ?_)
        clear hS
        refine A_nil (by kernel_rfl) (by exact Cv.take tk_ (Cv.take tk_ cvNil)) ?_
        apply midA.mk (C0, _)
        · exact sub_
        · exact cvt_
        · trivial
    · refine O_of_L fun S hS => ?_
      (apply gL; first | refine L_nil ?_ | refine yS ?_ | refine yX fun _ => ?_ | refine yA fun _ => ?_ | (apply gSt; first | refine sR ?_ | refine sB ?_ | refine s1 ?_ | refine sW ?_ | refine sN ?_) | (apply gCall; apply L_call rfl rfl rfl rfl rfl; (· exact eqArena_c (C := ⟨bw2, A.ws.length, [], br2, A.vs.length, []⟩) (C' := ⟨bw3, A.ws.length, [], br3, A.vs.length, []⟩) at_ at_ at_ at_ hl hl2); rintro _ _ ⟨rfl, rfl⟩) | refine kV ?_ | (apply L_val rfl rfl rfl; (· first | (apply gBin; first | fail | exact v_nebs rfl rfl) | fail )) | ((fail_if_success (refine L_known rfl ?_)); first | refine yN (fun h => ?_) fun h => ?_ | refine yP (fun h => ?_) fun h => ?_ | refine yB (fun h => ?_) fun h => ?_ | refine yK (fun h => ?_) fun h => ?_))
      refine L_nil (hS _ _ ?_)
      clear hS
      refine A_one (i := 1) (by kernel_rfl) (by exact Cv.take tk_ (Cv.take tk_ cvNil)) rfl ?_
      refine O_of_L fun S hS => ?_
      apply L_call rfl rfl rfl rfl rfl
      · exact toArena_c hW hR hl hl2
      rintro _ _ ⟨bw, br, rfl, rfl⟩
      refine L_nil (hS _ _ ?_)
      clear hS
      refine A_one (i := 4) (by kernel_rfl) (by exact Cv.take tk_ (Cv.take tk_ cvNil)) rfl ?_
      refine O_of_L fun S hS => ?_
      apply L_call rfl rfl rfl rfl rfl
      · exact toVal_c
      rintro _ _ ⟨rfl, rfl⟩
      refine L_nil (hS _ _ ?_)
      clear hS
      refine A_one (i := 5) (by kernel_rfl) (by exact Cv.take tk_ (Cv.take tk_ cvNil)) rfl ?_
      refine O_of_L fun S hS => ?_
      apply L_call rfl rfl rfl rfl rfl
      · exact specSetRoot_c at_ at_ hw hl hl2
      rintro _ _ ⟨C0, rfl, rfl⟩
      refine L_nil (hS _ _ ?_)
      clear hS
      refine kAt 6 ?_ (cv := by exact Cv.take tk_ (Cv.take tk_ cvNil))
      refine kAt 7 ?_ (cv := by exact Cv.take tk_ (Cv.take tk_ cvNil))
      refine kAt 8 ?_ (cv := by exact Cv.take tk_ (Cv.take tk_ cvNil))
      refine A_one (i := 10) (by kernel_rfl) cvt_ rfl (O_of_L fun S hS => ?_)
      (apply gL; first | refine L_nil ?_ | refine yS ?_ | refine yX fun _ => ?_ | refine yA fun _ => ?_ | (apply gSt; first | refine sR ?_ | refine sB ?_ | refine s1 ?_ | refine sW ?_ | refine sN ?_) | (apply gCall; apply L_call rfl rfl rfl rfl rfl; (· exact eqArena_c (C := ⟨bw2, A.ws.length, [], br2, A.vs.length, []⟩) (C' := ⟨bw3, A.ws.length, [], br3, A.vs.length, []⟩) at_ at_ at_ at_ hl hl2); rintro _ _ ⟨rfl, rfl⟩) | refine kV ?_ | (apply L_val rfl rfl rfl; (· first | (apply gBin; first | fail | exact v_nebs rfl rfl) | fail )) | ((fail_if_success (refine L_known rfl ?_)); first | refine yN (fun h => ?_) fun h => ?_ | refine yP (fun h => ?_) fun h => ?_ | refine yB (fun h => ?_) fun h => ?_ | refine yK (fun h => ?_) fun h => ?_))
      refine L_nil (hS _ _ ?_)
      clear hS
      refine A_one (i := 11) (by kernel_rfl) cvt_ rfl (O_of_L fun S hS => ?_)
      (apply gL; first | refine L_nil ?_ | refine yS ?_ | refine yX fun _ => ?_ | refine yA fun _ => ?_ | (apply gSt; first | refine sR ?_ | refine sB ?_ | refine s1 ?_ | refine sW ?_ | refine sN ?_) | (apply gCall; apply L_call rfl rfl rfl rfl rfl; (· exact eqArena_c (C := ⟨bw2, A.ws.length, [], br2, A.vs.length, []⟩) (C' := ⟨bw3, A.ws.length, [], br3, A.vs.length, []⟩) at_ at_ at_ at_ hl hl2); rintro _ _ ⟨rfl, rfl⟩) | refine kV ?_ | (apply L_val rfl rfl rfl; (· first | (apply gBin; first | fail | exact v_nebs rfl rfl) | fail )) | ((fail_if_success (refine L_known rfl ?_)); first | refine yN (fun h => ?_) fun h => ?_ | refine yP (fun h => ?_) fun h => ?_ | refine yB (fun h => ?_) fun h => ?_ | refine yK (fun h => ?_) fun h => ?_))
      refine L_nil (hS _ _ ?_)
      clear hS
      refine A_nil (by kernel_rfl) (by exact Cv.take tk_ (Cv.take tk_ cvNil)) ?_
      apply midA.mk (C0, _)
      · exact sub_
      · exact cvt_
      · trivial
  rintro ⟨C0, b8⟩ _
  dsimp only
  repeat' (first | (apply gL; first | refine L_nil ?_ | refine yS ?_ | refine yX fun _ => ?_ | refine yA fun _ => ?_ | (apply gSt; first | refine sR ?_ | refine sB ?_ | refine s1 ?_ | refine sW ?_ | refine sN ?_) | (apply gCall; apply L_call rfl rfl rfl rfl rfl; (· exact eqArena_c (C := ⟨bw2, A.ws.length, [], br2, A.vs.length, []⟩) (C' := ⟨bw3, A.ws.length, [], br3, A.vs.length, []⟩) at_ at_ at_ at_ hl hl2); rintro _ _ ⟨rfl, rfl⟩) | refine kV ?_ | (apply L_val rfl rfl rfl; (· first | (apply gBin; first | fail | exact v_nebs rfl rfl) | fail )) | ((fail_if_success (refine L_known rfl ?_)); first | refine yN (fun h => ?_) fun h => ?_ | refine yP (fun h => ?_) fun h => ?_ | refine yB (fun h => ?_) fun h => ?_ | refine yK (fun h => ?_) fun h => ?_)) | (apply gW; first | refine W_seq ?_ | refine W_region ?_ | refine W_ret ?_ | refine W_skip ?_ | refine W_cond1 rfl ?_ | refine W_cond0 rfl ?_ | refine cN (fun h => ?_) fun h => ?_ | refine cP (fun h => ?_) fun h => ?_ | refine cB (fun h => ?_) fun h => ?_ | refine cK (fun h => ?_) fun h => ?_ | refine wQ ?_) | (first | refine seqR.normal ?_ | refine seqR.ret ?_ | refine midA.ret ?_ | refine midA.exit ?_) | (apply gQ; first | refine Q_nil ?_ | refine Q_skip rfl rfl rfl ?_ | (apply Q_call rfl rfl rfl rfl rfl; (· exact eqArena_c (C := ⟨bw2, A.ws.length, [], br2, A.vs.length, []⟩) (C' := ⟨bw3, A.ws.length, [], br3, A.vs.length, []⟩) at_ at_ at_ at_ hl hl2)) | refine kQ ?_ | (apply Q_val rfl rfl rfl; (· first | (apply gBin; first | fail | exact v_nebs rfl rfl) | fail )) | ((fail_if_success (refine Q_known rfl ?_)); first | refine zN (fun h => ?_) fun h => ?_ | refine zP (fun h => ?_) fun h => ?_ | refine zB (fun h => ?_) fun h => ?_ | refine zK (fun h => ?_) fun h => ?_)) | fail)
  apply L_call rfl rfl rfl rfl rfl
  · exact toArena_c hW hR hl hl2
  rintro _ _ ⟨bw2, br2, rfl, rfl⟩
  repeat' ((fail_if_success apply gAtR 7); (first | (apply gL; first | refine L_nil ?_ | refine yS ?_ | refine yX fun _ => ?_ | refine yA fun _ => ?_ | (apply gSt; first | refine sR ?_ | refine sB ?_ | refine s1 ?_ | refine sW ?_ | refine sN ?_) | (apply gCall; apply L_call rfl rfl rfl rfl rfl; (· exact eqArena_c (C := ⟨bw2, A.ws.length, [], br2, A.vs.length, []⟩) (C' := ⟨bw3, A.ws.length, [], br3, A.vs.length, []⟩) at_ at_ at_ at_ hl hl2); rintro _ _ ⟨rfl, rfl⟩) | refine kV ?_ | (apply L_val rfl rfl rfl; (· first | (apply gBin; first | fail | exact v_nebs rfl rfl) | fail )) | ((fail_if_success (refine L_known rfl ?_)); first | refine yN (fun h => ?_) fun h => ?_ | refine yP (fun h => ?_) fun h => ?_ | refine yB (fun h => ?_) fun h => ?_ | refine yK (fun h => ?_) fun h => ?_)) | (apply gW; first | refine W_seq ?_ | refine W_region ?_ | refine W_ret ?_ | refine W_skip ?_ | refine W_cond1 rfl ?_ | refine W_cond0 rfl ?_ | refine cN (fun h => ?_) fun h => ?_ | refine cP (fun h => ?_) fun h => ?_ | refine cB (fun h => ?_) fun h => ?_ | refine cK (fun h => ?_) fun h => ?_ | refine wQ ?_) | (first | refine seqR.normal ?_ | refine seqR.ret ?_ | refine midA.ret ?_ | refine midA.exit ?_) | (apply gQ; first | refine Q_nil ?_ | refine Q_skip rfl rfl rfl ?_ | (apply Q_call rfl rfl rfl rfl rfl; (· exact eqArena_c (C := ⟨bw2, A.ws.length, [], br2, A.vs.length, []⟩) (C' := ⟨bw3, A.ws.length, [], br3, A.vs.length, []⟩) at_ at_ at_ at_ hl hl2)) | refine kQ ?_ | (apply Q_val rfl rfl rfl; (· first | (apply gBin; first | fail | exact v_nebs rfl rfl) | fail )) | ((fail_if_success (refine Q_known rfl ?_)); first | refine zN (fun h => ?_) fun h => ?_ | refine zP (fun h => ?_) fun h => ?_ | refine zB (fun h => ?_) fun h => ?_ | refine zK (fun h => ?_) fun h => ?_)) | fail))
  rename_i b10
  refine W_midA (α := (Option Nat × Nat × List Value) × (Option Nat × Nat × List Value) × Nat) (fun y => [(1, .int .i64 x0), (3, .pointer (some ⟨b3, 0, none⟩)), (5, .pointer (some ⟨b5, 0, none⟩)), (8, .pointer (some ⟨b8, 0, none⟩)), (9, .bool (A.setRootR x0 t n).2), (10, .pointer (some ⟨b10, 0, none⟩)), (11, .pointer (some ⟨y.2.2, 0, none⟩)), (12, .bool (A.setRootR x0 t n).2)])
    (fun y => (y.2.2, .cells (arG (ad y.1.1) y.1.2.1 (ad y.2.1.1) y.2.1.2.1 (A.setRootR x0 t n).1).cells 29 (0, 0)) :: (b10, aObj ⟨bw2, A.ws.length, [], br2, A.vs.length, []⟩ A) :: (br2, rObj ⟨bw2, A.ws.length, [], br2, A.vs.length, []⟩ A) :: (bw2, wObj ⟨bw2, A.ws.length, [], br2, A.vs.length, []⟩ A) :: (b8, aObj C0 (A.setRootR x0 t n).1) :: (C0.br, rObj C0 (A.setRootR x0 t n).1) :: (C0.bw, wObj C0 (A.setRootR x0 t n).1) :: (b5, .cells #[.int .i64 t, .int .i64 n] 37 (0, 0)) :: (b3, .cells (laV aW cW aR cR A).cells 25 (0, 0)) :: ((oU y.1.1 (A.setRootR x0 t n).1.ws y.1.2.2 ++ oV y.2.1.1 (A.setRootR x0 t n).1.vs y.2.1.2.2) ++ []))
    (fun y => (y.1.1 = none → (A.setRootR x0 t n).1.ws = []) ∧ (y.2.1.1 = none → (A.setRootR x0 t n).1.vs = [])) ?_ ?_
  · apply W_regionA (D := [(b10, aObj ⟨bw2, A.ws.length, [], br2, A.vs.length, []⟩ A), (b5, .cells #[.int .i64 t, .int .i64 n] 37 (0, 0))]) (by kernel_rfl)
    refine kAt 0 ?_ (cv := by exact Cv.take tk_ (Cv.take tk_ cvNil))
    refine kAt 1 ?_ (cv := by exact Cv.take tk_ (Cv.take tk_ cvNil))
    refine kAt 2 ?_ (cv := by exact Cv.take tk_ (Cv.take tk_ cvNil))
    refine A_two (i := 3) (j := 8) (by kernel_rfl) (by exact Cv.take tk_ (Cv.take tk_ cvNil)) rfl rfl ?_ ?_
    · refine O_of_L fun S hS => ?_
      apply L_call rfl rfl rfl rfl rfl
      · exact toVal_c
      rintro _ _ ⟨rfl, rfl⟩
      refine L_nil (hS _ _ ?_)
      clear hS
      refine A_two (i := 4) (j := 8) (by kernel_rfl) (by exact Cv.take tk_ (Cv.take tk_ cvNil)) rfl rfl ?_ ?_
      · refine O_of_L fun S hS => ?_
        apply L_call rfl rfl rfl rfl rfl
        · exact implSetRoot_c at_ at_ hw (Nat.le_refl _) hl hl2
        rintro _ _ ⟨gw, gwc, gws, gr, grc, grs, rfl, hgw, hgr, rfl⟩
        apply L_back
        simp only [List.cons_append, List.nil_append]
        refine L_nil (hS _ _ ?_)
        clear hS
        refine kAt 5 ?_ (cv := by exact Cv.take tk_ (Cv.take tk_ cvNil))
        refine kAt 6 ?_ (cv := by exact Cv.take tk_ (Cv.take tk_ cvNil))
        refine kAt 7 ?_ (cv := by exact Cv.take tk_ (Cv.take tk_ cvNil))
        refine A_one (i := 8) (by kernel_rfl) (by exact Cv.take tk_ (Cv.take tk_ cvNil)) rfl ?_
        refine O_of_L fun S hS => ?_
        (apply gL; first | refine L_nil ?_ | refine yS ?_ | refine yX fun _ => ?_ | refine yA fun _ => ?_ | (apply gSt; first | refine sR ?_ | refine sB ?_ | refine s1 ?_ | refine sW ?_ | refine sN ?_) | (apply gCall; apply L_call rfl rfl rfl rfl rfl; (· exact eqArena_c (C := ⟨bw2, A.ws.length, [], br2, A.vs.length, []⟩) (C' := ⟨bw3, A.ws.length, [], br3, A.vs.length, []⟩) at_ at_ at_ at_ hl hl2); rintro _ _ ⟨rfl, rfl⟩) | refine kV ?_ | (apply L_val rfl rfl rfl; (· first | (apply gBin; first | fail | exact v_nebs rfl rfl) | fail )) | ((fail_if_success (refine L_known rfl ?_)); first | refine yN (fun h => ?_) fun h => ?_ | refine yP (fun h => ?_) fun h => ?_ | refine yB (fun h => ?_) fun h => ?_ | refine yK (fun h => ?_) fun h => ?_))
        refine L_nil (hS _ _ ?_)
        clear hS
        refine A_one (i := 9) (by kernel_rfl) (by exact Cv.take tk_ (Cv.take tk_ cvNil)) rfl (O_of_L fun S hS => ?_)
        (apply gL; first | refine L_nil ?_ | refine yS ?_ | refine yX fun _ => ?_ | refine yA fun _ => ?_ | (apply gSt; first | refine sR ?_ | refine sB ?_ | refine s1 ?_ | refine sW ?_ | refine sN ?_) | (apply gCall; apply L_call rfl rfl rfl rfl rfl; (· exact eqArena_c (C := ⟨bw2, A.ws.length, [], br2, A.vs.length, []⟩) (C' := ⟨bw3, A.ws.length, [], br3, A.vs.length, []⟩) at_ at_ at_ at_ hl hl2); rintro _ _ ⟨rfl, rfl⟩) | refine kV ?_ | (apply L_val rfl rfl rfl; (· first | (apply gBin; first | fail | exact v_nebs rfl rfl) | fail )) | ((fail_if_success (refine L_known rfl ?_)); first | refine yN (fun h => ?_) fun h => ?_ | refine yP (fun h => ?_) fun h => ?_ | refine yB (fun h => ?_) fun h => ?_ | refine yK (fun h => ?_) fun h => ?_))
        refine L_nil (hS _ _ ?_)
        clear hS
        refine A_one (i := 10) (by kernel_rfl) (by exact Cv.take tk_ (Cv.take tk_ cvNil)) rfl (O_of_L fun S hS => ?_)
        (apply gL; first | refine L_nil ?_ | refine yS ?_ | refine yX fun _ => ?_ | refine yA fun _ => ?_ | (apply gSt; first | refine sR ?_ | refine sB ?_ | refine s1 ?_ | refine sW ?_ | refine sN ?_) | (apply gCall; apply L_call rfl rfl rfl rfl rfl; (· exact eqArena_c (C := ⟨bw2, A.ws.length, [], br2, A.vs.length, []⟩) (C' := ⟨bw3, A.ws.length, [], br3, A.vs.length, []⟩) at_ at_ at_ at_ hl hl2); rintro _ _ ⟨rfl, rfl⟩) | refine kV ?_ | (apply L_val rfl rfl rfl; (· first | (apply gBin; first | fail | exact v_nebs rfl rfl) | fail )) | ((fail_if_success (refine L_known rfl ?_)); first | refine yN (fun h => ?_) fun h => ?_ | refine yP (fun h => ?_) fun h => ?_ | refine yB (fun h => ?_) fun h => ?_ | refine yK (fun h => ?_) fun h => ?_))
        refine L_nil (hS _ _ ?_)
        clear hS
        refine A_nil (by kernel_rfl) (by exact Cv.take tk_ (Cv.take tk_ cvNil)) ?_
        apply midA.mk ((gw, gwc, gws), (gr, grc, grs), _)
        · exact sub_
        · exact cvt_
        · exact ⟨hgw, hgr⟩
      · refine O_of_L fun S hS => ?_
        (apply gL; first | refine L_nil ?_ | refine yS ?_ | refine yX fun _ => ?_ | refine yA fun _ => ?_ | (apply gSt; first | refine sR ?_ | refine sB ?_ | refine s1 ?_ | refine sW ?_ | refine sN ?_) | (apply gCall; apply L_call rfl rfl rfl rfl rfl; (· exact eqArena_c (C := ⟨bw2, A.ws.length, [], br2, A.vs.length, []⟩) (C' := ⟨bw3, A.ws.length, [], br3, A.vs.length, []⟩) at_ at_ at_ at_ hl hl2); rintro _ _ ⟨rfl, rfl⟩) | refine kV ?_ | (apply L_val rfl rfl rfl; (· first | (apply gBin; first | fail | exact v_nebs rfl rfl) | fail )) | ((fail_if_success (refine L_known rfl ?_)); first | refine yN (fun h => ?_) fun h => ?_ | refine yP (fun h => ?_) fun h => ?_ | refine yB (fun h => ?_) fun h => ?_ | refine yK (fun h => ?_) fun h => ?_))
        refine L_nil (hS _ _ ?_)
        clear hS
        refine A_one (i := 4) (by kernel_rfl) (by exact Cv.take tk_ (Cv.take tk_ cvNil)) rfl ?_
        refine O_of_L fun S hS => ?_
        apply L_call rfl rfl rfl rfl rfl
        · exact implSetRoot_c at_ at_ hw (Nat.le_refl _) hl hl2
        rintro _ _ ⟨gw, gwc, gws, gr, grc, grs, rfl, hgw, hgr, rfl⟩
        apply L_back
        simp only [List.cons_append, List.nil_append]
        refine L_nil (hS _ _ ?_)
        clear hS
        refine kAt 5 ?_ (cv := by exact Cv.take tk_ (Cv.take tk_ cvNil))
        refine kAt 6 ?_ (cv := by exact Cv.take tk_ (Cv.take tk_ cvNil))
        refine kAt 7 ?_ (cv := by exact Cv.take tk_ (Cv.take tk_ cvNil))
        refine A_one (i := 9) (by kernel_rfl) (by exact Cv.take tk_ (Cv.take tk_ cvNil)) rfl (O_of_L fun S hS => ?_)
        (apply gL; first | refine L_nil ?_ | refine yS ?_ | refine yX fun _ => ?_ | refine yA fun _ => ?_ | (apply gSt; first | refine sR ?_ | refine sB ?_ | refine s1 ?_ | refine sW ?_ | refine sN ?_) | (apply gCall; apply L_call rfl rfl rfl rfl rfl; (· exact eqArena_c (C := ⟨bw2, A.ws.length, [], br2, A.vs.length, []⟩) (C' := ⟨bw3, A.ws.length, [], br3, A.vs.length, []⟩) at_ at_ at_ at_ hl hl2); rintro _ _ ⟨rfl, rfl⟩) | refine kV ?_ | (apply L_val rfl rfl rfl; (· first | (apply gBin; first | fail | exact v_nebs rfl rfl) | fail )) | ((fail_if_success (refine L_known rfl ?_)); first | refine yN (fun h => ?_) fun h => ?_ | refine yP (fun h => ?_) fun h => ?_ | refine yB (fun h => ?_) fun h => ?_ | refine yK (fun h => ?_) fun h => ?_))
        refine L_nil (hS _ _ ?_)
        clear hS
        refine A_one (i := 10) (by kernel_rfl) (by exact Cv.take tk_ (Cv.take tk_ cvNil)) rfl (O_of_L fun S hS => ?_)
        (apply gL; first | refine L_nil ?_ | refine yS ?_ | refine yX fun _ => ?_ | refine yA fun _ => ?_ | (apply gSt; first | refine sR ?_ | refine sB ?_ | refine s1 ?_ | refine sW ?_ | refine sN ?_) | (apply gCall; apply L_call rfl rfl rfl rfl rfl; (· exact eqArena_c (C := ⟨bw2, A.ws.length, [], br2, A.vs.length, []⟩) (C' := ⟨bw3, A.ws.length, [], br3, A.vs.length, []⟩) at_ at_ at_ at_ hl hl2); rintro _ _ ⟨rfl, rfl⟩) | refine kV ?_ | (apply L_val rfl rfl rfl; (· first | (apply gBin; first | fail | exact v_nebs rfl rfl) | fail )) | ((fail_if_success (refine L_known rfl ?_)); first | refine yN (fun h => ?_) fun h => ?_ | refine yP (fun h => ?_) fun h => ?_ | refine yB (fun h => ?_) fun h => ?_ | refine yK (fun h => ?_) fun h => ?_))
        refine L_nil (hS _ _ ?_)
        clear hS
        refine A_nil (by kernel_rfl) (by exact Cv.take tk_ (Cv.take tk_ cvNil)) ?_
        apply midA.mk ((gw, gwc, gws), (gr, grc, grs), _)
        · exact sub_
        · exact cvt_
        · exact ⟨hgw, hgr⟩
    · refine O_of_L fun S hS => ?_
      (apply gL; first | refine L_nil ?_ | refine yS ?_ | refine yX fun _ => ?_ | refine yA fun _ => ?_ | (apply gSt; first | refine sR ?_ | refine sB ?_ | refine s1 ?_ | refine sW ?_ | refine sN ?_) | (apply gCall; apply L_call rfl rfl rfl rfl rfl; (· exact eqArena_c (C := ⟨bw2, A.ws.length, [], br2, A.vs.length, []⟩) (C' := ⟨bw3, A.ws.length, [], br3, A.vs.length, []⟩) at_ at_ at_ at_ hl hl2); rintro _ _ ⟨rfl, rfl⟩) | refine kV ?_ | (apply L_val rfl rfl rfl; (· first | (apply gBin; first | fail | exact v_nebs rfl rfl) | fail )) | ((fail_if_success (refine L_known rfl ?_)); first | refine yN (fun h => ?_) fun h => ?_ | refine yP (fun h => ?_) fun h => ?_ | refine yB (fun h => ?_) fun h => ?_ | refine yK (fun h => ?_) fun h => ?_))
      refine L_nil (hS _ _ ?_)
      clear hS
      refine A_one (i := 3) (by kernel_rfl) (by exact Cv.take tk_ (Cv.take tk_ cvNil)) rfl ?_
      refine O_of_L fun S hS => ?_
      apply L_call rfl rfl rfl rfl rfl
      · exact toVal_c
      rintro _ _ ⟨rfl, rfl⟩
      refine L_nil (hS _ _ ?_)
      clear hS
      refine A_one (i := 4) (by kernel_rfl) (by exact Cv.take tk_ (Cv.take tk_ cvNil)) rfl ?_
      refine O_of_L fun S hS => ?_
      apply L_call rfl rfl rfl rfl rfl
      · exact implSetRoot_c at_ at_ hw (Nat.le_refl _) hl hl2
      rintro _ _ ⟨gw, gwc, gws, gr, grc, grs, rfl, hgw, hgr, rfl⟩
      apply L_back
      simp only [List.cons_append, List.nil_append]
      refine L_nil (hS _ _ ?_)
      clear hS
      refine kAt 5 ?_ (cv := by exact Cv.take tk_ (Cv.take tk_ cvNil))
      refine kAt 6 ?_ (cv := by exact Cv.take tk_ (Cv.take tk_ cvNil))
      refine kAt 7 ?_ (cv := by exact Cv.take tk_ (Cv.take tk_ cvNil))
      refine A_one (i := 9) (by kernel_rfl) (by exact Cv.take tk_ (Cv.take tk_ cvNil)) rfl (O_of_L fun S hS => ?_)
      (apply gL; first | refine L_nil ?_ | refine yS ?_ | refine yX fun _ => ?_ | refine yA fun _ => ?_ | (apply gSt; first | refine sR ?_ | refine sB ?_ | refine s1 ?_ | refine sW ?_ | refine sN ?_) | (apply gCall; apply L_call rfl rfl rfl rfl rfl; (· exact eqArena_c (C := ⟨bw2, A.ws.length, [], br2, A.vs.length, []⟩) (C' := ⟨bw3, A.ws.length, [], br3, A.vs.length, []⟩) at_ at_ at_ at_ hl hl2); rintro _ _ ⟨rfl, rfl⟩) | refine kV ?_ | (apply L_val rfl rfl rfl; (· first | (apply gBin; first | fail | exact v_nebs rfl rfl) | fail )) | ((fail_if_success (refine L_known rfl ?_)); first | refine yN (fun h => ?_) fun h => ?_ | refine yP (fun h => ?_) fun h => ?_ | refine yB (fun h => ?_) fun h => ?_ | refine yK (fun h => ?_) fun h => ?_))
      refine L_nil (hS _ _ ?_)
      clear hS
      refine A_one (i := 10) (by kernel_rfl) (by exact Cv.take tk_ (Cv.take tk_ cvNil)) rfl (O_of_L fun S hS => ?_)
      (apply gL; first | refine L_nil ?_ | refine yS ?_ | refine yX fun _ => ?_ | refine yA fun _ => ?_ | (apply gSt; first | refine sR ?_ | refine sB ?_ | refine s1 ?_ | refine sW ?_ | refine sN ?_) | (apply gCall; apply L_call rfl rfl rfl rfl rfl; (· exact eqArena_c (C := ⟨bw2, A.ws.length, [], br2, A.vs.length, []⟩) (C' := ⟨bw3, A.ws.length, [], br3, A.vs.length, []⟩) at_ at_ at_ at_ hl hl2); rintro _ _ ⟨rfl, rfl⟩) | refine kV ?_ | (apply L_val rfl rfl rfl; (· first | (apply gBin; first | fail | exact v_nebs rfl rfl) | fail )) | ((fail_if_success (refine L_known rfl ?_)); first | refine yN (fun h => ?_) fun h => ?_ | refine yP (fun h => ?_) fun h => ?_ | refine yB (fun h => ?_) fun h => ?_ | refine yK (fun h => ?_) fun h => ?_))
      refine L_nil (hS _ _ ?_)
      clear hS
      refine A_nil (by kernel_rfl) (by exact Cv.take tk_ (Cv.take tk_ cvNil)) ?_
      apply midA.mk ((gw, gwc, gws), (gr, grc, grs), _)
      · exact sub_
      · exact cvt_
      · exact ⟨hgw, hgr⟩
  rintro ⟨⟨gw, gwc, gws⟩, ⟨gr, grc, grs⟩, b11⟩ ⟨hgw, hgr⟩
  dsimp only at hgw hgr ⊢
  have hB := setRootR_len (A := A) (r := x0) (t := t) (n := n)
  generalize hR0 : A.setRootR x0 t n = RR at *
  obtain ⟨B, rb⟩ := RR
  dsimp only at hgw hgr hB ⊢
  have ew : RU ((oU gw B.ws gws ++ oV gr B.vs grs) ++ []) gw B.ws := RU.left (RU.left (RU.of hgw))
  have er : RV ((oU gw B.ws gws ++ oV gr B.vs grs) ++ []) gr B.vs := RV.left (RV.app (RV.of hgr))
  have hlB : B.ws.length ≤ 1048576 := by rw [hB.1]; exact hl
  have hlB2 : B.vs.length ≤ 1048576 := by rw [hB.2]; exact hl2
  repeat' (first | (apply gCall; apply L_call rfl rfl rfl rfl rfl; (· exact eqArena_g (bw := gw) (br := gr) (bw' := some C0.bw) (br' := some C0.br) (by (repeat (first | assumption | apply RU.there | apply RU.app))) (by (repeat (first | assumption | apply RV.there | apply RV.app))) ⟨_, by exact at_⟩ ⟨_, by exact at_⟩ hlB hlB2); rintro _ _ ⟨rfl, rfl⟩) | exact absurd rfl h | ((fail_if_success apply gAt 10); (first | (apply gL; first | refine L_nil ?_ | refine yS ?_ | refine yX fun _ => ?_ | refine yA fun _ => ?_ | (apply gSt; first | refine sR ?_ | refine sB ?_ | refine s1 ?_ | refine sW ?_ | refine sN ?_) | (apply gCall; apply L_call rfl rfl rfl rfl rfl; (· exact eqArena_c (C := ⟨bw2, A.ws.length, [], br2, A.vs.length, []⟩) (C' := ⟨bw3, A.ws.length, [], br3, A.vs.length, []⟩) at_ at_ at_ at_ hl hl2); rintro _ _ ⟨rfl, rfl⟩) | refine kV ?_ | (apply L_val rfl rfl rfl; (· first | (apply gBin; first | fail | exact v_nebs rfl rfl) | fail )) | ((fail_if_success (refine L_known rfl ?_)); first | refine yN (fun h => ?_) fun h => ?_ | refine yP (fun h => ?_) fun h => ?_ | refine yB (fun h => ?_) fun h => ?_ | refine yK (fun h => ?_) fun h => ?_)) | (apply gW; first | refine W_seq ?_ | refine W_region ?_ | refine W_ret ?_ | refine W_skip ?_ | refine W_cond1 rfl ?_ | refine W_cond0 rfl ?_ | refine cN (fun h => ?_) fun h => ?_ | refine cP (fun h => ?_) fun h => ?_ | refine cB (fun h => ?_) fun h => ?_ | refine cK (fun h => ?_) fun h => ?_ | refine wQ ?_) | (first | refine seqR.normal ?_ | refine seqR.ret ?_ | refine midA.ret ?_ | refine midA.exit ?_) | (apply gQ; first | refine Q_nil ?_ | refine Q_skip rfl rfl rfl ?_ | (apply Q_call rfl rfl rfl rfl rfl; (· exact eqArena_c (C := ⟨bw2, A.ws.length, [], br2, A.vs.length, []⟩) (C' := ⟨bw3, A.ws.length, [], br3, A.vs.length, []⟩) at_ at_ at_ at_ hl hl2)) | refine kQ ?_ | (apply Q_val rfl rfl rfl; (· first | (apply gBin; first | fail | exact v_nebs rfl rfl) | fail )) | ((fail_if_success (refine Q_known rfl ?_)); first | refine zN (fun h => ?_) fun h => ?_ | refine zP (fun h => ?_) fun h => ?_ | refine zB (fun h => ?_) fun h => ?_ | refine zK (fun h => ?_) fun h => ?_)) | fail)))
  refine W_seq ?_
  refine W_seq ?_
  apply W_regionA (by kernel_rfl)
  first | refine kA 0 ?_ | (apply A_val 0 rfl (by kernel_rfl) rfl rfl rfl cv_; (· first | (apply gBin; first | fail | exact v_nebs rfl rfl) | fail ))
  first | refine kA 1 ?_ | (apply A_val 1 rfl (by kernel_rfl) rfl rfl rfl cv_; (· first | (apply gBin; first | fail | exact v_nebs rfl rfl) | fail ))
  refine A_one (i := 2) (by kernel_rfl) cv_ rfl (O_of_L fun S hS => ?_)
  apply L_call rfl rfl rfl rfl rfl
  · exact toArena_c hW hR hl hl2
  rintro _ _ ⟨bw3, br3, rfl, rfl⟩
  refine L_nil (hS _ _ ?_)
  clear hS
  refine A_one (i := 3) (by kernel_rfl) cv_ rfl (O_of_L fun S hS => ?_)
  (apply gL; first | refine L_nil ?_ | refine yS ?_ | refine yX fun _ => ?_ | refine yA fun _ => ?_ | (apply gSt; first | refine sR ?_ | refine sB ?_ | refine s1 ?_ | refine sW ?_ | refine sN ?_) | (apply gCall; apply L_call rfl rfl rfl rfl rfl; (· exact eqArena_c (C := ⟨bw2, A.ws.length, [], br2, A.vs.length, []⟩) (C' := ⟨bw3, A.ws.length, [], br3, A.vs.length, []⟩) at_ at_ at_ at_ hl hl2); rintro _ _ ⟨rfl, rfl⟩) | refine kV ?_ | (apply L_val rfl rfl rfl; (· first | (apply gBin; first | fail | exact v_nebs rfl rfl) | fail )) | ((fail_if_success (refine L_known rfl ?_)); first | refine yN (fun h => ?_) fun h => ?_ | refine yP (fun h => ?_) fun h => ?_ | refine yB (fun h => ?_) fun h => ?_ | refine yK (fun h => ?_) fun h => ?_))
  refine L_nil (hS _ _ ?_)
  clear hS
  first | refine kA 4 ?_ | (apply A_val 4 rfl (by kernel_rfl) rfl rfl rfl cv_; (· first | (apply gBin; first | fail | exact v_nebs rfl rfl) | fail ))
  refine A_nil (by kernel_rfl) cv_ ?_
  repeat' (first | (apply gL; first | refine L_nil ?_ | refine yS ?_ | refine yX fun _ => ?_ | refine yA fun _ => ?_ | (apply gSt; first | refine sR ?_ | refine sB ?_ | refine s1 ?_ | refine sW ?_ | refine sN ?_) | (apply gCall; apply L_call rfl rfl rfl rfl rfl; (· exact eqArena_c (C := ⟨bw2, A.ws.length, [], br2, A.vs.length, []⟩) (C' := ⟨bw3, A.ws.length, [], br3, A.vs.length, []⟩) at_ at_ at_ at_ hl hl2); rintro _ _ ⟨rfl, rfl⟩) | refine kV ?_ | (apply L_val rfl rfl rfl; (· first | (apply gBin; first | fail | exact v_nebs rfl rfl) | fail )) | ((fail_if_success (refine L_known rfl ?_)); first | refine yN (fun h => ?_) fun h => ?_ | refine yP (fun h => ?_) fun h => ?_ | refine yB (fun h => ?_) fun h => ?_ | refine yK (fun h => ?_) fun h => ?_)) | (apply gW; first | refine W_seq ?_ | refine W_region ?_ | refine W_ret ?_ | refine W_skip ?_ | refine W_cond1 rfl ?_ | refine W_cond0 rfl ?_ | refine cN (fun h => ?_) fun h => ?_ | refine cP (fun h => ?_) fun h => ?_ | refine cB (fun h => ?_) fun h => ?_ | refine cK (fun h => ?_) fun h => ?_ | refine wQ ?_) | (first | refine seqR.normal ?_ | refine seqR.ret ?_ | refine midA.ret ?_ | refine midA.exit ?_) | (apply gQ; first | refine Q_nil ?_ | refine Q_skip rfl rfl rfl ?_ | (apply Q_call rfl rfl rfl rfl rfl; (· exact eqArena_c (C := ⟨bw2, A.ws.length, [], br2, A.vs.length, []⟩) (C' := ⟨bw3, A.ws.length, [], br3, A.vs.length, []⟩) at_ at_ at_ at_ hl hl2)) | refine kQ ?_ | (apply Q_val rfl rfl rfl; (· first | (apply gBin; first | fail | exact v_nebs rfl rfl) | fail )) | ((fail_if_success (refine Q_known rfl ?_)); first | refine zN (fun h => ?_) fun h => ?_ | refine zP (fun h => ?_) fun h => ?_ | refine zB (fun h => ?_) fun h => ?_ | refine zK (fun h => ?_) fun h => ?_)) | fail)
  all_goals (first | exact absurd rfl h | skip)
  apply L_call rfl rfl rfl rfl rfl
  · exact markArena_s (C := ⟨bw2, A.ws.length, [], br2, A.vs.length, []⟩) tk_ tk_ hl hl2 (by omega)
  rintro _ _ ⟨rfl, rfl⟩
  repeat' (first | (apply gCall; apply L_call rfl rfl rfl rfl rfl; (· exact eqArena_g (bw := gw) (br := gr) (bw' := some C0.bw) (br' := some C0.br) (by (repeat (first | assumption | apply RU.there | apply RU.app))) (by (repeat (first | assumption | apply RV.there | apply RV.app))) ⟨_, by exact at_⟩ ⟨_, by exact at_⟩ hlB hlB2); rintro _ _ ⟨rfl, rfl⟩) | exact absurd rfl h | (exfalso; omega) | first | (apply gL; first | refine L_nil ?_ | refine yS ?_ | refine yX fun _ => ?_ | refine yA fun _ => ?_ | (apply gSt; first | refine sR ?_ | refine sB ?_ | refine s1 ?_ | refine sW ?_ | refine sN ?_) | (apply gCall; apply L_call rfl rfl rfl rfl rfl; (· exact eqArena_c (C := ⟨bw2, A.ws.length, [], br2, A.vs.length, []⟩) (C' := ⟨bw3, A.ws.length, [], br3, A.vs.length, []⟩) at_ at_ at_ at_ hl hl2); rintro _ _ ⟨rfl, rfl⟩) | refine kV ?_ | (apply L_val rfl rfl rfl; (· first | (apply gBin; first | fail | exact v_nebs rfl rfl) | fail )) | ((fail_if_success (refine L_known rfl ?_)); first | refine yN (fun h => ?_) fun h => ?_ | refine yP (fun h => ?_) fun h => ?_ | refine yB (fun h => ?_) fun h => ?_ | refine yK (fun h => ?_) fun h => ?_)) | (apply gW; first | refine W_seq ?_ | refine W_region ?_ | refine W_ret ?_ | refine W_skip ?_ | refine W_cond1 rfl ?_ | refine W_cond0 rfl ?_ | refine cN (fun h => ?_) fun h => ?_ | refine cP (fun h => ?_) fun h => ?_ | refine cB (fun h => ?_) fun h => ?_ | refine cK (fun h => ?_) fun h => ?_ | refine wQ ?_) | (first | refine seqR.normal ?_ | refine seqR.ret ?_ | refine midA.ret ?_ | refine midA.exit ?_) | (apply gQ; first | refine Q_nil ?_ | refine Q_skip rfl rfl rfl ?_ | (apply Q_call rfl rfl rfl rfl rfl; (· exact eqArena_c (C := ⟨bw2, A.ws.length, [], br2, A.vs.length, []⟩) (C' := ⟨bw3, A.ws.length, [], br3, A.vs.length, []⟩) at_ at_ at_ at_ hl hl2)) | refine kQ ?_ | (apply Q_val rfl rfl rfl; (· first | (apply gBin; first | fail | exact v_nebs rfl rfl) | fail )) | ((fail_if_success (refine Q_known rfl ?_)); first | refine zN (fun h => ?_) fun h => ?_ | refine zP (fun h => ?_) fun h => ?_ | refine zB (fun h => ?_) fun h => ?_ | refine zK (fun h => ?_) fun h => ?_)) | fail)
  apply L_call rfl rfl rfl rfl rfl
  · exact markArena_t (bw := gw) (br := gr) (wsp := gws) (rsp := grs) (by (repeat (first | exact Tail.nil | apply Tail.cons))) hgw hgr hlB hlB2 (by omega)
  rintro _ _ ⟨rfl, ws', vs', ⟨hw1, hw2⟩, ⟨hv1, hv2⟩, rfl⟩
  simp only [List.cons_append, List.nil_append]
  have hgw' : gw = none → ws' = [] := fun c => List.eq_nil_of_length_eq_zero (by rw [hw1, hgw c]; rfl)
  have hgr' : gr = none → vs' = [] := fun c => List.eq_nil_of_length_eq_zero (by rw [hv1, hgr c]; rfl)
  have ew' : ∀ Z, RU ((oU gw ws' gws ++ oV gr vs' grs) ++ Z) gw ws' := fun Z => RU.left (RU.left (RU.of hgw'))
  have er' : ∀ Z, RV ((oU gw ws' gws ++ oV gr vs' grs) ++ Z) gr vs' := fun Z => RV.left (RV.app (RV.of hgr'))
  have ew1 := ew' []
  have er1 := er' []
  repeat' (first | (apply gCall; apply L_call rfl rfl rfl rfl rfl; (· exact heldArena_g (bw := gw) (br := gr) (ws := ws') (vs := vs') (by (repeat (first | assumption | apply RU.there | apply RU.app))) (by (repeat (first | assumption | apply RV.there | apply RV.app))) (by omega) (by omega) (by omega) hw2 (by rw [hw1]; exact hv2) hw1 hv1); rintro _ _ ⟨rfl, rfl⟩) | exact absurd rfl h | (exfalso; omega) | ((fail_if_success apply gAtR 24); (first | (apply gL; first | refine L_nil ?_ | refine yS ?_ | refine yX fun _ => ?_ | refine yA fun _ => ?_ | (apply gSt; first | refine sR ?_ | refine sB ?_ | refine s1 ?_ | refine sW ?_ | refine sN ?_) | (apply gCall; apply L_call rfl rfl rfl rfl rfl; (· exact eqArena_c (C := ⟨bw2, A.ws.length, [], br2, A.vs.length, []⟩) (C' := ⟨bw3, A.ws.length, [], br3, A.vs.length, []⟩) at_ at_ at_ at_ hl hl2); rintro _ _ ⟨rfl, rfl⟩) | refine kV ?_ | (apply L_val rfl rfl rfl; (· first | (apply gBin; first | fail | exact v_nebs rfl rfl) | fail )) | ((fail_if_success (refine L_known rfl ?_)); first | refine yN (fun h => ?_) fun h => ?_ | refine yP (fun h => ?_) fun h => ?_ | refine yB (fun h => ?_) fun h => ?_ | refine yK (fun h => ?_) fun h => ?_)) | (apply gW; first | refine W_seq ?_ | refine W_region ?_ | refine W_ret ?_ | refine W_skip ?_ | refine W_cond1 rfl ?_ | refine W_cond0 rfl ?_ | refine cN (fun h => ?_) fun h => ?_ | refine cP (fun h => ?_) fun h => ?_ | refine cB (fun h => ?_) fun h => ?_ | refine cK (fun h => ?_) fun h => ?_ | refine wQ ?_) | (first | refine seqR.normal ?_ | refine seqR.ret ?_ | refine midA.ret ?_ | refine midA.exit ?_) | (apply gQ; first | refine Q_nil ?_ | refine Q_skip rfl rfl rfl ?_ | (apply Q_call rfl rfl rfl rfl rfl; (· exact eqArena_c (C := ⟨bw2, A.ws.length, [], br2, A.vs.length, []⟩) (C' := ⟨bw3, A.ws.length, [], br3, A.vs.length, []⟩) at_ at_ at_ at_ hl hl2)) | refine kQ ?_ | (apply Q_val rfl rfl rfl; (· first | (apply gBin; first | fail | exact v_nebs rfl rfl) | fail )) | ((fail_if_success (refine Q_known rfl ?_)); first | refine zN (fun h => ?_) fun h => ?_ | refine zP (fun h => ?_) fun h => ?_ | refine zB (fun h => ?_) fun h => ?_ | refine zK (fun h => ?_) fun h => ?_)) | fail)))
  refine W_midA (α := (Option Nat × Nat × List Value) × (Option Nat × Nat × List Value) × Nat) (fun y => [(5, .pointer (some ⟨b5, 0, none⟩)), (8, .pointer (some ⟨b8, 0, none⟩)), (9, .bool rb), (11, .pointer (some ⟨b11, 0, none⟩)), (14, .int .i64 (1 + B.ws.length + 2 * B.vs.length)), (16, .pointer (some ⟨y.2.2, 0, none⟩)), (17, .bool rb)])
    (fun y => (y.2.2, .cells (arG (ad y.1.1) y.1.2.1 (ad y.2.1.1) y.2.1.2.1 B).cells 29 (0, 0)) :: (b11, .cells (arG (ad gw) gwc (ad gr) grc B).cells 29 (0, 0)) :: (b8, aObj C0 B) :: (C0.br, rObj C0 B) :: (C0.bw, wObj C0 B) :: ((oU gw ws' gws ++ oV gr vs' grs) ++ (oU y.1.1 B.ws y.1.2.2 ++ oV y.2.1.1 B.vs y.2.1.2.2)))
    (fun y => (y.1.1 = none → B.ws = []) ∧ (y.2.1.1 = none → B.vs = [])) ?_ ?_
  · apply W_regionA (D := [(b3, .cells (laV aW cW aR cR A).cells 25 (0, 0)), (b5, .cells #[.int .i64 t, .int .i64 n] 37 (0, 0))]) (by kernel_rfl)
    refine kAt 0 ?_ (cv := by exact Cv.take tk_ (Cv.take tk_ cvNil))
    refine kAt 2 ?_ (cv := by exact Cv.take tk_ (Cv.take tk_ cvNil))
    refine kAt 3 ?_ (cv := by exact Cv.take tk_ (Cv.take tk_ cvNil))
    refine A_two (i := 1) (j := 9) (by kernel_rfl) (by exact Cv.take tk_ (Cv.take tk_ cvNil)) rfl rfl ?_ ?_
    · refine O_of_L fun S hS => ?_
      apply L_call rfl rfl rfl rfl rfl
      · exact toArena_c hW hR hl hl2
      rintro _ _ ⟨bw4, br4, rfl, rfl⟩
      refine L_nil (hS _ _ ?_)
      clear hS
      refine A_two (i := 4) (j := 9) (by kernel_rfl) (by exact Cv.take tk_ (Cv.take tk_ cvNil)) rfl rfl ?_ ?_
      · refine O_of_L fun S hS => ?_
        apply L_call rfl rfl rfl rfl rfl
        · exact toVal_c
        rintro _ _ ⟨rfl, rfl⟩
        refine L_nil (hS _ _ ?_)
        clear hS
        refine A_two (i := 5) (j := 9) (by kernel_rfl) (by exact Cv.take tk_ (Cv.take tk_ cvNil)) rfl rfl ?_ ?_
        · refine O_of_L fun S hS => ?_
          apply L_call rfl rfl rfl rfl rfl
          · exact implSetRoot_c at_ at_ hw (Nat.le_refl _) hl hl2
          rintro _ _ ⟨hw_, hwc, hws, hr_, hrc, hrs, rfl, hhw, hhr, rfl⟩
          rw [hR0] at hhw hhr ⊢
          dsimp only at hhw hhr ⊢
          apply L_back2 (by (repeat (first | exact Tail.nil | apply Tail.cons)))
          simp only [List.cons_append, List.nil_append]
          refine L_nil (hS _ _ ?_)
          clear hS
          refine kAt 6 ?_ (cv := by exact Cv.take tk_ (Cv.take tk_ cvNil))
          refine kAt 7 ?_ (cv := by exact Cv.take tk_ (Cv.take tk_ cvNil))
          refine kAt 8 ?_ (cv := by exact Cv.take tk_ (Cv.take tk_ cvNil))
          refine A_one (i := 9) (by kernel_rfl) (by exact Cv.take tk_ (Cv.take tk_ cvNil)) rfl ?_
          refine O_of_L fun S hS => ?_
          (apply gL; first | refine L_nil ?_ | refine yS ?_ | refine yX fun _ => ?_ | refine yA fun _ => ?_ | (apply gSt; first | refine sR ?_ | refine sB ?_ | refine s1 ?_ | refine sW ?_ | refine sN ?_) | (apply gCall; apply L_call rfl rfl rfl rfl rfl; (· exact eqArena_c (C := ⟨bw2, A.ws.length, [], br2, A.vs.length, []⟩) (C' := ⟨bw3, A.ws.length, [], br3, A.vs.length, []⟩) at_ at_ at_ at_ hl hl2); rintro _ _ ⟨rfl, rfl⟩) | refine kV ?_ | (apply L_val rfl rfl rfl; (· first | (apply gBin; first | fail | exact v_nebs rfl rfl) | fail )) | ((fail_if_success (refine L_known rfl ?_)); first | refine yN (fun h => ?_) fun h => ?_ | refine yP (fun h => ?_) fun h => ?_ | refine yB (fun h => ?_) fun h => ?_ | refine yK (fun h => ?_) fun h => ?_))
          refine L_nil (hS _ _ ?_)
          clear hS
          refine A_one (i := 10) (by kernel_rfl) (by exact Cv.take tk_ (Cv.take tk_ cvNil)) rfl (O_of_L fun S hS => ?_)
          (apply gL; first | refine L_nil ?_ | refine yS ?_ | refine yX fun _ => ?_ | refine yA fun _ => ?_ | (apply gSt; first | refine sR ?_ | refine sB ?_ | refine s1 ?_ | refine sW ?_ | refine sN ?_) | (apply gCall; apply L_call rfl rfl rfl rfl rfl; (· exact eqArena_c (C := ⟨bw2, A.ws.length, [], br2, A.vs.length, []⟩) (C' := ⟨bw3, A.ws.length, [], br3, A.vs.length, []⟩) at_ at_ at_ at_ hl hl2); rintro _ _ ⟨rfl, rfl⟩) | refine kV ?_ | (apply L_val rfl rfl rfl; (· first | (apply gBin; first | fail | exact v_nebs rfl rfl) | fail )) | ((fail_if_success (refine L_known rfl ?_)); first | refine yN (fun h => ?_) fun h => ?_ | refine yP (fun h => ?_) fun h => ?_ | refine yB (fun h => ?_) fun h => ?_ | refine yK (fun h => ?_) fun h => ?_))
          refine L_nil (hS _ _ ?_)
          clear hS
          refine A_one (i := 11) (by kernel_rfl) (by exact Cv.take tk_ (Cv.take tk_ cvNil)) rfl (O_of_L fun S hS => ?_)
          (apply gL; first | refine L_nil ?_ | refine yS ?_ | refine yX fun _ => ?_ | refine yA fun _ => ?_ | (apply gSt; first | refine sR ?_ | refine sB ?_ | refine s1 ?_ | refine sW ?_ | refine sN ?_) | (apply gCall; apply L_call rfl rfl rfl rfl rfl; (· exact eqArena_c (C := ⟨bw2, A.ws.length, [], br2, A.vs.length, []⟩) (C' := ⟨bw3, A.ws.length, [], br3, A.vs.length, []⟩) at_ at_ at_ at_ hl hl2); rintro _ _ ⟨rfl, rfl⟩) | refine kV ?_ | (apply L_val rfl rfl rfl; (· first | (apply gBin; first | fail | exact v_nebs rfl rfl) | fail )) | ((fail_if_success (refine L_known rfl ?_)); first | refine yN (fun h => ?_) fun h => ?_ | refine yP (fun h => ?_) fun h => ?_ | refine yB (fun h => ?_) fun h => ?_ | refine yK (fun h => ?_) fun h => ?_))
          refine L_nil (hS _ _ ?_)
          clear hS
          refine A_nil (by kernel_rfl) (by exact Cv.take tk_ (Cv.take tk_ cvNil)) ?_
          apply midA.mk ((hw_, hwc, hws), (hr_, hrc, hrs), _)
          · exact sub_
          · exact cvt_
          · exact ⟨hhw, hhr⟩
        · refine O_of_L fun S hS => ?_
          (apply gL; first | refine L_nil ?_ | refine yS ?_ | refine yX fun _ => ?_ | refine yA fun _ => ?_ | (apply gSt; first | refine sR ?_ | refine sB ?_ | refine s1 ?_ | refine sW ?_ | refine sN ?_) | (apply gCall; apply L_call rfl rfl rfl rfl rfl; (· exact eqArena_c (C := ⟨bw2, A.ws.length, [], br2, A.vs.length, []⟩) (C' := ⟨bw3, A.ws.length, [], br3, A.vs.length, []⟩) at_ at_ at_ at_ hl hl2); rintro _ _ ⟨rfl, rfl⟩) | refine kV ?_ | (apply L_val rfl rfl rfl; (· first | (apply gBin; first | fail | exact v_nebs rfl rfl) | fail )) | ((fail_if_success (refine L_known rfl ?_)); first | refine yN (fun h => ?_) fun h => ?_ | refine yP (fun h => ?_) fun h => ?_ | refine yB (fun h => ?_) fun h => ?_ | refine yK (fun h => ?_) fun h => ?_))
          refine L_nil (hS _ _ ?_)
          clear hS
          refine A_one (i := 5) (by kernel_rfl) (by exact Cv.take tk_ (Cv.take tk_ cvNil)) rfl ?_
          refine O_of_L fun S hS => ?_
          apply L_call rfl rfl rfl rfl rfl
          · exact implSetRoot_c at_ at_ hw (Nat.le_refl _) hl hl2
          rintro _ _ ⟨hw_, hwc, hws, hr_, hrc, hrs, rfl, hhw, hhr, rfl⟩
          rw [hR0] at hhw hhr ⊢
          dsimp only at hhw hhr ⊢
          apply L_back2 (by (repeat (first | exact Tail.nil | apply Tail.cons)))
          simp only [List.cons_append, List.nil_append]
          refine L_nil (hS _ _ ?_)
          clear hS
          refine kAt 6 ?_ (cv := by exact Cv.take tk_ (Cv.take tk_ cvNil))
          refine kAt 7 ?_ (cv := by exact Cv.take tk_ (Cv.take tk_ cvNil))
          refine kAt 8 ?_ (cv := by exact Cv.take tk_ (Cv.take tk_ cvNil))
          refine A_one (i := 10) (by kernel_rfl) (by exact Cv.take tk_ (Cv.take tk_ cvNil)) rfl (O_of_L fun S hS => ?_)
          (apply gL; first | refine L_nil ?_ | refine yS ?_ | refine yX fun _ => ?_ | refine yA fun _ => ?_ | (apply gSt; first | refine sR ?_ | refine sB ?_ | refine s1 ?_ | refine sW ?_ | refine sN ?_) | (apply gCall; apply L_call rfl rfl rfl rfl rfl; (· exact eqArena_c (C := ⟨bw2, A.ws.length, [], br2, A.vs.length, []⟩) (C' := ⟨bw3, A.ws.length, [], br3, A.vs.length, []⟩) at_ at_ at_ at_ hl hl2); rintro _ _ ⟨rfl, rfl⟩) | refine kV ?_ | (apply L_val rfl rfl rfl; (· first | (apply gBin; first | fail | exact v_nebs rfl rfl) | fail )) | ((fail_if_success (refine L_known rfl ?_)); first | refine yN (fun h => ?_) fun h => ?_ | refine yP (fun h => ?_) fun h => ?_ | refine yB (fun h => ?_) fun h => ?_ | refine yK (fun h => ?_) fun h => ?_))
          refine L_nil (hS _ _ ?_)
          clear hS
          refine A_one (i := 11) (by kernel_rfl) (by exact Cv.take tk_ (Cv.take tk_ cvNil)) rfl (O_of_L fun S hS => ?_)
          (apply gL; first | refine L_nil ?_ | refine yS ?_ | refine yX fun _ => ?_ | refine yA fun _ => ?_ | (apply gSt; first | refine sR ?_ | refine sB ?_ | refine s1 ?_ | refine sW ?_ | refine sN ?_) | (apply gCall; apply L_call rfl rfl rfl rfl rfl; (· exact eqArena_c (C := ⟨bw2, A.ws.length, [], br2, A.vs.length, []⟩) (C' := ⟨bw3, A.ws.length, [], br3, A.vs.length, []⟩) at_ at_ at_ at_ hl hl2); rintro _ _ ⟨rfl, rfl⟩) | refine kV ?_ | (apply L_val rfl rfl rfl; (· first | (apply gBin; first | fail | exact v_nebs rfl rfl) | fail )) | ((fail_if_success (refine L_known rfl ?_)); first | refine yN (fun h => ?_) fun h => ?_ | refine yP (fun h => ?_) fun h => ?_ | refine yB (fun h => ?_) fun h => ?_ | refine yK (fun h => ?_) fun h => ?_))
          refine L_nil (hS _ _ ?_)
          clear hS
          refine A_nil (by kernel_rfl) (by exact Cv.take tk_ (Cv.take tk_ cvNil)) ?_
          apply midA.mk ((hw_, hwc, hws), (hr_, hrc, hrs), _)
          · exact sub_
          · exact cvt_
          · exact ⟨hhw, hhr⟩
      · refine O_of_L fun S hS => ?_
        (apply gL; first | refine L_nil ?_ | refine yS ?_ | refine yX fun _ => ?_ | refine yA fun _ => ?_ | (apply gSt; first | refine sR ?_ | refine sB ?_ | refine s1 ?_ | refine sW ?_ | refine sN ?_) | (apply gCall; apply L_call rfl rfl rfl rfl rfl; (· exact eqArena_c (C := ⟨bw2, A.ws.length, [], br2, A.vs.length, []⟩) (C' := ⟨bw3, A.ws.length, [], br3, A.vs.length, []⟩) at_ at_ at_ at_ hl hl2); rintro _ _ ⟨rfl, rfl⟩) | refine kV ?_ | (apply L_val rfl rfl rfl; (· first | (apply gBin; first | fail | exact v_nebs rfl rfl) | fail )) | ((fail_if_success (refine L_known rfl ?_)); first | refine yN (fun h => ?_) fun h => ?_ | refine yP (fun h => ?_) fun h => ?_ | refine yB (fun h => ?_) fun h => ?_ | refine yK (fun h => ?_) fun h => ?_))
        refine L_nil (hS _ _ ?_)
        clear hS
        refine A_one (i := 4) (by kernel_rfl) (by exact Cv.take tk_ (Cv.take tk_ cvNil)) rfl ?_
        refine O_of_L fun S hS => ?_
        apply L_call rfl rfl rfl rfl rfl
        · exact toVal_c
        rintro _ _ ⟨rfl, rfl⟩
        refine L_nil (hS _ _ ?_)
        clear hS
        refine A_one (i := 5) (by kernel_rfl) (by exact Cv.take tk_ (Cv.take tk_ cvNil)) rfl ?_
        refine O_of_L fun S hS => ?_
        apply L_call rfl rfl rfl rfl rfl
        · exact implSetRoot_c at_ at_ hw (Nat.le_refl _) hl hl2
        rintro _ _ ⟨hw_, hwc, hws, hr_, hrc, hrs, rfl, hhw, hhr, rfl⟩
        rw [hR0] at hhw hhr ⊢
        dsimp only at hhw hhr ⊢
        apply L_back2 (by (repeat (first | exact Tail.nil | apply Tail.cons)))
        simp only [List.cons_append, List.nil_append]
        refine L_nil (hS _ _ ?_)
        clear hS
        refine kAt 6 ?_ (cv := by exact Cv.take tk_ (Cv.take tk_ cvNil))
        refine kAt 7 ?_ (cv := by exact Cv.take tk_ (Cv.take tk_ cvNil))
        refine kAt 8 ?_ (cv := by exact Cv.take tk_ (Cv.take tk_ cvNil))
        refine A_one (i := 10) (by kernel_rfl) (by exact Cv.take tk_ (Cv.take tk_ cvNil)) rfl (O_of_L fun S hS => ?_)
        (apply gL; first | refine L_nil ?_ | refine yS ?_ | refine yX fun _ => ?_ | refine yA fun _ => ?_ | (apply gSt; first | refine sR ?_ | refine sB ?_ | refine s1 ?_ | refine sW ?_ | refine sN ?_) | (apply gCall; apply L_call rfl rfl rfl rfl rfl; (· exact eqArena_c (C := ⟨bw2, A.ws.length, [], br2, A.vs.length, []⟩) (C' := ⟨bw3, A.ws.length, [], br3, A.vs.length, []⟩) at_ at_ at_ at_ hl hl2); rintro _ _ ⟨rfl, rfl⟩) | refine kV ?_ | (apply L_val rfl rfl rfl; (· first | (apply gBin; first | fail | exact v_nebs rfl rfl) | fail )) | ((fail_if_success (refine L_known rfl ?_)); first | refine yN (fun h => ?_) fun h => ?_ | refine yP (fun h => ?_) fun h => ?_ | refine yB (fun h => ?_) fun h => ?_ | refine yK (fun h => ?_) fun h => ?_))
        refine L_nil (hS _ _ ?_)
        clear hS
        refine A_one (i := 11) (by kernel_rfl) (by exact Cv.take tk_ (Cv.take tk_ cvNil)) rfl (O_of_L fun S hS => ?_)
        (apply gL; first | refine L_nil ?_ | refine yS ?_ | refine yX fun _ => ?_ | refine yA fun _ => ?_ | (apply gSt; first | refine sR ?_ | refine sB ?_ | refine s1 ?_ | refine sW ?_ | refine sN ?_) | (apply gCall; apply L_call rfl rfl rfl rfl rfl; (· exact eqArena_c (C := ⟨bw2, A.ws.length, [], br2, A.vs.length, []⟩) (C' := ⟨bw3, A.ws.length, [], br3, A.vs.length, []⟩) at_ at_ at_ at_ hl hl2); rintro _ _ ⟨rfl, rfl⟩) | refine kV ?_ | (apply L_val rfl rfl rfl; (· first | (apply gBin; first | fail | exact v_nebs rfl rfl) | fail )) | ((fail_if_success (refine L_known rfl ?_)); first | refine yN (fun h => ?_) fun h => ?_ | refine yP (fun h => ?_) fun h => ?_ | refine yB (fun h => ?_) fun h => ?_ | refine yK (fun h => ?_) fun h => ?_))
        refine L_nil (hS _ _ ?_)
        clear hS
        refine A_nil (by kernel_rfl) (by exact Cv.take tk_ (Cv.take tk_ cvNil)) ?_
        apply midA.mk ((hw_, hwc, hws), (hr_, hrc, hrs), _)
        · exact sub_
        · exact cvt_
        · exact ⟨hhw, hhr⟩
    · refine O_of_L fun S hS => ?_
      (apply gL; first | refine L_nil ?_ | refine yS ?_ | refine yX fun _ => ?_ | refine yA fun _ => ?_ | (apply gSt; first | refine sR ?_ | refine sB ?_ | refine s1 ?_ | refine sW ?_ | refine sN ?_) | (apply gCall; apply L_call rfl rfl rfl rfl rfl; (· exact eqArena_c (C := ⟨bw2, A.ws.length, [], br2, A.vs.length, []⟩) (C' := ⟨bw3, A.ws.length, [], br3, A.vs.length, []⟩) at_ at_ at_ at_ hl hl2); rintro _ _ ⟨rfl, rfl⟩) | refine kV ?_ | (apply L_val rfl rfl rfl; (· first | (apply gBin; first | fail | exact v_nebs rfl rfl) | fail )) | ((fail_if_success (refine L_known rfl ?_)); first | refine yN (fun h => ?_) fun h => ?_ | refine yP (fun h => ?_) fun h => ?_ | refine yB (fun h => ?_) fun h => ?_ | refine yK (fun h => ?_) fun h => ?_))
      refine L_nil (hS _ _ ?_)
      clear hS
      refine A_one (i := 1) (by kernel_rfl) (by exact Cv.take tk_ (Cv.take tk_ cvNil)) rfl ?_
      refine O_of_L fun S hS => ?_
      apply L_call rfl rfl rfl rfl rfl
      · exact toArena_c hW hR hl hl2
      rintro _ _ ⟨bw4, br4, rfl, rfl⟩
      refine L_nil (hS _ _ ?_)
      clear hS
      refine A_one (i := 4) (by kernel_rfl) (by exact Cv.take tk_ (Cv.take tk_ cvNil)) rfl ?_
      refine O_of_L fun S hS => ?_
      apply L_call rfl rfl rfl rfl rfl
      · exact toVal_c
      rintro _ _ ⟨rfl, rfl⟩
      refine L_nil (hS _ _ ?_)
      clear hS
      refine A_one (i := 5) (by kernel_rfl) (by exact Cv.take tk_ (Cv.take tk_ cvNil)) rfl ?_
      refine O_of_L fun S hS => ?_
      apply L_call rfl rfl rfl rfl rfl
      · exact implSetRoot_c at_ at_ hw (Nat.le_refl _) hl hl2
      rintro _ _ ⟨hw_, hwc, hws, hr_, hrc, hrs, rfl, hhw, hhr, rfl⟩
      rw [hR0] at hhw hhr ⊢
      dsimp only at hhw hhr ⊢
      apply L_back2 (by (repeat (first | exact Tail.nil | apply Tail.cons)))
      simp only [List.cons_append, List.nil_append]
      refine L_nil (hS _ _ ?_)
      clear hS
      refine kAt 6 ?_ (cv := by exact Cv.take tk_ (Cv.take tk_ cvNil))
      refine kAt 7 ?_ (cv := by exact Cv.take tk_ (Cv.take tk_ cvNil))
      refine kAt 8 ?_ (cv := by exact Cv.take tk_ (Cv.take tk_ cvNil))
      refine A_one (i := 10) (by kernel_rfl) (by exact Cv.take tk_ (Cv.take tk_ cvNil)) rfl (O_of_L fun S hS => ?_)
      (apply gL; first | refine L_nil ?_ | refine yS ?_ | refine yX fun _ => ?_ | refine yA fun _ => ?_ | (apply gSt; first | refine sR ?_ | refine sB ?_ | refine s1 ?_ | refine sW ?_ | refine sN ?_) | (apply gCall; apply L_call rfl rfl rfl rfl rfl; (· exact eqArena_c (C := ⟨bw2, A.ws.length, [], br2, A.vs.length, []⟩) (C' := ⟨bw3, A.ws.length, [], br3, A.vs.length, []⟩) at_ at_ at_ at_ hl hl2); rintro _ _ ⟨rfl, rfl⟩) | refine kV ?_ | (apply L_val rfl rfl rfl; (· first | (apply gBin; first | fail | exact v_nebs rfl rfl) | fail )) | ((fail_if_success (refine L_known rfl ?_)); first | refine yN (fun h => ?_) fun h => ?_ | refine yP (fun h => ?_) fun h => ?_ | refine yB (fun h => ?_) fun h => ?_ | refine yK (fun h => ?_) fun h => ?_))
      refine L_nil (hS _ _ ?_)
      clear hS
      refine A_one (i := 11) (by kernel_rfl) (by exact Cv.take tk_ (Cv.take tk_ cvNil)) rfl (O_of_L fun S hS => ?_)
      (apply gL; first | refine L_nil ?_ | refine yS ?_ | refine yX fun _ => ?_ | refine yA fun _ => ?_ | (apply gSt; first | refine sR ?_ | refine sB ?_ | refine s1 ?_ | refine sW ?_ | refine sN ?_) | (apply gCall; apply L_call rfl rfl rfl rfl rfl; (· exact eqArena_c (C := ⟨bw2, A.ws.length, [], br2, A.vs.length, []⟩) (C' := ⟨bw3, A.ws.length, [], br3, A.vs.length, []⟩) at_ at_ at_ at_ hl hl2); rintro _ _ ⟨rfl, rfl⟩) | refine kV ?_ | (apply L_val rfl rfl rfl; (· first | (apply gBin; first | fail | exact v_nebs rfl rfl) | fail )) | ((fail_if_success (refine L_known rfl ?_)); first | refine yN (fun h => ?_) fun h => ?_ | refine yP (fun h => ?_) fun h => ?_ | refine yB (fun h => ?_) fun h => ?_ | refine yK (fun h => ?_) fun h => ?_))
      refine L_nil (hS _ _ ?_)
      clear hS
      refine A_nil (by kernel_rfl) (by exact Cv.take tk_ (Cv.take tk_ cvNil)) ?_
      apply midA.mk ((hw_, hwc, hws), (hr_, hrc, hrs), _)
      · exact sub_
      · exact cvt_
      · exact ⟨hhw, hhr⟩
  rintro ⟨⟨hw_, hwc, hws⟩, ⟨hr_, hrc, hrs⟩, b16⟩ ⟨hhw, hhr⟩
  dsimp only at hhw hhr ⊢
  have fw_ : RU ((oU gw ws' gws ++ oV gr vs' grs) ++ (oU hw_ B.ws hws ++ oV hr_ B.vs hrs)) hw_ B.ws := RU.app (RU.left (RU.of hhw))
  have fr_ : RV ((oU gw ws' gws ++ oV gr vs' grs) ++ (oU hw_ B.ws hws ++ oV hr_ B.vs hrs)) hr_ B.vs := RV.app (RV.app (RV.of hhr))
  have ew2 := ew' (oU hw_ B.ws hws ++ oV hr_ B.vs hrs)
  have er2 := er' (oU hw_ B.ws hws ++ oV hr_ B.vs hrs)
  repeat' (first | (apply gCall; apply L_call rfl rfl rfl rfl rfl; (· first | exact eqArena_g (bw := hw_) (br := hr_) (bw' := some C0.bw) (br' := some C0.br) (by (repeat (first | assumption | apply RU.there | apply RU.app))) (by (repeat (first | assumption | apply RV.there | apply RV.app))) ⟨_, by exact at_⟩ ⟨_, by exact at_⟩ hlB hlB2 | exact heldArena_g (bw := gw) (br := gr) (ws := ws') (vs := vs') (by (repeat (first | assumption | apply RU.there | apply RU.app))) (by (repeat (first | assumption | apply RV.there | apply RV.app))) (by omega) (by omega) (by omega) hw2 (by rw [hw1]; exact hv2) hw1 hv1); rintro _ _ ⟨rfl, rfl⟩) | exact absurd rfl h | (exfalso; omega) | first | (apply gL; first | refine L_nil ?_ | refine yS ?_ | refine yX fun _ => ?_ | refine yA fun _ => ?_ | (apply gSt; first | refine sR ?_ | refine sB ?_ | refine s1 ?_ | refine sW ?_ | refine sN ?_) | (apply gCall; apply L_call rfl rfl rfl rfl rfl; (· exact eqArena_c (C := ⟨bw2, A.ws.length, [], br2, A.vs.length, []⟩) (C' := ⟨bw3, A.ws.length, [], br3, A.vs.length, []⟩) at_ at_ at_ at_ hl hl2); rintro _ _ ⟨rfl, rfl⟩) | refine kV ?_ | (apply L_val rfl rfl rfl; (· first | (apply gBin; first | fail | exact v_nebs rfl rfl) | fail )) | ((fail_if_success (refine L_known rfl ?_)); first | refine yN (fun h => ?_) fun h => ?_ | refine yP (fun h => ?_) fun h => ?_ | refine yB (fun h => ?_) fun h => ?_ | refine yK (fun h => ?_) fun h => ?_)) | (apply gW; first | refine W_seq ?_ | refine W_region ?_ | refine W_ret ?_ | refine W_skip ?_ | refine W_cond1 rfl ?_ | refine W_cond0 rfl ?_ | refine cN (fun h => ?_) fun h => ?_ | refine cP (fun h => ?_) fun h => ?_ | refine cB (fun h => ?_) fun h => ?_ | refine cK (fun h => ?_) fun h => ?_ | refine wQ ?_) | (first | refine seqR.normal ?_ | refine seqR.ret ?_ | refine midA.ret ?_ | refine midA.exit ?_) | (apply gQ; first | refine Q_nil ?_ | refine Q_skip rfl rfl rfl ?_ | (apply Q_call rfl rfl rfl rfl rfl; (· exact eqArena_c (C := ⟨bw2, A.ws.length, [], br2, A.vs.length, []⟩) (C' := ⟨bw3, A.ws.length, [], br3, A.vs.length, []⟩) at_ at_ at_ at_ hl hl2)) | refine kQ ?_ | (apply Q_val rfl rfl rfl; (· first | (apply gBin; first | fail | exact v_nebs rfl rfl) | fail )) | ((fail_if_success (refine Q_known rfl ?_)); first | refine zN (fun h => ?_) fun h => ?_ | refine zP (fun h => ?_) fun h => ?_ | refine zB (fun h => ?_) fun h => ?_ | refine zK (fun h => ?_) fun h => ?_)) | fail)
  exact retR.ret _ _ (ret1 rfl rfl) cvt_ rfl
end Go.Proofs.Ytepddopgmhdllaa.Eng
