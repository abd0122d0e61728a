/- The implementation's SetRoot, MoveRoot, SetCell. -/
import Derived.Test.YtepddopgmhdllaaBkH
import Derived.Test.YtepddopgmhdllaaBkD
namespace Go.Proofs.Ytepddopgmhdllaa.Eng
open Go Go.RowKit Go.Proofs.Ytepddopgmhdllaa.Sl Go.Proofs.Ytepddopgmhdllaa.Ar Go.Proofs.Ytepddopgmhdllaa.Base
set_option linter.unusedVariables false
set_option linter.unusedSimpArgs false
set_option maxRecDepth 10000
variable {w0 : World} {H : HL} {C : Cn} {A : Ar} {m : List Int}
theorem isRoot2B_c {ba : Nat} {r s : Int} {b c : Nat} {q : Bool} (e : (A.inR r && A.inR s) = q) (hP : At H ba (aObj C A)) (hl : At H b (.cells #[.int .i64 r, .int .i64 s] 3 (0, 0))) (hx : A.vs.length ≤ 1048576) :
    Fn Try.prog w0 61 #[.pointer (some ⟨ba, 0, none⟩), .slice (some ⟨b, 0, none⟩) 2 c] H fun v H' => v = .bool q ∧ H' = H := e ▸ isRoot2_c hP hl hx
set_option maxHeartbeats 4000000 in
theorem implSetRoot_c {r t n : Int} (hA : At H C.bw (wObj C A)) (hR : At H C.br (rObj C A)) (hw : Wf A.ws) (hc : A.ws.length ≤ C.wc) (hl : A.ws.length ≤ 1048576) (hx : A.vs.length ≤ 1048576) :
    Fn Try.prog w0 23 #[arV C A, .int .i64 r, .agg #[.int .i64 t, .int .i64 n]] H (IRes (A.setRootR r t n).1 (.bool (A.setRootR r t n).2) H) := by
  refine enter3 Try.func23 rfl rfl Try.ntmps23 rfl ?_
  repeat' (first | ((first | (apply gCall; apply L_call rfl rfl rfl rfl rfl) | (apply gQC; apply Q_call rfl rfl rfl rfl rfl)); (· first | exact implArenaOkB_c hok at_ at_ hw hc hx | exact isRoot1_c at_ at_ hx | exact isRoot2B_c hb at_ at_ hx | exact isRoot2_c at_ at_ hx | exact implValOk_c _ _ | exact implIsRef_c _ _ | exact within_c _ _ _ | exact head_c (rp := some ⟨C.br, 0, none⟩) (rc := C.rc) at_ at_ hw om om); try rintro _ _ ⟨rfl, rfl⟩) | (apply gL; first | refine L_nil ?_ | refine yS ?_ | refine yX fun _ => ?_ | refine yA fun _ => ?_ | (apply gSt; first | refine sR ?_ | refine sB ?_ | refine s1 ?_ | refine sW ?_ | refine sN ?_) | (apply gBs; first | (refine L_bs0 rfl rfl rfl rfl (fun _ => ?_)) | (refine L_bs1 rfl rfl rfl rfl rfl rfl rfl (fun _ => ?_))) | refine kV ?_ | (apply L_val rfl rfl rfl; (· first | (apply gBin; first | fail ) | fail | (apply v_ld rfl; (· exact at_); (· first | exact ld_rowV0 om om | exact ld_rowV1 om om); done))) | ((fail_if_success (refine L_known rfl ?_)); refine yW (fun h => ?_) fun h => ?_)) | (apply gW; first | refine W_seq ?_ | refine W_region ?_ | refine W_ret ?_ | refine W_skip ?_ | refine W_cond1 rfl ?_ | refine W_cond0 rfl ?_ | refine cW (fun h => ?_) fun h => ?_ | refine wQ ?_) | (first | refine seqR.normal ?_ | refine seqR.ret ?_) | (apply gQ; first | refine Q_nil ?_ | refine Q_skip rfl rfl rfl ?_ | refine kQ ?_ | (apply Q_val rfl rfl rfl; (· first | (apply gBin; first | fail ) | fail | (apply v_ld rfl; (· exact at_); (· first | exact ld_rowV0 om om | exact ld_rowV1 om om); done))) | ((fail_if_success (refine Q_known rfl ?_)); refine zW (fun h => ?_) fun h => ?_)) | fail)
  apply L_call rfl rfl rfl rfl rfl
  · exact copyArena_p at_ at_ hl hx
  rintro _ _ ⟨gw, gwc, gws, gr, grc, grs, rfl, hgw, hgr, hwc, rfl⟩
  apply L_front3
  have hA1 : At (oU gw A.ws gws ++ (oV gr A.vs grs ++ H)) C.bw (wObj C A) := At.app (At.app hA)
  have hR1 : At (oU gw A.ws gws ++ (oV gr A.vs grs ++ H)) C.br (rObj C A) := At.app (At.app hR)
  cases hok : A.ok with
  | false =>
    have e : A.setRootR r t n = (A, false) := by unfold Ar.setRootR; rw [hok]; rfl
    rw [e]
    repeat' (first | (apply gBs; refine L_bs2 rfl rfl rfl rfl rfl rfl rfl rfl rfl fun _ => ?_) | first | ((first | (apply gCall; apply L_call rfl rfl rfl rfl rfl) | (apply gQC; apply Q_call rfl rfl rfl rfl rfl)); (· first | exact implArenaOkB_c hok at_ at_ hw hc hx | exact isRoot1_c at_ at_ hx | exact isRoot2B_c hb at_ at_ hx | exact isRoot2_c at_ at_ hx | exact implValOk_c _ _ | exact implIsRef_c _ _ | exact within_c _ _ _ | exact head_c (rp := some ⟨C.br, 0, none⟩) (rc := C.rc) at_ at_ hw om om); try rintro _ _ ⟨rfl, rfl⟩) | (apply gL; first | refine L_nil ?_ | refine yS ?_ | refine yX fun _ => ?_ | refine yA fun _ => ?_ | (apply gSt; first | refine sR ?_ | refine sB ?_ | refine s1 ?_ | refine sW ?_ | refine sN ?_) | (apply gBs; first | (refine L_bs0 rfl rfl rfl rfl (fun _ => ?_)) | (refine L_bs1 rfl rfl rfl rfl rfl rfl rfl (fun _ => ?_))) | refine kV ?_ | (apply L_val rfl rfl rfl; (· first | (apply gBin; first | fail ) | fail | (apply v_ld rfl; (· exact at_); (· first | exact ld_rowV0 om om | exact ld_rowV1 om om); done))) | ((fail_if_success (refine L_known rfl ?_)); refine yW (fun h => ?_) fun h => ?_)) | (apply gW; first | refine W_seq ?_ | refine W_region ?_ | refine W_ret ?_ | refine W_skip ?_ | refine W_cond1 rfl ?_ | refine W_cond0 rfl ?_ | refine cW (fun h => ?_) fun h => ?_ | refine wQ ?_) | (first | refine seqR.normal ?_ | refine seqR.ret ?_) | (apply gQ; first | refine Q_nil ?_ | refine Q_skip rfl rfl rfl ?_ | refine kQ ?_ | (apply Q_val rfl rfl rfl; (· first | (apply gBin; first | fail ) | fail | (apply v_ld rfl; (· exact at_); (· first | exact ld_rowV0 om om | exact ld_rowV1 om om); done))) | ((fail_if_success (refine Q_known rfl ?_)); refine zW (fun h => ?_) fun h => ?_)) | fail)
    exact retR.ret _ _ (retCT rfl rfl at_ (by rfl) rfl) cv_d4 ⟨gw, gwc, gws, gr, grc, grs, rfl, hgw, hgr, hwc, rfl⟩
  | true =>
    obtain ⟨m, hP⟩ := okP_of hok
    have hSI := okSI hP hw
    have hlen := hSI.ln
    have hse := hSI.se
    rcases gw with _ | gw
    · rw [hgw rfl] at hlen; simp at hlen; omega
    simp only [oU, ad, List.cons_append, List.nil_append] at hA1 hR1 ⊢
    repeat' (first | (apply gBs; refine L_bs2 rfl rfl rfl rfl rfl rfl rfl rfl rfl fun _ => ?_) | ((fail_if_success apply gAtR 4); (first | ((first | (apply gCall; apply L_call rfl rfl rfl rfl rfl) | (apply gQC; apply Q_call rfl rfl rfl rfl rfl)); (· first | exact implArenaOkB_c hok at_ at_ hw hc hx | exact isRoot1_c at_ at_ hx | exact isRoot2B_c hb at_ at_ hx | exact isRoot2_c at_ at_ hx | exact implValOk_c _ _ | exact implIsRef_c _ _ | exact within_c _ _ _ | exact head_c (rp := some ⟨C.br, 0, none⟩) (rc := C.rc) at_ at_ hw om om); try rintro _ _ ⟨rfl, rfl⟩) | (apply gL; first | refine L_nil ?_ | refine yS ?_ | refine yX fun _ => ?_ | refine yA fun _ => ?_ | (apply gSt; first | refine sR ?_ | refine sB ?_ | refine s1 ?_ | refine sW ?_ | refine sN ?_) | (apply gBs; first | (refine L_bs0 rfl rfl rfl rfl (fun _ => ?_)) | (refine L_bs1 rfl rfl rfl rfl rfl rfl rfl (fun _ => ?_))) | refine kV ?_ | (apply L_val rfl rfl rfl; (· first | (apply gBin; first | fail ) | fail | (apply v_ld rfl; (· exact at_); (· first | exact ld_rowV0 om om | exact ld_rowV1 om om); done))) | ((fail_if_success (refine L_known rfl ?_)); refine yW (fun h => ?_) fun h => ?_)) | (apply gW; first | refine W_seq ?_ | refine W_region ?_ | refine W_ret ?_ | refine W_skip ?_ | refine W_cond1 rfl ?_ | refine W_cond0 rfl ?_ | refine cW (fun h => ?_) fun h => ?_ | refine wQ ?_) | (first | refine seqR.normal ?_ | refine seqR.ret ?_) | (apply gQ; first | refine Q_nil ?_ | refine Q_skip rfl rfl rfl ?_ | refine kQ ?_ | (apply Q_val rfl rfl rfl; (· first | (apply gBin; first | fail ) | fail | (apply v_ld rfl; (· exact at_); (· first | exact ld_rowV0 om om | exact ld_rowV1 om om); done))) | ((fail_if_success (refine Q_known rfl ?_)); refine zW (fun h => ?_) fun h => ?_)) | fail)))
    all_goals (try (
      have e : A.setRootR r t n = (A, false) := by
        unfold Ar.setRootR
        rw [if_neg]
        rintro ⟨-, c1, c2, c3⟩
        have c1 := of_decide_eq_true (show decide _ = true from c1)
        have c2 := of_decide_eq_true (show decide _ = true from c2)
        have c3 := of_decide_eq_false (show decide _ = false from c3)
        first | exact absurd c1 (by assumption) | exact absurd c2 (by assumption) | exact c3 (by assumption)
      rw [e]
      exact retR.ret _ _ (retCT rfl rfl at_ (by rfl) rfl) cv_d5 ⟨some gw, gwc, gws, gr, grc, grs, rfl, hgw, hgr, hwc, rfl⟩
      done))
    have h1 : 0 ≤ r ∧ r ≤ (A.vs.length : Int) - 1 := by assumption
    rcases gr with _ | gr
    · rw [hgr rfl] at h1; simp at h1; omega
    simp only [oV, List.cons_append, List.nil_append] at hA1 hR1 ⊢
    have e : A.setRootR r t n = ({ A with vs := A.vs.set r.toNat (t, n) }, true) := by
      unfold Ar.setRootR; rw [if_pos ⟨hok, decide_eq_true h1, decide_eq_true (by assumption), decide_eq_false (by assumption)⟩]
    rw [e]
    have el : (A.vs.set r.toNat (t, n)).length = A.vs.length := List.length_set
    repeat' (first | (apply gSt; apply L_stV rfl rfl rfl rfl rfl; (· exact up_); (· omega); (· omega)) | first | ((first | (apply gCall; apply L_call rfl rfl rfl rfl rfl) | (apply gQC; apply Q_call rfl rfl rfl rfl rfl)); (· first | exact implArenaOkB_c hok at_ at_ hw hc hx | exact isRoot1_c at_ at_ hx | exact isRoot2B_c hb at_ at_ hx | exact isRoot2_c at_ at_ hx | exact implValOk_c _ _ | exact implIsRef_c _ _ | exact within_c _ _ _ | exact head_c (rp := some ⟨C.br, 0, none⟩) (rc := C.rc) at_ at_ hw om om); try rintro _ _ ⟨rfl, rfl⟩) | (apply gL; first | refine L_nil ?_ | refine yS ?_ | refine yX fun _ => ?_ | refine yA fun _ => ?_ | (apply gSt; first | refine sR ?_ | refine sB ?_ | refine s1 ?_ | refine sW ?_ | refine sN ?_) | (apply gBs; first | (refine L_bs0 rfl rfl rfl rfl (fun _ => ?_)) | (refine L_bs1 rfl rfl rfl rfl rfl rfl rfl (fun _ => ?_))) | refine kV ?_ | (apply L_val rfl rfl rfl; (· first | (apply gBin; first | fail ) | fail | (apply v_ld rfl; (· exact at_); (· first | exact ld_rowV0 om om | exact ld_rowV1 om om); done))) | ((fail_if_success (refine L_known rfl ?_)); refine yW (fun h => ?_) fun h => ?_)) | (apply gW; first | refine W_seq ?_ | refine W_region ?_ | refine W_ret ?_ | refine W_skip ?_ | refine W_cond1 rfl ?_ | refine W_cond0 rfl ?_ | refine cW (fun h => ?_) fun h => ?_ | refine wQ ?_) | (first | refine seqR.normal ?_ | refine seqR.ret ?_) | (apply gQ; first | refine Q_nil ?_ | refine Q_skip rfl rfl rfl ?_ | refine kQ ?_ | (apply Q_val rfl rfl rfl; (· first | (apply gBin; first | fail ) | fail | (apply v_ld rfl; (· exact at_); (· first | exact ld_rowV0 om om | exact ld_rowV1 om om); done))) | ((fail_if_success (refine Q_known rfl ?_)); refine zW (fun h => ?_) fun h => ?_)) | fail)
    refine retR.ret _ _ (retCT rfl rfl at_ (by rfl) rfl) cv_d5 ⟨some gw, gwc, gws, some gr, grc, grs, ?_, fun c => (by cases c), fun c => (by cases c), hwc, rfl⟩
    show _ = Value.tuple #[.agg #[_, _, _, _, _, _, _, _, _, .slice _ (A.vs.set r.toNat (t, n)).length _], _]
    rw [el]; rfl
set_option maxHeartbeats 4000000 in
theorem implSetCell_c {r s : Int} (hA : At H C.bw (wObj C A)) (hR : At H C.br (rObj C A)) (hw : Wf A.ws) (hc : A.ws.length ≤ C.wc) (hl : A.ws.length ≤ 1048576) (hx : A.vs.length ≤ 1048576) :
    Fn Try.prog w0 25 #[arV C A, .int .i64 r, .int .i64 s] H (IRes (A.setCellR r s).1 (.bool (A.setCellR r s).2) H) := by
  refine enter3 Try.func25 rfl rfl Try.ntmps25 rfl ?_
  repeat' (first | ((first | (apply gCall; apply L_call rfl rfl rfl rfl rfl) | (apply gQC; apply Q_call rfl rfl rfl rfl rfl)); (· first | exact implArenaOkB_c hok at_ at_ hw hc hx | exact isRoot1_c at_ at_ hx | exact isRoot2B_c hb at_ at_ hx | exact isRoot2_c at_ at_ hx | exact implValOk_c _ _ | exact implIsRef_c _ _ | exact within_c _ _ _ | exact head_c (rp := some ⟨C.br, 0, none⟩) (rc := C.rc) at_ at_ hw om om); try rintro _ _ ⟨rfl, rfl⟩) | (apply gL; first | refine L_nil ?_ | refine yS ?_ | refine yX fun _ => ?_ | refine yA fun _ => ?_ | (apply gSt; first | refine sR ?_ | refine sB ?_ | refine s1 ?_ | refine sW ?_ | refine sN ?_) | (apply gBs; first | (refine L_bs0 rfl rfl rfl rfl (fun _ => ?_)) | (refine L_bs1 rfl rfl rfl rfl rfl rfl rfl (fun _ => ?_))) | refine kV ?_ | (apply L_val rfl rfl rfl; (· first | (apply gBin; first | fail ) | fail | (apply v_ld rfl; (· exact at_); (· first | exact ld_rowV0 om om | exact ld_rowV1 om om); done))) | ((fail_if_success (refine L_known rfl ?_)); refine yW (fun h => ?_) fun h => ?_)) | (apply gW; first | refine W_seq ?_ | refine W_region ?_ | refine W_ret ?_ | refine W_skip ?_ | refine W_cond1 rfl ?_ | refine W_cond0 rfl ?_ | refine cW (fun h => ?_) fun h => ?_ | refine wQ ?_) | (first | refine seqR.normal ?_ | refine seqR.ret ?_) | (apply gQ; first | refine Q_nil ?_ | refine Q_skip rfl rfl rfl ?_ | refine kQ ?_ | (apply Q_val rfl rfl rfl; (· first | (apply gBin; first | fail ) | fail | (apply v_ld rfl; (· exact at_); (· first | exact ld_rowV0 om om | exact ld_rowV1 om om); done))) | ((fail_if_success (refine Q_known rfl ?_)); refine zW (fun h => ?_) fun h => ?_)) | fail)
  apply L_call rfl rfl rfl rfl rfl
  · exact copyArena_p at_ at_ hl hx
  rintro _ _ ⟨gw, gwc, gws, gr, grc, grs, rfl, hgw, hgr, hwc, rfl⟩
  apply L_front2
  have hA1 : At (oU gw A.ws gws ++ (oV gr A.vs grs ++ H)) C.bw (wObj C A) := At.app (At.app hA)
  have hR1 : At (oU gw A.ws gws ++ (oV gr A.vs grs ++ H)) C.br (rObj C A) := At.app (At.app hR)
  cases hok : A.ok with
  | false =>
    have e : A.setCellR r s = (A, false) := by unfold Ar.setCellR; rw [hok]; rfl
    rw [e]
    repeat' (first | (apply gBs; refine L_bs2 rfl rfl rfl rfl rfl rfl rfl rfl rfl fun _ => ?_) | first | ((first | (apply gCall; apply L_call rfl rfl rfl rfl rfl) | (apply gQC; apply Q_call rfl rfl rfl rfl rfl)); (· first | exact implArenaOkB_c hok at_ at_ hw hc hx | exact isRoot1_c at_ at_ hx | exact isRoot2B_c hb at_ at_ hx | exact isRoot2_c at_ at_ hx | exact implValOk_c _ _ | exact implIsRef_c _ _ | exact within_c _ _ _ | exact head_c (rp := some ⟨C.br, 0, none⟩) (rc := C.rc) at_ at_ hw om om); try rintro _ _ ⟨rfl, rfl⟩) | (apply gL; first | refine L_nil ?_ | refine yS ?_ | refine yX fun _ => ?_ | refine yA fun _ => ?_ | (apply gSt; first | refine sR ?_ | refine sB ?_ | refine s1 ?_ | refine sW ?_ | refine sN ?_) | (apply gBs; first | (refine L_bs0 rfl rfl rfl rfl (fun _ => ?_)) | (refine L_bs1 rfl rfl rfl rfl rfl rfl rfl (fun _ => ?_))) | refine kV ?_ | (apply L_val rfl rfl rfl; (· first | (apply gBin; first | fail ) | fail | (apply v_ld rfl; (· exact at_); (· first | exact ld_rowV0 om om | exact ld_rowV1 om om); done))) | ((fail_if_success (refine L_known rfl ?_)); refine yW (fun h => ?_) fun h => ?_)) | (apply gW; first | refine W_seq ?_ | refine W_region ?_ | refine W_ret ?_ | refine W_skip ?_ | refine W_cond1 rfl ?_ | refine W_cond0 rfl ?_ | refine cW (fun h => ?_) fun h => ?_ | refine wQ ?_) | (first | refine seqR.normal ?_ | refine seqR.ret ?_) | (apply gQ; first | refine Q_nil ?_ | refine Q_skip rfl rfl rfl ?_ | refine kQ ?_ | (apply Q_val rfl rfl rfl; (· first | (apply gBin; first | fail ) | fail | (apply v_ld rfl; (· exact at_); (· first | exact ld_rowV0 om om | exact ld_rowV1 om om); done))) | ((fail_if_success (refine Q_known rfl ?_)); refine zW (fun h => ?_) fun h => ?_)) | fail)
    exact retR.ret _ _ (retCT rfl rfl at_ (by rfl) rfl) cv_d3 ⟨gw, gwc, gws, gr, grc, grs, rfl, hgw, hgr, hwc, rfl⟩
  | true =>
    obtain ⟨m, hP⟩ := okP_of hok
    have hSI := okSI hP hw
    have hlen := hSI.ln
    have hse := hSI.se
    rcases gw with _ | gw
    · rw [hgw rfl] at hlen; simp at hlen; omega
    simp only [oU, ad, List.cons_append, List.nil_append] at hA1 hR1 ⊢
    have hfit : 0 ≤ r → r < (A.vs.length : Int) → (A.vs.getD r.toNat (0, 0)).1 = 9 → (0 ≤ (A.vs.getD r.toNat (0, 0)).2 ∧ (A.vs.getD r.toNat (0, 0)).2 + 2 < (A.ws.length : Int)) := fun h0 h1 h9 => hP.cellFits h0 h1 h9
    cases hb : (A.inR r && A.inR s) with
    | false =>
      have e : A.setCellR r s = (A, false) := by
        unfold Ar.setCellR
        rw [if_neg]
        rintro ⟨-, c1, c2, c3⟩
        rw [c1, c2] at hb; cases hb
      rw [e]
      repeat' (first | (apply gBs; refine L_bs2 rfl rfl rfl rfl rfl rfl rfl rfl rfl fun _ => ?_) | first | ((first | (apply gCall; apply L_call rfl rfl rfl rfl rfl) | (apply gQC; apply Q_call rfl rfl rfl rfl rfl)); (· first | exact implArenaOkB_c hok at_ at_ hw hc hx | exact isRoot1_c at_ at_ hx | exact isRoot2B_c hb at_ at_ hx | exact isRoot2_c at_ at_ hx | exact implValOk_c _ _ | exact implIsRef_c _ _ | exact within_c _ _ _ | exact head_c (rp := some ⟨C.br, 0, none⟩) (rc := C.rc) at_ at_ hw om om); try rintro _ _ ⟨rfl, rfl⟩) | (apply gL; first | refine L_nil ?_ | refine yS ?_ | refine yX fun _ => ?_ | refine yA fun _ => ?_ | (apply gSt; first | refine sR ?_ | refine sB ?_ | refine s1 ?_ | refine sW ?_ | refine sN ?_) | (apply gBs; first | (refine L_bs0 rfl rfl rfl rfl (fun _ => ?_)) | (refine L_bs1 rfl rfl rfl rfl rfl rfl rfl (fun _ => ?_))) | refine kV ?_ | (apply L_val rfl rfl rfl; (· first | (apply gBin; first | fail ) | fail | (apply v_ld rfl; (· exact at_); (· first | exact ld_rowV0 om om | exact ld_rowV1 om om); done))) | ((fail_if_success (refine L_known rfl ?_)); refine yW (fun h => ?_) fun h => ?_)) | (apply gW; first | refine W_seq ?_ | refine W_region ?_ | refine W_ret ?_ | refine W_skip ?_ | refine W_cond1 rfl ?_ | refine W_cond0 rfl ?_ | refine cW (fun h => ?_) fun h => ?_ | refine wQ ?_) | (first | refine seqR.normal ?_ | refine seqR.ret ?_) | (apply gQ; first | refine Q_nil ?_ | refine Q_skip rfl rfl rfl ?_ | refine kQ ?_ | (apply Q_val rfl rfl rfl; (· first | (apply gBin; first | fail ) | fail | (apply v_ld rfl; (· exact at_); (· first | exact ld_rowV0 om om | exact ld_rowV1 om om); done))) | ((fail_if_success (refine Q_known rfl ?_)); refine zW (fun h => ?_) fun h => ?_)) | fail)
      exact retR.ret _ _ (retCT rfl rfl at_ (by rfl) rfl) cv_d4 ⟨some gw, gwc, gws, gr, grc, grs, rfl, hgw, hgr, hwc, rfl⟩
    | true =>
    have hb' := hb
    rw [Bool.and_eq_true] at hb'
    have h1 := of_decide_eq_true (show decide _ = true from hb'.1)
    have h2 := of_decide_eq_true (show decide _ = true from hb'.2)
    repeat' (first | (apply gBs; refine L_bs2 rfl rfl rfl rfl rfl rfl rfl rfl rfl fun _ => ?_) | ((fail_if_success apply gAtR 4); (first | ((first | (apply gCall; apply L_call rfl rfl rfl rfl rfl) | (apply gQC; apply Q_call rfl rfl rfl rfl rfl)); (· first | exact implArenaOkB_c hok at_ at_ hw hc hx | exact isRoot1_c at_ at_ hx | exact isRoot2B_c hb at_ at_ hx | exact isRoot2_c at_ at_ hx | exact implValOk_c _ _ | exact implIsRef_c _ _ | exact within_c _ _ _ | exact head_c (rp := some ⟨C.br, 0, none⟩) (rc := C.rc) at_ at_ hw om om); try rintro _ _ ⟨rfl, rfl⟩) | (apply gL; first | refine L_nil ?_ | refine yS ?_ | refine yX fun _ => ?_ | refine yA fun _ => ?_ | (apply gSt; first | refine sR ?_ | refine sB ?_ | refine s1 ?_ | refine sW ?_ | refine sN ?_) | (apply gBs; first | (refine L_bs0 rfl rfl rfl rfl (fun _ => ?_)) | (refine L_bs1 rfl rfl rfl rfl rfl rfl rfl (fun _ => ?_))) | refine kV ?_ | (apply L_val rfl rfl rfl; (· first | (apply gBin; first | fail ) | fail | (apply v_ld rfl; (· exact at_); (· first | exact ld_rowV0 om om | exact ld_rowV1 om om); done))) | ((fail_if_success (refine L_known rfl ?_)); refine yW (fun h => ?_) fun h => ?_)) | (apply gW; first | refine W_seq ?_ | refine W_region ?_ | refine W_ret ?_ | refine W_skip ?_ | refine W_cond1 rfl ?_ | refine W_cond0 rfl ?_ | refine cW (fun h => ?_) fun h => ?_ | refine wQ ?_) | (first | refine seqR.normal ?_ | refine seqR.ret ?_) | (apply gQ; first | refine Q_nil ?_ | refine Q_skip rfl rfl rfl ?_ | refine kQ ?_ | (apply Q_val rfl rfl rfl; (· first | (apply gBin; first | fail ) | fail | (apply v_ld rfl; (· exact at_); (· first | exact ld_rowV0 om om | exact ld_rowV1 om om); done))) | ((fail_if_success (refine Q_known rfl ?_)); refine zW (fun h => ?_) fun h => ?_)) | fail)))
    all_goals (try (
      have e : A.setCellR r s = (A, false) := by
        unfold Ar.setCellR
        rw [if_neg]
        rintro ⟨-, c1, c2, c3⟩
        exact absurd c3 (by assumption)
      rw [e]
      exact retR.ret _ _ (retCT rfl rfl at_ (by rfl) rfl) cv_d4 ⟨some gw, gwc, gws, gr, grc, grs, rfl, hgw, hgr, hwc, rfl⟩
      done))
    have e : A.setCellR r s = (A.putV ((A.vs.getD r.toNat (0, 0)).2 + 1) (A.vs.getD s.toNat (0, 0)).1 (A.vs.getD s.toNat (0, 0)).2, true) := by
      unfold Ar.setCellR; rw [if_pos ⟨hok, hb'.1, hb'.2, h⟩]
    rw [e]
    have hf := hfit (by omega) (by omega) h
    have hw1 : 0 ≤ (A.vs.getD r.toNat (0, 0)).2 + 1 := by omega
    have hw2 : (A.vs.getD r.toNat (0, 0)).2 + 1 + 1 < (A.ws.length : Int) := by omega
    rename_i b3 b6 b8 bs
    refine W_seq ?_
    apply W_regionA (D := (b3, aObj C A) :: (oV gr A.vs grs ++ H)) (by kernel_rfl)
    have hR2 : At (oV gr A.vs grs ++ H) C.br (rObj C A) := At.app hR
    refine kAt 0 ?_
    refine kAt 1 ?_
    refine kAt 2 ?_
    refine kAt 3 ?_
    refine kAt 4 ?_
    refine kAt 5 (hv := by (apply v_ld rfl; (· exact at_); (· first | exact ld_rowV0 om om | exact ld_rowV1 om om); done)) ?_
    refine kAt 6 ?_
    refine kAt 7 ?_
    refine kAt 8 ?_
    refine kAt 9 ?_
    refine kAt 10 ?_
    refine kAt 11 ?_
    refine A_one (i := 12) (by kernel_rfl) cvt_ rfl (O_of_L fun S hS => ?_)
    apply L_call rfl rfl rfl rfl rfl
    · exact isetT (C := ⟨gw, gwc, gws, 0, 0, []⟩) (A := A) (rp := ad gr) (rc := grc) tk_ tk_ hw1 hw2 (by omega)
    rintro _ _ ⟨rfl, rfl⟩
    refine L_nil (hS _ _ ?_)
    clear hS
    refine A_nil (by kernel_rfl) cvt_ ?_
    repeat' (first | ((first | (apply gCall; apply L_call rfl rfl rfl rfl rfl) | (apply gQC; apply Q_call rfl rfl rfl rfl rfl)); (· first | exact implArenaOkB_c hok at_ at_ hw hc hx | exact isRoot1_c at_ at_ hx | exact isRoot2B_c hb at_ at_ hx | exact isRoot2_c at_ at_ hx | exact implValOk_c _ _ | exact implIsRef_c _ _ | exact within_c _ _ _ | exact head_c (rp := some ⟨C.br, 0, none⟩) (rc := C.rc) at_ at_ hw om om); try rintro _ _ ⟨rfl, rfl⟩) | (apply gL; first | refine L_nil ?_ | refine yS ?_ | refine yX fun _ => ?_ | refine yA fun _ => ?_ | (apply gSt; first | refine sR ?_ | refine sB ?_ | refine s1 ?_ | refine sW ?_ | refine sN ?_) | (apply gBs; first | (refine L_bs0 rfl rfl rfl rfl (fun _ => ?_)) | (refine L_bs1 rfl rfl rfl rfl rfl rfl rfl (fun _ => ?_))) | refine kV ?_ | (apply L_val rfl rfl rfl; (· first | (apply gBin; first | fail ) | fail | (apply v_ld rfl; (· exact at_); (· first | exact ld_rowV0 om om | exact ld_rowV1 om om); done))) | ((fail_if_success (refine L_known rfl ?_)); refine yW (fun h => ?_) fun h => ?_)) | (apply gW; first | refine W_seq ?_ | refine W_region ?_ | refine W_ret ?_ | refine W_skip ?_ | refine W_cond1 rfl ?_ | refine W_cond0 rfl ?_ | refine cW (fun h => ?_) fun h => ?_ | refine wQ ?_) | (first | refine seqR.normal ?_ | refine seqR.ret ?_) | (apply gQ; first | refine Q_nil ?_ | refine Q_skip rfl rfl rfl ?_ | refine kQ ?_ | (apply Q_val rfl rfl rfl; (· first | (apply gBin; first | fail ) | fail | (apply v_ld rfl; (· exact at_); (· first | exact ld_rowV0 om om | exact ld_rowV1 om om); done))) | ((fail_if_success (refine Q_known rfl ?_)); refine zW (fun h => ?_) fun h => ?_)) | fail)
    refine retR.ret _ _ (retCT rfl rfl at_ (by rfl) rfl) (Cv.skip (Cv.take Tk.here (Cv.skip (Cv.skip (Cv.skip Cv.refl))))) ⟨some gw, gwc, gws, gr, grc, grs, rfl, fun c => (by cases c), hgr, (by show (List.set (List.set _ _ _) _ _).length ≤ _; rw [List.length_set, List.length_set]; exact hwc), rfl⟩
end Go.Proofs.Ytepddopgmhdllaa.Eng
