/- The implementation's Flip, Finish, Collect. -/
import Derived.Test.YtepddopgmhdllaaBkX
import Derived.Test.YtepddopgmhdllaaBkH
import Derived.Test.YtepddopgmhdllaaQ2
namespace Go.Proofs.Ytepddopgmhdllaa.Eng
open Go Go.RowKit Go.Proofs.Ytepddopgmhdllaa.Sl Go.Proofs.Ytepddopgmhdllaa.Ar Go.Proofs.Ytepddopgmhdllaa.Base
set_option linter.unusedVariables false
set_option linter.unusedSimpArgs false
set_option maxRecDepth 10000
variable {w0 : World} {H : HL} {C : Cn} {A : Ar} {m : List Int}
theorem iflipG {ba rc : Nat} {br : Option Nat} {rsp : List Value} {H1 H2 H3 : HL} (hT : Tk H ba (aObjG C A (ad br) rc) H1) (hT2 : Tk H1 C.bw (wObj C A) H2) (hG : TkG H2 (oV br A.vs rsp) H3) (h : SI A m) (hc : A.cyc = false) (hx : A.vs.length ≤ 1048576) (hwc : A.ws.length ≤ C.wc) (hbr : br = none → A.vs = []) :
    Fn Try.prog w0 75 #[.pointer (some ⟨ba, 0, none⟩)] H fun v H' => v = .tuple #[] ∧ H' = (ba, aObjG C A.flip (ad br) rc) :: (C.bw, wObj C A.flip) :: (oV br A.flip.vs rsp ++ H3) :=
  Fn.perm ((hT.perm.trans (List.Perm.cons _ (hT2.perm.trans (List.Perm.cons _ hG.perm))))) (iflip_c h hc hx hwc hbr)
theorem icollectG {ba rc : Nat} {br : Option Nat} {rsp : List Value} {H1 H2 H3 : HL} (hT : Tk H ba (aObjG C A (ad br) rc) H1) (hT2 : Tk H1 C.bw (wObj C A) H2) (hG : TkG H2 (oV br A.vs rsp) H3) (h : SI A m) (hx : A.vs.length ≤ 1048576) (hwc : A.ws.length ≤ C.wc) (hbr : br = none → A.vs = []) :
    Fn Try.prog w0 87 #[.pointer (some ⟨ba, 0, none⟩)] H fun v H' => v = .tuple #[] ∧ H' = (ba, aObjG C A.col (ad br) rc) :: (C.bw, wObj C A.col) :: (oV br A.col.vs rsp ++ H3) :=
  Fn.perm ((hT.perm.trans (List.Perm.cons _ (hT2.perm.trans (List.Perm.cons _ hG.perm))))) (icollect_c h hx hwc hbr)
set_option maxHeartbeats 4000000 in
theorem implFlip_c (hA : At H C.bw (wObj C A)) (hR : At H C.br (rObj C A)) (hw : Wf A.ws) (hc : A.ws.length ≤ C.wc) (hl : A.ws.length ≤ 1048576) (hx : A.vs.length ≤ 1048576) :
    Fn Try.prog w0 27 #[arV C A] H (IRes A.flipR.1 (.bool A.flipR.2) H) := by
  refine enter1 Try.func27 rfl rfl Try.ntmps27 rfl ?_
  repeat' (first | (apply gCall; apply L_call rfl rfl rfl rfl rfl; (· first | exact implArenaOkB_c hok at_ at_ hw hc hx); rintro _ _ ⟨rfl, rfl⟩) | (apply gL; first | refine L_nil ?_ | refine yS ?_ | refine yX fun _ => ?_ | refine yA fun _ => ?_ | (apply gSt; first | refine sR ?_ | refine sB ?_ | refine s1 ?_ | refine sW ?_ | refine sN ?_) | refine kV ?_ | ((fail_if_success (refine L_known rfl ?_)); refine yW (fun h => ?_) fun h => ?_)) | (apply gW; first | refine W_seq ?_ | refine W_region ?_ | refine W_ret ?_ | refine W_skip ?_ | refine W_cond1 rfl ?_ | refine W_cond0 rfl ?_ | refine cW (fun h => ?_) fun h => ?_) | (first | refine seqR.normal ?_ | refine seqR.ret ?_) | fail)
  apply L_call rfl rfl rfl rfl rfl
  · exact copyArena_p at_ at_ hl hx
  rintro _ _ ⟨gw, gwc, gws, gr, grc, grs, rfl, hgw, hgr, hwc, rfl⟩
  apply L_front2
  have hA1 : At (oU gw A.ws gws ++ (oV gr A.vs grs ++ H)) C.bw (wObj C A) := At.app (At.app hA)
  have hR1 : At (oU gw A.ws gws ++ (oV gr A.vs grs ++ H)) C.br (rObj C A) := At.app (At.app hR)
  cases hok : A.ok with
  | false =>
    have e : A.flipR = (A, false) := by unfold Ar.flipR; rw [hok]; rfl
    rw [e]
    repeat' (first | (apply gCall; apply L_call rfl rfl rfl rfl rfl; (· first | exact implArenaOkB_c hok at_ at_ hw hc hx); rintro _ _ ⟨rfl, rfl⟩) | (apply gL; first | refine L_nil ?_ | refine yS ?_ | refine yX fun _ => ?_ | refine yA fun _ => ?_ | (apply gSt; first | refine sR ?_ | refine sB ?_ | refine s1 ?_ | refine sW ?_ | refine sN ?_) | refine kV ?_ | ((fail_if_success (refine L_known rfl ?_)); refine yW (fun h => ?_) fun h => ?_)) | (apply gW; first | refine W_seq ?_ | refine W_region ?_ | refine W_ret ?_ | refine W_skip ?_ | refine W_cond1 rfl ?_ | refine W_cond0 rfl ?_ | refine cW (fun h => ?_) fun h => ?_) | (first | refine seqR.normal ?_ | refine seqR.ret ?_) | fail)
    exact retR.ret _ _ (retCT rfl rfl at_ (by rfl) rfl) cv_d3 ⟨gw, gwc, gws, gr, grc, grs, rfl, hgw, hgr, hwc, rfl⟩
  | true =>
    obtain ⟨m, hP⟩ := okP_of hok
    have hSI := okSI hP hw
    have hlen := hSI.ln
    have hse := hSI.se
    rcases gw with _ | gw
    · rw [hgw rfl] at hlen; simp at hlen; omega
    simp only [oU, ad, List.cons_append, List.nil_append] at hA1 hR1 ⊢
    repeat' (first | (apply gCall; apply L_call rfl rfl rfl rfl rfl; (· first | exact implArenaOkB_c hok at_ at_ hw hc hx); rintro _ _ ⟨rfl, rfl⟩) | (apply gL; first | refine L_nil ?_ | refine yS ?_ | refine yX fun _ => ?_ | refine yA fun _ => ?_ | (apply gSt; first | refine sR ?_ | refine sB ?_ | refine s1 ?_ | refine sW ?_ | refine sN ?_) | refine kV ?_ | ((fail_if_success (refine L_known rfl ?_)); refine yW (fun h => ?_) fun h => ?_)) | (apply gW; first | refine W_seq ?_ | refine W_region ?_ | refine W_ret ?_ | refine W_skip ?_ | refine W_cond1 rfl ?_ | refine W_cond0 rfl ?_ | refine cW (fun h => ?_) fun h => ?_) | (first | refine seqR.normal ?_ | refine seqR.ret ?_) | fail)
    · have e : A.flipR = (A, false) := by unfold Ar.flipR; rw [if_neg (fun c => by have := c.2; simp_all)]
      rw [e]
      exact retR.ret _ _ (retCT rfl rfl at_ (by rfl) rfl) cv_d3 ⟨some gw, gwc, gws, gr, grc, grs, rfl, hgw, hgr, hwc, rfl⟩
    · have e : A.flipR = (A.flip, true) := by unfold Ar.flipR; rw [if_pos ⟨hok, by assumption⟩]
      rw [e]
      obtain ⟨m2, h2, l2, v2⟩ := hSI.flip (by assumption)
      apply L_call rfl rfl rfl rfl rfl
      · exact iflipG (C := ⟨gw, gwc, gws, 0, 0, []⟩) (A := A) (br := gr) (rc := grc) (rsp := grs) tk_ tk_ (by (repeat (first | exact TkG.here | apply TkG.there))) hSI (by assumption) hx hwc hgr
      rintro _ _ ⟨rfl, rfl⟩
      apply L_mid2
      repeat' (first | (apply gCall; apply L_call rfl rfl rfl rfl rfl; (· first | exact implArenaOkB_c hok at_ at_ hw hc hx); rintro _ _ ⟨rfl, rfl⟩) | (apply gL; first | refine L_nil ?_ | refine yS ?_ | refine yX fun _ => ?_ | refine yA fun _ => ?_ | (apply gSt; first | refine sR ?_ | refine sB ?_ | refine s1 ?_ | refine sW ?_ | refine sN ?_) | refine kV ?_ | ((fail_if_success (refine L_known rfl ?_)); refine yW (fun h => ?_) fun h => ?_)) | (apply gW; first | refine W_seq ?_ | refine W_region ?_ | refine W_ret ?_ | refine W_skip ?_ | refine W_cond1 rfl ?_ | refine W_cond0 rfl ?_ | refine cW (fun h => ?_) fun h => ?_) | (first | refine seqR.normal ?_ | refine seqR.ret ?_) | fail)
      exact retR.ret _ _ (retCT rfl rfl at_ (by rfl) rfl) cv_b ⟨some gw, gwc, gws, gr, grc, grs, rfl, fun c => (by cases c), fun c => List.eq_nil_of_length_eq_zero (by rw [v2, hgr c]; rfl), (by rw [l2]; exact hwc), rfl⟩
set_option maxHeartbeats 4000000 in
theorem implCollect_c (hA : At H C.bw (wObj C A)) (hR : At H C.br (rObj C A)) (hw : Wf A.ws) (hc : A.ws.length ≤ C.wc) (hl : A.ws.length ≤ 1048576) (hx : A.vs.length ≤ 1048576) :
    Fn Try.prog w0 33 #[arV C A] H (IRes A.colR.1 (.bool A.colR.2) H) := by
  refine enter1 Try.func33 rfl rfl Try.ntmps33 rfl ?_
  repeat' (first | (apply gCall; apply L_call rfl rfl rfl rfl rfl; (· first | exact implArenaOkB_c hok at_ at_ hw hc hx); rintro _ _ ⟨rfl, rfl⟩) | (apply gL; first | refine L_nil ?_ | refine yS ?_ | refine yX fun _ => ?_ | refine yA fun _ => ?_ | (apply gSt; first | refine sR ?_ | refine sB ?_ | refine s1 ?_ | refine sW ?_ | refine sN ?_) | refine kV ?_ | ((fail_if_success (refine L_known rfl ?_)); refine yW (fun h => ?_) fun h => ?_)) | (apply gW; first | refine W_seq ?_ | refine W_region ?_ | refine W_ret ?_ | refine W_skip ?_ | refine W_cond1 rfl ?_ | refine W_cond0 rfl ?_ | refine cW (fun h => ?_) fun h => ?_) | (first | refine seqR.normal ?_ | refine seqR.ret ?_) | fail)
  apply L_call rfl rfl rfl rfl rfl
  · exact copyArena_p at_ at_ hl hx
  rintro _ _ ⟨gw, gwc, gws, gr, grc, grs, rfl, hgw, hgr, hwc, rfl⟩
  apply L_front2
  have hA1 : At (oU gw A.ws gws ++ (oV gr A.vs grs ++ H)) C.bw (wObj C A) := At.app (At.app hA)
  have hR1 : At (oU gw A.ws gws ++ (oV gr A.vs grs ++ H)) C.br (rObj C A) := At.app (At.app hR)
  cases hok : A.ok with
  | false =>
    have e : A.colR = (A, false) := by unfold Ar.colR; rw [hok]; rfl
    rw [e]
    repeat' (first | (apply gCall; apply L_call rfl rfl rfl rfl rfl; (· first | exact implArenaOkB_c hok at_ at_ hw hc hx); rintro _ _ ⟨rfl, rfl⟩) | (apply gL; first | refine L_nil ?_ | refine yS ?_ | refine yX fun _ => ?_ | refine yA fun _ => ?_ | (apply gSt; first | refine sR ?_ | refine sB ?_ | refine s1 ?_ | refine sW ?_ | refine sN ?_) | refine kV ?_ | ((fail_if_success (refine L_known rfl ?_)); refine yW (fun h => ?_) fun h => ?_)) | (apply gW; first | refine W_seq ?_ | refine W_region ?_ | refine W_ret ?_ | refine W_skip ?_ | refine W_cond1 rfl ?_ | refine W_cond0 rfl ?_ | refine cW (fun h => ?_) fun h => ?_) | (first | refine seqR.normal ?_ | refine seqR.ret ?_) | fail)
    exact retR.ret _ _ (retCT rfl rfl at_ (by rfl) rfl) cv_d3 ⟨gw, gwc, gws, gr, grc, grs, rfl, hgw, hgr, hwc, rfl⟩
  | true =>
    obtain ⟨m, hP⟩ := okP_of hok
    have hSI := okSI hP hw
    have hlen := hSI.ln
    have hse := hSI.se
    rcases gw with _ | gw
    · rw [hgw rfl] at hlen; simp at hlen; omega
    simp only [oU, ad, List.cons_append, List.nil_append] at hA1 hR1 ⊢
    have e : A.colR = (A.col, true) := by unfold Ar.colR; rw [if_pos hok]
    rw [e]
    obtain ⟨m1, h1, c1, v1, l1⟩ := hSI.fin
    obtain ⟨m2, h2, l2, v2⟩ := h1.flip c1
    obtain ⟨m3, h3, c3, v3, l3⟩ := h2.fin
    repeat' (first | (apply gCall; apply L_call rfl rfl rfl rfl rfl; (· first | exact implArenaOkB_c hok at_ at_ hw hc hx); rintro _ _ ⟨rfl, rfl⟩) | (apply gL; first | refine L_nil ?_ | refine yS ?_ | refine yX fun _ => ?_ | refine yA fun _ => ?_ | (apply gSt; first | refine sR ?_ | refine sB ?_ | refine s1 ?_ | refine sW ?_ | refine sN ?_) | refine kV ?_ | ((fail_if_success (refine L_known rfl ?_)); refine yW (fun h => ?_) fun h => ?_)) | (apply gW; first | refine W_seq ?_ | refine W_region ?_ | refine W_ret ?_ | refine W_skip ?_ | refine W_cond1 rfl ?_ | refine W_cond0 rfl ?_ | refine cW (fun h => ?_) fun h => ?_) | (first | refine seqR.normal ?_ | refine seqR.ret ?_) | fail)
    apply L_call rfl rfl rfl rfl rfl
    · exact icollectG (C := ⟨gw, gwc, gws, 0, 0, []⟩) (A := A) (br := gr) (rc := grc) (rsp := grs) tk_ tk_ (by (repeat (first | exact TkG.here | apply TkG.there))) hSI hx hwc hgr
    rintro _ _ ⟨rfl, rfl⟩
    apply L_mid2
    repeat' (first | (apply gCall; apply L_call rfl rfl rfl rfl rfl; (· first | exact implArenaOkB_c hok at_ at_ hw hc hx); rintro _ _ ⟨rfl, rfl⟩) | (apply gL; first | refine L_nil ?_ | refine yS ?_ | refine yX fun _ => ?_ | refine yA fun _ => ?_ | (apply gSt; first | refine sR ?_ | refine sB ?_ | refine s1 ?_ | refine sW ?_ | refine sN ?_) | refine kV ?_ | ((fail_if_success (refine L_known rfl ?_)); refine yW (fun h => ?_) fun h => ?_)) | (apply gW; first | refine W_seq ?_ | refine W_region ?_ | refine W_ret ?_ | refine W_skip ?_ | refine W_cond1 rfl ?_ | refine W_cond0 rfl ?_ | refine cW (fun h => ?_) fun h => ?_) | (first | refine seqR.normal ?_ | refine seqR.ret ?_) | fail)
    exact retR.ret _ _ (retCT rfl rfl at_ (by rfl) rfl) cv_b ⟨some gw, gwc, gws, gr, grc, grs, rfl, fun c => (by cases c), fun c => List.eq_nil_of_length_eq_zero (by unfold Ar.col; rw [v3, v2, v1, hgr c]; rfl), (by unfold Ar.col; rw [l3, l2, l1]; exact hwc), rfl⟩
end Go.Proofs.Ytepddopgmhdllaa.Eng
