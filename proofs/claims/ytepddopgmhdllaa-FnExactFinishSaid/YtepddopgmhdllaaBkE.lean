/- The reference's SetRoot, MoveRoot, Flip, Finish, Collect. -/
import Derived.Test.YtepddopgmhdllaaBkC
import Derived.Test.YtepddopgmhdllaaT0
import Derived.Test.YtepddopgmhdllaaL3
import Derived.Test.YtepddopgmhdllaaBkD
import Derived.Test.YtepddopgmhdllaaU0
namespace Go.Proofs.Ytepddopgmhdllaa.Ar
def Ar.flipR (A : Ar) : Ar × Bool := if A.ok = true ∧ A.cyc = false then (A.flip, true) else (A, false)
def Ar.finR (A : Ar) : Ar × Int := if A.ok = true then A.fin else (A, 0)
def Ar.colR (A : Ar) : Ar × Bool := if A.ok = true then (A.col, true) else (A, false)
def Ar.setRootR (A : Ar) (r t n : Int) : Ar × Bool := if A.ok = true ∧ A.inR r = true ∧ valOk t n = true ∧ isRef t = false then ({ A with vs := A.vs.set r.toNat (t, n) }, true) else (A, false)
def Ar.moveRootR (A : Ar) (r s : Int) : Ar × Bool := if A.ok = true ∧ A.inR r = true ∧ A.inR s = true then ({ A with vs := A.vs.set r.toNat (A.vs.getD s.toNat (0, 0)) }, true) else (A, false)
end Go.Proofs.Ytepddopgmhdllaa.Ar
namespace Go.Proofs.Ytepddopgmhdllaa.Eng
open Go Go.RowKit Go.Proofs.Ytepddopgmhdllaa.Sl Go.Proofs.Ytepddopgmhdllaa.Ar Go.Proofs.Ytepddopgmhdllaa.Base
set_option linter.unusedVariables false
set_option linter.unusedSimpArgs false
set_option maxRecDepth 10000
variable {w0 : World} {H : HL} {C : Cn} {A : Ar}
def SRes (B : Ar) (r : Value) (H : HL) (v : Value) (H' : HL) : Prop := ∃ C' : Cn, v = .tuple #[arV C' B, r] ∧ H' = (C'.br, rObj C' B) :: (C'.bw, wObj C' B) :: H
set_option maxHeartbeats 2000000 in
theorem specFlip_c (hA : At H C.bw (wObj C A)) (hR : At H C.br (rObj C A)) (hw : Wf A.ws) (hl : A.ws.length ≤ 1048576) (hx : A.vs.length ≤ 1048576) :
    Fn Try.prog w0 26 #[arV C A] H (SRes A.flipR.1 (.bool A.flipR.2) H) := by
  refine enter1 Try.func26 rfl rfl Try.ntmps26 rfl ?_
  repeat' (first | (apply gL; first | refine L_nil ?_ | refine yS ?_ | refine yX fun _ => ?_ | refine yA fun _ => ?_ | (apply gSt; first | refine sR ?_ | refine sB ?_ | refine s1 ?_ | refine sW ?_ | refine sN ?_) | (apply gCall; apply L_call rfl rfl rfl rfl rfl; (· first | exact specArenaOkB_c hok at_ at_ hw hx | exact l2RootB_c hx | exact specValOk_c _ _ | exact specIsRef_c _ _ | exact l3FlipT tk_ tk_ hSI h hx | exact l3FinishT tk_ hSI hx | exact l3CollectT tk_ tk_ hSI hx); rintro _ _ ⟨rfl, rfl⟩) | refine kV ?_ | ((fail_if_success (refine L_known rfl ?_)); first | refine yN (fun h => ?_) fun h => ?_ | refine yP (fun h => ?_) fun h => ?_ | refine yB (fun h => ?_) fun h => ?_ | refine yK (fun h => ?_) fun h => ?_)) | (apply gW; first | refine W_seq ?_ | refine W_region ?_ | refine W_ret ?_ | refine W_skip ?_ | refine W_cond1 rfl ?_ | refine W_cond0 rfl ?_ | refine cN (fun h => ?_) fun h => ?_ | refine cP (fun h => ?_) fun h => ?_ | refine cB (fun h => ?_) fun h => ?_ | refine cK (fun h => ?_) fun h => ?_) | (first | refine seqR.normal ?_ | refine seqR.ret ?_) | fail)
  apply L_call rfl rfl rfl rfl rfl
  · exact l2Copy_c at_ at_ hl hx
  rintro _ _ ⟨C1, rfl, hc1, rfl⟩
  cases hok : A.ok with
  | false =>
    have e : A.flipR = (A, false) := by unfold Ar.flipR; rw [hok]; rfl
    rw [e]
    repeat' (first | (apply gL; first | refine L_nil ?_ | refine yS ?_ | refine yX fun _ => ?_ | refine yA fun _ => ?_ | (apply gSt; first | refine sR ?_ | refine sB ?_ | refine s1 ?_ | refine sW ?_ | refine sN ?_) | (apply gCall; apply L_call rfl rfl rfl rfl rfl; (· first | exact specArenaOkB_c hok at_ at_ hw hx | exact l2RootB_c hx | exact specValOk_c _ _ | exact specIsRef_c _ _ | exact l3FlipT tk_ tk_ hSI h hx | exact l3FinishT tk_ hSI hx | exact l3CollectT tk_ tk_ hSI hx); rintro _ _ ⟨rfl, rfl⟩) | refine kV ?_ | ((fail_if_success (refine L_known rfl ?_)); first | refine yN (fun h => ?_) fun h => ?_ | refine yP (fun h => ?_) fun h => ?_ | refine yB (fun h => ?_) fun h => ?_ | refine yK (fun h => ?_) fun h => ?_)) | (apply gW; first | refine W_seq ?_ | refine W_region ?_ | refine W_ret ?_ | refine W_skip ?_ | refine W_cond1 rfl ?_ | refine W_cond0 rfl ?_ | refine cN (fun h => ?_) fun h => ?_ | refine cP (fun h => ?_) fun h => ?_ | refine cB (fun h => ?_) fun h => ?_ | refine cK (fun h => ?_) fun h => ?_) | (first | refine seqR.normal ?_ | refine seqR.ret ?_) | fail)
    refine retR.ret _ _ (retCT rfl rfl at_ (by rfl) rfl) cvt_ ⟨_, rfl, rfl⟩
  | true =>
    obtain ⟨m, hP⟩ := okP_of hok
    have hSI := okSI hP hw
    repeat' (first | (apply gL; first | refine L_nil ?_ | refine yS ?_ | refine yX fun _ => ?_ | refine yA fun _ => ?_ | (apply gSt; first | refine sR ?_ | refine sB ?_ | refine s1 ?_ | refine sW ?_ | refine sN ?_) | (apply gCall; apply L_call rfl rfl rfl rfl rfl; (· first | exact specArenaOkB_c hok at_ at_ hw hx | exact l2RootB_c hx | exact specValOk_c _ _ | exact specIsRef_c _ _ | exact l3FlipT tk_ tk_ hSI h hx | exact l3FinishT tk_ hSI hx | exact l3CollectT tk_ tk_ hSI hx); rintro _ _ ⟨rfl, rfl⟩) | refine kV ?_ | ((fail_if_success (refine L_known rfl ?_)); first | refine yN (fun h => ?_) fun h => ?_ | refine yP (fun h => ?_) fun h => ?_ | refine yB (fun h => ?_) fun h => ?_ | refine yK (fun h => ?_) fun h => ?_)) | (apply gW; first | refine W_seq ?_ | refine W_region ?_ | refine W_ret ?_ | refine W_skip ?_ | refine W_cond1 rfl ?_ | refine W_cond0 rfl ?_ | refine cN (fun h => ?_) fun h => ?_ | refine cP (fun h => ?_) fun h => ?_ | refine cB (fun h => ?_) fun h => ?_ | refine cK (fun h => ?_) fun h => ?_) | (first | refine seqR.normal ?_ | refine seqR.ret ?_) | fail)
    · have e : A.flipR = (A, false) := by unfold Ar.flipR; rw [if_neg (fun c => by have := c.2; simp_all)]
      rw [e]
      refine retR.ret _ _ (retCT rfl rfl at_ (by rfl) rfl) cvt_ ⟨_, rfl, rfl⟩
    · have e : A.flipR = (A.flip, true) := by unfold Ar.flipR; rw [if_pos ⟨hok, by assumption⟩]
      rw [e]
      refine retR.ret _ _ (retCT rfl rfl at_ (by rfl) rfl) cvt_ ⟨_, rfl, rfl⟩
theorem specFinish_c (hA : At H C.bw (wObj C A)) (hR : At H C.br (rObj C A)) (hw : Wf A.ws) (hl : A.ws.length ≤ 1048576) (hx : A.vs.length ≤ 1048576) :
    Fn Try.prog w0 30 #[arV C A] H (SRes A.finR.1 (.int .i64 A.finR.2) H) := by
  refine enter1 Try.func30 rfl rfl Try.ntmps30 rfl ?_
  cases hok : A.ok with
  | false =>
    have e : A.finR = (A, 0) := by unfold Ar.finR; rw [hok]; rfl
    rw [e]
    repeat' (first | (apply gL; first | refine L_nil ?_ | refine yS ?_ | refine yX fun _ => ?_ | refine yA fun _ => ?_ | (apply gSt; first | refine sR ?_ | refine sB ?_ | refine s1 ?_ | refine sW ?_ | refine sN ?_) | (apply gCall; apply L_call rfl rfl rfl rfl rfl; (· first | exact specArenaOkB_c hok at_ at_ hw hx | exact l2RootB_c hx | exact specValOk_c _ _ | exact specIsRef_c _ _ | exact l3FlipT tk_ tk_ hSI h hx | exact l3FinishT tk_ hSI hx | exact l3CollectT tk_ tk_ hSI hx); rintro _ _ ⟨rfl, rfl⟩) | refine kV ?_ | ((fail_if_success (refine L_known rfl ?_)); first | refine yN (fun h => ?_) fun h => ?_ | refine yP (fun h => ?_) fun h => ?_ | refine yB (fun h => ?_) fun h => ?_ | refine yK (fun h => ?_) fun h => ?_)) | (apply gW; first | refine W_seq ?_ | refine W_region ?_ | refine W_ret ?_ | refine W_skip ?_ | refine W_cond1 rfl ?_ | refine W_cond0 rfl ?_ | refine cN (fun h => ?_) fun h => ?_ | refine cP (fun h => ?_) fun h => ?_ | refine cB (fun h => ?_) fun h => ?_ | refine cK (fun h => ?_) fun h => ?_) | (first | refine seqR.normal ?_ | refine seqR.ret ?_) | fail)
    apply L_call rfl rfl rfl rfl rfl
    · exact l2Copy_c at_ at_ hl hx
    rintro _ _ ⟨C1, rfl, hc1, rfl⟩
    repeat' (first | (apply gL; first | refine L_nil ?_ | refine yS ?_ | refine yX fun _ => ?_ | refine yA fun _ => ?_ | (apply gSt; first | refine sR ?_ | refine sB ?_ | refine s1 ?_ | refine sW ?_ | refine sN ?_) | (apply gCall; apply L_call rfl rfl rfl rfl rfl; (· first | exact specArenaOkB_c hok at_ at_ hw hx | exact l2RootB_c hx | exact specValOk_c _ _ | exact specIsRef_c _ _ | exact l3FlipT tk_ tk_ hSI h hx | exact l3FinishT tk_ hSI hx | exact l3CollectT tk_ tk_ hSI hx); rintro _ _ ⟨rfl, rfl⟩) | refine kV ?_ | ((fail_if_success (refine L_known rfl ?_)); first | refine yN (fun h => ?_) fun h => ?_ | refine yP (fun h => ?_) fun h => ?_ | refine yB (fun h => ?_) fun h => ?_ | refine yK (fun h => ?_) fun h => ?_)) | (apply gW; first | refine W_seq ?_ | refine W_region ?_ | refine W_ret ?_ | refine W_skip ?_ | refine W_cond1 rfl ?_ | refine W_cond0 rfl ?_ | refine cN (fun h => ?_) fun h => ?_ | refine cP (fun h => ?_) fun h => ?_ | refine cB (fun h => ?_) fun h => ?_ | refine cK (fun h => ?_) fun h => ?_) | (first | refine seqR.normal ?_ | refine seqR.ret ?_) | fail)
    refine retR.ret _ _ (retCT rfl rfl at_ (by rfl) rfl) cvt_ ⟨_, rfl, rfl⟩
  | true =>
    obtain ⟨m, hP⟩ := okP_of hok
    have hSI := okSI hP hw
    have e : A.finR = A.fin := by unfold Ar.finR; rw [if_pos hok]
    rw [e]
    have hvs := hSI.fin.choose_spec.2.2.1
    repeat' (first | (apply gL; first | refine L_nil ?_ | refine yS ?_ | refine yX fun _ => ?_ | refine yA fun _ => ?_ | (apply gSt; first | refine sR ?_ | refine sB ?_ | refine s1 ?_ | refine sW ?_ | refine sN ?_) | (apply gCall; apply L_call rfl rfl rfl rfl rfl; (· first | exact specArenaOkB_c hok at_ at_ hw hx | exact l2RootB_c hx | exact specValOk_c _ _ | exact specIsRef_c _ _ | exact l3FlipT tk_ tk_ hSI h hx | exact l3FinishT tk_ hSI hx | exact l3CollectT tk_ tk_ hSI hx); rintro _ _ ⟨rfl, rfl⟩) | refine kV ?_ | ((fail_if_success (refine L_known rfl ?_)); first | refine yN (fun h => ?_) fun h => ?_ | refine yP (fun h => ?_) fun h => ?_ | refine yB (fun h => ?_) fun h => ?_ | refine yK (fun h => ?_) fun h => ?_)) | (apply gW; first | refine W_seq ?_ | refine W_region ?_ | refine W_ret ?_ | refine W_skip ?_ | refine W_cond1 rfl ?_ | refine W_cond0 rfl ?_ | refine cN (fun h => ?_) fun h => ?_ | refine cP (fun h => ?_) fun h => ?_ | refine cB (fun h => ?_) fun h => ?_ | refine cK (fun h => ?_) fun h => ?_) | (first | refine seqR.normal ?_ | refine seqR.ret ?_) | fail)
    apply L_call rfl rfl rfl rfl rfl
    · exact l2Copy_c at_ at_ hl hx
    rintro _ _ ⟨C1, rfl, hc1, rfl⟩
    repeat' (first | (apply gL; first | refine L_nil ?_ | refine yS ?_ | refine yX fun _ => ?_ | refine yA fun _ => ?_ | (apply gSt; first | refine sR ?_ | refine sB ?_ | refine s1 ?_ | refine sW ?_ | refine sN ?_) | (apply gCall; apply L_call rfl rfl rfl rfl rfl; (· first | exact specArenaOkB_c hok at_ at_ hw hx | exact l2RootB_c hx | exact specValOk_c _ _ | exact specIsRef_c _ _ | exact l3FlipT tk_ tk_ hSI h hx | exact l3FinishT tk_ hSI hx | exact l3CollectT tk_ tk_ hSI hx); rintro _ _ ⟨rfl, rfl⟩) | refine kV ?_ | ((fail_if_success (refine L_known rfl ?_)); first | refine yN (fun h => ?_) fun h => ?_ | refine yP (fun h => ?_) fun h => ?_ | refine yB (fun h => ?_) fun h => ?_ | refine yK (fun h => ?_) fun h => ?_)) | (apply gW; first | refine W_seq ?_ | refine W_region ?_ | refine W_ret ?_ | refine W_skip ?_ | refine W_cond1 rfl ?_ | refine W_cond0 rfl ?_ | refine cN (fun h => ?_) fun h => ?_ | refine cP (fun h => ?_) fun h => ?_ | refine cB (fun h => ?_) fun h => ?_ | refine cK (fun h => ?_) fun h => ?_) | (first | refine seqR.normal ?_ | refine seqR.ret ?_) | fail)
    rw [← rObj_vs (C := C1) hvs]
    refine retR.ret _ _ (retCT rfl rfl at_ (by rfl) rfl) cvt_ ⟨_, rfl, rfl⟩
theorem specCollect_c (hA : At H C.bw (wObj C A)) (hR : At H C.br (rObj C A)) (hw : Wf A.ws) (hl : A.ws.length ≤ 1048576) (hx : A.vs.length ≤ 1048576) :
    Fn Try.prog w0 32 #[arV C A] H (SRes A.colR.1 (.bool A.colR.2) H) := by
  refine enter1 Try.func32 rfl rfl Try.ntmps32 rfl ?_
  cases hok : A.ok with
  | false =>
    have e : A.colR = (A, false) := by unfold Ar.colR; rw [hok]; rfl
    rw [e]
    repeat' (first | (apply gL; first | refine L_nil ?_ | refine yS ?_ | refine yX fun _ => ?_ | refine yA fun _ => ?_ | (apply gSt; first | refine sR ?_ | refine sB ?_ | refine s1 ?_ | refine sW ?_ | refine sN ?_) | (apply gCall; apply L_call rfl rfl rfl rfl rfl; (· first | exact specArenaOkB_c hok at_ at_ hw hx | exact l2RootB_c hx | exact specValOk_c _ _ | exact specIsRef_c _ _ | exact l3FlipT tk_ tk_ hSI h hx | exact l3FinishT tk_ hSI hx | exact l3CollectT tk_ tk_ hSI hx); rintro _ _ ⟨rfl, rfl⟩) | refine kV ?_ | ((fail_if_success (refine L_known rfl ?_)); first | refine yN (fun h => ?_) fun h => ?_ | refine yP (fun h => ?_) fun h => ?_ | refine yB (fun h => ?_) fun h => ?_ | refine yK (fun h => ?_) fun h => ?_)) | (apply gW; first | refine W_seq ?_ | refine W_region ?_ | refine W_ret ?_ | refine W_skip ?_ | refine W_cond1 rfl ?_ | refine W_cond0 rfl ?_ | refine cN (fun h => ?_) fun h => ?_ | refine cP (fun h => ?_) fun h => ?_ | refine cB (fun h => ?_) fun h => ?_ | refine cK (fun h => ?_) fun h => ?_) | (first | refine seqR.normal ?_ | refine seqR.ret ?_) | fail)
    apply L_call rfl rfl rfl rfl rfl
    · exact l2Copy_c at_ at_ hl hx
    rintro _ _ ⟨C1, rfl, hc1, rfl⟩
    repeat' (first | (apply gL; first | refine L_nil ?_ | refine yS ?_ | refine yX fun _ => ?_ | refine yA fun _ => ?_ | (apply gSt; first | refine sR ?_ | refine sB ?_ | refine s1 ?_ | refine sW ?_ | refine sN ?_) | (apply gCall; apply L_call rfl rfl rfl rfl rfl; (· first | exact specArenaOkB_c hok at_ at_ hw hx | exact l2RootB_c hx | exact specValOk_c _ _ | exact specIsRef_c _ _ | exact l3FlipT tk_ tk_ hSI h hx | exact l3FinishT tk_ hSI hx | exact l3CollectT tk_ tk_ hSI hx); rintro _ _ ⟨rfl, rfl⟩) | refine kV ?_ | ((fail_if_success (refine L_known rfl ?_)); first | refine yN (fun h => ?_) fun h => ?_ | refine yP (fun h => ?_) fun h => ?_ | refine yB (fun h => ?_) fun h => ?_ | refine yK (fun h => ?_) fun h => ?_)) | (apply gW; first | refine W_seq ?_ | refine W_region ?_ | refine W_ret ?_ | refine W_skip ?_ | refine W_cond1 rfl ?_ | refine W_cond0 rfl ?_ | refine cN (fun h => ?_) fun h => ?_ | refine cP (fun h => ?_) fun h => ?_ | refine cB (fun h => ?_) fun h => ?_ | refine cK (fun h => ?_) fun h => ?_) | (first | refine seqR.normal ?_ | refine seqR.ret ?_) | fail)
    refine retR.ret _ _ (retCT rfl rfl at_ (by rfl) rfl) cvt_ ⟨_, rfl, rfl⟩
  | true =>
    obtain ⟨m, hP⟩ := okP_of hok
    have hSI := okSI hP hw
    have e : A.colR = (A.col, true) := by unfold Ar.colR; rw [if_pos hok]
    rw [e]
    repeat' (first | (apply gL; first | refine L_nil ?_ | refine yS ?_ | refine yX fun _ => ?_ | refine yA fun _ => ?_ | (apply gSt; first | refine sR ?_ | refine sB ?_ | refine s1 ?_ | refine sW ?_ | refine sN ?_) | (apply gCall; apply L_call rfl rfl rfl rfl rfl; (· first | exact specArenaOkB_c hok at_ at_ hw hx | exact l2RootB_c hx | exact specValOk_c _ _ | exact specIsRef_c _ _ | exact l3FlipT tk_ tk_ hSI h hx | exact l3FinishT tk_ hSI hx | exact l3CollectT tk_ tk_ hSI hx); rintro _ _ ⟨rfl, rfl⟩) | refine kV ?_ | ((fail_if_success (refine L_known rfl ?_)); first | refine yN (fun h => ?_) fun h => ?_ | refine yP (fun h => ?_) fun h => ?_ | refine yB (fun h => ?_) fun h => ?_ | refine yK (fun h => ?_) fun h => ?_)) | (apply gW; first | refine W_seq ?_ | refine W_region ?_ | refine W_ret ?_ | refine W_skip ?_ | refine W_cond1 rfl ?_ | refine W_cond0 rfl ?_ | refine cN (fun h => ?_) fun h => ?_ | refine cP (fun h => ?_) fun h => ?_ | refine cB (fun h => ?_) fun h => ?_ | refine cK (fun h => ?_) fun h => ?_) | (first | refine seqR.normal ?_ | refine seqR.ret ?_) | fail)
    apply L_call rfl rfl rfl rfl rfl
    · exact l2Copy_c at_ at_ hl hx
    rintro _ _ ⟨C1, rfl, hc1, rfl⟩
    repeat' (first | (apply gL; first | refine L_nil ?_ | refine yS ?_ | refine yX fun _ => ?_ | refine yA fun _ => ?_ | (apply gSt; first | refine sR ?_ | refine sB ?_ | refine s1 ?_ | refine sW ?_ | refine sN ?_) | (apply gCall; apply L_call rfl rfl rfl rfl rfl; (· first | exact specArenaOkB_c hok at_ at_ hw hx | exact l2RootB_c hx | exact specValOk_c _ _ | exact specIsRef_c _ _ | exact l3FlipT tk_ tk_ hSI h hx | exact l3FinishT tk_ hSI hx | exact l3CollectT tk_ tk_ hSI hx); rintro _ _ ⟨rfl, rfl⟩) | refine kV ?_ | ((fail_if_success (refine L_known rfl ?_)); first | refine yN (fun h => ?_) fun h => ?_ | refine yP (fun h => ?_) fun h => ?_ | refine yB (fun h => ?_) fun h => ?_ | refine yK (fun h => ?_) fun h => ?_)) | (apply gW; first | refine W_seq ?_ | refine W_region ?_ | refine W_ret ?_ | refine W_skip ?_ | refine W_cond1 rfl ?_ | refine W_cond0 rfl ?_ | refine cN (fun h => ?_) fun h => ?_ | refine cP (fun h => ?_) fun h => ?_ | refine cB (fun h => ?_) fun h => ?_ | refine cK (fun h => ?_) fun h => ?_) | (first | refine seqR.normal ?_ | refine seqR.ret ?_) | fail)
    refine retR.ret _ _ (retCT rfl rfl at_ (by rfl) rfl) cvt_ ⟨_, rfl, rfl⟩
end Go.Proofs.Ytepddopgmhdllaa.Eng
namespace Go.Proofs.Ytepddopgmhdllaa.Eng
open Go Go.RowKit Go.Proofs.Ytepddopgmhdllaa.Sl Go.Proofs.Ytepddopgmhdllaa.Ar Go.Proofs.Ytepddopgmhdllaa.Base
set_option linter.unusedVariables false
set_option linter.unusedSimpArgs false
set_option maxRecDepth 10000
variable {w0 : World} {H : HL} {C : Cn} {A : Ar} {m : List Int}
theorem cv_d2 {G : HL} {p q : Nat × Obj} : Cv (p :: q :: G) G := Cv.skip (Cv.skip Cv.refl)
theorem cv_d3 {G : HL} {p q r : Nat × Obj} : Cv (p :: q :: r :: G) G := Cv.skip (Cv.skip (Cv.skip Cv.refl))
theorem cv_b {G : HL} {a b p q : Nat × Obj} : Cv (a :: b :: p :: q :: G) (b :: G) := Cv.skip (Cv.take (b := b.1) (o := b.2) Tk.here (Cv.skip (Cv.skip Cv.refl)))
theorem iflipG {ba rc : Nat} {br : Option Nat} {rsp : List Value} {H1 H2 H3 : HL} (hT : Tk H ba (aObjG C A (ad br) rc) H1) (hT2 : Tk H1 C.bw (wObj C A) H2) (hG : TkG H2 (oV br A.vs rsp) H3) (h : SI A m) (hc : A.cyc = false) (hx : A.vs.length ≤ 1048576) (hwc : A.ws.length ≤ C.wc) (hbr : br = none → A.vs = []) :
    Fn Try.prog w0 75 #[.pointer (some ⟨ba, 0, none⟩)] H fun v H' => v = .tuple #[] ∧ H' = (ba, aObjG C A.flip (ad br) rc) :: (C.bw, wObj C A.flip) :: (oV br A.flip.vs rsp ++ H3) :=
  Fn.perm ((hT.perm.trans (List.Perm.cons _ (hT2.perm.trans (List.Perm.cons _ hG.perm))))) (iflip_c h hc hx hwc hbr)
theorem icollectG {ba rc : Nat} {br : Option Nat} {rsp : List Value} {H1 H2 H3 : HL} (hT : Tk H ba (aObjG C A (ad br) rc) H1) (hT2 : Tk H1 C.bw (wObj C A) H2) (hG : TkG H2 (oV br A.vs rsp) H3) (h : SI A m) (hx : A.vs.length ≤ 1048576) (hwc : A.ws.length ≤ C.wc) (hbr : br = none → A.vs = []) :
    Fn Try.prog w0 87 #[.pointer (some ⟨ba, 0, none⟩)] H fun v H' => v = .tuple #[] ∧ H' = (ba, aObjG C A.col (ad br) rc) :: (C.bw, wObj C A.col) :: (oV br A.col.vs rsp ++ H3) :=
  Fn.perm ((hT.perm.trans (List.Perm.cons _ (hT2.perm.trans (List.Perm.cons _ hG.perm))))) (icollect_c h hx hwc hbr)
set_option maxHeartbeats 4000000 in
theorem implFlip_c (hA : At H C.bw (wObj C A)) (hR : At H C.br (rObj C A)) (hw : Wf A.ws) (hc : A.ws.length ≤ C.wc) (hl : A.ws.length ≤ 1048576) (hx : A.vs.length ≤ 1048576) :
    Fn Try.prog w0 27 #[arV C A] H (IRes A.flipR.1 (.bool A.flipR.2) H) := by
  refine enter1 Try.func27 rfl rfl Try.ntmps27 rfl ?_
  repeat' (first | (apply gL; first | refine L_nil ?_ | refine yS ?_ | refine yX fun _ => ?_ | refine yA fun _ => ?_ | (apply gSt; first | refine sR ?_ | refine sB ?_ | refine s1 ?_ | refine sW ?_ | refine sN ?_) | (apply gCall; apply L_call rfl rfl rfl rfl rfl; (· first | exact implArenaOkB_c hok at_ at_ hw hc hx); rintro _ _ ⟨rfl, rfl⟩) | refine kV ?_ | ((fail_if_success (refine L_known rfl ?_)); first | refine yN (fun h => ?_) fun h => ?_ | refine yP (fun h => ?_) fun h => ?_ | refine yB (fun h => ?_) fun h => ?_ | refine yK (fun h => ?_) fun h => ?_)) | (apply gW; first | refine W_seq ?_ | refine W_region ?_ | refine W_ret ?_ | refine W_skip ?_ | refine W_cond1 rfl ?_ | refine W_cond0 rfl ?_ | refine cN (fun h => ?_) fun h => ?_ | refine cP (fun h => ?_) fun h => ?_ | refine cB (fun h => ?_) fun h => ?_ | refine cK (fun h => ?_) fun h => ?_) | (first | refine seqR.normal ?_ | refine seqR.ret ?_) | fail)
  apply L_call rfl rfl rfl rfl rfl
  · exact copyArena_p at_ at_ hl hx
  rintro _ _ ⟨gw, gwc, gws, gr, grc, grs, rfl, hgw, hgr, hwc, rfl⟩
  apply L_front2
  have hA1 : At (oU gw A.ws gws ++ (oV gr A.vs grs ++ H)) C.bw (wObj C A) := At.app (At.app hA)
  have hR1 : At (oU gw A.ws gws ++ (oV gr A.vs grs ++ H)) C.br (rObj C A) := At.app (At.app hR)
  cases hok : A.ok with
  | false =>
    have e : A.flipR = (A, false) := by unfold Ar.flipR; rw [hok]; rfl
    rw [e]
    repeat' (first | (apply gL; first | refine L_nil ?_ | refine yS ?_ | refine yX fun _ => ?_ | refine yA fun _ => ?_ | (apply gSt; first | refine sR ?_ | refine sB ?_ | refine s1 ?_ | refine sW ?_ | refine sN ?_) | (apply gCall; apply L_call rfl rfl rfl rfl rfl; (· first | exact implArenaOkB_c hok at_ at_ hw hc hx); rintro _ _ ⟨rfl, rfl⟩) | refine kV ?_ | ((fail_if_success (refine L_known rfl ?_)); first | refine yN (fun h => ?_) fun h => ?_ | refine yP (fun h => ?_) fun h => ?_ | refine yB (fun h => ?_) fun h => ?_ | refine yK (fun h => ?_) fun h => ?_)) | (apply gW; first | refine W_seq ?_ | refine W_region ?_ | refine W_ret ?_ | refine W_skip ?_ | refine W_cond1 rfl ?_ | refine W_cond0 rfl ?_ | refine cN (fun h => ?_) fun h => ?_ | refine cP (fun h => ?_) fun h => ?_ | refine cB (fun h => ?_) fun h => ?_ | refine cK (fun h => ?_) fun h => ?_) | (first | refine seqR.normal ?_ | refine seqR.ret ?_) | fail)
    exact retR.ret _ _ (retCT rfl rfl at_ (by rfl) rfl) cv_d3 ⟨gw, gwc, gws, gr, grc, grs, rfl, hgw, hgr, rfl⟩
  | true =>
    obtain ⟨m, hP⟩ := okP_of hok
    have hSI := okSI hP hw
    have hlen := hSI.ln
    have hse := hSI.se
    rcases gw with _ | gw
    · rw [hgw rfl] at hlen; simp at hlen; omega
    simp only [oU, ad, List.cons_append, List.nil_append] at hA1 hR1 ⊢
    repeat' (first | (apply gL; first | refine L_nil ?_ | refine yS ?_ | refine yX fun _ => ?_ | refine yA fun _ => ?_ | (apply gSt; first | refine sR ?_ | refine sB ?_ | refine s1 ?_ | refine sW ?_ | refine sN ?_) | (apply gCall; apply L_call rfl rfl rfl rfl rfl; (· first | exact implArenaOkB_c hok at_ at_ hw hc hx); rintro _ _ ⟨rfl, rfl⟩) | refine kV ?_ | ((fail_if_success (refine L_known rfl ?_)); first | refine yN (fun h => ?_) fun h => ?_ | refine yP (fun h => ?_) fun h => ?_ | refine yB (fun h => ?_) fun h => ?_ | refine yK (fun h => ?_) fun h => ?_)) | (apply gW; first | refine W_seq ?_ | refine W_region ?_ | refine W_ret ?_ | refine W_skip ?_ | refine W_cond1 rfl ?_ | refine W_cond0 rfl ?_ | refine cN (fun h => ?_) fun h => ?_ | refine cP (fun h => ?_) fun h => ?_ | refine cB (fun h => ?_) fun h => ?_ | refine cK (fun h => ?_) fun h => ?_) | (first | refine seqR.normal ?_ | refine seqR.ret ?_) | fail)
    · have e : A.flipR = (A, false) := by unfold Ar.flipR; rw [if_neg (fun c => by have := c.2; simp_all)]
      rw [e]
      exact retR.ret _ _ (retCT rfl rfl at_ (by rfl) rfl) cv_d3 ⟨some gw, gwc, gws, gr, grc, grs, rfl, hgw, hgr, rfl⟩
    · have e : A.flipR = (A.flip, true) := by unfold Ar.flipR; rw [if_pos ⟨hok, by assumption⟩]
      rw [e]
      obtain ⟨m2, h2, l2, v2⟩ := hSI.flip (by assumption)
      apply L_call rfl rfl rfl rfl rfl
      · exact iflipG (C := ⟨gw, gwc, gws, 0, 0, []⟩) (A := A) (br := gr) (rc := grc) (rsp := grs) tk_ tk_ (by (repeat (first | exact TkG.here | apply TkG.there))) hSI (by assumption) hx hwc hgr
      rintro _ _ ⟨rfl, rfl⟩
      apply L_mid2
      repeat' (first | (apply gL; first | refine L_nil ?_ | refine yS ?_ | refine yX fun _ => ?_ | refine yA fun _ => ?_ | (apply gSt; first | refine sR ?_ | refine sB ?_ | refine s1 ?_ | refine sW ?_ | refine sN ?_) | (apply gCall; apply L_call rfl rfl rfl rfl rfl; (· first | exact implArenaOkB_c hok at_ at_ hw hc hx); rintro _ _ ⟨rfl, rfl⟩) | refine kV ?_ | ((fail_if_success (refine L_known rfl ?_)); first | refine yN (fun h => ?_) fun h => ?_ | refine yP (fun h => ?_) fun h => ?_ | refine yB (fun h => ?_) fun h => ?_ | refine yK (fun h => ?_) fun h => ?_)) | (apply gW; first | refine W_seq ?_ | refine W_region ?_ | refine W_ret ?_ | refine W_skip ?_ | refine W_cond1 rfl ?_ | refine W_cond0 rfl ?_ | refine cN (fun h => ?_) fun h => ?_ | refine cP (fun h => ?_) fun h => ?_ | refine cB (fun h => ?_) fun h => ?_ | refine cK (fun h => ?_) fun h => ?_) | (first | refine seqR.normal ?_ | refine seqR.ret ?_) | fail)
      exact retR.ret _ _ (retCT rfl rfl at_ (by rfl) rfl) cv_b ⟨some gw, gwc, gws, gr, grc, grs, rfl, fun c => (by cases c), fun c => List.eq_nil_of_length_eq_zero (by rw [v2, hgr c]; rfl), rfl⟩
set_option maxHeartbeats 4000000 in
theorem implCollect_c (hA : At H C.bw (wObj C A)) (hR : At H C.br (rObj C A)) (hw : Wf A.ws) (hc : A.ws.length ≤ C.wc) (hl : A.ws.length ≤ 1048576) (hx : A.vs.length ≤ 1048576) :
    Fn Try.prog w0 33 #[arV C A] H (IRes A.colR.1 (.bool A.colR.2) H) := by
  refine enter1 Try.func33 rfl rfl Try.ntmps33 rfl ?_
  repeat' (first | (apply gL; first | refine L_nil ?_ | refine yS ?_ | refine yX fun _ => ?_ | refine yA fun _ => ?_ | (apply gSt; first | refine sR ?_ | refine sB ?_ | refine s1 ?_ | refine sW ?_ | refine sN ?_) | (apply gCall; apply L_call rfl rfl rfl rfl rfl; (· first | exact implArenaOkB_c hok at_ at_ hw hc hx); rintro _ _ ⟨rfl, rfl⟩) | refine kV ?_ | ((fail_if_success (refine L_known rfl ?_)); first | refine yN (fun h => ?_) fun h => ?_ | refine yP (fun h => ?_) fun h => ?_ | refine yB (fun h => ?_) fun h => ?_ | refine yK (fun h => ?_) fun h => ?_)) | (apply gW; first | refine W_seq ?_ | refine W_region ?_ | refine W_ret ?_ | refine W_skip ?_ | refine W_cond1 rfl ?_ | refine W_cond0 rfl ?_ | refine cN (fun h => ?_) fun h => ?_ | refine cP (fun h => ?_) fun h => ?_ | refine cB (fun h => ?_) fun h => ?_ | refine cK (fun h => ?_) fun h => ?_) | (first | refine seqR.normal ?_ | refine seqR.ret ?_) | fail)
  apply L_call rfl rfl rfl rfl rfl
  · exact copyArena_p at_ at_ hl hx
  rintro _ _ ⟨gw, gwc, gws, gr, grc, grs, rfl, hgw, hgr, hwc, rfl⟩
  apply L_front2
  have hA1 : At (oU gw A.ws gws ++ (oV gr A.vs grs ++ H)) C.bw (wObj C A) := At.app (At.app hA)
  have hR1 : At (oU gw A.ws gws ++ (oV gr A.vs grs ++ H)) C.br (rObj C A) := At.app (At.app hR)
  cases hok : A.ok with
  | false =>
    have e : A.colR = (A, false) := by unfold Ar.colR; rw [hok]; rfl
    rw [e]
    repeat' (first | (apply gL; first | refine L_nil ?_ | refine yS ?_ | refine yX fun _ => ?_ | refine yA fun _ => ?_ | (apply gSt; first | refine sR ?_ | refine sB ?_ | refine s1 ?_ | refine sW ?_ | refine sN ?_) | (apply gCall; apply L_call rfl rfl rfl rfl rfl; (· first | exact implArenaOkB_c hok at_ at_ hw hc hx); rintro _ _ ⟨rfl, rfl⟩) | refine kV ?_ | ((fail_if_success (refine L_known rfl ?_)); first | refine yN (fun h => ?_) fun h => ?_ | refine yP (fun h => ?_) fun h => ?_ | refine yB (fun h => ?_) fun h => ?_ | refine yK (fun h => ?_) fun h => ?_)) | (apply gW; first | refine W_seq ?_ | refine W_region ?_ | refine W_ret ?_ | refine W_skip ?_ | refine W_cond1 rfl ?_ | refine W_cond0 rfl ?_ | refine cN (fun h => ?_) fun h => ?_ | refine cP (fun h => ?_) fun h => ?_ | refine cB (fun h => ?_) fun h => ?_ | refine cK (fun h => ?_) fun h => ?_) | (first | refine seqR.normal ?_ | refine seqR.ret ?_) | fail)
    exact retR.ret _ _ (retCT rfl rfl at_ (by rfl) rfl) cv_d3 ⟨gw, gwc, gws, gr, grc, grs, rfl, hgw, hgr, rfl⟩
  | true =>
    obtain ⟨m, hP⟩ := okP_of hok
    have hSI := okSI hP hw
    have hlen := hSI.ln
    have hse := hSI.se
    rcases gw with _ | gw
    · rw [hgw rfl] at hlen; simp at hlen; omega
    simp only [oU, ad, List.cons_append, List.nil_append] at hA1 hR1 ⊢
    have e : A.colR = (A.col, true) := by unfold Ar.colR; rw [if_pos hok]
    rw [e]
    obtain ⟨m1, h1, c1, v1, l1⟩ := hSI.fin
    obtain ⟨m2, h2, l2, v2⟩ := h1.flip c1
    obtain ⟨m3, h3, c3, v3, l3⟩ := h2.fin
    repeat' (first | (apply gL; first | refine L_nil ?_ | refine yS ?_ | refine yX fun _ => ?_ | refine yA fun _ => ?_ | (apply gSt; first | refine sR ?_ | refine sB ?_ | refine s1 ?_ | refine sW ?_ | refine sN ?_) | (apply gCall; apply L_call rfl rfl rfl rfl rfl; (· first | exact implArenaOkB_c hok at_ at_ hw hc hx); rintro _ _ ⟨rfl, rfl⟩) | refine kV ?_ | ((fail_if_success (refine L_known rfl ?_)); first | refine yN (fun h => ?_) fun h => ?_ | refine yP (fun h => ?_) fun h => ?_ | refine yB (fun h => ?_) fun h => ?_ | refine yK (fun h => ?_) fun h => ?_)) | (apply gW; first | refine W_seq ?_ | refine W_region ?_ | refine W_ret ?_ | refine W_skip ?_ | refine W_cond1 rfl ?_ | refine W_cond0 rfl ?_ | refine cN (fun h => ?_) fun h => ?_ | refine cP (fun h => ?_) fun h => ?_ | refine cB (fun h => ?_) fun h => ?_ | refine cK (fun h => ?_) fun h => ?_) | (first | refine seqR.normal ?_ | refine seqR.ret ?_) | fail)
    apply L_call rfl rfl rfl rfl rfl
    · exact icollectG (C := ⟨gw, gwc, gws, 0, 0, []⟩) (A := A) (br := gr) (rc := grc) (rsp := grs) tk_ tk_ (by (repeat (first | exact TkG.here | apply TkG.there))) hSI hx hwc hgr
    rintro _ _ ⟨rfl, rfl⟩
    apply L_mid2
    repeat' (first | (apply gL; first | refine L_nil ?_ | refine yS ?_ | refine yX fun _ => ?_ | refine yA fun _ => ?_ | (apply gSt; first | refine sR ?_ | refine sB ?_ | refine s1 ?_ | refine sW ?_ | refine sN ?_) | (apply gCall; apply L_call rfl rfl rfl rfl rfl; (· first | exact implArenaOkB_c hok at_ at_ hw hc hx); rintro _ _ ⟨rfl, rfl⟩) | refine kV ?_ | ((fail_if_success (refine L_known rfl ?_)); first | refine yN (fun h => ?_) fun h => ?_ | refine yP (fun h => ?_) fun h => ?_ | refine yB (fun h => ?_) fun h => ?_ | refine yK (fun h => ?_) fun h => ?_)) | (apply gW; first | refine W_seq ?_ | refine W_region ?_ | refine W_ret ?_ | refine W_skip ?_ | refine W_cond1 rfl ?_ | refine W_cond0 rfl ?_ | refine cN (fun h => ?_) fun h => ?_ | refine cP (fun h => ?_) fun h => ?_ | refine cB (fun h => ?_) fun h => ?_ | refine cK (fun h => ?_) fun h => ?_) | (first | refine seqR.normal ?_ | refine seqR.ret ?_) | fail)
    exact retR.ret _ _ (retCT rfl rfl at_ (by rfl) rfl) cv_b ⟨some gw, gwc, gws, gr, grc, grs, rfl, fun c => (by cases c), fun c => List.eq_nil_of_length_eq_zero (by unfold Ar.col; rw [v3, v2, v1, hgr c]; rfl), rfl⟩
set_option maxHeartbeats 4000000 in
theorem implFinish_c (hA : At H C.bw (wObj C A)) (hR : At H C.br (rObj C A)) (hw : Wf A.ws) (hc : A.ws.length ≤ C.wc) (hl : A.ws.length ≤ 1048576) (hx : A.vs.length ≤ 1048576) :
    Fn Try.prog w0 31 #[arV C A] H (IRes A.finR.1 (.int .i64 A.finR.2) H) := by
  refine enter1 Try.func31 rfl rfl Try.ntmps31 rfl ?_
  repeat' (first | (apply gL; first | refine L_nil ?_ | refine yS ?_ | refine yX fun _ => ?_ | refine yA fun _ => ?_ | (apply gSt; first | refine sR ?_ | refine sB ?_ | refine s1 ?_ | refine sW ?_ | refine sN ?_) | (apply gCall; apply L_call rfl rfl rfl rfl rfl; (· first | exact implArenaOkB_c hok at_ at_ hw hc hx); rintro _ _ ⟨rfl, rfl⟩) | refine kV ?_ | ((fail_if_success (refine L_known rfl ?_)); first | refine yN (fun h => ?_) fun h => ?_ | refine yP (fun h => ?_) fun h => ?_ | refine yB (fun h => ?_) fun h => ?_ | refine yK (fun h => ?_) fun h => ?_)) | (apply gW; first | refine W_seq ?_ | refine W_region ?_ | refine W_ret ?_ | refine W_skip ?_ | refine W_cond1 rfl ?_ | refine W_cond0 rfl ?_ | refine cN (fun h => ?_) fun h => ?_ | refine cP (fun h => ?_) fun h => ?_ | refine cB (fun h => ?_) fun h => ?_ | refine cK (fun h => ?_) fun h => ?_) | (first | refine seqR.normal ?_ | refine seqR.ret ?_) | fail)
  apply L_call rfl rfl rfl rfl rfl
  · exact copyArena_p at_ at_ hl hx
  rintro _ _ ⟨gw, gwc, gws, gr, grc, grs, rfl, hgw, hgr, hwc, rfl⟩
  apply L_front2
  have hA1 : At (oU gw A.ws gws ++ (oV gr A.vs grs ++ H)) C.bw (wObj C A) := At.app (At.app hA)
  have hR1 : At (oU gw A.ws gws ++ (oV gr A.vs grs ++ H)) C.br (rObj C A) := At.app (At.app hR)
  cases hok : A.ok with
  | false =>
    have e : A.finR = (A, 0) := by unfold Ar.finR; rw [hok]; rfl
    rw [e]
    repeat' (first | (apply gL; first | refine L_nil ?_ | refine yS ?_ | refine yX fun _ => ?_ | refine yA fun _ => ?_ | (apply gSt; first | refine sR ?_ | refine sB ?_ | refine s1 ?_ | refine sW ?_ | refine sN ?_) | (apply gCall; apply L_call rfl rfl rfl rfl rfl; (· first | exact implArenaOkB_c hok at_ at_ hw hc hx); rintro _ _ ⟨rfl, rfl⟩) | refine kV ?_ | ((fail_if_success (refine L_known rfl ?_)); first | refine yN (fun h => ?_) fun h => ?_ | refine yP (fun h => ?_) fun h => ?_ | refine yB (fun h => ?_) fun h => ?_ | refine yK (fun h => ?_) fun h => ?_)) | (apply gW; first | refine W_seq ?_ | refine W_region ?_ | refine W_ret ?_ | refine W_skip ?_ | refine W_cond1 rfl ?_ | refine W_cond0 rfl ?_ | refine cN (fun h => ?_) fun h => ?_ | refine cP (fun h => ?_) fun h => ?_ | refine cB (fun h => ?_) fun h => ?_ | refine cK (fun h => ?_) fun h => ?_) | (first | refine seqR.normal ?_ | refine seqR.ret ?_) | fail)
    exact retR.ret _ _ (retCT rfl rfl at_ (by rfl) rfl) cv_d3 ⟨gw, gwc, gws, gr, grc, grs, rfl, hgw, hgr, rfl⟩
  | true =>
    obtain ⟨m, hP⟩ := okP_of hok
    have hSI := okSI hP hw
    have hlen := hSI.ln
    have hse := hSI.se
    rcases gw with _ | gw
    · rw [hgw rfl] at hlen; simp at hlen; omega
    simp only [oU, ad, List.cons_append, List.nil_append] at hA1 hR1 ⊢
    have e : A.finR = A.fin := by unfold Ar.finR; rw [if_pos hok]
    rw [e]
    obtain ⟨m1, h1, c1, v1, l1⟩ := hSI.fin
    repeat' (first | (apply gL; first | refine L_nil ?_ | refine yS ?_ | refine yX fun _ => ?_ | refine yA fun _ => ?_ | (apply gSt; first | refine sR ?_ | refine sB ?_ | refine s1 ?_ | refine sW ?_ | refine sN ?_) | (apply gCall; apply L_call rfl rfl rfl rfl rfl; (· first | exact implArenaOkB_c hok at_ at_ hw hc hx); rintro _ _ ⟨rfl, rfl⟩) | refine kV ?_ | ((fail_if_success (refine L_known rfl ?_)); first | refine yN (fun h => ?_) fun h => ?_ | refine yP (fun h => ?_) fun h => ?_ | refine yB (fun h => ?_) fun h => ?_ | refine yK (fun h => ?_) fun h => ?_)) | (apply gW; first | refine W_seq ?_ | refine W_region ?_ | refine W_ret ?_ | refine W_skip ?_ | refine W_cond1 rfl ?_ | refine W_cond0 rfl ?_ | refine cN (fun h => ?_) fun h => ?_ | refine cP (fun h => ?_) fun h => ?_ | refine cB (fun h => ?_) fun h => ?_ | refine cK (fun h => ?_) fun h => ?_) | (first | refine seqR.normal ?_ | refine seqR.ret ?_) | fail)
    apply L_call rfl rfl rfl rfl rfl
    · exact ifinishT (C := ⟨gw, gwc, gws, 0, 0, []⟩) (A := A) (rp := ad gr) (rc := grc) tk_ tk_ hSI hwc
    rintro _ _ ⟨rfl, rfl⟩
    repeat' (first | (apply gL; first | refine L_nil ?_ | refine yS ?_ | refine yX fun _ => ?_ | refine yA fun _ => ?_ | (apply gSt; first | refine sR ?_ | refine sB ?_ | refine s1 ?_ | refine sW ?_ | refine sN ?_) | (apply gCall; apply L_call rfl rfl rfl rfl rfl; (· first | exact implArenaOkB_c hok at_ at_ hw hc hx); rintro _ _ ⟨rfl, rfl⟩) | refine kV ?_ | ((fail_if_success (refine L_known rfl ?_)); first | refine yN (fun h => ?_) fun h => ?_ | refine yP (fun h => ?_) fun h => ?_ | refine yB (fun h => ?_) fun h => ?_ | refine yK (fun h => ?_) fun h => ?_)) | (apply gW; first | refine W_seq ?_ | refine W_region ?_ | refine W_ret ?_ | refine W_skip ?_ | refine W_cond1 rfl ?_ | refine W_cond0 rfl ?_ | refine cN (fun h => ?_) fun h => ?_ | refine cP (fun h => ?_) fun h => ?_ | refine cB (fun h => ?_) fun h => ?_ | refine cK (fun h => ?_) fun h => ?_) | (first | refine seqR.normal ?_ | refine seqR.ret ?_) | fail)
    refine retR.ret _ _ (retCT rfl rfl at_ (by rfl) rfl) cv_b ⟨some gw, gwc, gws, gr, grc, grs, rfl, fun c => (by cases c), fun c => by rw [v1, hgr c], by rw [v1]; rfl⟩
end Go.Proofs.Ytepddopgmhdllaa.Eng
namespace Go.Proofs.Ytepddopgmhdllaa.Eng
open Go Go.RowKit Go.Proofs.Ytepddopgmhdllaa.Sl Go.Proofs.Ytepddopgmhdllaa.Ar Go.Proofs.Ytepddopgmhdllaa.Base
set_option linter.unusedVariables false
variable {A : Ar}
theorem flR_vl : ∀ (f : Nat) (i : Int) (B : Ar), (Ar.flR f i B).ws.length = B.ws.length ∧ (Ar.flR f i B).vs.length = B.vs.length := by
  intro f
  induction f with
  | zero => intro i B; exact ⟨rfl, rfl⟩
  | succ f ih =>
    intro i B
    rw [Ar.flR]
    split
    · obtain ⟨a, b⟩ := ih (i + 1) (B.fwR i)
      exact ⟨a.trans (fwd_len _ _), b.trans List.length_set⟩
    · exact ⟨rfl, rfl⟩
theorem fwI_vl : ∀ (p : Int) (sl : List Int) (f : Nat) (i : Int) (B : Ar), (Ar.fwI p sl f i B).ws.length = B.ws.length ∧ (Ar.fwI p sl f i B).vs = B.vs := by
  intro p sl f
  induction f with
  | zero => intro i B; exact ⟨rfl, rfl⟩
  | succ f ih =>
    intro i B
    rw [Ar.fwI]
    split
    · obtain ⟨a, b⟩ := ih (i + 1) (B.fwS (p + g sl i))
      refine ⟨a.trans ?_, b.trans (fwd_same _ _).2.2.2.2.2.2⟩
      show (List.set _ _ _).length = _
      rw [List.length_set, fwd_len]
    · exact ⟨rfl, rfl⟩
theorem stp_vl : ∀ (f : Nat) (B : Ar) (d n : Int), (Ar.stp f B d n).1.ws.length = B.ws.length ∧ (Ar.stp f B d n).1.vs = B.vs := by
  intro f
  induction f with
  | zero => intro B d n; exact ⟨rfl, rfl⟩
  | succ f ih =>
    intro B d n
    rw [Ar.stp]
    split
    · obtain ⟨a, b⟩ := ih B.fwO.over (d + 1) n
      obtain ⟨o1, o2, o3, o4, o5⟩ := over_same (A := B.fwO)
      obtain ⟨c, e⟩ := fwI_vl B.scan B.sls (B.sls.length + 1) 0 B
      exact ⟨a.trans ((congrArg List.length o3).trans c), b.trans (o4.trans e)⟩
    · exact ⟨rfl, rfl⟩
theorem fin_vl : A.fin.1.ws.length = A.ws.length ∧ A.fin.1.vs = A.vs := by
  obtain ⟨a, b⟩ := stp_vl 8001 A.over 0 8000
  obtain ⟨o1, o2, o3, o4, o5⟩ := over_same (A := A)
  exact ⟨a.trans (congrArg List.length o3), b.trans o4⟩
theorem flip_vl : A.flip.ws.length = A.ws.length ∧ A.flip.vs.length = A.vs.length := by
  obtain ⟨a, b⟩ := flR_vl (A.vs.length + 1) 0 A.fl0
  obtain ⟨o1, o2, o3, o4, o5⟩ := over_same (A := Ar.flR (A.vs.length + 1) 0 A.fl0)
  exact ⟨(congrArg List.length o3).trans a, (congrArg List.length o4).trans b⟩
theorem col_vl : A.col.ws.length = A.ws.length ∧ A.col.vs.length = A.vs.length := by
  obtain ⟨a, b⟩ := fin_vl (A := A)
  obtain ⟨c, d⟩ := flip_vl (A := A.fin.1)
  obtain ⟨e, f⟩ := fin_vl (A := A.fin.1.flip)
  exact ⟨e.trans (c.trans a), (congrArg List.length f).trans (d.trans (congrArg List.length b))⟩
theorem flipR_len : A.flipR.1.ws.length = A.ws.length ∧ A.flipR.1.vs.length = A.vs.length := by
  unfold Ar.flipR; split
  · exact flip_vl
  · exact ⟨rfl, rfl⟩
theorem finR_len : A.finR.1.ws.length = A.ws.length ∧ A.finR.1.vs.length = A.vs.length := by
  unfold Ar.finR; split
  · exact ⟨fin_vl.1, congrArg List.length fin_vl.2⟩
  · exact ⟨rfl, rfl⟩
theorem colR_len : A.colR.1.ws.length = A.ws.length ∧ A.colR.1.vs.length = A.vs.length := by
  unfold Ar.colR; split
  · exact col_vl
  · exact ⟨rfl, rfl⟩
end Go.Proofs.Ytepddopgmhdllaa.Eng
