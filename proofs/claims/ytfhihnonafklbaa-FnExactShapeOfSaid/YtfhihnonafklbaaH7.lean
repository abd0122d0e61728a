/- The implementation's ShapeOf. -/
import Derived.Test.YtfhihnonafklbaaH6
namespace Go.Proofs.Ytfhihnonafklbaa.Eng
open Go Go.RowKit Go.Proofs.Ytfhihnonafklbaa.Sl Go.Proofs.Ytfhihnonafklbaa.Ar Go.Proofs.Ytfhihnonafklbaa.Base
set_option linter.unusedVariables false
set_option linter.unusedSimpArgs false
set_option maxRecDepth 10000
theorem sinkB (B V N L H : HL) : (V ++ (N ++ (L ++ (B ++ H)))).Perm (B ++ (V ++ (N ++ (L ++ H)))) := by
  refine (List.Perm.append_left V (List.Perm.append_left N (List.perm_append_comm_assoc L B H))).trans ?_
  refine (List.Perm.append_left V (List.perm_append_comm_assoc N B _)).trans ?_
  exact List.perm_append_comm_assoc V B _
variable {w0 : World} {H : HL} {C : Cn} {A : Ar} {m : List Int}
set_option maxHeartbeats 4000000 in
theorem implShapeOf_c (hA : At H C.bw (wObj C A)) (hRt : At H C.br (rObj C A)) (hw : Wf A.ws) (hc : A.ws.length ≤ C.wc) (hx : A.vs.length ≤ 1048576) :
    Fn Try.prog w0 7 #[arV C A] H (ShRes A.shapeR.1 (.bool A.shapeR.2) H) := by
  refine enter1 Try.func7 rfl rfl Try.ntmps7 rfl ?_
  cases hok : A.ok with
  | false =>
    have e : A.shapeR = (([], []), false) := by unfold Ar.shapeR; rw [hok]; rfl
    rw [e]
    repeat' (first | exact absurd rfl h | first | (apply gCall; apply L_call rfl rfl rfl rfl rfl; (· first | exact implArenaOkB_c hok at_ at_ hw hc hx); rintro _ _ ⟨rfl, rfl⟩) | (apply gL; first | refine L_nil ?_ | refine yX fun _ => ?_ | refine yA fun _ => ?_ | (apply gSt; first | refine sR ?_ | refine sB ?_ | refine s1 ?_ | refine sW ?_ | refine sN ?_) | refine kV ?_) | (apply gW; first | refine W_seq ?_ | refine W_region ?_ | refine W_ret ?_ | refine W_skip ?_ | refine W_cond1 rfl ?_ | refine W_cond0 rfl ?_ | refine cW (fun h => ?_) fun h => ?_) | (first | refine seqR.normal ?_ | refine seqR.ret ?_) | fail)
    exact retR.ret _ _ (retCT rfl rfl at_ (by rfl) rfl) cvt_ ⟨none, 0, [], none, 0, [], [], rfl, rfl, fun _ => rfl, fun _ => rfl, fun x hx => (by cases hx), rfl⟩
  | true =>
    obtain ⟨m, hO⟩ := okP_of hok
    have e : A.shapeR = (A.shape, true) := by unfold Ar.shapeR; rw [hok]; rfl
    rw [e]
    repeat' (first | exact absurd rfl h | first | (apply gCall; apply L_call rfl rfl rfl rfl rfl; (· first | exact implArenaOkB_c hok at_ at_ hw hc hx); rintro _ _ ⟨rfl, rfl⟩) | (apply gL; first | refine L_nil ?_ | refine yX fun _ => ?_ | refine yA fun _ => ?_ | (apply gSt; first | refine sR ?_ | refine sB ?_ | refine s1 ?_ | refine sW ?_ | refine sN ?_) | refine kV ?_) | (apply gW; first | refine W_seq ?_ | refine W_region ?_ | refine W_ret ?_ | refine W_skip ?_ | refine W_cond1 rfl ?_ | refine W_cond0 rfl ?_ | refine cW (fun h => ?_) fun h => ?_) | (first | refine seqR.normal ?_ | refine seqR.ret ?_) | fail)
    apply L_call rfl rfl rfl rfl rfl
    · exact ishape_c (C := C) (m := m) at_ at_ at_ hw hO
    rintro _ _ ⟨br, rc, rsp, bn, nc, nsp, l, rfl, e1, e2, e3, e4, rfl⟩
    refine L_perm (sinkB [_, _] _ _ _ _) ?_
    dsimp only [List.cons_append, List.nil_append]
    repeat' (first | (apply gCall; apply L_call rfl rfl rfl rfl rfl; (· first | exact implArenaOkB_c hok at_ at_ hw hc hx); rintro _ _ ⟨rfl, rfl⟩) | (apply gL; first | refine L_nil ?_ | refine yX fun _ => ?_ | refine yA fun _ => ?_ | (apply gSt; first | refine sR ?_ | refine sB ?_ | refine s1 ?_ | refine sW ?_ | refine sN ?_) | refine kV ?_) | (apply gW; first | refine W_seq ?_ | refine W_region ?_ | refine W_ret ?_ | refine W_skip ?_ | refine W_cond1 rfl ?_ | refine W_cond0 rfl ?_ | refine cW (fun h => ?_) fun h => ?_) | (first | refine seqR.normal ?_ | refine seqR.ret ?_) | fail)
    exact retR.ret _ _ (retCT rfl rfl at_ (by rfl) rfl) cvt_ ⟨br, rc, rsp, bn, nc, nsp, l, rfl, e1, e2, e3, e4, rfl⟩
end Go.Proofs.Ytfhihnonafklbaa.Eng
