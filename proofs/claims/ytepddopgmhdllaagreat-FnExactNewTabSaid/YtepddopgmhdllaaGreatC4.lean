/- The reference's copying: a cycle's end, a collection, a value loaded. -/
import Derived.Test.YtepddopgmhdllaaGreatBkC
namespace Go.Proofs.YtepddopgmhdllaaGreat.Eng
open Go Go.RowKit Go.Proofs.YtepddopgmhdllaaGreat.Sl Go.Proofs.YtepddopgmhdllaaGreat.Ar Go.Proofs.YtepddopgmhdllaaGreat.Base
set_option linter.unusedVariables false
set_option linter.unusedSimpArgs false
set_option maxRecDepth 10000
variable {w0 : World} {H : HL} {C : Cn} {A : Ar} {m : List Int}
theorem l3FinishT {H1 : HL} (hT : Tk H C.bw (wObj C A) H1) (h : SI A m) (hx : A.vs.length ≤ 1048576) :
    Fn Tryz.prog w0 152 #[arV C A] H fun v H' => v = .tuple #[arV C A.fin.1, .int .i64 A.fin.2] ∧ H' = (C.bw, wObj C A.fin.1) :: H1 := by
  refine Fn.conv (Cv.take hT Cv.refl) ?_
  refine enter1 Tryz.func152 rfl rfl Tryz.ntmps152 rfl ?_
  repeat' (first | (apply gCall; apply L_call rfl rfl rfl rfl rfl; (· first | exact l3Over_c (A := A) | exact l3StepO tk_ h om hx ); rintro _ _ ⟨rfl, rfl⟩) | (apply gL; first | refine L_nil ?_ | refine yX fun _ => ?_ | refine yA fun _ => ?_ | (apply gSt; first | refine sR ?_ | refine sB ?_ | refine s1 ?_ | refine sW ?_ | refine sN ?_) | refine kV ?_) | (apply gW; first | refine W_seq ?_ | refine W_region ?_ | refine W_ret ?_ | refine W_skip ?_) | (first | refine seqR.normal ?_ | refine seqR.ret ?_) | fail)
  exact retR.ret _ _ (retCT rfl rfl at_ (by rfl) rfl) cvt_ ⟨rfl, rfl⟩
theorem l3FlipT {H1 H2 : HL} (hT : Tk H C.br (rObj C A) H1) (hT2 : Tk H1 C.bw (wObj C A) H2) (h : SI A m) (hc : A.cyc = false) (hx : A.vs.length ≤ 1048576) :
    Fn Tryz.prog w0 106 #[arV C A] H fun v H' => v = arV C A.flip ∧ H' = (C.br, rObj C A.flip) :: (C.bw, wObj C A.flip) :: H2 :=
  Fn.conv (Cv.take hT (Cv.take hT2 Cv.refl)) (l3Flip_c h hc hx)
theorem rObj_vs {B : Ar} (e : B.vs = A.vs) : rObj C B = rObj C A := by unfold rObj; rw [e]
set_option maxHeartbeats 2000000 in
theorem l3Collect_c (h : SI A m) (hx : A.vs.length ≤ 1048576) :
    Fn Tryz.prog w0 110 #[arV C A] ((C.br, rObj C A) :: (C.bw, wObj C A) :: H) fun v H' => v = arV C A.col ∧ H' = (C.br, rObj C A.col) :: (C.bw, wObj C A.col) :: H := by
  obtain ⟨m1, h1, c1, v1, l1⟩ := h.fin
  obtain ⟨m2, h2, l2, v2⟩ := h1.flip c1
  obtain ⟨m3, h3, c3, v3, l3⟩ := h2.fin
  refine enter1 Tryz.func110 rfl rfl Tryz.ntmps110 rfl ?_
  repeat' (first | (apply gCall; apply L_call rfl rfl rfl rfl rfl; (· first | exact l3Over_c (A := A) | exact l3StepO tk_ h om hx ); rintro _ _ ⟨rfl, rfl⟩) | (apply gL; first | refine L_nil ?_ | refine yX fun _ => ?_ | refine yA fun _ => ?_ | (apply gSt; first | refine sR ?_ | refine sB ?_ | refine s1 ?_ | refine sW ?_ | refine sN ?_) | refine kV ?_) | (apply gW; first | refine W_seq ?_ | refine W_region ?_ | refine W_ret ?_ | refine W_skip ?_) | (first | refine seqR.normal ?_ | refine seqR.ret ?_) | fail)
  apply L_call rfl rfl rfl rfl rfl
  · exact l3FinishT tk_ h hx
  rintro _ _ ⟨rfl, rfl⟩
  rw [← rObj_vs (C := C) v1]
  repeat' (first | (apply gCall; apply L_call rfl rfl rfl rfl rfl; (· first | exact l3Over_c (A := A) | exact l3StepO tk_ h om hx ); rintro _ _ ⟨rfl, rfl⟩) | (apply gL; first | refine L_nil ?_ | refine yX fun _ => ?_ | refine yA fun _ => ?_ | (apply gSt; first | refine sR ?_ | refine sB ?_ | refine s1 ?_ | refine sW ?_ | refine sN ?_) | refine kV ?_) | (apply gW; first | refine W_seq ?_ | refine W_region ?_ | refine W_ret ?_ | refine W_skip ?_) | (first | refine seqR.normal ?_ | refine seqR.ret ?_) | fail)
  apply L_call rfl rfl rfl rfl rfl
  · exact l3FlipT (C := C) (A := A.fin.1) tk_ tk_ h1 c1 (by rw [v1]; exact hx)
  rintro _ _ ⟨rfl, rfl⟩
  repeat' (first | (apply gCall; apply L_call rfl rfl rfl rfl rfl; (· first | exact l3Over_c (A := A) | exact l3StepO tk_ h om hx ); rintro _ _ ⟨rfl, rfl⟩) | (apply gL; first | refine L_nil ?_ | refine yX fun _ => ?_ | refine yA fun _ => ?_ | (apply gSt; first | refine sR ?_ | refine sB ?_ | refine s1 ?_ | refine sW ?_ | refine sN ?_) | refine kV ?_) | (apply gW; first | refine W_seq ?_ | refine W_region ?_ | refine W_ret ?_ | refine W_skip ?_) | (first | refine seqR.normal ?_ | refine seqR.ret ?_) | fail)
  apply L_call rfl rfl rfl rfl rfl
  · exact l3FinishT (C := C) (A := A.fin.1.flip) tk_ h2 (by rw [v2, v1]; exact hx)
  rintro _ _ ⟨rfl, rfl⟩
  rw [← rObj_vs (C := C) v3]
  repeat' (first | (apply gCall; apply L_call rfl rfl rfl rfl rfl; (· first | exact l3Over_c (A := A) | exact l3StepO tk_ h om hx ); rintro _ _ ⟨rfl, rfl⟩) | (apply gL; first | refine L_nil ?_ | refine yX fun _ => ?_ | refine yA fun _ => ?_ | (apply gSt; first | refine sR ?_ | refine sB ?_ | refine s1 ?_ | refine sW ?_ | refine sN ?_) | refine kV ?_) | (apply gW; first | refine W_seq ?_ | refine W_region ?_ | refine W_ret ?_ | refine W_skip ?_) | (first | refine seqR.normal ?_ | refine seqR.ret ?_) | fail)
  exact retR.ret _ _ (retC rfl rfl at_ (by rfl)) cvt_ ⟨rfl, rfl⟩
theorem l3CollectT {H1 H2 : HL} (hT : Tk H C.br (rObj C A) H1) (hT2 : Tk H1 C.bw (wObj C A) H2) (h : SI A m) (hx : A.vs.length ≤ 1048576) :
    Fn Tryz.prog w0 110 #[arV C A] H fun v H' => v = arV C A.col ∧ H' = (C.br, rObj C A.col) :: (C.bw, wObj C A.col) :: H2 :=
  Fn.conv (Cv.take hT (Cv.take hT2 Cv.refl)) (l3Collect_c h hx)
end Go.Proofs.YtepddopgmhdllaaGreat.Eng
