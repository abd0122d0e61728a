/- The reference's load of a value. -/
import Derived.Test.YtepddopgmhdllaaGreatBkC
namespace Go.Proofs.YtepddopgmhdllaaGreat.Eng
open Go Go.RowKit Go.Proofs.YtepddopgmhdllaaGreat.Sl Go.Proofs.YtepddopgmhdllaaGreat.Ar Go.Proofs.YtepddopgmhdllaaGreat.Base
set_option linter.unusedVariables false
set_option linter.unusedSimpArgs false
set_option maxRecDepth 10000
variable {w0 : World} {H : HL} {C : Cn} {A : Ar} {m : List Int}
set_option maxHeartbeats 4000000 in
theorem l4Load_c {a : Int} (hw : Wf A.ws) (h0 : 0 ≤ a) (h1 : a + 1 < (A.ws.length : Int)) (hm : A.ws.length ≤ 8000) (hr : rv A.ws a = true) (hFP : FP A (rvT A.ws a) (rvN A.ws a)) (hk : g (A.fwd (rvT A.ws a) (rvN A.ws a)).1.ws a = g A.ws a) :
    Fn Tryz.prog w0 86 #[arV C A, .int .i64 a] ((C.bw, wObj C A) :: H) fun v H' => v = .tuple #[arV C (A.ld a), .agg #[.int .i64 (rvT A.ws a), .int .i64 (A.ldN a)]] ∧ H' = (C.bw, wObj C (A.ld a)) :: H := by
  have hfl := fwd_len (A := A) (rvT A.ws a) (rvN A.ws a)
  have h1' : a + 1 < ((A.fwd (rvT A.ws a) (rvN A.ws a)).1.ws.length : Int) := by omega
  have hm' : (A.fwd (rvT A.ws a) (rvN A.ws a)).1.ws.length ≤ 8000 := by omega
  cases hc : A.cyc with
  | true =>
    have e1 : A.ld a = (A.fwd (rvT A.ws a) (rvN A.ws a)).1.putV a (rvT A.ws a) (A.fwd (rvT A.ws a) (rvN A.ws a)).2 := by
      unfold Ar.ld
      rw [if_pos hc]
      unfold Ar.fwS Ar.putV
      rw [(rv_w64 hw hr).1, ← hk, set_same h0 (by omega)]
    have e2 : A.ldN a = (A.fwd (rvT A.ws a) (rvN A.ws a)).2 := by unfold Ar.ldN; rw [if_pos hc]
    rw [e1, e2]
    refine enter2 Tryz.func86 rfl rfl Tryz.ntmps86 rfl ?_
    repeat' (first | exact absurd h (by rw [hc]; decide) | first | (apply gCall; apply L_call rfl rfl rfl rfl rfl; (· first | exact l3Over_c (A := A) | exact l3StepO tk_ h om hx | exact l1Read_c at_ hw om om om | exact l3ForwardT tk_ hFP | exact l4PutT tk_ h0 h1' hm'); rintro _ _ ⟨rfl, rfl⟩) | (apply gL; first | refine L_nil ?_ | refine yX fun _ => ?_ | refine yA fun _ => ?_ | (apply gSt; first | refine sR ?_ | refine sB ?_ | refine s1 ?_ | refine sW ?_ | refine sN ?_) | refine kV ?_) | (apply gW; first | refine W_seq ?_ | refine W_region ?_ | refine W_ret ?_ | refine W_skip ?_ | refine W_cond1 rfl ?_ | refine W_cond0 rfl ?_ | refine cW (fun h => ?_) fun h => ?_) | (first | refine seqR.normal ?_ | refine seqR.ret ?_) | fail)
    rename_i b2 b4 b5 b6 b8 b9
    apply W_regionA (D := (b6, .cells #[.int .i64 (rvT A.ws a), .int .i64 (A.fwd (rvT A.ws a) (rvN A.ws a)).2] 47 (0, 0)) :: (b2, aObj C ((A.fwd (rvT A.ws a) (rvN A.ws a)).1.putV a (rvT A.ws a) (A.fwd (rvT A.ws a) (rvN A.ws a)).2)) :: H) (by kernel_rfl)
    refine kAt 0 ?_
    refine kAt 1 ?_
    refine A_one (i := 2) (by kernel_rfl) cvt_ rfl (O_of_L fun S hS => ?_)
    first | (apply gCall; apply L_call rfl rfl rfl rfl rfl; (· first | exact l3Over_c (A := A) | exact l3StepO tk_ h om hx | exact l1Read_c at_ hw om om om | exact l3ForwardT tk_ hFP | exact l4PutT tk_ h0 h1' hm'); rintro _ _ ⟨rfl, rfl⟩) | (apply gL; first | refine L_nil ?_ | refine yX fun _ => ?_ | refine yA fun _ => ?_ | (apply gSt; first | refine sR ?_ | refine sB ?_ | refine s1 ?_ | refine sW ?_ | refine sN ?_) | refine kV ?_)
    refine L_nil (hS _ _ ?_)
    clear hS
    refine A_one (i := 3) (by kernel_rfl) cvt_ rfl (O_of_L fun S hS => ?_)
    first | (apply gCall; apply L_call rfl rfl rfl rfl rfl; (· first | exact l3Over_c (A := A) | exact l3StepO tk_ h om hx | exact l1Read_c at_ hw om om om | exact l3ForwardT tk_ hFP | exact l4PutT tk_ h0 h1' hm'); rintro _ _ ⟨rfl, rfl⟩) | (apply gL; first | refine L_nil ?_ | refine yX fun _ => ?_ | refine yA fun _ => ?_ | (apply gSt; first | refine sR ?_ | refine sB ?_ | refine s1 ?_ | refine sW ?_ | refine sN ?_) | refine kV ?_)
    refine L_nil (hS _ _ ?_)
    clear hS
    refine A_nil (by kernel_rfl) cvt_ ?_
    repeat' (first | (apply gCall; apply L_call rfl rfl rfl rfl rfl; (· first | exact l3Over_c (A := A) | exact l3StepO tk_ h om hx | exact l1Read_c at_ hw om om om | exact l3ForwardT tk_ hFP | exact l4PutT tk_ h0 h1' hm'); rintro _ _ ⟨rfl, rfl⟩) | (apply gL; first | refine L_nil ?_ | refine yX fun _ => ?_ | refine yA fun _ => ?_ | (apply gSt; first | refine sR ?_ | refine sB ?_ | refine s1 ?_ | refine sW ?_ | refine sN ?_) | refine kV ?_) | (apply gW; first | refine W_seq ?_ | refine W_region ?_ | refine W_ret ?_ | refine W_skip ?_ | refine W_cond1 rfl ?_ | refine W_cond0 rfl ?_ | refine cW (fun h => ?_) fun h => ?_) | (first | refine seqR.normal ?_ | refine seqR.ret ?_) | fail)
    exact retR.ret _ _ (retCC rfl rfl at_ (by rfl) rfl at_ (by rfl)) cvt_ ⟨rfl, rfl⟩
  | false =>
    have e1 : A.ld a = A := by unfold Ar.ld; rw [if_neg (by rw [hc]; decide)]
    have e2 : A.ldN a = rvN A.ws a := by unfold Ar.ldN; rw [if_neg (by rw [hc]; decide)]
    rw [e1, e2]
    refine enter2 Tryz.func86 rfl rfl Tryz.ntmps86 rfl ?_
    repeat' (first | exact absurd h (by rw [hc]; decide) | first | (apply gCall; apply L_call rfl rfl rfl rfl rfl; (· first | exact l3Over_c (A := A) | exact l3StepO tk_ h om hx | exact l1Read_c at_ hw om om om | exact l3ForwardT tk_ hFP | exact l4PutT tk_ h0 h1' hm'); rintro _ _ ⟨rfl, rfl⟩) | (apply gL; first | refine L_nil ?_ | refine yX fun _ => ?_ | refine yA fun _ => ?_ | (apply gSt; first | refine sR ?_ | refine sB ?_ | refine s1 ?_ | refine sW ?_ | refine sN ?_) | refine kV ?_) | (apply gW; first | refine W_seq ?_ | refine W_region ?_ | refine W_ret ?_ | refine W_skip ?_ | refine W_cond1 rfl ?_ | refine W_cond0 rfl ?_ | refine cW (fun h => ?_) fun h => ?_) | (first | refine seqR.normal ?_ | refine seqR.ret ?_) | fail)
    rename_i b2 b4 b5 b6
    apply W_regionA (D := (b6, .cells #[.int .i64 (rvT A.ws a), .int .i64 (rvN A.ws a)] 47 (0, 0)) :: (b2, aObj C A) :: H) (by kernel_rfl)
    refine kAt 0 ?_
    refine kAt 1 ?_
    refine A_one (i := 2) (by kernel_rfl) cvt_ rfl (O_of_L fun S hS => ?_)
    first | (apply gCall; apply L_call rfl rfl rfl rfl rfl; (· first | exact l3Over_c (A := A) | exact l3StepO tk_ h om hx | exact l1Read_c at_ hw om om om | exact l3ForwardT tk_ hFP | exact l4PutT tk_ h0 h1' hm'); rintro _ _ ⟨rfl, rfl⟩) | (apply gL; first | refine L_nil ?_ | refine yX fun _ => ?_ | refine yA fun _ => ?_ | (apply gSt; first | refine sR ?_ | refine sB ?_ | refine s1 ?_ | refine sW ?_ | refine sN ?_) | refine kV ?_)
    refine L_nil (hS _ _ ?_)
    clear hS
    refine A_one (i := 3) (by kernel_rfl) cvt_ rfl (O_of_L fun S hS => ?_)
    first | (apply gCall; apply L_call rfl rfl rfl rfl rfl; (· first | exact l3Over_c (A := A) | exact l3StepO tk_ h om hx | exact l1Read_c at_ hw om om om | exact l3ForwardT tk_ hFP | exact l4PutT tk_ h0 h1' hm'); rintro _ _ ⟨rfl, rfl⟩) | (apply gL; first | refine L_nil ?_ | refine yX fun _ => ?_ | refine yA fun _ => ?_ | (apply gSt; first | refine sR ?_ | refine sB ?_ | refine s1 ?_ | refine sW ?_ | refine sN ?_) | refine kV ?_)
    refine L_nil (hS _ _ ?_)
    clear hS
    refine A_nil (by kernel_rfl) cvt_ ?_
    repeat' (first | (apply gCall; apply L_call rfl rfl rfl rfl rfl; (· first | exact l3Over_c (A := A) | exact l3StepO tk_ h om hx | exact l1Read_c at_ hw om om om | exact l3ForwardT tk_ hFP | exact l4PutT tk_ h0 h1' hm'); rintro _ _ ⟨rfl, rfl⟩) | (apply gL; first | refine L_nil ?_ | refine yX fun _ => ?_ | refine yA fun _ => ?_ | (apply gSt; first | refine sR ?_ | refine sB ?_ | refine s1 ?_ | refine sW ?_ | refine sN ?_) | refine kV ?_) | (apply gW; first | refine W_seq ?_ | refine W_region ?_ | refine W_ret ?_ | refine W_skip ?_ | refine W_cond1 rfl ?_ | refine W_cond0 rfl ?_ | refine cW (fun h => ?_) fun h => ?_) | (first | refine seqR.normal ?_ | refine seqR.ret ?_) | fail)
    exact retR.ret _ _ (retCC rfl rfl at_ (by rfl) rfl at_ (by rfl)) cvt_ ⟨rfl, rfl⟩
theorem l4LoadT {a : Int} {H1 : HL} (hT : Tk H C.bw (wObj C A) H1) (hw : Wf A.ws) (h0 : 0 ≤ a) (h1 : a + 1 < (A.ws.length : Int)) (hm : A.ws.length ≤ 8000) (hr : rv A.ws a = true) (hFP : FP A (rvT A.ws a) (rvN A.ws a)) (hk : g (A.fwd (rvT A.ws a) (rvN A.ws a)).1.ws a = g A.ws a) :
    Fn Tryz.prog w0 86 #[arV C A, .int .i64 a] H fun v H' => v = .tuple #[arV C (A.ld a), .agg #[.int .i64 (rvT A.ws a), .int .i64 (A.ldN a)]] ∧ H' = (C.bw, wObj C (A.ld a)) :: H1 :=
  Fn.conv (Cv.take hT Cv.refl) (l4Load_c hw h0 h1 hm hr hFP hk)
end Go.Proofs.YtepddopgmhdllaaGreat.Eng
