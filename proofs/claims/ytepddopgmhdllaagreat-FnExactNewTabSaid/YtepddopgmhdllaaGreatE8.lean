/- NewTab: the reference's and the implementation's. -/
import Derived.Test.YtepddopgmhdllaaGreatC6
import Derived.Test.YtepddopgmhdllaaGreatX3a
namespace Go.Proofs.YtepddopgmhdllaaGreat.Ar
/-- what NewTab hands back -/
def Ar.newTabR (A : Ar) (s : Int) : Ar × Int := if A.ok = true ∧ A.inR s = true ∧ A.serial < 1000000000 then A.tabR s else (A, 1)
end Go.Proofs.YtepddopgmhdllaaGreat.Ar
namespace Go.Proofs.YtepddopgmhdllaaGreat.Eng
open Go Go.RowKit Go.Proofs.YtepddopgmhdllaaGreat.Sl Go.Proofs.YtepddopgmhdllaaGreat.Ar Go.Proofs.YtepddopgmhdllaaGreat.Base
set_option linter.unusedVariables false
set_option linter.unusedSimpArgs false
set_option maxRecDepth 10000
variable {w0 : World} {H : HL} {C : Cn} {A : Ar} {m : List Int}
theorem l4AskT {k s : Int} {H1 H2 : HL} (hT : Tk H C.br (rObj C A) H1) (hT2 : Tk H1 C.bw (wObj C A) H2) (hS : SI A m) (hO : OldP A) (hh : HeadP k s (A.born k)) (hx : A.vs.length ≤ 1048576) (hsr : -1000000000 ≤ A.serial ∧ A.serial ≤ 1000000000) :
    Fn Tryz.prog w0 52 #[arV C A, .int .i64 k, .int .i64 s] H fun v H' => v = .tuple #[arV C (A.ask k s).1, .int .i64 (A.ask k s).2.1, .int .i64 (A.ask k s).2.2] ∧ H' = (C.br, rObj C (A.ask k s).1) :: (C.bw, wObj C (A.ask k s).1) :: H2 :=
  Fn.conv (Cv.take hT (Cv.take hT2 Cv.refl)) (l4Ask_c hS hO hh hx hsr)
set_option maxHeartbeats 4000000 in
theorem l6New_c {s : Int} {H1 H2 : HL} (hT : Tk H C.br (rObj C A) H1) (hT2 : Tk H1 C.bw (wObj C A) H2) (hS : SI A m) (hO : OldP A) (hx : A.vs.length ≤ 1048576) (hsr1 : 1 ≤ A.serial ∧ A.serial ≤ 1000000000) (hs : 0 ≤ s ∧ s < (A.vs.length : Int)) :
    Fn Tryz.prog w0 72 #[arV C A, .int .i64 s] H fun v H' => v = .tuple #[arV C (A.tabR s).1, .int .i64 (A.tabR s).2] ∧ H' = (C.br, rObj C (A.tabR s).1) :: (C.bw, wObj C (A.tabR s).1) :: H2 := by
  refine Fn.conv (Cv.take hT (Cv.take hT2 Cv.refl)) ?_
  have hh := headTab hsr1
  have hsr : -1000000000 ≤ A.serial ∧ A.serial ≤ 1000000000 := by omega
  rcases hS.ask_cases 2 3 with ⟨B, mB, e, hB, l, v, t1, t2⟩ | ⟨e, l, v⟩
  · have vm : (B.mkO 2 3).vs = B.vs := rfl
    have hvm : (B.mkO 2 3).vs.length = A.vs.length := v
    have ec : A.tabR s = ({ B.mkO 2 3 with vs := B.vs.set s.toNat (4, B.top) }, 0) := by
      unfold Ar.tabR; rw [e]; dsimp only; rw [if_pos rfl]; rfl
    rw [ec]
    refine enter2 Tryz.func72 rfl rfl Tryz.ntmps72 rfl ?_
    repeat' (first | (apply gCall; apply L_call rfl rfl rfl rfl rfl; (· first | exact specArenaOkB_c hok at_ at_ hw hx | exact l2RootB_c hx | exact implArenaOkB_c hok at_ at_ hw hc hx | exact isRoot1Q_c hb at_ at_ hx); rintro _ _ ⟨rfl, rfl⟩) | (apply gL; first | refine L_nil ?_ | refine yS ?_ | refine yX fun _ => ?_ | refine yA fun _ => ?_ | (apply gSt; first | refine sR ?_ | refine sB ?_ | refine s1 ?_ | refine sW ?_ | refine sN ?_) | (apply gBs; first | (refine L_bs0 rfl rfl rfl rfl (fun _ => ?_)) | (refine L_bs1 rfl rfl rfl rfl rfl rfl rfl (fun _ => ?_))) | refine kV ?_ | ((fail_if_success (refine L_known rfl ?_)); refine yW (fun h => ?_) fun h => ?_)) | (apply gW; first | refine W_seq ?_ | refine W_region ?_ | refine W_ret ?_ | refine W_skip ?_ | refine W_cond1 rfl ?_ | refine W_cond0 rfl ?_ | refine cW (fun h => ?_) fun h => ?_) | (first | refine seqR.normal ?_ | refine seqR.ret ?_) | fail)
    apply L_call rfl rfl rfl rfl rfl
    · exact l4AskT tk_ tk_ hS hO hh hx hsr
    rintro _ _ ⟨rfl, rfl⟩
    rw [e]
    dsimp only
    repeat' (first | exact absurd rfl h | (apply gSt; apply L_stV rfl rfl rfl rfl rfl; (· exact up_); (· omega); (· omega)) | first | (apply gCall; apply L_call rfl rfl rfl rfl rfl; (· first | exact specArenaOkB_c hok at_ at_ hw hx | exact l2RootB_c hx | exact implArenaOkB_c hok at_ at_ hw hc hx | exact isRoot1Q_c hb at_ at_ hx); rintro _ _ ⟨rfl, rfl⟩) | (apply gL; first | refine L_nil ?_ | refine yS ?_ | refine yX fun _ => ?_ | refine yA fun _ => ?_ | (apply gSt; first | refine sR ?_ | refine sB ?_ | refine s1 ?_ | refine sW ?_ | refine sN ?_) | (apply gBs; first | (refine L_bs0 rfl rfl rfl rfl (fun _ => ?_)) | (refine L_bs1 rfl rfl rfl rfl rfl rfl rfl (fun _ => ?_))) | refine kV ?_ | ((fail_if_success (refine L_known rfl ?_)); refine yW (fun h => ?_) fun h => ?_)) | (apply gW; first | refine W_seq ?_ | refine W_region ?_ | refine W_ret ?_ | refine W_skip ?_ | refine W_cond1 rfl ?_ | refine W_cond0 rfl ?_ | refine cW (fun h => ?_) fun h => ?_) | (first | refine seqR.normal ?_ | refine seqR.ret ?_) | fail)
    have es : arV C ({ B.mkO 2 3 with vs := B.vs.set s.toNat (4, B.top) } : Ar) = arV C (B.mkO 2 3) := by
      show Value.agg #[_, _, _, _, _, _, _, _, _, .slice _ (B.vs.set s.toNat (4, B.top)).length _] = _
      rw [List.length_set]; rfl
    rw [es]
    exact retR.ret _ _ (retCT rfl rfl at_ (by rfl) rfl) cvt_ ⟨rfl, rfl⟩
  · have ec : A.tabR s = ((A.ask 2 3).1, (A.ask 2 3).2.2) := by unfold Ar.tabR; rw [if_neg (by omega)]
    rw [ec]
    refine enter2 Tryz.func72 rfl rfl Tryz.ntmps72 rfl ?_
    repeat' (first | (apply gCall; apply L_call rfl rfl rfl rfl rfl; (· first | exact specArenaOkB_c hok at_ at_ hw hx | exact l2RootB_c hx | exact implArenaOkB_c hok at_ at_ hw hc hx | exact isRoot1Q_c hb at_ at_ hx); rintro _ _ ⟨rfl, rfl⟩) | (apply gL; first | refine L_nil ?_ | refine yS ?_ | refine yX fun _ => ?_ | refine yA fun _ => ?_ | (apply gSt; first | refine sR ?_ | refine sB ?_ | refine s1 ?_ | refine sW ?_ | refine sN ?_) | (apply gBs; first | (refine L_bs0 rfl rfl rfl rfl (fun _ => ?_)) | (refine L_bs1 rfl rfl rfl rfl rfl rfl rfl (fun _ => ?_))) | refine kV ?_ | ((fail_if_success (refine L_known rfl ?_)); refine yW (fun h => ?_) fun h => ?_)) | (apply gW; first | refine W_seq ?_ | refine W_region ?_ | refine W_ret ?_ | refine W_skip ?_ | refine W_cond1 rfl ?_ | refine W_cond0 rfl ?_ | refine cW (fun h => ?_) fun h => ?_) | (first | refine seqR.normal ?_ | refine seqR.ret ?_) | fail)
    apply L_call rfl rfl rfl rfl rfl
    · exact l4AskT tk_ tk_ hS hO hh hx hsr
    rintro _ _ ⟨rfl, rfl⟩
    repeat' (first | (exfalso; omega) | first | (apply gCall; apply L_call rfl rfl rfl rfl rfl; (· first | exact specArenaOkB_c hok at_ at_ hw hx | exact l2RootB_c hx | exact implArenaOkB_c hok at_ at_ hw hc hx | exact isRoot1Q_c hb at_ at_ hx); rintro _ _ ⟨rfl, rfl⟩) | (apply gL; first | refine L_nil ?_ | refine yS ?_ | refine yX fun _ => ?_ | refine yA fun _ => ?_ | (apply gSt; first | refine sR ?_ | refine sB ?_ | refine s1 ?_ | refine sW ?_ | refine sN ?_) | (apply gBs; first | (refine L_bs0 rfl rfl rfl rfl (fun _ => ?_)) | (refine L_bs1 rfl rfl rfl rfl rfl rfl rfl (fun _ => ?_))) | refine kV ?_ | ((fail_if_success (refine L_known rfl ?_)); refine yW (fun h => ?_) fun h => ?_)) | (apply gW; first | refine W_seq ?_ | refine W_region ?_ | refine W_ret ?_ | refine W_skip ?_ | refine W_cond1 rfl ?_ | refine W_cond0 rfl ?_ | refine cW (fun h => ?_) fun h => ?_) | (first | refine seqR.normal ?_ | refine seqR.ret ?_) | fail)
    exact retR.ret _ _ (retCT rfl rfl at_ (by rfl) rfl) cvt_ ⟨rfl, rfl⟩
theorem newTab_no {s : Int} (h : ¬ (A.ok = true ∧ A.inR s = true ∧ A.serial < 1000000000)) : A.newTabR s = (A, 1) := by unfold Ar.newTabR; rw [if_neg h]
set_option maxHeartbeats 4000000 in
theorem specNewTab_c {s : Int} (hA : At H C.bw (wObj C A)) (hR : At H C.br (rObj C A)) (hw : Wf A.ws) (hl : A.ws.length ≤ 1048576) (hx : A.vs.length ≤ 1048576) :
    Fn Tryz.prog w0 25 #[arV C A, .int .i64 s] H (SRes (A.newTabR s).1 (.int .i64 (A.newTabR s).2) H) := by
  refine enter2 Tryz.func25 rfl rfl Tryz.ntmps25 rfl ?_
  by_cases hg : A.ok = true ∧ A.inR s = true ∧ A.serial < 1000000000
  · obtain ⟨hok, hb, hs9⟩ := hg
    have e : A.newTabR s = A.tabR s := by unfold Ar.newTabR; rw [if_pos ⟨hok, hb, hs9⟩]
    rw [e]
    obtain ⟨m, hP⟩ := okP_of hok
    have hSI := okSI hP hw
    have hO := OldP.of_ok hP
    have hsr := hP.num.2.2.2.1
    have hbs := inR_iff.1 hb
    repeat' (first | exact absurd hb h | (exfalso; omega) | ((fail_if_success apply gAtR 3); (first | (apply gCall; apply L_call rfl rfl rfl rfl rfl; (· first | exact specArenaOkB_c hok at_ at_ hw hx | exact l2RootB_c hx | exact implArenaOkB_c hok at_ at_ hw hc hx | exact isRoot1Q_c hb at_ at_ hx); rintro _ _ ⟨rfl, rfl⟩) | (apply gL; first | refine L_nil ?_ | refine yS ?_ | refine yX fun _ => ?_ | refine yA fun _ => ?_ | (apply gSt; first | refine sR ?_ | refine sB ?_ | refine s1 ?_ | refine sW ?_ | refine sN ?_) | (apply gBs; first | (refine L_bs0 rfl rfl rfl rfl (fun _ => ?_)) | (refine L_bs1 rfl rfl rfl rfl rfl rfl rfl (fun _ => ?_))) | refine kV ?_ | ((fail_if_success (refine L_known rfl ?_)); refine yW (fun h => ?_) fun h => ?_)) | (apply gW; first | refine W_seq ?_ | refine W_region ?_ | refine W_ret ?_ | refine W_skip ?_ | refine W_cond1 rfl ?_ | refine W_cond0 rfl ?_ | refine cW (fun h => ?_) fun h => ?_) | (first | refine seqR.normal ?_ | refine seqR.ret ?_) | fail)))
    repeat' (first | (apply gCall; apply L_call rfl rfl rfl rfl rfl; (· first | exact specArenaOkB_c hok at_ at_ hw hx | exact l2RootB_c hx | exact implArenaOkB_c hok at_ at_ hw hc hx | exact isRoot1Q_c hb at_ at_ hx); rintro _ _ ⟨rfl, rfl⟩) | (apply gL; first | refine L_nil ?_ | refine yS ?_ | refine yX fun _ => ?_ | refine yA fun _ => ?_ | (apply gSt; first | refine sR ?_ | refine sB ?_ | refine s1 ?_ | refine sW ?_ | refine sN ?_) | (apply gBs; first | (refine L_bs0 rfl rfl rfl rfl (fun _ => ?_)) | (refine L_bs1 rfl rfl rfl rfl rfl rfl rfl (fun _ => ?_))) | refine kV ?_ | ((fail_if_success (refine L_known rfl ?_)); refine yW (fun h => ?_) fun h => ?_)) | (apply gW; first | refine W_seq ?_ | refine W_region ?_ | refine W_ret ?_ | refine W_skip ?_ | refine W_cond1 rfl ?_ | refine W_cond0 rfl ?_ | refine cW (fun h => ?_) fun h => ?_) | (first | refine seqR.normal ?_ | refine seqR.ret ?_) | fail)
    apply L_call rfl rfl rfl rfl rfl
    · exact l2Copy_c at_ at_ hl hx
    rintro _ _ ⟨C1, rfl, hc1, rfl⟩
    repeat' (first | (apply gCall; apply L_call rfl rfl rfl rfl rfl; (· first | exact specArenaOkB_c hok at_ at_ hw hx | exact l2RootB_c hx | exact implArenaOkB_c hok at_ at_ hw hc hx | exact isRoot1Q_c hb at_ at_ hx); rintro _ _ ⟨rfl, rfl⟩) | (apply gL; first | refine L_nil ?_ | refine yS ?_ | refine yX fun _ => ?_ | refine yA fun _ => ?_ | (apply gSt; first | refine sR ?_ | refine sB ?_ | refine s1 ?_ | refine sW ?_ | refine sN ?_) | (apply gBs; first | (refine L_bs0 rfl rfl rfl rfl (fun _ => ?_)) | (refine L_bs1 rfl rfl rfl rfl rfl rfl rfl (fun _ => ?_))) | refine kV ?_ | ((fail_if_success (refine L_known rfl ?_)); refine yW (fun h => ?_) fun h => ?_)) | (apply gW; first | refine W_seq ?_ | refine W_region ?_ | refine W_ret ?_ | refine W_skip ?_ | refine W_cond1 rfl ?_ | refine W_cond0 rfl ?_ | refine cW (fun h => ?_) fun h => ?_) | (first | refine seqR.normal ?_ | refine seqR.ret ?_) | fail)
    apply L_call rfl rfl rfl rfl rfl
    · exact l6New_c tk_ tk_ hSI hO hx (by omega) hbs
    rintro _ _ ⟨rfl, rfl⟩
    repeat' (first | (apply gCall; apply L_call rfl rfl rfl rfl rfl; (· first | exact specArenaOkB_c hok at_ at_ hw hx | exact l2RootB_c hx | exact implArenaOkB_c hok at_ at_ hw hc hx | exact isRoot1Q_c hb at_ at_ hx); rintro _ _ ⟨rfl, rfl⟩) | (apply gL; first | refine L_nil ?_ | refine yS ?_ | refine yX fun _ => ?_ | refine yA fun _ => ?_ | (apply gSt; first | refine sR ?_ | refine sB ?_ | refine s1 ?_ | refine sW ?_ | refine sN ?_) | (apply gBs; first | (refine L_bs0 rfl rfl rfl rfl (fun _ => ?_)) | (refine L_bs1 rfl rfl rfl rfl rfl rfl rfl (fun _ => ?_))) | refine kV ?_ | ((fail_if_success (refine L_known rfl ?_)); refine yW (fun h => ?_) fun h => ?_)) | (apply gW; first | refine W_seq ?_ | refine W_region ?_ | refine W_ret ?_ | refine W_skip ?_ | refine W_cond1 rfl ?_ | refine W_cond0 rfl ?_ | refine cW (fun h => ?_) fun h => ?_) | (first | refine seqR.normal ?_ | refine seqR.ret ?_) | fail)
    refine retR.ret _ _ (retCT rfl rfl at_ (by rfl) rfl) cvt_ ⟨_, rfl, rfl⟩
  · rw [newTab_no hg]
    cases hok : A.ok with
    | false =>
      repeat' (first | (apply gCall; apply L_call rfl rfl rfl rfl rfl; (· first | exact specArenaOkB_c hok at_ at_ hw hx | exact l2RootB_c hx | exact implArenaOkB_c hok at_ at_ hw hc hx | exact isRoot1Q_c hb at_ at_ hx); rintro _ _ ⟨rfl, rfl⟩) | (apply gL; first | refine L_nil ?_ | refine yS ?_ | refine yX fun _ => ?_ | refine yA fun _ => ?_ | (apply gSt; first | refine sR ?_ | refine sB ?_ | refine s1 ?_ | refine sW ?_ | refine sN ?_) | (apply gBs; first | (refine L_bs0 rfl rfl rfl rfl (fun _ => ?_)) | (refine L_bs1 rfl rfl rfl rfl rfl rfl rfl (fun _ => ?_))) | refine kV ?_ | ((fail_if_success (refine L_known rfl ?_)); refine yW (fun h => ?_) fun h => ?_)) | (apply gW; first | refine W_seq ?_ | refine W_region ?_ | refine W_ret ?_ | refine W_skip ?_ | refine W_cond1 rfl ?_ | refine W_cond0 rfl ?_ | refine cW (fun h => ?_) fun h => ?_) | (first | refine seqR.normal ?_ | refine seqR.ret ?_) | fail)
      apply L_call rfl rfl rfl rfl rfl
      · exact l2Copy_c at_ at_ hl hx
      rintro _ _ ⟨C1, rfl, hc1, rfl⟩
      repeat' (first | (apply gCall; apply L_call rfl rfl rfl rfl rfl; (· first | exact specArenaOkB_c hok at_ at_ hw hx | exact l2RootB_c hx | exact implArenaOkB_c hok at_ at_ hw hc hx | exact isRoot1Q_c hb at_ at_ hx); rintro _ _ ⟨rfl, rfl⟩) | (apply gL; first | refine L_nil ?_ | refine yS ?_ | refine yX fun _ => ?_ | refine yA fun _ => ?_ | (apply gSt; first | refine sR ?_ | refine sB ?_ | refine s1 ?_ | refine sW ?_ | refine sN ?_) | (apply gBs; first | (refine L_bs0 rfl rfl rfl rfl (fun _ => ?_)) | (refine L_bs1 rfl rfl rfl rfl rfl rfl rfl (fun _ => ?_))) | refine kV ?_ | ((fail_if_success (refine L_known rfl ?_)); refine yW (fun h => ?_) fun h => ?_)) | (apply gW; first | refine W_seq ?_ | refine W_region ?_ | refine W_ret ?_ | refine W_skip ?_ | refine W_cond1 rfl ?_ | refine W_cond0 rfl ?_ | refine cW (fun h => ?_) fun h => ?_) | (first | refine seqR.normal ?_ | refine seqR.ret ?_) | fail)
      refine retR.ret _ _ (retCT rfl rfl at_ (by rfl) rfl) cvt_ ⟨_, rfl, rfl⟩
    | true =>
      rw [hok] at hg
      repeat' (first | (exfalso; exact hg ⟨rfl, inR_iff.2 (by omega), by omega⟩) | first | (apply gCall; apply L_call rfl rfl rfl rfl rfl; (· first | exact specArenaOkB_c hok at_ at_ hw hx | exact l2RootB_c hx | exact implArenaOkB_c hok at_ at_ hw hc hx | exact isRoot1Q_c hb at_ at_ hx); rintro _ _ ⟨rfl, rfl⟩) | (apply gL; first | refine L_nil ?_ | refine yS ?_ | refine yX fun _ => ?_ | refine yA fun _ => ?_ | (apply gSt; first | refine sR ?_ | refine sB ?_ | refine s1 ?_ | refine sW ?_ | refine sN ?_) | (apply gBs; first | (refine L_bs0 rfl rfl rfl rfl (fun _ => ?_)) | (refine L_bs1 rfl rfl rfl rfl rfl rfl rfl (fun _ => ?_))) | refine kV ?_ | ((fail_if_success (refine L_known rfl ?_)); refine yW (fun h => ?_) fun h => ?_)) | (apply gW; first | refine W_seq ?_ | refine W_region ?_ | refine W_ret ?_ | refine W_skip ?_ | refine W_cond1 rfl ?_ | refine W_cond0 rfl ?_ | refine cW (fun h => ?_) fun h => ?_) | (first | refine seqR.normal ?_ | refine seqR.ret ?_) | fail)
      all_goals apply L_call rfl rfl rfl rfl rfl
      all_goals first | exact l2Copy_c at_ at_ hl hx | skip
      all_goals rintro _ _ ⟨C1, rfl, hc1, rfl⟩
      all_goals repeat' (first | (apply gCall; apply L_call rfl rfl rfl rfl rfl; (· first | exact specArenaOkB_c hok at_ at_ hw hx | exact l2RootB_c hx | exact implArenaOkB_c hok at_ at_ hw hc hx | exact isRoot1Q_c hb at_ at_ hx); rintro _ _ ⟨rfl, rfl⟩) | (apply gL; first | refine L_nil ?_ | refine yS ?_ | refine yX fun _ => ?_ | refine yA fun _ => ?_ | (apply gSt; first | refine sR ?_ | refine sB ?_ | refine s1 ?_ | refine sW ?_ | refine sN ?_) | (apply gBs; first | (refine L_bs0 rfl rfl rfl rfl (fun _ => ?_)) | (refine L_bs1 rfl rfl rfl rfl rfl rfl rfl (fun _ => ?_))) | refine kV ?_ | ((fail_if_success (refine L_known rfl ?_)); refine yW (fun h => ?_) fun h => ?_)) | (apply gW; first | refine W_seq ?_ | refine W_region ?_ | refine W_ret ?_ | refine W_skip ?_ | refine W_cond1 rfl ?_ | refine W_cond0 rfl ?_ | refine cW (fun h => ?_) fun h => ?_) | (first | refine seqR.normal ?_ | refine seqR.ret ?_) | fail)
      all_goals refine retR.ret _ _ (retCT rfl rfl at_ (by rfl) rfl) cvt_ ⟨_, rfl, rfl⟩
set_option maxHeartbeats 4000000 in
theorem implNewTab_c {s : Int} (hA : At H C.bw (wObj C A)) (hR : At H C.br (rObj C A)) (hw : Wf A.ws) (hc : A.ws.length ≤ C.wc) (hl : A.ws.length ≤ 1048576) (hx : A.vs.length ≤ 1048576) :
    Fn Tryz.prog w0 26 #[arV C A, .int .i64 s] H (IRes (A.newTabR s).1 (.int .i64 (A.newTabR s).2) H) := by
  refine enter2 Tryz.func26 rfl rfl Tryz.ntmps26 rfl ?_
  repeat' (first | (apply gCall; apply L_call rfl rfl rfl rfl rfl; (· first | exact specArenaOkB_c hok at_ at_ hw hx | exact l2RootB_c hx | exact implArenaOkB_c hok at_ at_ hw hc hx | exact isRoot1Q_c hb at_ at_ hx); rintro _ _ ⟨rfl, rfl⟩) | (apply gL; first | refine L_nil ?_ | refine yS ?_ | refine yX fun _ => ?_ | refine yA fun _ => ?_ | (apply gSt; first | refine sR ?_ | refine sB ?_ | refine s1 ?_ | refine sW ?_ | refine sN ?_) | (apply gBs; first | (refine L_bs0 rfl rfl rfl rfl (fun _ => ?_)) | (refine L_bs1 rfl rfl rfl rfl rfl rfl rfl (fun _ => ?_))) | refine kV ?_ | ((fail_if_success (refine L_known rfl ?_)); refine yW (fun h => ?_) fun h => ?_)) | (apply gW; first | refine W_seq ?_ | refine W_region ?_ | refine W_ret ?_ | refine W_skip ?_ | refine W_cond1 rfl ?_ | refine W_cond0 rfl ?_ | refine cW (fun h => ?_) fun h => ?_) | (first | refine seqR.normal ?_ | refine seqR.ret ?_) | fail)
  apply L_call rfl rfl rfl rfl rfl
  · exact copyArena_p at_ at_ hl hx
  rintro _ _ ⟨gw, gwc, gws, gr, grc, grs, rfl, hgw, hgr, hwc, rfl⟩
  apply L_front2
  have hA1 : At (oU gw A.ws gws ++ (oV gr A.vs grs ++ H)) C.bw (wObj C A) := At.app (At.app hA)
  have hR1 : At (oU gw A.ws gws ++ (oV gr A.vs grs ++ H)) C.br (rObj C A) := At.app (At.app hR)
  cases hok : A.ok with
  | false =>
    rw [newTab_no (fun c => by rw [hok] at c; cases c.1)]
    repeat' (first | (apply gCall; apply L_call rfl rfl rfl rfl rfl; (· first | exact specArenaOkB_c hok at_ at_ hw hx | exact l2RootB_c hx | exact implArenaOkB_c hok at_ at_ hw hc hx | exact isRoot1Q_c hb at_ at_ hx); rintro _ _ ⟨rfl, rfl⟩) | (apply gL; first | refine L_nil ?_ | refine yS ?_ | refine yX fun _ => ?_ | refine yA fun _ => ?_ | (apply gSt; first | refine sR ?_ | refine sB ?_ | refine s1 ?_ | refine sW ?_ | refine sN ?_) | (apply gBs; first | (refine L_bs0 rfl rfl rfl rfl (fun _ => ?_)) | (refine L_bs1 rfl rfl rfl rfl rfl rfl rfl (fun _ => ?_))) | refine kV ?_ | ((fail_if_success (refine L_known rfl ?_)); refine yW (fun h => ?_) fun h => ?_)) | (apply gW; first | refine W_seq ?_ | refine W_region ?_ | refine W_ret ?_ | refine W_skip ?_ | refine W_cond1 rfl ?_ | refine W_cond0 rfl ?_ | refine cW (fun h => ?_) fun h => ?_) | (first | refine seqR.normal ?_ | refine seqR.ret ?_) | fail)
    exact retR.ret _ _ (retCT rfl rfl at_ (by rfl) rfl) cv_d3 ⟨gw, gwc, gws, gr, grc, grs, rfl, hgw, hgr, hwc, rfl⟩
  | true =>
    obtain ⟨m, hP⟩ := okP_of hok
    have hSI := okSI hP hw
    have hO := OldP.of_ok hP
    have hlen := hSI.ln
    have hse := hSI.se
    have hsr := hP.num.2.2.2.1
    cases hb : A.inR s with
    | false =>
      rw [newTab_no (fun c => by rw [hb] at c; cases c.2.1)]
      repeat' (first | exact absurd rfl h | first | (apply gCall; apply L_call rfl rfl rfl rfl rfl; (· first | exact specArenaOkB_c hok at_ at_ hw hx | exact l2RootB_c hx | exact implArenaOkB_c hok at_ at_ hw hc hx | exact isRoot1Q_c hb at_ at_ hx); rintro _ _ ⟨rfl, rfl⟩) | (apply gL; first | refine L_nil ?_ | refine yS ?_ | refine yX fun _ => ?_ | refine yA fun _ => ?_ | (apply gSt; first | refine sR ?_ | refine sB ?_ | refine s1 ?_ | refine sW ?_ | refine sN ?_) | (apply gBs; first | (refine L_bs0 rfl rfl rfl rfl (fun _ => ?_)) | (refine L_bs1 rfl rfl rfl rfl rfl rfl rfl (fun _ => ?_))) | refine kV ?_ | ((fail_if_success (refine L_known rfl ?_)); refine yW (fun h => ?_) fun h => ?_)) | (apply gW; first | refine W_seq ?_ | refine W_region ?_ | refine W_ret ?_ | refine W_skip ?_ | refine W_cond1 rfl ?_ | refine W_cond0 rfl ?_ | refine cW (fun h => ?_) fun h => ?_) | (first | refine seqR.normal ?_ | refine seqR.ret ?_) | fail)
      exact retR.ret _ _ (retCT rfl rfl at_ (by rfl) rfl) cvt_ ⟨gw, gwc, gws, gr, grc, grs, rfl, hgw, hgr, hwc, rfl⟩
    | true =>
      have hbs := inR_iff.1 hb
      obtain ⟨lc, vc⟩ := tabR_len hSI (s := s)
      rcases gw with _ | gw
      · rw [hgw rfl] at hlen; simp at hlen; omega
      rcases gr with _ | gr
      · rw [hgr rfl] at hbs; simp at hbs; omega
      simp only [oU, oV, ad, List.cons_append, List.nil_append] at hA1 hR1 ⊢
      by_cases hn9 : A.serial = 1000000000
      · rw [newTab_no (fun c => by have := c.2.2; omega)]
        repeat' (first | exact absurd rfl h | exact absurd hn9 h | first | (apply gCall; apply L_call rfl rfl rfl rfl rfl; (· first | exact specArenaOkB_c hok at_ at_ hw hx | exact l2RootB_c hx | exact implArenaOkB_c hok at_ at_ hw hc hx | exact isRoot1Q_c hb at_ at_ hx); rintro _ _ ⟨rfl, rfl⟩) | (apply gL; first | refine L_nil ?_ | refine yS ?_ | refine yX fun _ => ?_ | refine yA fun _ => ?_ | (apply gSt; first | refine sR ?_ | refine sB ?_ | refine s1 ?_ | refine sW ?_ | refine sN ?_) | (apply gBs; first | (refine L_bs0 rfl rfl rfl rfl (fun _ => ?_)) | (refine L_bs1 rfl rfl rfl rfl rfl rfl rfl (fun _ => ?_))) | refine kV ?_ | ((fail_if_success (refine L_known rfl ?_)); refine yW (fun h => ?_) fun h => ?_)) | (apply gW; first | refine W_seq ?_ | refine W_region ?_ | refine W_ret ?_ | refine W_skip ?_ | refine W_cond1 rfl ?_ | refine W_cond0 rfl ?_ | refine cW (fun h => ?_) fun h => ?_) | (first | refine seqR.normal ?_ | refine seqR.ret ?_) | fail)
        exact retR.ret _ _ (retCT rfl rfl at_ (by rfl) rfl) cvt_ ⟨some gw, gwc, gws, some gr, grc, grs, rfl, fun c => (by cases c), fun c => (by cases c), hwc, rfl⟩
      · have e : A.newTabR s = A.tabR s := by unfold Ar.newTabR; rw [if_pos ⟨hok, hb, by omega⟩]
        rw [e]
        repeat' (first | exact absurd rfl h | exact absurd h hn9 | ((fail_if_success apply gAtR 4); (first | (apply gCall; apply L_call rfl rfl rfl rfl rfl; (· first | exact specArenaOkB_c hok at_ at_ hw hx | exact l2RootB_c hx | exact implArenaOkB_c hok at_ at_ hw hc hx | exact isRoot1Q_c hb at_ at_ hx); rintro _ _ ⟨rfl, rfl⟩) | (apply gL; first | refine L_nil ?_ | refine yS ?_ | refine yX fun _ => ?_ | refine yA fun _ => ?_ | (apply gSt; first | refine sR ?_ | refine sB ?_ | refine s1 ?_ | refine sW ?_ | refine sN ?_) | (apply gBs; first | (refine L_bs0 rfl rfl rfl rfl (fun _ => ?_)) | (refine L_bs1 rfl rfl rfl rfl rfl rfl rfl (fun _ => ?_))) | refine kV ?_ | ((fail_if_success (refine L_known rfl ?_)); refine yW (fun h => ?_) fun h => ?_)) | (apply gW; first | refine W_seq ?_ | refine W_region ?_ | refine W_ret ?_ | refine W_skip ?_ | refine W_cond1 rfl ?_ | refine W_cond0 rfl ?_ | refine cW (fun h => ?_) fun h => ?_) | (first | refine seqR.normal ?_ | refine seqR.ret ?_) | fail)))
        repeat' (first | (apply gCall; apply L_call rfl rfl rfl rfl rfl; (· first | exact specArenaOkB_c hok at_ at_ hw hx | exact l2RootB_c hx | exact implArenaOkB_c hok at_ at_ hw hc hx | exact isRoot1Q_c hb at_ at_ hx); rintro _ _ ⟨rfl, rfl⟩) | (apply gL; first | refine L_nil ?_ | refine yS ?_ | refine yX fun _ => ?_ | refine yA fun _ => ?_ | (apply gSt; first | refine sR ?_ | refine sB ?_ | refine s1 ?_ | refine sW ?_ | refine sN ?_) | (apply gBs; first | (refine L_bs0 rfl rfl rfl rfl (fun _ => ?_)) | (refine L_bs1 rfl rfl rfl rfl rfl rfl rfl (fun _ => ?_))) | refine kV ?_ | ((fail_if_success (refine L_known rfl ?_)); refine yW (fun h => ?_) fun h => ?_)) | (apply gW; first | refine W_seq ?_ | refine W_region ?_ | refine W_ret ?_ | refine W_skip ?_ | refine W_cond1 rfl ?_ | refine W_cond0 rfl ?_ | refine cW (fun h => ?_) fun h => ?_) | (first | refine seqR.normal ?_ | refine seqR.ret ?_) | fail)
        apply L_call rfl rfl rfl rfl rfl
        · exact Fn.conv (Cv.take tk_ (Cv.take tk_ (Cv.take tk_ Cv.refl))) (itab_c (C := ⟨gw, gwc, gws, gr, grc, grs⟩) (rc := grc) (br := gr) (rsp := grs) hSI hO hx hwc (by omega) hbs)
        rintro _ _ ⟨rfl, rfl⟩
        repeat' (first | (apply gCall; apply L_call rfl rfl rfl rfl rfl; (· first | exact specArenaOkB_c hok at_ at_ hw hx | exact l2RootB_c hx | exact implArenaOkB_c hok at_ at_ hw hc hx | exact isRoot1Q_c hb at_ at_ hx); rintro _ _ ⟨rfl, rfl⟩) | (apply gL; first | refine L_nil ?_ | refine yS ?_ | refine yX fun _ => ?_ | refine yA fun _ => ?_ | (apply gSt; first | refine sR ?_ | refine sB ?_ | refine s1 ?_ | refine sW ?_ | refine sN ?_) | (apply gBs; first | (refine L_bs0 rfl rfl rfl rfl (fun _ => ?_)) | (refine L_bs1 rfl rfl rfl rfl rfl rfl rfl (fun _ => ?_))) | refine kV ?_ | ((fail_if_success (refine L_known rfl ?_)); refine yW (fun h => ?_) fun h => ?_)) | (apply gW; first | refine W_seq ?_ | refine W_region ?_ | refine W_ret ?_ | refine W_skip ?_ | refine W_cond1 rfl ?_ | refine W_cond0 rfl ?_ | refine cW (fun h => ?_) fun h => ?_) | (first | refine seqR.normal ?_ | refine seqR.ret ?_) | fail)
        exact retR.ret _ _ (retCT rfl rfl at_ (by rfl) rfl) cvt_ ⟨some gw, gwc, gws, some gr, grc, grs, rfl, fun c => (by cases c), fun c => (by cases c), by rw [lc]; exact hwc, rfl⟩
theorem newTabR_len {x0 : Int} (hw : Wf A.ws) : (A.newTabR x0).1.ws.length = A.ws.length ∧ (A.newTabR x0).1.vs.length = A.vs.length := by
  unfold Ar.newTabR; split
  · rename_i c
    obtain ⟨m, hP⟩ := okP_of c.1
    exact tabR_len (okSI hP hw)
  · exact ⟨rfl, rfl⟩
end Go.Proofs.YtepddopgmhdllaaGreat.Eng
