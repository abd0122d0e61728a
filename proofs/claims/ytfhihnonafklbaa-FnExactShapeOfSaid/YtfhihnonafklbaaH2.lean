/- The reference's nodes: l7Node. -/
import Derived.Test.YtfhihnonafklbaaH1
import Derived.Test.YtfhihnonafklbaaHN
namespace Go.Proofs.Ytfhihnonafklbaa.Eng
open Go Go.RowKit Go.Proofs.Ytfhihnonafklbaa.Sl Go.Proofs.Ytfhihnonafklbaa.Ar Go.Proofs.Ytfhihnonafklbaa.Base
set_option linter.unusedVariables false
set_option linter.unusedSimpArgs false
set_option maxRecDepth 10000
variable {w0 : World} {H : HL} {C : Cn} {A : Ar} {m : List Int}
set_option maxHeartbeats 4000000 in
theorem l7Node_c {bp : Nat} {sp : List Value} {P : List Int} {p : Int} {H1 : HL} (hA : At H1 C.bw (wObj C A)) (hw : Wf A.ws) (hm8 : A.ws.length ≤ 8000) (hO : OkP A m) (hp : MkO A m p) (hT : Tk H bp (.cells (rowA .i64 P sp) 3 (0, 0)) H1) (hP : Pls A m P) :
    Fn Try.prog w0 17 #[arV C A, .slice (some ⟨bp, 0, none⟩) P.length (P.length + List.length sp), .int .i64 p] H fun r H' => ∃ b' sp' bs c ssp, r = .tuple #[.slice (some ⟨b', 0, none⟩) (A.shN P p).1.length ((A.shN P p).1.length + List.length sp'), ndV (A.shN P p).2 bs c] ∧ NOk ((A.shN P p).2, ⟨bs, c, ssp⟩) ∧ H' = (b', .cells (rowA .i64 (A.shN P p).1 sp') 3 (0, 0)) :: (oV bs (A.shN P p).2.sl ssp ++ H1) := by
  have oF := hO.obF hp
  have hp0 := oF.p0
  have hpb := oF.hb
  have hr1 := oF.r1
  have hkr := oF.kr
  have hl130 := shL_len oF
  have hco := oF.co
  refine Fn.conv (Cv.take hT Cv.refl) ?_
  refine enter3 Try.func17 rfl rfl Try.ntmps17 rfl ?_
  repeat' ((fail_if_success apply gAtR 3); (first | (apply gCall; apply L_call rfl rfl rfl rfl rfl; (· first | exact l1Read_c at_ hw om om om | exact l2Look_c at_ hw om om | exact l4Text_c at_ hw om (oF.tx (by assumption)) | exact l2Word_c at_ hw om om om); rintro _ _ ⟨rfl, rfl⟩) | (apply gL; first | refine L_nil ?_ | refine yX fun _ => ?_ | refine yA fun _ => ?_ | (apply gSt; first | refine sR ?_ | refine sB ?_ | refine s1 ?_ | refine sW ?_ | refine sN ?_) | (apply gBs; first | (refine L_bs0 rfl rfl rfl rfl (fun _ => ?_)) | (refine L_bs1 rfl rfl rfl rfl rfl rfl rfl (fun _ => ?_))) | (apply gApp; apply L_appI rfl rfl rfl rfl rfl rfl; (· exact at_); (· exact tk_); (· rfl); (· omega); intro _ _) | refine kV ?_ | (apply L_val rfl rfl rfl; (· first | (apply gBin; first | fail ) | fail | (apply v_sliceH rfl rfl om om; done)))) | (apply gW; first | refine W_seq ?_ | refine W_region ?_ | refine W_ret ?_ | refine W_skip ?_ | refine W_block ?_ | refine W_exit ?_ | refine W_cond1 rfl ?_ | refine W_cond0 rfl ?_ | refine cW (fun h => ?_) fun h => ?_) | (first | refine seqR.normal ?_ | refine seqR.ret ?_ | refine seqR.exit ?_ | refine blockR.normal ?_ | refine blockR.ret ?_ | refine blockR.here ?_ | refine blockR.exit rfl ?_ | refine loopR.ret ?_ | refine loopR.exit ?_ | refine midA.ret ?_ | refine midA.exit ?_) | fail))
  repeat' (first | (apply gCall; apply L_call rfl rfl rfl rfl rfl; (· first | exact l1Read_c at_ hw om om om | exact l2Look_c at_ hw om om | exact l4Text_c at_ hw om (oF.tx (by assumption)) | exact l2Word_c at_ hw om om om); rintro _ _ ⟨rfl, rfl⟩) | (apply gL; first | refine L_nil ?_ | refine yX fun _ => ?_ | refine yA fun _ => ?_ | (apply gSt; first | refine sR ?_ | refine sB ?_ | refine s1 ?_ | refine sW ?_ | refine sN ?_) | (apply gBs; first | (refine L_bs0 rfl rfl rfl rfl (fun _ => ?_)) | (refine L_bs1 rfl rfl rfl rfl rfl rfl rfl (fun _ => ?_))) | (apply gApp; apply L_appI rfl rfl rfl rfl rfl rfl; (· exact at_); (· exact tk_); (· rfl); (· omega); intro _ _) | refine kV ?_ | (apply L_val rfl rfl rfl; (· first | (apply gBin; first | fail ) | fail | (apply v_sliceH rfl rfl om om; done)))) | (apply gW; first | refine W_seq ?_ | refine W_region ?_ | refine W_ret ?_ | refine W_skip ?_ | refine W_block ?_ | refine W_exit ?_ | refine W_cond1 rfl ?_ | refine W_cond0 rfl ?_ | refine cW (fun h => ?_) fun h => ?_) | (first | refine seqR.normal ?_ | refine seqR.ret ?_ | refine seqR.exit ?_ | refine blockR.normal ?_ | refine blockR.ret ?_ | refine blockR.here ?_ | refine blockR.exit rfl ?_ | refine loopR.ret ?_ | refine loopR.exit ?_ | refine midA.ret ?_ | refine midA.exit ?_) | fail)
  apply L_call rfl rfl rfl rfl rfl
  · exact Slots_c oF.sz
  rintro _ _ ⟨bL, spL, rfl, rfl⟩
  repeat' ((fail_if_success apply gAt 4); (first | (apply gCall; apply L_call rfl rfl rfl rfl rfl; (· first | exact l1Read_c at_ hw om om om | exact l2Look_c at_ hw om om | exact l4Text_c at_ hw om (oF.tx (by assumption)) | exact l2Word_c at_ hw om om om); rintro _ _ ⟨rfl, rfl⟩) | (apply gL; first | refine L_nil ?_ | refine yX fun _ => ?_ | refine yA fun _ => ?_ | (apply gSt; first | refine sR ?_ | refine sB ?_ | refine s1 ?_ | refine sW ?_ | refine sN ?_) | (apply gBs; first | (refine L_bs0 rfl rfl rfl rfl (fun _ => ?_)) | (refine L_bs1 rfl rfl rfl rfl rfl rfl rfl (fun _ => ?_))) | (apply gApp; apply L_appI rfl rfl rfl rfl rfl rfl; (· exact at_); (· exact tk_); (· rfl); (· omega); intro _ _) | refine kV ?_ | (apply L_val rfl rfl rfl; (· first | (apply gBin; first | fail ) | fail | (apply v_sliceH rfl rfl om om; done)))) | (apply gW; first | refine W_seq ?_ | refine W_region ?_ | refine W_ret ?_ | refine W_skip ?_ | refine W_block ?_ | refine W_exit ?_ | refine W_cond1 rfl ?_ | refine W_cond0 rfl ?_ | refine cW (fun h => ?_) fun h => ?_) | (first | refine seqR.normal ?_ | refine seqR.ret ?_ | refine seqR.exit ?_ | refine blockR.normal ?_ | refine blockR.ret ?_ | refine blockR.here ?_ | refine blockR.exit rfl ?_ | refine loopR.ret ?_ | refine loopR.exit ?_ | refine midA.ret ?_ | refine midA.exit ?_) | fail))
  rename_i b3 b7 b8 b9
  obtain ⟨N', eN⟩ : ∃ N', N' = (if rk (g A.ws p) = 2 ∨ rk (g A.ws p) = 4 ∨ rk (g A.ws p) = 6 then sg (g A.ws (p + 1)) else 0) := ⟨_, rfl⟩
  obtain ⟨M', eM⟩ : ∃ M', M' = (if rk (g A.ws p) = 6 then sg (g A.ws (p + 2)) else 0) := ⟨_, rfl⟩
  obtain ⟨T', eT⟩ : ∃ T', T' = (if rk (g A.ws p) = 1 then A.text p else []) := ⟨_, rfl⟩
  have eL : (A.shL p).length = if rk (g A.ws p) = 6 then (sg (g A.ws (p + 2)) + 1).toNat else (slots (rk (g A.ws p)) (rs (g A.ws p))).length := by
    unfold Ar.shL
    split
    · rw [List.length_take]; rename_i c; have := hco c; omega
    · rfl
  refine W_midA (α := Unit) (fun _ => [(1, .slice (some ⟨bp, 0, none⟩) P.length (P.length + List.length sp)), (2, .int .i64 p), (3, .pointer (some ⟨b3, 0, none⟩)), (7, .pointer (some ⟨b7, 0, none⟩)), (9, .pointer (some ⟨b9, 0, none⟩)), (10, .slice (some ⟨bL, 0, none⟩) (A.shL p).length ((slots (rk (g A.ws p)) (rs (g A.ws p))).length + List.length spL))]) (fun _ => (b9, .cells #[.int .i64 (rk (g A.ws p)), .int .i64 (rn (g A.ws p)), .int .i64 N', .int .i64 M', .string (strOfNums T'), .slice none 0 0] 50 (0, 0)) :: (bL, .cells (rowA .i64 (slots (rk (g A.ws p)) (rs (g A.ws p))) spL) 3 (0, 0)) :: (b3, aObj C A) :: (b7, .cells #[.int .i64 0, .int .i64 0, .int .i64 0, .int .i64 0, .string ByteArray.empty, .slice none 0 0] 50 (0, 0)) :: (bp, .cells (rowA .i64 P sp) 3 (0, 0)) :: H1) (fun _ => True) ?_ ?_
  · have h6 : rk (g A.ws p) = 1 ∨ rk (g A.ws p) = 2 ∨ rk (g A.ws p) = 3 ∨ rk (g A.ws p) = 4 ∨ rk (g A.ws p) = 5 ∨ rk (g A.ws p) = 6 := by omega
    have hz : strOfNums [] = ByteArray.empty := rfl
    rcases h6 with e | e | e | e | e | e
    all_goals (
      first
      | rw [if_neg (by omega)] at eN
      | rw [if_pos (by omega)] at eN
      first
      | rw [if_neg (by omega)] at eM eL
      | rw [if_pos e] at eM eL
      first
      | rw [if_pos e] at eT
      | (rw [if_neg (by omega)] at eT; rw [hz.symm.symm] at *)
      rw [eN, eM, eT, eL]
      repeat' (first | (exfalso; omega) | (apply gSt; apply L_stc rfl rfl rfl rfl rfl rfl; (· exact at_); (· simp only [List.set_cons_zero, List.set_cons_succ]; rfl); (· exact up_); (· rfl)) | first | (apply gCall; apply L_call rfl rfl rfl rfl rfl; (· first | exact l1Read_c at_ hw om om om | exact l2Look_c at_ hw om om | exact l4Text_c at_ hw om (oF.tx (by assumption)) | exact l2Word_c at_ hw om om om); rintro _ _ ⟨rfl, rfl⟩) | (apply gL; first | refine L_nil ?_ | refine yX fun _ => ?_ | refine yA fun _ => ?_ | (apply gSt; first | refine sR ?_ | refine sB ?_ | refine s1 ?_ | refine sW ?_ | refine sN ?_) | (apply gBs; first | (refine L_bs0 rfl rfl rfl rfl (fun _ => ?_)) | (refine L_bs1 rfl rfl rfl rfl rfl rfl rfl (fun _ => ?_))) | (apply gApp; apply L_appI rfl rfl rfl rfl rfl rfl; (· exact at_); (· exact tk_); (· rfl); (· omega); intro _ _) | refine kV ?_ | (apply L_val rfl rfl rfl; (· first | (apply gBin; first | fail ) | fail | (apply v_sliceH rfl rfl om om; done)))) | (apply gW; first | refine W_seq ?_ | refine W_region ?_ | refine W_ret ?_ | refine W_skip ?_ | refine W_block ?_ | refine W_exit ?_ | refine W_cond1 rfl ?_ | refine W_cond0 rfl ?_ | refine cW (fun h => ?_) fun h => ?_) | (first | refine seqR.normal ?_ | refine seqR.ret ?_ | refine seqR.exit ?_ | refine blockR.normal ?_ | refine blockR.ret ?_ | refine blockR.here ?_ | refine blockR.exit rfl ?_ | refine loopR.ret ?_ | refine loopR.exit ?_ | refine midA.ret ?_ | refine midA.exit ?_) | fail)
      apply midA.mk ()
      · exact sub_
      · exact cvt_
      · trivial)
  rintro - -
  repeat' (first | (apply gCall; apply L_call rfl rfl rfl rfl rfl; (· first | exact l1Read_c at_ hw om om om | exact l2Look_c at_ hw om om | exact l4Text_c at_ hw om (oF.tx (by assumption)) | exact l2Word_c at_ hw om om om); rintro _ _ ⟨rfl, rfl⟩) | (apply gL; first | refine L_nil ?_ | refine yX fun _ => ?_ | refine yA fun _ => ?_ | (apply gSt; first | refine sR ?_ | refine sB ?_ | refine s1 ?_ | refine sW ?_ | refine sN ?_) | (apply gBs; first | (refine L_bs0 rfl rfl rfl rfl (fun _ => ?_)) | (refine L_bs1 rfl rfl rfl rfl rfl rfl rfl (fun _ => ?_))) | (apply gApp; apply L_appI rfl rfl rfl rfl rfl rfl; (· exact at_); (· exact tk_); (· rfl); (· omega); intro _ _) | refine kV ?_ | (apply L_val rfl rfl rfl; (· first | (apply gBin; first | fail ) | fail | (apply v_sliceH rfl rfl om om; done)))) | (apply gW; first | refine W_seq ?_ | refine W_region ?_ | refine W_ret ?_ | refine W_skip ?_ | refine W_block ?_ | refine W_exit ?_ | refine W_cond1 rfl ?_ | refine W_cond0 rfl ?_ | refine cW (fun h => ?_) fun h => ?_) | (first | refine seqR.normal ?_ | refine seqR.ret ?_ | refine seqR.exit ?_ | refine blockR.normal ?_ | refine blockR.ret ?_ | refine blockR.here ?_ | refine blockR.exit rfl ?_ | refine loopR.ret ?_ | refine loopR.exit ?_ | refine midA.ret ?_ | refine midA.exit ?_) | fail)
  apply W_loopX (α := Int × List Int × List (Int × Int) × Nat × List Value × Option Nat × Nat × List Value) (fun y => [(1, .slice (some ⟨y.2.2.2.1, 0, none⟩) y.2.1.length (y.2.1.length + List.length y.2.2.2.2.1)), (2, .int .i64 p), (3, .pointer (some ⟨b3, 0, none⟩)), (7, .pointer (some ⟨b7, 0, none⟩)), (9, .pointer (some ⟨b9, 0, none⟩)), (10, .slice (some ⟨bL, 0, none⟩) (A.shL p).length ((slots (rk (g A.ws p)) (rs (g A.ws p))).length + List.length spL)), (11, .int .i64 y.1)])
    (fun y => (b9, .cells #[.int .i64 (rk (g A.ws p)), .int .i64 (rn (g A.ws p)), .int .i64 N', .int .i64 M', .string (strOfNums T'), .slice (ad y.2.2.2.2.2.1) y.2.2.1.length y.2.2.2.2.2.2.1] 50 (0, 0)) :: (bL, .cells (rowA .i64 (slots (rk (g A.ws p)) (rs (g A.ws p))) spL) 3 (0, 0)) :: (b3, aObj C A) :: (b7, .cells #[.int .i64 0, .int .i64 0, .int .i64 0, .int .i64 0, .string ByteArray.empty, .slice none 0 0] 50 (0, 0)) :: (y.2.2.2.1, .cells (rowA .i64 y.2.1 y.2.2.2.2.1) 3 (0, 0)) :: (oV y.2.2.2.2.2.1 y.2.2.1 y.2.2.2.2.2.2.2 ++ H1))
    (fun y => (0 ≤ y.1 ∧ y.1 ≤ (A.shL p).length) ∧ (y.2.2.1.length : Int) = y.1 ∧ Pls A m y.2.1 ∧ RowK 2 y.2.2.2.2.2.1 y.2.2.1.length y.2.2.2.2.2.2.1 (flat y.2.2.1) y.2.2.2.2.2.2.2 ∧ A.shS p ((A.shL p).drop y.1.toNat) (y.2.1, y.2.2.1) = A.shS p (A.shL p) (P, [])) (fun y => ((A.shL p).length - y.1).toNat) (0, P, [], bp, sp, none, 0, [])
  · exact sub_
  · exact cvt_
  · exact ⟨⟨by dsimp only; omega, by dsimp only; omega⟩, rfl, hP, RowK.zero, rfl⟩
  rintro ⟨i, Q, out, bq, sq, bs, c, ssp⟩ ⟨⟨hi, hi2⟩, ho, hQ, hR, hS⟩
  dsimp only at hi hi2 ho hQ hR hS ⊢
  have hQl := hQ.le
  have hA1 : At (oV bs out ssp ++ H1) C.bw (wObj C A) := At.app hA
  by_cases hlt : i < ((A.shL p).length : Int)
  · obtain ⟨eg, hgl⟩ := shL_get hi hlt
    obtain ⟨v1, v2, v3, v4⟩ := hO.vSlot hp hi hlt
    rw [shS_step hi hlt] at hS
    rw [← eg] at v1 v2 v3 v4 hS
    generalize hgs : g (slots (rk (g A.ws p)) (rs (g A.ws p))) i = gs at *
    repeat' (first | exact absurd hlt h | ((fail_if_success apply gAtR 17); (first | (apply gCall; apply L_call rfl rfl rfl rfl rfl; (· first | exact l1Read_c at_ hw om om om | exact l2Look_c at_ hw om om | exact l4Text_c at_ hw om (oF.tx (by assumption)) | exact l2Word_c at_ hw om om om); rintro _ _ ⟨rfl, rfl⟩) | (apply gL; first | refine L_nil ?_ | refine yX fun _ => ?_ | refine yA fun _ => ?_ | (apply gSt; first | refine sR ?_ | refine sB ?_ | refine s1 ?_ | refine sW ?_ | refine sN ?_) | (apply gBs; first | (refine L_bs0 rfl rfl rfl rfl (fun _ => ?_)) | (refine L_bs1 rfl rfl rfl rfl rfl rfl rfl (fun _ => ?_))) | (apply gApp; apply L_appI rfl rfl rfl rfl rfl rfl; (· exact at_); (· exact tk_); (· rfl); (· omega); intro _ _) | refine kV ?_ | (apply L_val rfl rfl rfl; (· first | (apply gBin; first | fail ) | fail | (apply v_sliceH rfl rfl om om; done)))) | (apply gW; first | refine W_seq ?_ | refine W_region ?_ | refine W_ret ?_ | refine W_skip ?_ | refine W_block ?_ | refine W_exit ?_ | refine W_cond1 rfl ?_ | refine W_cond0 rfl ?_ | refine cW (fun h => ?_) fun h => ?_) | (first | refine seqR.normal ?_ | refine seqR.ret ?_ | refine seqR.exit ?_ | refine blockR.normal ?_ | refine blockR.ret ?_ | refine blockR.here ?_ | refine blockR.exit rfl ?_ | refine loopR.ret ?_ | refine loopR.exit ?_ | refine midA.ret ?_ | refine midA.exit ?_) | fail)))
    refine W_midA (α := Nat) (fun b12 => [(1, .slice (some ⟨bq, 0, none⟩) Q.length (Q.length + List.length sq)), (2, .int .i64 p), (3, .pointer (some ⟨b3, 0, none⟩)), (7, .pointer (some ⟨b7, 0, none⟩)), (9, .pointer (some ⟨b9, 0, none⟩)), (10, .slice (some ⟨bL, 0, none⟩) (A.shL p).length ((slots (rk (g A.ws p)) (rs (g A.ws p))).length + List.length spL)), (11, .int .i64 i), (12, .pointer (some ⟨b12, 0, none⟩))]) (fun b12 => (b12, .cells #[.int .i64 (rvT A.ws (p + gs)), .int .i64 (rvN A.ws (p + gs))] 46 (0, 0)) :: (b9, .cells #[.int .i64 (rk (g A.ws p)), .int .i64 (rn (g A.ws p)), .int .i64 N', .int .i64 M', .string (strOfNums T'), .slice (ad bs) out.length c] 50 (0, 0)) :: (bL, .cells (rowA .i64 (slots (rk (g A.ws p)) (rs (g A.ws p))) spL) 3 (0, 0)) :: (b3, aObj C A) :: (b7, .cells #[.int .i64 0, .int .i64 0, .int .i64 0, .int .i64 0, .string ByteArray.empty, .slice none 0 0] 50 (0, 0)) :: (bq, .cells (rowA .i64 Q sq) 3 (0, 0)) :: (oV bs out ssp ++ H1)) (fun _ => True) ?_ ?_
    · apply W_regionA (D := (b3, aObj C A) :: (bL, .cells (rowA .i64 (slots (rk (g A.ws p)) (rs (g A.ws p))) spL) 3 (0, 0)) :: (oV bs out ssp ++ H1)) (by kernel_rfl)
      refine kAt 0 ?_
      refine kAt 1 ?_
      refine kAt 2 ?_
      refine kAt 3 ?_
      refine kAt 4 ?_
      refine kAt 5 ?_
      refine kAt 6 ?_
      rw [hgs]
      refine kAt 7 ?_
      refine A_two (i := 8) (j := 12) (by kernel_rfl) cvt_ rfl rfl ?_ ?_
      · refine O_of_L fun S hS => ?_
        first | (apply gCall; apply L_call rfl rfl rfl rfl rfl; (· first | exact l1Read_c at_ hw om om om | exact l2Look_c at_ hw om om | exact l4Text_c at_ hw om (oF.tx (by assumption)) | exact l2Word_c at_ hw om om om); rintro _ _ ⟨rfl, rfl⟩) | (apply gL; first | refine L_nil ?_ | refine yX fun _ => ?_ | refine yA fun _ => ?_ | (apply gSt; first | refine sR ?_ | refine sB ?_ | refine s1 ?_ | refine sW ?_ | refine sN ?_) | (apply gBs; first | (refine L_bs0 rfl rfl rfl rfl (fun _ => ?_)) | (refine L_bs1 rfl rfl rfl rfl rfl rfl rfl (fun _ => ?_))) | (apply gApp; apply L_appI rfl rfl rfl rfl rfl rfl; (· exact at_); (· exact tk_); (· rfl); (· omega); intro _ _) | refine kV ?_ | (apply L_val rfl rfl rfl; (· first | (apply gBin; first | fail ) | fail | (apply v_sliceH rfl rfl om om; done))))
        refine L_nil (hS _ _ ?_)
        clear hS
        refine kAt 9 ?_
        refine kAt 10 ?_
        refine kAt 11 ?_
        refine A_one (i := 12) (by kernel_rfl) cvt_ rfl ?_
        refine O_of_L fun S hS => ?_
        first | (apply gCall; apply L_call rfl rfl rfl rfl rfl; (· first | exact l1Read_c at_ hw om om om | exact l2Look_c at_ hw om om | exact l4Text_c at_ hw om (oF.tx (by assumption)) | exact l2Word_c at_ hw om om om); rintro _ _ ⟨rfl, rfl⟩) | (apply gL; first | refine L_nil ?_ | refine yX fun _ => ?_ | refine yA fun _ => ?_ | (apply gSt; first | refine sR ?_ | refine sB ?_ | refine s1 ?_ | refine sW ?_ | refine sN ?_) | (apply gBs; first | (refine L_bs0 rfl rfl rfl rfl (fun _ => ?_)) | (refine L_bs1 rfl rfl rfl rfl rfl rfl rfl (fun _ => ?_))) | (apply gApp; apply L_appI rfl rfl rfl rfl rfl rfl; (· exact at_); (· exact tk_); (· rfl); (· omega); intro _ _) | refine kV ?_ | (apply L_val rfl rfl rfl; (· first | (apply gBin; first | fail ) | fail | (apply v_sliceH rfl rfl om om; done))))
        refine L_nil (hS _ _ ?_)
        clear hS
        refine A_one (i := 13) (by kernel_rfl) cvt_ rfl (O_of_L fun S hS => ?_)
        first | (apply gCall; apply L_call rfl rfl rfl rfl rfl; (· first | exact l1Read_c at_ hw om om om | exact l2Look_c at_ hw om om | exact l4Text_c at_ hw om (oF.tx (by assumption)) | exact l2Word_c at_ hw om om om); rintro _ _ ⟨rfl, rfl⟩) | (apply gL; first | refine L_nil ?_ | refine yX fun _ => ?_ | refine yA fun _ => ?_ | (apply gSt; first | refine sR ?_ | refine sB ?_ | refine s1 ?_ | refine sW ?_ | refine sN ?_) | (apply gBs; first | (refine L_bs0 rfl rfl rfl rfl (fun _ => ?_)) | (refine L_bs1 rfl rfl rfl rfl rfl rfl rfl (fun _ => ?_))) | (apply gApp; apply L_appI rfl rfl rfl rfl rfl rfl; (· exact at_); (· exact tk_); (· rfl); (· omega); intro _ _) | refine kV ?_ | (apply L_val rfl rfl rfl; (· first | (apply gBin; first | fail ) | fail | (apply v_sliceH rfl rfl om om; done))))
        refine L_nil (hS _ _ ?_)
        clear hS
        refine kAt 14 ?_
        refine A_nil (by kernel_rfl) cvt_ ?_
        apply midA.mk _
        · exact sub_
        · exact cvt_
        · trivial
      · refine O_of_L fun S hS => ?_
        first | (apply gCall; apply L_call rfl rfl rfl rfl rfl; (· first | exact l1Read_c at_ hw om om om | exact l2Look_c at_ hw om om | exact l4Text_c at_ hw om (oF.tx (by assumption)) | exact l2Word_c at_ hw om om om); rintro _ _ ⟨rfl, rfl⟩) | (apply gL; first | refine L_nil ?_ | refine yX fun _ => ?_ | refine yA fun _ => ?_ | (apply gSt; first | refine sR ?_ | refine sB ?_ | refine s1 ?_ | refine sW ?_ | refine sN ?_) | (apply gBs; first | (refine L_bs0 rfl rfl rfl rfl (fun _ => ?_)) | (refine L_bs1 rfl rfl rfl rfl rfl rfl rfl (fun _ => ?_))) | (apply gApp; apply L_appI rfl rfl rfl rfl rfl rfl; (· exact at_); (· exact tk_); (· rfl); (· omega); intro _ _) | refine kV ?_ | (apply L_val rfl rfl rfl; (· first | (apply gBin; first | fail ) | fail | (apply v_sliceH rfl rfl om om; done))))
        refine L_nil (hS _ _ ?_)
        clear hS
        refine A_one (i := 8) (by kernel_rfl) cvt_ rfl ?_
        refine O_of_L fun S hS => ?_
        first | (apply gCall; apply L_call rfl rfl rfl rfl rfl; (· first | exact l1Read_c at_ hw om om om | exact l2Look_c at_ hw om om | exact l4Text_c at_ hw om (oF.tx (by assumption)) | exact l2Word_c at_ hw om om om); rintro _ _ ⟨rfl, rfl⟩) | (apply gL; first | refine L_nil ?_ | refine yX fun _ => ?_ | refine yA fun _ => ?_ | (apply gSt; first | refine sR ?_ | refine sB ?_ | refine s1 ?_ | refine sW ?_ | refine sN ?_) | (apply gBs; first | (refine L_bs0 rfl rfl rfl rfl (fun _ => ?_)) | (refine L_bs1 rfl rfl rfl rfl rfl rfl rfl (fun _ => ?_))) | (apply gApp; apply L_appI rfl rfl rfl rfl rfl rfl; (· exact at_); (· exact tk_); (· rfl); (· omega); intro _ _) | refine kV ?_ | (apply L_val rfl rfl rfl; (· first | (apply gBin; first | fail ) | fail | (apply v_sliceH rfl rfl om om; done))))
        refine L_nil (hS _ _ ?_)
        clear hS
        refine kAt 9 ?_
        refine kAt 10 ?_
        refine kAt 11 ?_
        refine A_one (i := 13) (by kernel_rfl) cvt_ rfl (O_of_L fun S hS => ?_)
        first | (apply gCall; apply L_call rfl rfl rfl rfl rfl; (· first | exact l1Read_c at_ hw om om om | exact l2Look_c at_ hw om om | exact l4Text_c at_ hw om (oF.tx (by assumption)) | exact l2Word_c at_ hw om om om); rintro _ _ ⟨rfl, rfl⟩) | (apply gL; first | refine L_nil ?_ | refine yX fun _ => ?_ | refine yA fun _ => ?_ | (apply gSt; first | refine sR ?_ | refine sB ?_ | refine s1 ?_ | refine sW ?_ | refine sN ?_) | (apply gBs; first | (refine L_bs0 rfl rfl rfl rfl (fun _ => ?_)) | (refine L_bs1 rfl rfl rfl rfl rfl rfl rfl (fun _ => ?_))) | (apply gApp; apply L_appI rfl rfl rfl rfl rfl rfl; (· exact at_); (· exact tk_); (· rfl); (· omega); intro _ _) | refine kV ?_ | (apply L_val rfl rfl rfl; (· first | (apply gBin; first | fail ) | fail | (apply v_sliceH rfl rfl om om; done))))
        refine L_nil (hS _ _ ?_)
        clear hS
        refine kAt 14 ?_
        refine A_nil (by kernel_rfl) cvt_ ?_
        apply midA.mk _
        · exact sub_
        · exact cvt_
        · trivial
    rintro b12 -
    repeat' ((fail_if_success apply gAtR 19); (first | (apply gCall; apply L_call rfl rfl rfl rfl rfl; (· first | exact l1Read_c at_ hw om om om | exact l2Look_c at_ hw om om | exact l4Text_c at_ hw om (oF.tx (by assumption)) | exact l2Word_c at_ hw om om om); rintro _ _ ⟨rfl, rfl⟩) | (apply gL; first | refine L_nil ?_ | refine yX fun _ => ?_ | refine yA fun _ => ?_ | (apply gSt; first | refine sR ?_ | refine sB ?_ | refine s1 ?_ | refine sW ?_ | refine sN ?_) | (apply gBs; first | (refine L_bs0 rfl rfl rfl rfl (fun _ => ?_)) | (refine L_bs1 rfl rfl rfl rfl rfl rfl rfl (fun _ => ?_))) | (apply gApp; apply L_appI rfl rfl rfl rfl rfl rfl; (· exact at_); (· exact tk_); (· rfl); (· omega); intro _ _) | refine kV ?_ | (apply L_val rfl rfl rfl; (· first | (apply gBin; first | fail ) | fail | (apply v_sliceH rfl rfl om om; done)))) | (apply gW; first | refine W_seq ?_ | refine W_region ?_ | refine W_ret ?_ | refine W_skip ?_ | refine W_block ?_ | refine W_exit ?_ | refine W_cond1 rfl ?_ | refine W_cond0 rfl ?_ | refine cW (fun h => ?_) fun h => ?_) | (first | refine seqR.normal ?_ | refine seqR.ret ?_ | refine seqR.exit ?_ | refine blockR.normal ?_ | refine blockR.ret ?_ | refine blockR.here ?_ | refine blockR.exit rfl ?_ | refine loopR.ret ?_ | refine loopR.exit ?_ | refine midA.ret ?_ | refine midA.exit ?_) | fail))
    repeat' (first | (apply gCall; apply L_call rfl rfl rfl rfl rfl; (· first | exact l1Read_c at_ hw om om om | exact l2Look_c at_ hw om om | exact l4Text_c at_ hw om (oF.tx (by assumption)) | exact l2Word_c at_ hw om om om); rintro _ _ ⟨rfl, rfl⟩) | (apply gL; first | refine L_nil ?_ | refine yX fun _ => ?_ | refine yA fun _ => ?_ | (apply gSt; first | refine sR ?_ | refine sB ?_ | refine s1 ?_ | refine sW ?_ | refine sN ?_) | (apply gBs; first | (refine L_bs0 rfl rfl rfl rfl (fun _ => ?_)) | (refine L_bs1 rfl rfl rfl rfl rfl rfl rfl (fun _ => ?_))) | (apply gApp; apply L_appI rfl rfl rfl rfl rfl rfl; (· exact at_); (· exact tk_); (· rfl); (· omega); intro _ _) | refine kV ?_ | (apply L_val rfl rfl rfl; (· first | (apply gBin; first | fail ) | fail | (apply v_sliceH rfl rfl om om; done)))) | (apply gW; first | refine W_seq ?_ | refine W_region ?_ | refine W_ret ?_ | refine W_skip ?_ | refine W_block ?_ | refine W_exit ?_ | refine W_cond1 rfl ?_ | refine W_cond0 rfl ?_ | refine cW (fun h => ?_) fun h => ?_) | (first | refine seqR.normal ?_ | refine seqR.ret ?_ | refine seqR.exit ?_ | refine blockR.normal ?_ | refine blockR.ret ?_ | refine blockR.here ?_ | refine blockR.exit rfl ?_ | refine loopR.ret ?_ | refine loopR.exit ?_ | refine midA.ret ?_ | refine midA.exit ?_) | fail)
    apply L_call rfl rfl rfl rfl rfl
    · refine l7Val_c (v := (rvT A.ws (p + gs), rvN A.ws (p + gs))) ?_ hw hm8 v1 tk_ hQ
      exact at_
    rintro _ _ ⟨bq', sq', rfl, rfl⟩
    have hQ' : Pls A m (A.shV Q (rvT A.ws (p + gs), rvN A.ws (p + gs))).1 := hQ.v v1
    generalize hV : A.shV Q (rvT A.ws (p + gs), rvN A.ws (p + gs)) = V at *
    obtain ⟨Q', t', n'⟩ := V
    dsimp only at hS hQ' ⊢
    repeat' (first | (apply gSt; apply L_stc rfl rfl rfl rfl rfl rfl; (· exact at_); (· simp only [List.set_cons_zero, List.set_cons_succ]; rfl); (· exact up_); (· rfl)) | first | (apply gCall; apply L_call rfl rfl rfl rfl rfl; (· first | exact l1Read_c at_ hw om om om | exact l2Look_c at_ hw om om | exact l4Text_c at_ hw om (oF.tx (by assumption)) | exact l2Word_c at_ hw om om om); rintro _ _ ⟨rfl, rfl⟩) | (apply gL; first | refine L_nil ?_ | refine yX fun _ => ?_ | refine yA fun _ => ?_ | (apply gSt; first | refine sR ?_ | refine sB ?_ | refine s1 ?_ | refine sW ?_ | refine sN ?_) | (apply gBs; first | (refine L_bs0 rfl rfl rfl rfl (fun _ => ?_)) | (refine L_bs1 rfl rfl rfl rfl rfl rfl rfl (fun _ => ?_))) | (apply gApp; apply L_appI rfl rfl rfl rfl rfl rfl; (· exact at_); (· exact tk_); (· rfl); (· omega); intro _ _) | refine kV ?_ | (apply L_val rfl rfl rfl; (· first | (apply gBin; first | fail ) | fail | (apply v_sliceH rfl rfl om om; done)))) | (apply gW; first | refine W_seq ?_ | refine W_region ?_ | refine W_ret ?_ | refine W_skip ?_ | refine W_block ?_ | refine W_exit ?_ | refine W_cond1 rfl ?_ | refine W_cond0 rfl ?_ | refine cW (fun h => ?_) fun h => ?_) | (first | refine seqR.normal ?_ | refine seqR.ret ?_ | refine seqR.exit ?_ | refine blockR.normal ?_ | refine blockR.ret ?_ | refine blockR.here ?_ | refine blockR.exit rfl ?_ | refine loopR.ret ?_ | refine loopR.exit ?_ | refine midA.ret ?_ | refine midA.exit ?_) | fail)
    (apply gBs; refine L_bs1K rfl rfl rfl rfl rfl rfl (by rfl) (by rfl) (by rfl) fun _ => ?_)
    (apply gApp; refine L_appV rfl rfl rfl rfl rfl rfl (by (repeat (first | exact TkG.here | apply TkG.there))) at_ (by rfl) hR om (by rfl) fun _ _ _ hR' => ?_)
    repeat' (first | (apply gSt; apply L_stc rfl rfl rfl rfl rfl rfl; (· exact at_); (· simp only [List.set_cons_zero, List.set_cons_succ]; rfl); (· exact up_); (· rfl)) | first | (apply gCall; apply L_call rfl rfl rfl rfl rfl; (· first | exact l1Read_c at_ hw om om om | exact l2Look_c at_ hw om om | exact l4Text_c at_ hw om (oF.tx (by assumption)) | exact l2Word_c at_ hw om om om); rintro _ _ ⟨rfl, rfl⟩) | (apply gL; first | refine L_nil ?_ | refine yX fun _ => ?_ | refine yA fun _ => ?_ | (apply gSt; first | refine sR ?_ | refine sB ?_ | refine s1 ?_ | refine sW ?_ | refine sN ?_) | (apply gBs; first | (refine L_bs0 rfl rfl rfl rfl (fun _ => ?_)) | (refine L_bs1 rfl rfl rfl rfl rfl rfl rfl (fun _ => ?_))) | (apply gApp; apply L_appI rfl rfl rfl rfl rfl rfl; (· exact at_); (· exact tk_); (· rfl); (· omega); intro _ _) | refine kV ?_ | (apply L_val rfl rfl rfl; (· first | (apply gBin; first | fail ) | fail | (apply v_sliceH rfl rfl om om; done)))) | (apply gW; first | refine W_seq ?_ | refine W_region ?_ | refine W_ret ?_ | refine W_skip ?_ | refine W_block ?_ | refine W_exit ?_ | refine W_cond1 rfl ?_ | refine W_cond0 rfl ?_ | refine cW (fun h => ?_) fun h => ?_) | (first | refine seqR.normal ?_ | refine seqR.ret ?_ | refine seqR.exit ?_ | refine blockR.normal ?_ | refine blockR.ret ?_ | refine blockR.here ?_ | refine blockR.exit rfl ?_ | refine loopR.ret ?_ | refine loopR.exit ?_ | refine midA.ret ?_ | refine midA.exit ?_) | fail)
    rename_i b' c' sp'
    apply loopR.mk (i + 1, Q', out ++ [(t', n')], bq', sq', some b', c', sp')
    · exact sub_
    · dsimp only [oV, ad, List.cons_append, List.nil_append]
      exact cvt_
    · exact ⟨⟨by dsimp only; omega, by dsimp only; omega⟩, by simp; omega, hQ', hR', hS⟩
    · dsimp only; omega
  · rw [shS_end (by omega)] at hS
    have e1 : A.shN P p = (Q, ⟨rk (g A.ws p), rn (g A.ws p), N', M', T', out⟩) := by
      unfold Ar.shN; rw [← hS, ← eN, ← eM, ← eT]
    rw [e1]
    dsimp only
    repeat' (first | exact absurd h hlt | first | (apply gCall; apply L_call rfl rfl rfl rfl rfl; (· first | exact l1Read_c at_ hw om om om | exact l2Look_c at_ hw om om | exact l4Text_c at_ hw om (oF.tx (by assumption)) | exact l2Word_c at_ hw om om om); rintro _ _ ⟨rfl, rfl⟩) | (apply gL; first | refine L_nil ?_ | refine yX fun _ => ?_ | refine yA fun _ => ?_ | (apply gSt; first | refine sR ?_ | refine sB ?_ | refine s1 ?_ | refine sW ?_ | refine sN ?_) | (apply gBs; first | (refine L_bs0 rfl rfl rfl rfl (fun _ => ?_)) | (refine L_bs1 rfl rfl rfl rfl rfl rfl rfl (fun _ => ?_))) | (apply gApp; apply L_appI rfl rfl rfl rfl rfl rfl; (· exact at_); (· exact tk_); (· rfl); (· omega); intro _ _) | refine kV ?_ | (apply L_val rfl rfl rfl; (· first | (apply gBin; first | fail ) | fail | (apply v_sliceH rfl rfl om om; done)))) | (apply gW; first | refine W_seq ?_ | refine W_region ?_ | refine W_ret ?_ | refine W_skip ?_ | refine W_block ?_ | refine W_exit ?_ | refine W_cond1 rfl ?_ | refine W_cond0 rfl ?_ | refine cW (fun h => ?_) fun h => ?_) | (first | refine seqR.normal ?_ | refine seqR.ret ?_ | refine seqR.exit ?_ | refine blockR.normal ?_ | refine blockR.ret ?_ | refine blockR.here ?_ | refine blockR.exit rfl ?_ | refine loopR.ret ?_ | refine loopR.exit ?_ | refine midA.ret ?_ | refine midA.exit ?_) | fail)
    apply W_regionA (D := (b9, .cells #[.int .i64 (rk (g A.ws p)), .int .i64 (rn (g A.ws p)), .int .i64 N', .int .i64 M', .string (strOfNums T'), .slice (ad bs) out.length c] 50 (0, 0)) :: (oV bs out ssp ++ H1)) (by kernel_rfl)
    refine kAt 0 ?_
    refine kAt 1 ?_
    refine kAt 2 ?_
    refine A_one (i := 3) (by kernel_rfl) cvt_ rfl (O_of_L fun S hS => ?_)
    first | (apply gCall; apply L_call rfl rfl rfl rfl rfl; (· first | exact l1Read_c at_ hw om om om | exact l2Look_c at_ hw om om | exact l4Text_c at_ hw om (oF.tx (by assumption)) | exact l2Word_c at_ hw om om om); rintro _ _ ⟨rfl, rfl⟩) | (apply gL; first | refine L_nil ?_ | refine yX fun _ => ?_ | refine yA fun _ => ?_ | (apply gSt; first | refine sR ?_ | refine sB ?_ | refine s1 ?_ | refine sW ?_ | refine sN ?_) | (apply gBs; first | (refine L_bs0 rfl rfl rfl rfl (fun _ => ?_)) | (refine L_bs1 rfl rfl rfl rfl rfl rfl rfl (fun _ => ?_))) | (apply gApp; apply L_appI rfl rfl rfl rfl rfl rfl; (· exact at_); (· exact tk_); (· rfl); (· omega); intro _ _) | refine kV ?_ | (apply L_val rfl rfl rfl; (· first | (apply gBin; first | fail ) | fail | (apply v_sliceH rfl rfl om om; done))))
    refine L_nil (hS _ _ ?_)
    clear hS
    refine A_nil (by kernel_rfl) cvt_ ?_
    repeat' (first | (apply gCall; apply L_call rfl rfl rfl rfl rfl; (· first | exact l1Read_c at_ hw om om om | exact l2Look_c at_ hw om om | exact l4Text_c at_ hw om (oF.tx (by assumption)) | exact l2Word_c at_ hw om om om); rintro _ _ ⟨rfl, rfl⟩) | (apply gL; first | refine L_nil ?_ | refine yX fun _ => ?_ | refine yA fun _ => ?_ | (apply gSt; first | refine sR ?_ | refine sB ?_ | refine s1 ?_ | refine sW ?_ | refine sN ?_) | (apply gBs; first | (refine L_bs0 rfl rfl rfl rfl (fun _ => ?_)) | (refine L_bs1 rfl rfl rfl rfl rfl rfl rfl (fun _ => ?_))) | (apply gApp; apply L_appI rfl rfl rfl rfl rfl rfl; (· exact at_); (· exact tk_); (· rfl); (· omega); intro _ _) | refine kV ?_ | (apply L_val rfl rfl rfl; (· first | (apply gBin; first | fail ) | fail | (apply v_sliceH rfl rfl om om; done)))) | (apply gW; first | refine W_seq ?_ | refine W_region ?_ | refine W_ret ?_ | refine W_skip ?_ | refine W_block ?_ | refine W_exit ?_ | refine W_cond1 rfl ?_ | refine W_cond0 rfl ?_ | refine cW (fun h => ?_) fun h => ?_) | (first | refine seqR.normal ?_ | refine seqR.ret ?_ | refine seqR.exit ?_ | refine blockR.normal ?_ | refine blockR.ret ?_ | refine blockR.here ?_ | refine blockR.exit rfl ?_ | refine loopR.ret ?_ | refine loopR.exit ?_ | refine midA.ret ?_ | refine midA.exit ?_) | fail)
    exact retR.ret _ _ (retTC rfl rfl rfl at_ (by rfl)) cvt_ ⟨bq, sq, bs, c, ssp, rfl, fun e => (hR.nil e).1 |> List.eq_nil_of_length_eq_zero, rfl⟩
end Go.Proofs.Ytfhihnonafklbaa.Eng
