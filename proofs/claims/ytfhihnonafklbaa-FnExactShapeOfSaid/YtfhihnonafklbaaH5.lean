/- The implementation's nodes: (*shaper).node. -/
import Derived.Test.YtfhihnonafklbaaH4
namespace Go.Proofs.Ytfhihnonafklbaa.Eng
open Go Go.RowKit Go.Proofs.Ytfhihnonafklbaa.Sl Go.Proofs.Ytfhihnonafklbaa.Ar Go.Proofs.Ytfhihnonafklbaa.Base
set_option linter.unusedVariables false
set_option linter.unusedSimpArgs false
set_option maxRecDepth 10000
theorem sink2 (B X Y R : HL) : (X ++ (B ++ (Y ++ R))).Perm (B ++ (Y ++ (X ++ R))) :=
  (List.perm_append_comm_assoc X B _).trans (List.Perm.append_left B (List.perm_append_comm_assoc X Y R))
theorem oJ_s {b : Nat} {xs : List Int} {sp : List Value} : oJ (some b) xs sp = [(b, .cells (rowA .i64 xs sp) 3 (0, 0))] := rfl
theorem oV_s {b : Nat} {xs : List (Int × Int)} {sp : List Value} : oV (some b) xs sp = [(b, .cells (rowV xs sp) 46 (0, 0))] := rfl
theorem ad_s {b : Nat} : ad (some b) = some ⟨b, 0, none⟩ := rfl
theorem sink1 (B X R : HL) : (X ++ (B ++ R)).Perm (B ++ (X ++ R)) := List.perm_append_comm_assoc X B _
variable {w0 : World} {H H1 H2 H3 : HL} {C : Cn} {A : Ar} {m : List Int} {bs bm ba pc : Nat} {pb : Option Nat} {sp : List Value} {P : List Int}
set_option maxHeartbeats 4000000 in
theorem inode_c {p : Int} (hT1 : Tk H bs (shO ba bm pb P pc) H1) (hT2 : Tk H1 bm (nObj P) H2) (hT3 : TkG H2 (oJ pb P sp) H3) (hP : At H3 ba (aObj C A)) (hA : At H3 C.bw (wObj C A)) (hw : Wf A.ws) (hO : OkP A m) (hp : MkO A m p) (hPl : Pls A m P) (hR : RowK 1 pb P.length pc (P.map (Value.int .i64)) sp) :
    Fn Try.prog w0 54 #[.pointer (some ⟨bs, 0, none⟩), .int .i64 p] H fun r H' => ∃ pb' pc' sp' bo c ssp, r = ndV (A.shN P p).2 bo c ∧ NOk ((A.shN P p).2, ⟨bo, c, ssp⟩) ∧ RowK 1 pb' (A.shN P p).1.length pc' ((A.shN P p).1.map (Value.int .i64)) sp' ∧ H' = (bs, shO ba bm pb' (A.shN P p).1 pc') :: (bm, nObj (A.shN P p).1) :: (oV bo (A.shN P p).2.sl ssp ++ (oJ pb' (A.shN P p).1 sp' ++ H3)) := by
  obtain ⟨hm8, hh, hs, -⟩ := hO.lens
  have oF := hO.obF hp
  have hp0 := oF.p0
  have hpb := oF.hb
  have hr1 := oF.r1
  have hkr := oF.kr
  have hl130 := shL_len oF
  have hco := oF.co
  refine Fn.perm (hT1.perm.trans (.cons _ (hT2.perm.trans (.cons _ hT3.perm)))) ?_
  have hP1 : At (oJ pb P sp ++ H3) ba (aObj C A) := At.app hP
  have hA1 : At (oJ pb P sp ++ H3) C.bw (wObj C A) := At.app hA
  refine enter2 Try.func54 rfl rfl Try.ntmps54 rfl ?_
  repeat' ((fail_if_success apply gAt 4); (first | (apply gCall; apply L_call rfl rfl rfl rfl rfl; (· first | exact head_c at_ at_ hw om om | exact bytes_c at_ at_ hw om (oF.tx (by assumption)) | exact val2_c at_ at_ hw v2 om om om); rintro _ _ ⟨rfl, rfl⟩) | (apply gL; first | refine L_nil ?_ | refine yA fun _ => ?_ | (apply gSt; first | refine sR ?_ | refine sB ?_ | refine s1 ?_ | refine sW ?_ | refine sN ?_) | (apply gBs; first | (refine L_bs0 rfl rfl rfl rfl (fun _ => ?_)) | (refine L_bs1 rfl rfl rfl rfl rfl rfl rfl (fun _ => ?_))) | (apply gApp; apply L_appI rfl rfl rfl rfl rfl rfl; (· exact at_); (· exact tk_); (· rfl); (· omega); intro _ _) | refine kV ?_ | (apply L_val rfl rfl rfl; (· first | (apply gBin; first | fail ) | fail | (apply v_sliceH rfl rfl om om; done)))) | (apply gW; first | refine W_seq ?_ | refine W_region ?_ | refine W_ret ?_ | refine W_skip ?_ | refine W_block ?_ | refine W_exit ?_ | refine W_cond1 rfl ?_ | refine W_cond0 rfl ?_ | refine cW (fun h => ?_) fun h => ?_) | (first | refine seqR.normal ?_ | refine seqR.ret ?_ | refine seqR.exit ?_ | refine blockR.normal ?_ | refine blockR.ret ?_ | refine blockR.here ?_ | refine blockR.exit rfl ?_ | refine loopR.ret ?_ | refine loopR.exit ?_ | refine midA.ret ?_ | refine midA.exit ?_) | fail))
  apply L_call rfl rfl rfl rfl rfl
  · exact islotsJ_c oF.sz
  rintro _ _ ⟨bL, cL, spL, rfl, ⟨hcL, hnL⟩, rfl⟩
  refine L_perm (Sink.perm (by (repeat (apply Sink.there)); exact Sink.here)) ?_
  have hP2 : At (oJ bL (slots (rk (g A.ws p)) (rs (g A.ws p))) spL ++ (oJ pb P sp ++ H3)) ba (aObj C A) := At.app hP1
  have hA2 : At (oJ bL (slots (rk (g A.ws p)) (rs (g A.ws p))) spL ++ (oJ pb P sp ++ H3)) C.bw (wObj C A) := At.app hA1
  repeat' ((fail_if_success apply gAt 4); (first | (apply gCall; apply L_call rfl rfl rfl rfl rfl; (· first | exact head_c at_ at_ hw om om | exact bytes_c at_ at_ hw om (oF.tx (by assumption)) | exact val2_c at_ at_ hw v2 om om om); rintro _ _ ⟨rfl, rfl⟩) | (apply gL; first | refine L_nil ?_ | refine yA fun _ => ?_ | (apply gSt; first | refine sR ?_ | refine sB ?_ | refine s1 ?_ | refine sW ?_ | refine sN ?_) | (apply gBs; first | (refine L_bs0 rfl rfl rfl rfl (fun _ => ?_)) | (refine L_bs1 rfl rfl rfl rfl rfl rfl rfl (fun _ => ?_))) | (apply gApp; apply L_appI rfl rfl rfl rfl rfl rfl; (· exact at_); (· exact tk_); (· rfl); (· omega); intro _ _) | refine kV ?_ | (apply L_val rfl rfl rfl; (· first | (apply gBin; first | fail ) | fail | (apply v_sliceH rfl rfl om om; done)))) | (apply gW; first | refine W_seq ?_ | refine W_region ?_ | refine W_ret ?_ | refine W_skip ?_ | refine W_block ?_ | refine W_exit ?_ | refine W_cond1 rfl ?_ | refine W_cond0 rfl ?_ | refine cW (fun h => ?_) fun h => ?_) | (first | refine seqR.normal ?_ | refine seqR.ret ?_ | refine seqR.exit ?_ | refine blockR.normal ?_ | refine blockR.ret ?_ | refine blockR.here ?_ | refine blockR.exit rfl ?_ | refine loopR.ret ?_ | refine loopR.exit ?_ | refine midA.ret ?_ | refine midA.exit ?_) | fail))
  rename_i b4 b5 b6
  obtain ⟨N', eN⟩ : ∃ N', N' = (if rk (g A.ws p) = 2 ∨ rk (g A.ws p) = 4 ∨ rk (g A.ws p) = 6 then sg (g A.ws (p + 1)) else 0) := ⟨_, rfl⟩
  obtain ⟨M', eM⟩ : ∃ M', M' = (if rk (g A.ws p) = 6 then sg (g A.ws (p + 2)) else 0) := ⟨_, rfl⟩
  obtain ⟨T', eT⟩ : ∃ T', T' = (if rk (g A.ws p) = 1 then A.text p else []) := ⟨_, rfl⟩
  have eL : (A.shL p).length = if rk (g A.ws p) = 6 then (sg (g A.ws (p + 2)) + 1).toNat else (slots (rk (g A.ws p)) (rs (g A.ws p))).length := by
    unfold Ar.shL
    split
    · rw [List.length_take]; rename_i c; have := hco c; omega
    · rfl
  have hw1 := hw (p + 1)
  have hw2 := hw (p + 2)
  have hb6 : rk (g A.ws p) = 6 → ∃ b, bL = some b := fun e => by
    cases bL with
    | none => have h1 := hnL rfl; have h2 := (hco e).2.2.1; rw [h1] at h2; cases h2
    | some b => exact ⟨b, rfl⟩
  refine W_midA (α := Unit) (fun _ => [(0, .pointer (some ⟨bs, 0, none⟩)), (1, .int .i64 p), (4, .pointer (some ⟨b4, 0, none⟩)), (6, .pointer (some ⟨b6, 0, none⟩)), (7, .slice (ad bL) (A.shL p).length cL)]) (fun _ => (b6, .cells #[.int .i64 (rk (g A.ws p)), .int .i64 (rn (g A.ws p)), .int .i64 N', .int .i64 M', .string (strOfNums T'), .slice none 0 0] 50 (0, 0)) :: (b4, .cells #[.int .i64 0, .int .i64 0, .int .i64 0, .int .i64 0, .string ByteArray.empty, .slice none 0 0] 50 (0, 0)) :: (bs, shO ba bm pb P pc) :: (bm, nObj P) :: (oJ bL (slots (rk (g A.ws p)) (rs (g A.ws p))) spL ++ (oJ pb P sp ++ H3))) (fun _ => True) ?_ ?_
  · have hz : strOfNums [] = ByteArray.empty := rfl
    by_cases e : rk (g A.ws p) = 6
    · obtain ⟨bL', rfl⟩ := hb6 e
      dsimp only [ad_s]
      first
      | rw [if_neg (by omega)] at eN
      | rw [if_pos (by omega)] at eN
      first
      | rw [if_neg (by omega)] at eM eL
      | rw [if_pos e] at eM eL
      first
      | rw [if_pos e] at eT
      | (rw [if_neg (by omega)] at eT; rw [hz.symm.symm] at *)
      rw [eN, eM, eT, eL]
      repeat' (first | (exfalso; omega) | (apply gSt; apply L_stc rfl rfl rfl rfl rfl rfl; (· exact at_); (· simp only [List.set_cons_zero, List.set_cons_succ]; rfl); (· exact up_); (· rfl)) | first | (apply gCall; apply L_call rfl rfl rfl rfl rfl; (· first | exact head_c at_ at_ hw om om | exact bytes_c at_ at_ hw om (oF.tx (by assumption)) | exact val2_c at_ at_ hw v2 om om om); rintro _ _ ⟨rfl, rfl⟩) | (apply gL; first | refine L_nil ?_ | refine yA fun _ => ?_ | (apply gSt; first | refine sR ?_ | refine sB ?_ | refine s1 ?_ | refine sW ?_ | refine sN ?_) | (apply gBs; first | (refine L_bs0 rfl rfl rfl rfl (fun _ => ?_)) | (refine L_bs1 rfl rfl rfl rfl rfl rfl rfl (fun _ => ?_))) | (apply gApp; apply L_appI rfl rfl rfl rfl rfl rfl; (· exact at_); (· exact tk_); (· rfl); (· omega); intro _ _) | refine kV ?_ | (apply L_val rfl rfl rfl; (· first | (apply gBin; first | fail ) | fail | (apply v_sliceH rfl rfl om om; done)))) | (apply gW; first | refine W_seq ?_ | refine W_region ?_ | refine W_ret ?_ | refine W_skip ?_ | refine W_block ?_ | refine W_exit ?_ | refine W_cond1 rfl ?_ | refine W_cond0 rfl ?_ | refine cW (fun h => ?_) fun h => ?_) | (first | refine seqR.normal ?_ | refine seqR.ret ?_ | refine seqR.exit ?_ | refine blockR.normal ?_ | refine blockR.ret ?_ | refine blockR.here ?_ | refine blockR.exit rfl ?_ | refine loopR.ret ?_ | refine loopR.exit ?_ | refine midA.ret ?_ | refine midA.exit ?_) | fail)
      apply midA.mk ()
      · exact sub_
      · exact cvt_
      · trivial
    · have h6 : rk (g A.ws p) = 1 ∨ rk (g A.ws p) = 2 ∨ rk (g A.ws p) = 3 ∨ rk (g A.ws p) = 4 ∨ rk (g A.ws p) = 5 := by omega
      rcases h6 with e | e | e | e | e
      all_goals (
        first
        | rw [if_neg (by omega)] at eN
        | rw [if_pos (by omega)] at eN
        first
        | rw [if_neg (by omega)] at eM eL
        | rw [if_pos e] at eM eL
        first
        | rw [if_pos e] at eT
        | (rw [if_neg (by omega)] at eT; rw [hz.symm.symm] at *)
        rw [eN, eM, eT, eL]
        repeat' (first | (exfalso; omega) | (apply gSt; apply L_stc rfl rfl rfl rfl rfl rfl; (· exact at_); (· simp only [List.set_cons_zero, List.set_cons_succ]; rfl); (· exact up_); (· rfl)) | first | (apply gCall; apply L_call rfl rfl rfl rfl rfl; (· first | exact head_c at_ at_ hw om om | exact bytes_c at_ at_ hw om (oF.tx (by assumption)) | exact val2_c at_ at_ hw v2 om om om); rintro _ _ ⟨rfl, rfl⟩) | (apply gL; first | refine L_nil ?_ | refine yA fun _ => ?_ | (apply gSt; first | refine sR ?_ | refine sB ?_ | refine s1 ?_ | refine sW ?_ | refine sN ?_) | (apply gBs; first | (refine L_bs0 rfl rfl rfl rfl (fun _ => ?_)) | (refine L_bs1 rfl rfl rfl rfl rfl rfl rfl (fun _ => ?_))) | (apply gApp; apply L_appI rfl rfl rfl rfl rfl rfl; (· exact at_); (· exact tk_); (· rfl); (· omega); intro _ _) | refine kV ?_ | (apply L_val rfl rfl rfl; (· first | (apply gBin; first | fail ) | fail | (apply v_sliceH rfl rfl om om; done)))) | (apply gW; first | refine W_seq ?_ | refine W_region ?_ | refine W_ret ?_ | refine W_skip ?_ | refine W_block ?_ | refine W_exit ?_ | refine W_cond1 rfl ?_ | refine W_cond0 rfl ?_ | refine cW (fun h => ?_) fun h => ?_) | (first | refine seqR.normal ?_ | refine seqR.ret ?_ | refine seqR.exit ?_ | refine blockR.normal ?_ | refine blockR.ret ?_ | refine blockR.here ?_ | refine blockR.exit rfl ?_ | refine loopR.ret ?_ | refine loopR.exit ?_ | refine midA.ret ?_ | refine midA.exit ?_) | fail)
        apply midA.mk ()
        · exact sub_
        · exact cvt_
        · trivial)
  rintro - -
  repeat' (first | (apply gCall; apply L_call rfl rfl rfl rfl rfl; (· first | exact head_c at_ at_ hw om om | exact bytes_c at_ at_ hw om (oF.tx (by assumption)) | exact val2_c at_ at_ hw v2 om om om); rintro _ _ ⟨rfl, rfl⟩) | (apply gL; first | refine L_nil ?_ | refine yA fun _ => ?_ | (apply gSt; first | refine sR ?_ | refine sB ?_ | refine s1 ?_ | refine sW ?_ | refine sN ?_) | (apply gBs; first | (refine L_bs0 rfl rfl rfl rfl (fun _ => ?_)) | (refine L_bs1 rfl rfl rfl rfl rfl rfl rfl (fun _ => ?_))) | (apply gApp; apply L_appI rfl rfl rfl rfl rfl rfl; (· exact at_); (· exact tk_); (· rfl); (· omega); intro _ _) | refine kV ?_ | (apply L_val rfl rfl rfl; (· first | (apply gBin; first | fail ) | fail | (apply v_sliceH rfl rfl om om; done)))) | (apply gW; first | refine W_seq ?_ | refine W_region ?_ | refine W_ret ?_ | refine W_skip ?_ | refine W_block ?_ | refine W_exit ?_ | refine W_cond1 rfl ?_ | refine W_cond0 rfl ?_ | refine cW (fun h => ?_) fun h => ?_) | (first | refine seqR.normal ?_ | refine seqR.ret ?_ | refine seqR.exit ?_ | refine blockR.normal ?_ | refine blockR.ret ?_ | refine blockR.here ?_ | refine blockR.exit rfl ?_ | refine loopR.ret ?_ | refine loopR.exit ?_ | refine midA.ret ?_ | refine midA.exit ?_) | fail)
  apply W_loopX (α := Int × List Int × List (Int × Int) × (Option Nat × Nat × List Value) × (Option Nat × Nat × List Value)) (fun y => [(0, .pointer (some ⟨bs, 0, none⟩)), (1, .int .i64 p), (4, .pointer (some ⟨b4, 0, none⟩)), (6, .pointer (some ⟨b6, 0, none⟩)), (87, .slice (ad bL) (A.shL p).length cL), (88, .int .i64 ((A.shL p).length : Int)), (89, .int .i64 y.1)])
    (fun y => (b6, .cells #[.int .i64 (rk (g A.ws p)), .int .i64 (rn (g A.ws p)), .int .i64 N', .int .i64 M', .string (strOfNums T'), .slice (ad y.2.2.2.2.1) y.2.2.1.length y.2.2.2.2.2.1] 50 (0, 0)) :: (b4, .cells #[.int .i64 0, .int .i64 0, .int .i64 0, .int .i64 0, .string ByteArray.empty, .slice none 0 0] 50 (0, 0)) :: (bs, shO ba bm y.2.2.2.1.1 y.2.1 y.2.2.2.1.2.1) :: (bm, nObj y.2.1) :: (oJ bL (slots (rk (g A.ws p)) (rs (g A.ws p))) spL ++ (oV y.2.2.2.2.1 y.2.2.1 y.2.2.2.2.2.2 ++ (oJ y.2.2.2.1.1 y.2.1 y.2.2.2.1.2.2 ++ H3))))
    (fun y => (0 ≤ y.1 ∧ y.1 ≤ (A.shL p).length) ∧ (y.2.2.1.length : Int) = y.1 ∧ Pls A m y.2.1 ∧ RowK 1 y.2.2.2.1.1 y.2.1.length y.2.2.2.1.2.1 (y.2.1.map (Value.int .i64)) y.2.2.2.1.2.2 ∧ RowK 2 y.2.2.2.2.1 y.2.2.1.length y.2.2.2.2.2.1 (flat y.2.2.1) y.2.2.2.2.2.2 ∧ A.shS p ((A.shL p).drop y.1.toNat) (y.2.1, y.2.2.1) = A.shS p (A.shL p) (P, [])) (fun y => ((A.shL p).length - y.1).toNat) (0, P, [], (pb, pc, sp), (none, 0, []))
  · exact sub_
  · exact cvt_
  · exact ⟨⟨by dsimp only; omega, by dsimp only; omega⟩, rfl, hPl, hR, RowK.zero, rfl⟩
  rintro ⟨i, Q, out, ⟨qb, qc, sq⟩, ⟨bo, c, ssp⟩⟩ ⟨⟨hi, hi2⟩, ho, hQ, hRq, hS2, hS⟩
  dsimp only at hi hi2 ho hQ hRq hS2 hS ⊢
  have hQl := hQ.le
  have hP3 : At (oV bo out ssp ++ (oJ qb Q sq ++ H3)) ba (aObj C A) := At.app (At.app hP)
  have hA3 : At (oV bo out ssp ++ (oJ qb Q sq ++ H3)) C.bw (wObj C A) := At.app (At.app hA)
  by_cases hlt : i < ((A.shL p).length : Int)
  · obtain ⟨eg, hgl⟩ := shL_get hi hlt
    obtain ⟨v1, v2, v3, v4⟩ := hO.vSlot hp hi hlt
    rw [shS_step hi hlt] at hS
    rw [← eg] at v1 v2 v3 v4 hS
    cases bL with
    | none => exfalso; have h1 := hnL rfl; rw [h1] at hgl; simp at hgl; omega
    | some bL =>
    dsimp only [ad_s, oJ_s, List.cons_append, List.nil_append]
    repeat' (first | exact absurd hlt h | ((fail_if_success apply gAtR 17); (first | (apply gCall; apply L_call rfl rfl rfl rfl rfl; (· first | exact head_c at_ at_ hw om om | exact bytes_c at_ at_ hw om (oF.tx (by assumption)) | exact val2_c at_ at_ hw v2 om om om); rintro _ _ ⟨rfl, rfl⟩) | (apply gL; first | refine L_nil ?_ | refine yA fun _ => ?_ | (apply gSt; first | refine sR ?_ | refine sB ?_ | refine s1 ?_ | refine sW ?_ | refine sN ?_) | (apply gBs; first | (refine L_bs0 rfl rfl rfl rfl (fun _ => ?_)) | (refine L_bs1 rfl rfl rfl rfl rfl rfl rfl (fun _ => ?_))) | (apply gApp; apply L_appI rfl rfl rfl rfl rfl rfl; (· exact at_); (· exact tk_); (· rfl); (· omega); intro _ _) | refine kV ?_ | (apply L_val rfl rfl rfl; (· first | (apply gBin; first | fail ) | fail | (apply v_sliceH rfl rfl om om; done)))) | (apply gW; first | refine W_seq ?_ | refine W_region ?_ | refine W_ret ?_ | refine W_skip ?_ | refine W_block ?_ | refine W_exit ?_ | refine W_cond1 rfl ?_ | refine W_cond0 rfl ?_ | refine cW (fun h => ?_) fun h => ?_) | (first | refine seqR.normal ?_ | refine seqR.ret ?_ | refine seqR.exit ?_ | refine blockR.normal ?_ | refine blockR.ret ?_ | refine blockR.here ?_ | refine blockR.exit rfl ?_ | refine loopR.ret ?_ | refine loopR.exit ?_ | refine midA.ret ?_ | refine midA.exit ?_) | fail)))
    generalize hgs : g (slots (rk (g A.ws p)) (rs (g A.ws p))) i = gs at *
    repeat' (first | (apply gCall; apply L_call rfl rfl rfl rfl rfl; (· first | exact head_c at_ at_ hw om om | exact bytes_c at_ at_ hw om (oF.tx (by assumption)) | exact val2_c at_ at_ hw v2 om om om); rintro _ _ ⟨rfl, rfl⟩) | (apply gL; first | refine L_nil ?_ | refine yA fun _ => ?_ | (apply gSt; first | refine sR ?_ | refine sB ?_ | refine s1 ?_ | refine sW ?_ | refine sN ?_) | (apply gBs; first | (refine L_bs0 rfl rfl rfl rfl (fun _ => ?_)) | (refine L_bs1 rfl rfl rfl rfl rfl rfl rfl (fun _ => ?_))) | (apply gApp; apply L_appI rfl rfl rfl rfl rfl rfl; (· exact at_); (· exact tk_); (· rfl); (· omega); intro _ _) | refine kV ?_ | (apply L_val rfl rfl rfl; (· first | (apply gBin; first | fail ) | fail | (apply v_sliceH rfl rfl om om; done)))) | (apply gW; first | refine W_seq ?_ | refine W_region ?_ | refine W_ret ?_ | refine W_skip ?_ | refine W_block ?_ | refine W_exit ?_ | refine W_cond1 rfl ?_ | refine W_cond0 rfl ?_ | refine cW (fun h => ?_) fun h => ?_) | (first | refine seqR.normal ?_ | refine seqR.ret ?_ | refine seqR.exit ?_ | refine blockR.normal ?_ | refine blockR.ret ?_ | refine blockR.here ?_ | refine blockR.exit rfl ?_ | refine loopR.ret ?_ | refine loopR.exit ?_ | refine midA.ret ?_ | refine midA.exit ?_) | fail)
    apply L_call rfl rfl rfl rfl rfl
    · refine ival_c (C := C) (m := m) (H3 := (b6, .cells #[.int .i64 (rk (g A.ws p)), .int .i64 (rn (g A.ws p)), .int .i64 N', .int .i64 M', .string (strOfNums T'), .slice (ad bo) out.length c] 50 (0, 0)) :: (b4, .cells #[.int .i64 0, .int .i64 0, .int .i64 0, .int .i64 0, .string ByteArray.empty, .slice none 0 0] 50 (0, 0)) :: (bL, .cells (rowA .i64 (slots (rk (g A.ws p)) (rs (g A.ws p))) spL) 3 (0, 0)) :: (oV bo out ssp ++ H3)) (v := (rvT A.ws (p + gs), rvN A.ws (p + gs))) tk_ tk_ (by (repeat (first | exact TkG.here | apply TkG.there | apply TkG.app))) ?_ ?_ hw hO v1 hQ hRq
      · exact .there (.there (.there (At.app hP)))
      · exact .there (.there (.there (At.app hA)))
    rintro _ _ ⟨qb', qc', sq', rfl, hRq', rfl⟩
    refine L_perm (.cons _ (.cons _ (sink2 [_, _, _] _ _ _))) ?_
    dsimp only [List.cons_append, List.nil_append]
    have hQ' : Pls A m (A.shV Q (rvT A.ws (p + gs), rvN A.ws (p + gs))).1 := hQ.v v1
    generalize hV : A.shV Q (rvT A.ws (p + gs), rvN A.ws (p + gs)) = V at *
    obtain ⟨Q', t', n'⟩ := V
    dsimp only at hS hQ' hRq' ⊢
    repeat' (first | (apply gBs; refine L_bs1K rfl rfl rfl rfl rfl rfl (by rfl) (by rfl) (by rfl) fun _ => ?_) | (apply gApp; refine L_appV rfl rfl rfl rfl rfl rfl (by (repeat (first | exact TkG.here | apply TkG.there | apply TkG.app))) at_ (by rfl) hS2 om (by rfl) fun _ _ _ hS2' => ?_) | (apply gSt; apply L_stc rfl rfl rfl rfl rfl rfl; (· exact at_); (· simp only [List.set_cons_zero, List.set_cons_succ]; rfl); (· exact up_); (· rfl)) | first | (apply gCall; apply L_call rfl rfl rfl rfl rfl; (· first | exact head_c at_ at_ hw om om | exact bytes_c at_ at_ hw om (oF.tx (by assumption)) | exact val2_c at_ at_ hw v2 om om om); rintro _ _ ⟨rfl, rfl⟩) | (apply gL; first | refine L_nil ?_ | refine yA fun _ => ?_ | (apply gSt; first | refine sR ?_ | refine sB ?_ | refine s1 ?_ | refine sW ?_ | refine sN ?_) | (apply gBs; first | (refine L_bs0 rfl rfl rfl rfl (fun _ => ?_)) | (refine L_bs1 rfl rfl rfl rfl rfl rfl rfl (fun _ => ?_))) | (apply gApp; apply L_appI rfl rfl rfl rfl rfl rfl; (· exact at_); (· exact tk_); (· rfl); (· omega); intro _ _) | refine kV ?_ | (apply L_val rfl rfl rfl; (· first | (apply gBin; first | fail ) | fail | (apply v_sliceH rfl rfl om om; done)))) | (apply gW; first | refine W_seq ?_ | refine W_region ?_ | refine W_ret ?_ | refine W_skip ?_ | refine W_block ?_ | refine W_exit ?_ | refine W_cond1 rfl ?_ | refine W_cond0 rfl ?_ | refine cW (fun h => ?_) fun h => ?_) | (first | refine seqR.normal ?_ | refine seqR.ret ?_ | refine seqR.exit ?_ | refine blockR.normal ?_ | refine blockR.ret ?_ | refine blockR.here ?_ | refine blockR.exit rfl ?_ | refine loopR.ret ?_ | refine loopR.exit ?_ | refine midA.ret ?_ | refine midA.exit ?_) | fail)
    rename_i b' c' sp'
    apply loopR.mk (i + 1, Q', out ++ [(t', n')], (qb', qc', sq'), (some b', c', sp'))
    · exact sub_
    · dsimp only [oV_s, oJ_s, ad_s, List.cons_append, List.nil_append]
      exact cvt_
    · exact ⟨⟨by dsimp only; omega, by dsimp only; omega⟩, by simp; omega, hQ', hRq', hS2', hS⟩
    · dsimp only; omega
  · rw [shS_end (by omega)] at hS
    have e1 : A.shN P p = (Q, ⟨rk (g A.ws p), rn (g A.ws p), N', M', T', out⟩) := by
      unfold Ar.shN; rw [← hS, ← eN, ← eM, ← eT]
    rw [e1]
    dsimp only
    repeat' (first | exact absurd h hlt | first | (apply gCall; apply L_call rfl rfl rfl rfl rfl; (· first | exact head_c at_ at_ hw om om | exact bytes_c at_ at_ hw om (oF.tx (by assumption)) | exact val2_c at_ at_ hw v2 om om om); rintro _ _ ⟨rfl, rfl⟩) | (apply gL; first | refine L_nil ?_ | refine yA fun _ => ?_ | (apply gSt; first | refine sR ?_ | refine sB ?_ | refine s1 ?_ | refine sW ?_ | refine sN ?_) | (apply gBs; first | (refine L_bs0 rfl rfl rfl rfl (fun _ => ?_)) | (refine L_bs1 rfl rfl rfl rfl rfl rfl rfl (fun _ => ?_))) | (apply gApp; apply L_appI rfl rfl rfl rfl rfl rfl; (· exact at_); (· exact tk_); (· rfl); (· omega); intro _ _) | refine kV ?_ | (apply L_val rfl rfl rfl; (· first | (apply gBin; first | fail ) | fail | (apply v_sliceH rfl rfl om om; done)))) | (apply gW; first | refine W_seq ?_ | refine W_region ?_ | refine W_ret ?_ | refine W_skip ?_ | refine W_block ?_ | refine W_exit ?_ | refine W_cond1 rfl ?_ | refine W_cond0 rfl ?_ | refine cW (fun h => ?_) fun h => ?_) | (first | refine seqR.normal ?_ | refine seqR.ret ?_ | refine seqR.exit ?_ | refine blockR.normal ?_ | refine blockR.ret ?_ | refine blockR.here ?_ | refine blockR.exit rfl ?_ | refine loopR.ret ?_ | refine loopR.exit ?_ | refine midA.ret ?_ | refine midA.exit ?_) | fail)
    refine retR.ret _ _ (retC rfl rfl at_ (by rfl)) ?_ ⟨qb, qc, sq, bo, c, ssp, rfl, fun e => (hS2.nil e).1 |> List.eq_nil_of_length_eq_zero, hRq, rfl⟩
    exact Cv.take tk_ (Cv.take tk_ (by repeat (first | exact Cv.app | apply Cv.skip)))
end Go.Proofs.Ytfhihnonafklbaa.Eng
