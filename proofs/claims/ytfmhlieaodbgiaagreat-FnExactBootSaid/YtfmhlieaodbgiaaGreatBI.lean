/- The implementation's Boot. -/
import Derived.Test.YtfmhlieaodbgiaaGreatBH
namespace Go.Proofs.YtfmhlieaodbgiaaGreat.Eng
open Go Go.RowKit Go.Proofs.YtfmhlieaodbgiaaGreat.Sl Go.Proofs.YtfmhlieaodbgiaaGreat.Ar Go.Proofs.YtfmhlieaodbgiaaGreat.Base
set_option linter.unusedVariables false
set_option linter.unusedSimpArgs false
set_option maxRecDepth 10000
variable {w0 : World} {H : HL} {C : Cn} {A : Ar} {M : Md} {X : MA} {ba : Nat}
theorem ask0T {k s t r : Int} {A' : Ar} {H1 H2 H3 : HL} (e : { A.mkO k s with vs := A.vs.set r.toNat (t, A.top) } = A') (hT : Tk H ba (aObj C A) H1) (hT2 : Tk H1 C.bw (wObj C A) H2) (hT3 : Tk H2 C.br (rObj C A) H3) (hF : FA A k s) (hwc : A.ws.length ≤ C.wc) (hr : 0 ≤ r ∧ r < (A.vs.length : Int)) (hx : A.vs.length ≤ 24) :
    Fn Tryz.prog w0 26 #[.pointer (some ⟨ba, 0, none⟩), .int .i64 k, .int .i64 s, .int .i64 t, .int .i64 r] H fun v H' => v = .int .i64 0 ∧ H' = (ba, aObj C A') :: (C.bw, wObj C A') :: (C.br, rObj C A') :: H3 := by
  subst e
  exact Fn.conv (Cv.take hT (Cv.take hT2 (Cv.take hT3 Cv.refl))) (ask0_c hF hwc hr hx)
theorem aObj_same {B : Ar} {o : Obj} (h : aObj C B = o) {a t n : Int} : aObj C (B.putV a t n) = o := aObj_put.trans h
theorem isetB {B : Ar} {a t n : Int} {o : Obj} {H1 H2 : HL} (e : aObj C B = o) (hT : Tk H ba o H1) (hT2 : Tk H1 C.bw (wObj C B) H2) (h0 : 0 ≤ a) (h1 : a + 1 < (B.ws.length : Int)) (hm : B.ws.length ≤ 8000) :
    Fn Tryz.prog w0 27 #[.pointer (some ⟨ba, 0, none⟩), .int .i64 a, .agg #[.int .i64 t, .int .i64 n]] H fun v H' => v = .tuple #[] ∧ H' = (ba, o) :: (C.bw, wObj C (B.putV a t n)) :: H2 := by
  subst e
  have := isetT (w0 := w0) (C := C) (A := B) (a := a) (t := t) (n := n) hT hT2 h0 h1 hm
  rw [aObj_put] at this
  exact this
theorem aObj_putW {B : Ar} {a x : Int} : aObj C (putW B a x) = aObj C B := by
  show Obj.cells #[.slice _ (List.set _ _ _).length _, _, _, _, _, _, _, _, _, _] _ _ = _
  rw [List.length_set]; rfl
section
variable {s sl : Int}
theorem aob1 : aObj C (bb1 s) = aObj C (ba2 s) := aObj_putW
theorem aob2 : aObj C (bb2 s sl) = aObj C (ba2 s) := aObj_putW.trans aob1
theorem aob3 : aObj C (bb3 s sl) = aObj C (ba2 s) := aObj_putW.trans aob2
theorem aob4 : aObj C (bb4 s sl) = aObj C (ba2 s) := aObj_put.trans aob3
theorem aob5 : aObj C (bb5 s sl) = aObj C (ba2 s) := aObj_put.trans aob4
end
theorem wo3' {s sl : Int} (h : 0 ≤ sl ∧ sl ≤ 20) : wObj C (bb3 s sl) = .cells (rowA .u64 ((((ba2 s).ws.set (3 + 1 : Int).toNat 2).set (3 + 2 : Int).toNat (3 + sl)).set (3 + 3 : Int).toNat 3) C.ws) 64 (0, 0) := by
  show Obj.cells (rowA .u64 ((((ba2 s).ws.set (3 + 1 : Int).toNat (w64 2)).set (3 + 2 : Int).toNat (w64 (3 + sl))).set (3 + 3 : Int).toNat (w64 3)) C.ws) _ _ = _
  rw [show w64 (3 + sl) = 3 + sl by unfold w64; omega, show w64 2 = 2 from rfl, show w64 3 = 3 from rfl]
theorem stack3_c {i : Int} (hi : 0 ≤ i ∧ i ≤ 2) : Fn Tryz.prog w0 28 #[.int .i64 3, .int .i64 i] H fun v H' => v = .int .i64 (10 + 2 * i) ∧ H' = H := by
  have := stackAt_c (w0 := w0) (H := H) (p := 3) (i := i) (by omega) hi
  rwa [show (3 : Int) + 7 + 2 * i = 10 + 2 * i by omega] at this
theorem implCopyE_c {V : Value} (e : mdV M X = V) (hm : RM H M X) (hM : M.pr.length ≤ 1000000 ∧ M.tx.length ≤ 1048576) (hub : ∀ q ∈ M.pr, q.ups.length ≤ 1048576 ∧ q.code.length ≤ 1048576) :
    Fn Tryz.prog w0 29 #[V] H fun v H' => ∃ X', v = mdV M X' ∧ MOk M X' ∧ H' = mHL M X' ++ H := by
  subst e
  exact implCopy_c hm hM hub
set_option maxHeartbeats 8000000 in
theorem implBoot_c {s : Int} (hm : RM H M X) (hl : M.pr.length ≤ 1048576 ∧ M.tx.length ≤ 1048576) (hub : ∀ q ∈ M.pr, q.ups.length ≤ 1048576 ∧ q.code.length ≤ 1048576) :
    Fn Tryz.prog w0 7 #[mdV M X, .int .i64 s] H (BRes M s H) := by
  refine enter2 Tryz.func7 rfl rfl Tryz.ntmps7 rfl ?_
  repeat' (first | exact absurd rfl h | ((fail_if_success apply gCall); (first | ((first | (apply gCall; apply L_call rfl rfl rfl rfl rfl) | (apply gQC; apply Q_call rfl rfl rfl rfl rfl)); (· first | exact zNewArena_c hs); try rintro _ _ ⟨rfl, rfl⟩) | (apply gL; first | refine L_nil ?_ | refine yS ?_ | refine yX fun _ => ?_ | refine yA fun _ => ?_ | (apply gSt; first | refine sR ?_ | refine sB ?_ | refine s1 ?_ | refine sW ?_ | refine sN ?_) | refine kV ?_ | (apply L_val rfl rfl rfl; (· first | (apply gBin; first | fail ) | fail | exact v_bz | exact v_bm rfl rfl | (apply v_ld rfl; (· exact at_); (· exact ld_v0 om hv0); done) | exact (show OpV _ _ _ _ _ _ (.int .i64 q.sl) from v_ldFc (j := 1) prLen rfl at_ hz (by decide) rfl))) | ((fail_if_success (refine L_known rfl ?_)); refine yW (fun h => ?_) fun h => ?_)) | (apply gW; first | refine W_seq ?_ | refine W_region ?_ | refine W_ret ?_ | refine W_skip ?_ | refine W_cond1 rfl ?_ | refine W_cond0 rfl ?_ | refine cW (fun h => ?_) fun h => ?_ | refine wQ ?_) | (first | refine seqR.normal ?_ | refine seqR.ret ?_) | (apply gQ; first | refine Q_nil ?_ | refine Q_skip rfl rfl rfl ?_ | refine kQ ?_ | (apply Q_val rfl rfl rfl; (· first | (apply gBin; first | fail ) | fail | exact v_bz | exact v_bm rfl rfl | (apply v_ld rfl; (· exact at_); (· exact ld_v0 om hv0); done) | exact (show OpV _ _ _ _ _ _ (.int .i64 q.sl) from v_ldFc (j := 1) prLen rfl at_ hz (by decide) rfl))) | ((fail_if_success (refine Q_known rfl ?_)); refine zW (fun h => ?_) fun h => ?_)) | fail)))
  apply L_call rfl rfl rfl rfl rfl
  · exact implModuleOk_c (by (repeat (first | assumption | apply RM.there))) hl hub
  rintro _ _ ⟨b, rfl, hb, rfl⟩
  by_cases hok : mOkP M
  · obtain rfl := hb.2 hok
    by_cases hs : 256 ≤ s ∧ s ≤ 4000
    · obtain ⟨k, hk⟩ : ∃ k : Nat, 2 * s = (k : Int) := ⟨(2 * s).toNat, by omega⟩
      repeat' (first | exact absurd rfl h | ((fail_if_success apply gCall); (first | ((first | (apply gCall; apply L_call rfl rfl rfl rfl rfl) | (apply gQC; apply Q_call rfl rfl rfl rfl rfl)); (· first | exact zNewArena_c hs); try rintro _ _ ⟨rfl, rfl⟩) | (apply gL; first | refine L_nil ?_ | refine yS ?_ | refine yX fun _ => ?_ | refine yA fun _ => ?_ | (apply gSt; first | refine sR ?_ | refine sB ?_ | refine s1 ?_ | refine sW ?_ | refine sN ?_) | refine kV ?_ | (apply L_val rfl rfl rfl; (· first | (apply gBin; first | fail ) | fail | exact v_bz | exact v_bm rfl rfl | (apply v_ld rfl; (· exact at_); (· exact ld_v0 om hv0); done) | exact (show OpV _ _ _ _ _ _ (.int .i64 q.sl) from v_ldFc (j := 1) prLen rfl at_ hz (by decide) rfl))) | ((fail_if_success (refine L_known rfl ?_)); refine yW (fun h => ?_) fun h => ?_)) | (apply gW; first | refine W_seq ?_ | refine W_region ?_ | refine W_ret ?_ | refine W_skip ?_ | refine W_cond1 rfl ?_ | refine W_cond0 rfl ?_ | refine cW (fun h => ?_) fun h => ?_ | refine wQ ?_) | (first | refine seqR.normal ?_ | refine seqR.ret ?_) | (apply gQ; first | refine Q_nil ?_ | refine Q_skip rfl rfl rfl ?_ | refine kQ ?_ | (apply Q_val rfl rfl rfl; (· first | (apply gBin; first | fail ) | fail | exact v_bz | exact v_bm rfl rfl | (apply v_ld rfl; (· exact at_); (· exact ld_v0 om hv0); done) | exact (show OpV _ _ _ _ _ _ (.int .i64 q.sl) from v_ldFc (j := 1) prLen rfl at_ hz (by decide) rfl))) | ((fail_if_success (refine Q_known rfl ?_)); refine zW (fun h => ?_) fun h => ?_)) | fail)))
      apply L_call rfl rfl rfl rfl rfl
      · exact NewArena_c hk (show (6 : Int) = ((6 : Nat) : Int) from rfl) hs (by omega)
      rintro _ _ ⟨C, rfl, hwc, rfl⟩
      have hFA0 := fa0 hs
      have hFA1 := fa1 hs
      have hco := co2 hs
      have hwc1 : (ba1 s).ws.length ≤ C.wc := by rw [ba1_len]; exact hwc
      repeat' (first | exact absurd rfl h | ((fail_if_success apply gAtR 6); (first | ((first | (apply gCall; apply L_call rfl rfl rfl rfl rfl) | (apply gQC; apply Q_call rfl rfl rfl rfl rfl)); (· first | exact zNewArena_c hs); try rintro _ _ ⟨rfl, rfl⟩) | (apply gL; first | refine L_nil ?_ | refine yS ?_ | refine yX fun _ => ?_ | refine yA fun _ => ?_ | (apply gSt; first | refine sR ?_ | refine sB ?_ | refine s1 ?_ | refine sW ?_ | refine sN ?_) | refine kV ?_ | (apply L_val rfl rfl rfl; (· first | (apply gBin; first | fail ) | fail | exact v_bz | exact v_bm rfl rfl | (apply v_ld rfl; (· exact at_); (· exact ld_v0 om hv0); done) | exact (show OpV _ _ _ _ _ _ (.int .i64 q.sl) from v_ldFc (j := 1) prLen rfl at_ hz (by decide) rfl))) | ((fail_if_success (refine L_known rfl ?_)); refine yW (fun h => ?_) fun h => ?_)) | (apply gW; first | refine W_seq ?_ | refine W_region ?_ | refine W_ret ?_ | refine W_skip ?_ | refine W_cond1 rfl ?_ | refine W_cond0 rfl ?_ | refine cW (fun h => ?_) fun h => ?_ | refine wQ ?_) | (first | refine seqR.normal ?_ | refine seqR.ret ?_) | (apply gQ; first | refine Q_nil ?_ | refine Q_skip rfl rfl rfl ?_ | refine kQ ?_ | (apply Q_val rfl rfl rfl; (· first | (apply gBin; first | fail ) | fail | exact v_bz | exact v_bm rfl rfl | (apply v_ld rfl; (· exact at_); (· exact ld_v0 om hv0); done) | exact (show OpV _ _ _ _ _ _ (.int .i64 q.sl) from v_ldFc (j := 1) prLen rfl at_ hz (by decide) rfl))) | ((fail_if_success (refine Q_known rfl ?_)); refine zW (fun h => ?_) fun h => ?_)) | fail)))
      rename_i b2 b4 b6
      obtain ⟨q, eq⟩ : ∃ q, M.pr[(0 : Int).toNat]? = some q := ⟨M.pr[(0 : Int).toNat]'(by have := hok.1.1; show 0 < _; omega), List.getElem?_eq_getElem _⟩
      obtain ⟨pb, sp, a', ep, hA, hz, -, -, -⟩ := hm.at eq
      have hsl := (hok.2.2.2.2.1 q (List.mem_of_getElem? eq)).1
      have esl : sl0 M = q.sl := by unfold sl0; rw [show M.pr[0]? = some q from eq]; rfl
      have hp0 : 1 ≤ M.pr.length := by have := hok.1.1; omega
      have hp1 : M.pr.length ≤ 100 := by have := hok.1.2; omega
      have ee : mdV M X = .agg #[.slice (some ⟨pb, 0, none⟩) M.pr.length X.pc, .slice (ad X.tb) M.tx.length X.tc] := by unfold mdV; rw [ep]; rfl
      have l0 : (fresh s 6).vs.length = 6 := rfl
      have l1 : (ba1 s).vs.length = 6 := rfl
      have l2 : (ba2 s).vs.length = 6 := rfl
      have hv0 := hco.v0
      have hw0 := hco.l0
      have hw1 := hco.l1
      rw [ee]
      refine W_sub (show Sub _ [(2, .pointer (some ⟨b2, 0, none⟩)), (4, .pointer (some ⟨b4, 0, none⟩)), (6, .pointer (some ⟨b6, 0, none⟩))] from by exact sub_) (show Cv _ ((b6, aObj C (fresh s 6)) :: (C.br, rObj C (fresh s 6)) :: (C.bw, wObj C (fresh s 6)) :: (b4, .cells zMc.cells 37 (0, 0)) :: (b2, .cells #[.slice (some ⟨pb, 0, none⟩) M.pr.length X.pc, .slice (ad X.tb) M.tx.length X.tc] 29 (0, 0)) :: H) from by exact cvt_) ?_
      repeat' (first | exact absurd rfl h | (apply gCall; apply L_call rfl rfl rfl rfl rfl; (· first | exact ask0T (A := fresh s 6) (A' := ba1 s) rfl tk_ tk_ tk_ hFA0 hwc (by omega) (by omega) | exact ask0T (A := ba1 s) (A' := ba2 s) rfl tk_ tk_ tk_ hFA1 hwc1 (by omega) (by omega)); rintro _ _ ⟨rfl, rfl⟩) | ((fail_if_success apply gAtR 10); (first | ((first | (apply gCall; apply L_call rfl rfl rfl rfl rfl) | (apply gQC; apply Q_call rfl rfl rfl rfl rfl)); (· first | exact zNewArena_c hs); try rintro _ _ ⟨rfl, rfl⟩) | (apply gL; first | refine L_nil ?_ | refine yS ?_ | refine yX fun _ => ?_ | refine yA fun _ => ?_ | (apply gSt; first | refine sR ?_ | refine sB ?_ | refine s1 ?_ | refine sW ?_ | refine sN ?_) | refine kV ?_ | (apply L_val rfl rfl rfl; (· first | (apply gBin; first | fail ) | fail | exact v_bz | exact v_bm rfl rfl | (apply v_ld rfl; (· exact at_); (· exact ld_v0 om hv0); done) | exact (show OpV _ _ _ _ _ _ (.int .i64 q.sl) from v_ldFc (j := 1) prLen rfl at_ hz (by decide) rfl))) | ((fail_if_success (refine L_known rfl ?_)); refine yW (fun h => ?_) fun h => ?_)) | (apply gW; first | refine W_seq ?_ | refine W_region ?_ | refine W_ret ?_ | refine W_skip ?_ | refine W_cond1 rfl ?_ | refine W_cond0 rfl ?_ | refine cW (fun h => ?_) fun h => ?_ | refine wQ ?_) | (first | refine seqR.normal ?_ | refine seqR.ret ?_) | (apply gQ; first | refine Q_nil ?_ | refine Q_skip rfl rfl rfl ?_ | refine kQ ?_ | (apply Q_val rfl rfl rfl; (· first | (apply gBin; first | fail ) | fail | exact v_bz | exact v_bm rfl rfl | (apply v_ld rfl; (· exact at_); (· exact ld_v0 om hv0); done) | exact (show OpV _ _ _ _ _ _ (.int .i64 q.sl) from v_ldFc (j := 1) prLen rfl at_ hz (by decide) rfl))) | ((fail_if_success (refine Q_known rfl ?_)); refine zW (fun h => ?_) fun h => ?_)) | fail)))
      refine W_sub (show Sub _ [(2, .pointer (some ⟨b2, 0, none⟩)), (4, .pointer (some ⟨b4, 0, none⟩)), (6, .pointer (some ⟨b6, 0, none⟩)), (8, .int .i64 3), (9, .int .i64 (3 + q.sl))] from by exact sub_) Cv.refl ?_
      have hs1 : ((ba2 s).ws.set (3 + 1 : Int).toNat 2).length = (ba2 s).ws.length := List.length_set
      have hs2 : (((ba2 s).ws.set (3 + 1 : Int).toNat 2).set (3 + 2 : Int).toNat (3 + q.sl)).length = (ba2 s).ws.length := by rw [List.length_set, List.length_set]
      have hC3 := cob3 (sl := q.sl) hs
      have hC4 := cob4 (sl := q.sl) hs
      have hC5 := cob5 (sl := q.sl) hs
      have h30 := hC3.l0
      have h31 := hC3.l1
      have h40 := hC4.l0
      have h41 := hC4.l1
      have h50 := hC5.l0
      have h51 := hC5.l1
      repeat' ((fail_if_success apply gAtR 13); (first | ((first | (apply gCall; apply L_call rfl rfl rfl rfl rfl) | (apply gQC; apply Q_call rfl rfl rfl rfl rfl)); (· first | exact zNewArena_c hs); try rintro _ _ ⟨rfl, rfl⟩) | (apply gL; first | refine L_nil ?_ | refine yS ?_ | refine yX fun _ => ?_ | refine yA fun _ => ?_ | (apply gSt; first | refine sR ?_ | refine sB ?_ | refine s1 ?_ | refine sW ?_ | refine sN ?_) | refine kV ?_ | (apply L_val rfl rfl rfl; (· first | (apply gBin; first | fail ) | fail | exact v_bz | exact v_bm rfl rfl | (apply v_ld rfl; (· exact at_); (· exact ld_v0 om hv0); done) | exact (show OpV _ _ _ _ _ _ (.int .i64 q.sl) from v_ldFc (j := 1) prLen rfl at_ hz (by decide) rfl))) | ((fail_if_success (refine L_known rfl ?_)); refine yW (fun h => ?_) fun h => ?_)) | (apply gW; first | refine W_seq ?_ | refine W_region ?_ | refine W_ret ?_ | refine W_skip ?_ | refine W_cond1 rfl ?_ | refine W_cond0 rfl ?_ | refine cW (fun h => ?_) fun h => ?_ | refine wQ ?_) | (first | refine seqR.normal ?_ | refine seqR.ret ?_) | (apply gQ; first | refine Q_nil ?_ | refine Q_skip rfl rfl rfl ?_ | refine kQ ?_ | (apply Q_val rfl rfl rfl; (· first | (apply gBin; first | fail ) | fail | exact v_bz | exact v_bm rfl rfl | (apply v_ld rfl; (· exact at_); (· exact ld_v0 om hv0); done) | exact (show OpV _ _ _ _ _ _ (.int .i64 q.sl) from v_ldFc (j := 1) prLen rfl at_ hz (by decide) rfl))) | ((fail_if_success (refine Q_known rfl ?_)); refine zW (fun h => ?_) fun h => ?_)) | fail))
      have ew : Obj.cells (rowA .u64 ((((ba2 s).ws.set (3 + 1 : Int).toNat 2).set (3 + 2 : Int).toNat (3 + q.sl)).set (3 + 3 : Int).toNat 3) C.ws) 64 (0, 0) = wObj C (bb3 s q.sl) := (wo3' hsl).symm
      rw [ew]
      refine W_sub (show Sub _ [(2, .pointer (some ⟨b2, 0, none⟩)), (4, .pointer (some ⟨b4, 0, none⟩)), (6, .pointer (some ⟨b6, 0, none⟩)), (8, .int .i64 3)] from by exact sub_) Cv.refl ?_
      repeat' (first | (apply gCall; apply L_call rfl rfl rfl rfl rfl; (· first | exact stack3_c (by omega) | exact isetB (B := bb3 s q.sl) aob3 tk_ tk_ (by omega) (by omega) h31); rintro _ _ ⟨rfl, rfl⟩) | ((fail_if_success apply gAtR 14); (first | ((first | (apply gCall; apply L_call rfl rfl rfl rfl rfl) | (apply gQC; apply Q_call rfl rfl rfl rfl rfl)); (· first | exact zNewArena_c hs); try rintro _ _ ⟨rfl, rfl⟩) | (apply gL; first | refine L_nil ?_ | refine yS ?_ | refine yX fun _ => ?_ | refine yA fun _ => ?_ | (apply gSt; first | refine sR ?_ | refine sB ?_ | refine s1 ?_ | refine sW ?_ | refine sN ?_) | refine kV ?_ | (apply L_val rfl rfl rfl; (· first | (apply gBin; first | fail ) | fail | exact v_bz | exact v_bm rfl rfl | (apply v_ld rfl; (· exact at_); (· exact ld_v0 om hv0); done) | exact (show OpV _ _ _ _ _ _ (.int .i64 q.sl) from v_ldFc (j := 1) prLen rfl at_ hz (by decide) rfl))) | ((fail_if_success (refine L_known rfl ?_)); refine yW (fun h => ?_) fun h => ?_)) | (apply gW; first | refine W_seq ?_ | refine W_region ?_ | refine W_ret ?_ | refine W_skip ?_ | refine W_cond1 rfl ?_ | refine W_cond0 rfl ?_ | refine cW (fun h => ?_) fun h => ?_ | refine wQ ?_) | (first | refine seqR.normal ?_ | refine seqR.ret ?_) | (apply gQ; first | refine Q_nil ?_ | refine Q_skip rfl rfl rfl ?_ | refine kQ ?_ | (apply Q_val rfl rfl rfl; (· first | (apply gBin; first | fail ) | fail | exact v_bz | exact v_bm rfl rfl | (apply v_ld rfl; (· exact at_); (· exact ld_v0 om hv0); done) | exact (show OpV _ _ _ _ _ _ (.int .i64 q.sl) from v_ldFc (j := 1) prLen rfl at_ hz (by decide) rfl))) | ((fail_if_success (refine Q_known rfl ?_)); refine zW (fun h => ?_) fun h => ?_)) | fail)))
      repeat' (first | (apply gCall; apply L_call rfl rfl rfl rfl rfl; (· first | exact stack3_c (by omega) | exact isetB (B := bb4 s q.sl) aob4 tk_ tk_ (by omega) (by omega) h41); rintro _ _ ⟨rfl, rfl⟩) | ((fail_if_success apply gAtR 15); (first | ((first | (apply gCall; apply L_call rfl rfl rfl rfl rfl) | (apply gQC; apply Q_call rfl rfl rfl rfl rfl)); (· first | exact zNewArena_c hs); try rintro _ _ ⟨rfl, rfl⟩) | (apply gL; first | refine L_nil ?_ | refine yS ?_ | refine yX fun _ => ?_ | refine yA fun _ => ?_ | (apply gSt; first | refine sR ?_ | refine sB ?_ | refine s1 ?_ | refine sW ?_ | refine sN ?_) | refine kV ?_ | (apply L_val rfl rfl rfl; (· first | (apply gBin; first | fail ) | fail | exact v_bz | exact v_bm rfl rfl | (apply v_ld rfl; (· exact at_); (· exact ld_v0 om hv0); done) | exact (show OpV _ _ _ _ _ _ (.int .i64 q.sl) from v_ldFc (j := 1) prLen rfl at_ hz (by decide) rfl))) | ((fail_if_success (refine L_known rfl ?_)); refine yW (fun h => ?_) fun h => ?_)) | (apply gW; first | refine W_seq ?_ | refine W_region ?_ | refine W_ret ?_ | refine W_skip ?_ | refine W_cond1 rfl ?_ | refine W_cond0 rfl ?_ | refine cW (fun h => ?_) fun h => ?_ | refine wQ ?_) | (first | refine seqR.normal ?_ | refine seqR.ret ?_) | (apply gQ; first | refine Q_nil ?_ | refine Q_skip rfl rfl rfl ?_ | refine kQ ?_ | (apply Q_val rfl rfl rfl; (· first | (apply gBin; first | fail ) | fail | exact v_bz | exact v_bm rfl rfl | (apply v_ld rfl; (· exact at_); (· exact ld_v0 om hv0); done) | exact (show OpV _ _ _ _ _ _ (.int .i64 q.sl) from v_ldFc (j := 1) prLen rfl at_ hz (by decide) rfl))) | ((fail_if_success (refine Q_known rfl ?_)); refine zW (fun h => ?_) fun h => ?_)) | fail)))
      refine W_seq ?_
      apply W_regionA (D := (b6, aObj C (ba2 s)) :: (C.br, rObj C (ba2 s)) :: H) (by kernel_rfl)
      refine kAt 0 ?_ (cv := by (repeat (first | exact Cv.refl | exact Cv.app | (refine Cv.take tk_ ?_) | apply Cv.skip)))
      refine kAt 2 ?_ (cv := by (repeat (first | exact Cv.refl | exact Cv.app | (refine Cv.take tk_ ?_) | apply Cv.skip)))
      refine kAt 3 ?_ (cv := by (repeat (first | exact Cv.refl | exact Cv.app | (refine Cv.take tk_ ?_) | apply Cv.skip)))
      refine kAt 4 ?_ (cv := by (repeat (first | exact Cv.refl | exact Cv.app | (refine Cv.take tk_ ?_) | apply Cv.skip)))
      refine kAt 5 ?_ (cv := by (repeat (first | exact Cv.refl | exact Cv.app | (refine Cv.take tk_ ?_) | apply Cv.skip)))
      refine A_one (i := 1) (by kernel_rfl) (by (repeat (first | exact Cv.refl | exact Cv.app | (refine Cv.take tk_ ?_) | apply Cv.skip))) rfl (O_of_L fun S hS => ?_)
      apply L_call rfl rfl rfl rfl rfl
      · exact stack3_c (by omega)
      rintro _ _ ⟨rfl, rfl⟩
      refine L_nil (hS _ _ ?_)
      clear hS
      refine A_one (i := 6) (by kernel_rfl) (by (repeat (first | exact Cv.refl | exact Cv.app | (refine Cv.take tk_ ?_) | apply Cv.skip))) rfl (O_of_L fun S hS => ?_)
      apply L_call rfl rfl rfl rfl rfl
      · exact isetB (B := bb5 s q.sl) (t := 5) (n := 1) aob5 tk_ tk_ (by omega) (by omega) h51
      rintro _ _ ⟨rfl, rfl⟩
      refine L_nil (hS _ _ ?_)
      clear hS
      refine A_nil (by kernel_rfl) (by (repeat (first | exact Cv.refl | exact Cv.app | (refine Cv.take tk_ ?_) | apply Cv.skip))) ?_
      repeat' (first | (apply gSt; apply L_stV rfl rfl rfl rfl rfl; (· exact up_); (· first | omega | decide); (· first | omega | decide)) | ((fail_if_success apply gAtR 17); (first | ((first | (apply gCall; apply L_call rfl rfl rfl rfl rfl) | (apply gQC; apply Q_call rfl rfl rfl rfl rfl)); (· first | exact zNewArena_c hs); try rintro _ _ ⟨rfl, rfl⟩) | (apply gL; first | refine L_nil ?_ | refine yS ?_ | refine yX fun _ => ?_ | refine yA fun _ => ?_ | (apply gSt; first | refine sR ?_ | refine sB ?_ | refine s1 ?_ | refine sW ?_ | refine sN ?_) | refine kV ?_ | (apply L_val rfl rfl rfl; (· first | (apply gBin; first | fail ) | fail | exact v_bz | exact v_bm rfl rfl | (apply v_ld rfl; (· exact at_); (· exact ld_v0 om hv0); done) | exact (show OpV _ _ _ _ _ _ (.int .i64 q.sl) from v_ldFc (j := 1) prLen rfl at_ hz (by decide) rfl))) | ((fail_if_success (refine L_known rfl ?_)); refine yW (fun h => ?_) fun h => ?_)) | (apply gW; first | refine W_seq ?_ | refine W_region ?_ | refine W_ret ?_ | refine W_skip ?_ | refine W_cond1 rfl ?_ | refine W_cond0 rfl ?_ | refine cW (fun h => ?_) fun h => ?_ | refine wQ ?_) | (first | refine seqR.normal ?_ | refine seqR.ret ?_) | (apply gQ; first | refine Q_nil ?_ | refine Q_skip rfl rfl rfl ?_ | refine kQ ?_ | (apply Q_val rfl rfl rfl; (· first | (apply gBin; first | fail ) | fail | exact v_bz | exact v_bm rfl rfl | (apply v_ld rfl; (· exact at_); (· exact ld_v0 om hv0); done) | exact (show OpV _ _ _ _ _ _ (.int .i64 q.sl) from v_ldFc (j := 1) prLen rfl at_ hz (by decide) rfl))) | ((fail_if_success (refine Q_known rfl ?_)); refine zW (fun h => ?_) fun h => ?_)) | fail)))
      refine W_seq ?_
      apply W_regionA (D := (b6, aObj C (ba2 s)) :: (b2, .cells #[.slice (some ⟨pb, 0, none⟩) M.pr.length X.pc, .slice (ad X.tb) M.tx.length X.tc] 29 (0, 0)) :: H) (by kernel_rfl)
      refine kAt 0 ?_ (cv := by (repeat (first | exact Cv.refl | exact Cv.app | (refine Cv.take tk_ ?_) | apply Cv.skip)))
      refine kAt 2 ?_ (cv := by (repeat (first | exact Cv.refl | exact Cv.app | (refine Cv.take tk_ ?_) | apply Cv.skip)))
      refine A_one (i := 1) (by kernel_rfl) (by (repeat (first | exact Cv.refl | exact Cv.app | (refine Cv.take tk_ ?_) | apply Cv.skip))) rfl (O_of_L fun S hS => ?_)
      apply L_call rfl rfl rfl rfl rfl
      · exact implCopyE_c ee (by (repeat (first | assumption | apply RM.there))) ⟨Nat.le_trans hp1 (by decide), hl.2⟩ hub
      rintro _ _ ⟨X', rfl, hMO, rfl⟩
      refine L_perm (Sink.perm (by (repeat (apply Sink.there)); exact Sink.here)) ?_
      refine L_nil (hS _ _ ?_)
      clear hS
      refine A_val 3 rfl (by kernel_rfl) rfl rfl rfl (by (repeat (first | exact Cv.refl | exact Cv.app | (refine Cv.take tk_ ?_) | apply Cv.skip))) (v_bm rfl rfl) ?_
      refine A_one (i := 4) (by kernel_rfl) (by (repeat (first | exact Cv.refl | exact Cv.app | (refine Cv.take tk_ ?_) | apply Cv.skip))) rfl (O_of_L fun S hS => ?_)
      first | (apply gCall; apply L_call rfl rfl rfl rfl rfl; (· first | exact zNewArena_c hs); rintro _ _ ⟨rfl, rfl⟩) | (apply gL; first | refine L_nil ?_ | refine yS ?_ | refine yX fun _ => ?_ | refine yA fun _ => ?_ | (apply gSt; first | refine sR ?_ | refine sB ?_ | refine s1 ?_ | refine sW ?_ | refine sN ?_) | refine kV ?_ | (apply L_val rfl rfl rfl; (· first | (apply gBin; first | fail ) | fail | exact v_bz | exact v_bm rfl rfl | (apply v_ld rfl; (· exact at_); (· exact ld_v0 om hv0); done) | exact (show OpV _ _ _ _ _ _ (.int .i64 q.sl) from v_ldFc (j := 1) prLen rfl at_ hz (by decide) rfl))) | ((fail_if_success (refine L_known rfl ?_)); refine yW (fun h => ?_) fun h => ?_))
      refine L_nil (hS _ _ ?_)
      clear hS
      refine kAt 5 ?_ (cv := by (repeat (first | exact Cv.refl | exact Cv.app | (refine Cv.take tk_ ?_) | apply Cv.skip)))
      refine A_nil (by kernel_rfl) (by (repeat (first | exact Cv.refl | exact Cv.app | (refine Cv.take tk_ ?_) | apply Cv.skip))) ?_
      repeat' (first | ((first | (apply gCall; apply L_call rfl rfl rfl rfl rfl) | (apply gQC; apply Q_call rfl rfl rfl rfl rfl)); (· first | exact zNewArena_c hs); try rintro _ _ ⟨rfl, rfl⟩) | (apply gL; first | refine L_nil ?_ | refine yS ?_ | refine yX fun _ => ?_ | refine yA fun _ => ?_ | (apply gSt; first | refine sR ?_ | refine sB ?_ | refine s1 ?_ | refine sW ?_ | refine sN ?_) | refine kV ?_ | (apply L_val rfl rfl rfl; (· first | (apply gBin; first | fail ) | fail | exact v_bz | exact v_bm rfl rfl | (apply v_ld rfl; (· exact at_); (· exact ld_v0 om hv0); done) | exact (show OpV _ _ _ _ _ _ (.int .i64 q.sl) from v_ldFc (j := 1) prLen rfl at_ hz (by decide) rfl))) | ((fail_if_success (refine L_known rfl ?_)); refine yW (fun h => ?_) fun h => ?_)) | (apply gW; first | refine W_seq ?_ | refine W_region ?_ | refine W_ret ?_ | refine W_skip ?_ | refine W_cond1 rfl ?_ | refine W_cond0 rfl ?_ | refine cW (fun h => ?_) fun h => ?_ | refine wQ ?_) | (first | refine seqR.normal ?_ | refine seqR.ret ?_) | (apply gQ; first | refine Q_nil ?_ | refine Q_skip rfl rfl rfl ?_ | refine kQ ?_ | (apply Q_val rfl rfl rfl; (· first | (apply gBin; first | fail ) | fail | exact v_bz | exact v_bm rfl rfl | (apply v_ld rfl; (· exact at_); (· exact ld_v0 om hv0); done) | exact (show OpV _ _ _ _ _ _ (.int .i64 q.sl) from v_ldFc (j := 1) prLen rfl at_ hz (by decide) rfl))) | ((fail_if_success (refine Q_known rfl ?_)); refine zW (fun h => ?_) fun h => ?_)) | fail)
      refine retR.ret _ ((C.br, rObj C (bootA s q.sl)) :: (C.bw, wObj C (bootA s q.sl)) :: (mHL M X' ++ H)) (retCT rfl rfl at_ (by rfl) rfl) cvt_ (.inl ⟨⟨hs, hok⟩, X', C, rfl, hMO, by rw [esl]⟩)
    · repeat' (first | exact absurd rfl h | first | ((first | (apply gCall; apply L_call rfl rfl rfl rfl rfl) | (apply gQC; apply Q_call rfl rfl rfl rfl rfl)); (· first | exact zNewArena_c hs); try rintro _ _ ⟨rfl, rfl⟩) | (apply gL; first | refine L_nil ?_ | refine yS ?_ | refine yX fun _ => ?_ | refine yA fun _ => ?_ | (apply gSt; first | refine sR ?_ | refine sB ?_ | refine s1 ?_ | refine sW ?_ | refine sN ?_) | refine kV ?_ | (apply L_val rfl rfl rfl; (· first | (apply gBin; first | fail ) | fail | exact v_bz | exact v_bm rfl rfl | (apply v_ld rfl; (· exact at_); (· exact ld_v0 om hv0); done) | exact (show OpV _ _ _ _ _ _ (.int .i64 q.sl) from v_ldFc (j := 1) prLen rfl at_ hz (by decide) rfl))) | ((fail_if_success (refine L_known rfl ?_)); refine yW (fun h => ?_) fun h => ?_)) | (apply gW; first | refine W_seq ?_ | refine W_region ?_ | refine W_ret ?_ | refine W_skip ?_ | refine W_cond1 rfl ?_ | refine W_cond0 rfl ?_ | refine cW (fun h => ?_) fun h => ?_ | refine wQ ?_) | (first | refine seqR.normal ?_ | refine seqR.ret ?_) | (apply gQ; first | refine Q_nil ?_ | refine Q_skip rfl rfl rfl ?_ | refine kQ ?_ | (apply Q_val rfl rfl rfl; (· first | (apply gBin; first | fail ) | fail | exact v_bz | exact v_bm rfl rfl | (apply v_ld rfl; (· exact at_); (· exact ld_v0 om hv0); done) | exact (show OpV _ _ _ _ _ _ (.int .i64 q.sl) from v_ldFc (j := 1) prLen rfl at_ hz (by decide) rfl))) | ((fail_if_success (refine Q_known rfl ?_)); refine zW (fun h => ?_) fun h => ?_)) | fail)
      exact retR.ret _ _ (retCT rfl rfl at_ (by rfl) rfl) cvt_ (.inr ⟨fun c => hs c.1, rfl, rfl⟩)
  · have hb' : b = false := by cases b with | false => rfl | true => exact absurd (hb.1 rfl) hok
    subst hb'
    repeat' (first | exact absurd rfl h | first | ((first | (apply gCall; apply L_call rfl rfl rfl rfl rfl) | (apply gQC; apply Q_call rfl rfl rfl rfl rfl)); (· first | exact zNewArena_c hs); try rintro _ _ ⟨rfl, rfl⟩) | (apply gL; first | refine L_nil ?_ | refine yS ?_ | refine yX fun _ => ?_ | refine yA fun _ => ?_ | (apply gSt; first | refine sR ?_ | refine sB ?_ | refine s1 ?_ | refine sW ?_ | refine sN ?_) | refine kV ?_ | (apply L_val rfl rfl rfl; (· first | (apply gBin; first | fail ) | fail | exact v_bz | exact v_bm rfl rfl | (apply v_ld rfl; (· exact at_); (· exact ld_v0 om hv0); done) | exact (show OpV _ _ _ _ _ _ (.int .i64 q.sl) from v_ldFc (j := 1) prLen rfl at_ hz (by decide) rfl))) | ((fail_if_success (refine L_known rfl ?_)); refine yW (fun h => ?_) fun h => ?_)) | (apply gW; first | refine W_seq ?_ | refine W_region ?_ | refine W_ret ?_ | refine W_skip ?_ | refine W_cond1 rfl ?_ | refine W_cond0 rfl ?_ | refine cW (fun h => ?_) fun h => ?_ | refine wQ ?_) | (first | refine seqR.normal ?_ | refine seqR.ret ?_) | (apply gQ; first | refine Q_nil ?_ | refine Q_skip rfl rfl rfl ?_ | refine kQ ?_ | (apply Q_val rfl rfl rfl; (· first | (apply gBin; first | fail ) | fail | exact v_bz | exact v_bm rfl rfl | (apply v_ld rfl; (· exact at_); (· exact ld_v0 om hv0); done) | exact (show OpV _ _ _ _ _ _ (.int .i64 q.sl) from v_ldFc (j := 1) prLen rfl at_ hz (by decide) rfl))) | ((fail_if_success (refine Q_known rfl ?_)); refine zW (fun h => ?_) fun h => ?_)) | fail)
    exact retR.ret _ _ (retCT rfl rfl at_ (by rfl) rfl) cvt_ (.inr ⟨fun c => hok c.2, rfl, rfl⟩)
end Go.Proofs.YtfmhlieaodbgiaaGreat.Eng
