/- The implementation's copying: steps, a cycle's end, a collection, a value loaded. -/
import Derived.Test.YtepddopgmhdllaaGreatBkD
import Derived.Test.YtepddopgmhdllaaGreatBkM
import Derived.Test.YtepddopgmhdllaaGreatBkQ
namespace Go.Proofs.YtepddopgmhdllaaGreat.Eng
open Go Go.RowKit Go.Proofs.YtepddopgmhdllaaGreat.Sl Go.Proofs.YtepddopgmhdllaaGreat.Ar Go.Proofs.YtepddopgmhdllaaGreat.Base
set_option linter.unusedVariables false
set_option linter.unusedSimpArgs false
set_option maxRecDepth 10000
variable {w0 : World} {H : HL} {C : Cn} {A : Ar} {ba rc : Nat} {m : List Int} {rp : Option Addr}
theorem fwS_put {B : Ar} {a : Int} (hw : Wf B.ws) (hr : rv B.ws a = true) (h0 : 0 ≤ a) (h1 : a + 1 < (B.ws.length : Int)) (hk : g (B.fwd (rvT B.ws a) (rvN B.ws a)).1.ws a = g B.ws a) :
    (B.fwd (rvT B.ws a) (rvN B.ws a)).1.putV a (rvT B.ws a) (B.fwd (rvT B.ws a) (rvN B.ws a)).2 = B.fwS a := by
  have hfl := fwd_len (A := B) (rvT B.ws a) (rvN B.ws a)
  unfold Ar.fwS Ar.putV
  rw [(rv_w64 hw hr).1, ← hk, set_same h0 (by omega)]
set_option maxHeartbeats 16000000 in
theorem istep_c {n : Int} (h : SI A m) (hn : 1 ≤ n ∧ n ≤ 1000000) (hwc : A.ws.length ≤ C.wc) :
    Fn Tryz.prog w0 158 #[.pointer (some ⟨ba, 0, none⟩), .int .i64 n] ((ba, aObjG C A rp rc) :: (C.bw, wObj C A) :: H) fun v H' => v = .int .i64 (Ar.stp 8001 A.over 0 n).2 ∧ H' = (ba, aObjG C (Ar.stp 8001 A.over 0 n).1 rp rc) :: (C.bw, wObj C (Ar.stp 8001 A.over 0 n).1) :: H := by
  have hSt : StI A A.over m 0 := StI.zero h
  refine enter2 Tryz.func158 rfl rfl Tryz.ntmps158 rfl ?_
  repeat' (first | exact absurd h (by omega) | first | ((first | (apply gCall; apply L_call rfl rfl rfl rfl rfl) | (apply gQC; apply Q_call rfl rfl rfl rfl rfl)); (· first | exact overT tk_ | exact head_c at_ at_ hBw om om | exact val2_c at_ at_ hBw q1 om om om | exact forwardedT tk_ tk_ hBc hFP hwc1 | exact isetT tk_ tk_ om om om); try rintro _ _ ⟨rfl, rfl⟩) | (apply gL; first | refine L_nil ?_ | refine yS ?_ | refine yA fun _ => ?_ | (apply gSt; first | refine sR ?_ | refine sB ?_ | refine s1 ?_ | refine sW ?_ | refine sN ?_) | refine kV ?_ | ((fail_if_success (refine L_known rfl ?_)); refine yW (fun h => ?_) fun h => ?_)) | (apply gW; first | refine W_seq ?_ | refine W_region ?_ | refine W_ret ?_ | refine W_skip ?_ | refine W_block ?_ | refine W_exit ?_ | refine W_cond1 rfl ?_ | refine W_cond0 rfl ?_ | refine cW (fun h => ?_) fun h => ?_ | refine wQ ?_) | (first | refine seqR.normal ?_ | refine seqR.ret ?_ | refine seqR.exit ?_ | refine blockR.normal ?_ | refine blockR.ret ?_ | refine blockR.here ?_ | refine blockR.exit rfl ?_ | refine loopR.ret ?_ | refine loopR.exit ?_ | refine midA.ret ?_ | refine midA.exit ?_) | (apply gQ; first | refine Q_nil ?_ | refine Q_skip rfl rfl rfl ?_ | refine kQ ?_ | ((fail_if_success (refine Q_known rfl ?_)); refine zW (fun h => ?_) fun h => ?_)) | fail)
  rw [← (aObj_over (C := C) (B := A) (rp := none) (rc := 0)).2]
  apply W_loopX (α := Int × Ar × List Int) (fun y => [(0, .pointer (some ⟨ba, 0, none⟩)), (1, .int .i64 n), (5, .int .i64 y.1)])
    (fun y => (ba, aObjG C y.2.1 rp rc) :: (C.bw, wObj C y.2.1) :: H)
    (fun y => StI A y.2.1 y.2.2 y.1 ∧ ∃ f, Ar.stp f y.2.1 y.1 n = Ar.stp 8001 A.over 0 n ∧ 8001 ≤ (f : Int) + y.1) (fun y => stpM y.2.1) (0, A.over, m)
  · exact sub_
  · exact cvt_
  · exact ⟨hSt, _, rfl, by dsimp only; omega⟩
  rintro ⟨d, B, m1⟩ ⟨hS, f, hf, hf2⟩
  dsimp only at hS hf hf2 ⊢
  have hd0 := hS.d0
  by_cases hcd : B.cyc = true ∧ d < n
  · obtain ⟨hc, hdn⟩ := hcd
    have hBw := hS.si.wf
    have hBl := hS.si.ln
    have hBs := hS.si.se
    have hs1 := SI.at_ hS.si hc (hS.ne hc)
    have hs0' := hS.si.s0
    have hlt := GI.lt hS.si hs0' (by omega)
    obtain ⟨o1, o2, o3, -⟩ := hS.si.one _ hs0' hs1
    have hrs := rsR' o2
    have htl := SI.lt hS.si hc
    have hv := hS.si.hv
    have hz : SizeP (rk (g B.ws B.scan)) (rs (g B.ws B.scan)) := by rw [hrs.2.2.1, hrs.2.2.2.1]; exact (of_decide_eq_true (show decide (HeadP _ _ _) = true from o2)).1
    have hdd := hS.dd hc
    obtain ⟨f', rfl, e⟩ := stp_step (f := f) hc hdn (by omega)
    rw [e] at hf
    obtain ⟨m2, hS2, hsc2, -⟩ := hS.step hc
    have hmeas := hS.meas hc
    have hsl : B.sls = slots (rk (g B.ws B.scan)) (rs (g B.ws B.scan)) := rfl
    have hsl2 : B.sls.length ≤ 130 := by rw [hsl]; exact slotsLen
    repeat' (first | exact absurd h (by rw [hc]; decide) | exact absurd hdn h | exact absurd hdn (by omega) | ((fail_if_success apply gAt 7); (first | ((first | (apply gCall; apply L_call rfl rfl rfl rfl rfl) | (apply gQC; apply Q_call rfl rfl rfl rfl rfl)); (· first | exact overT tk_ | exact head_c at_ at_ hBw om om | exact val2_c at_ at_ hBw q1 om om om | exact forwardedT tk_ tk_ hBc hFP hwc1 | exact isetT tk_ tk_ om om om); try rintro _ _ ⟨rfl, rfl⟩) | (apply gL; first | refine L_nil ?_ | refine yS ?_ | refine yA fun _ => ?_ | (apply gSt; first | refine sR ?_ | refine sB ?_ | refine s1 ?_ | refine sW ?_ | refine sN ?_) | refine kV ?_ | ((fail_if_success (refine L_known rfl ?_)); refine yW (fun h => ?_) fun h => ?_)) | (apply gW; first | refine W_seq ?_ | refine W_region ?_ | refine W_ret ?_ | refine W_skip ?_ | refine W_block ?_ | refine W_exit ?_ | refine W_cond1 rfl ?_ | refine W_cond0 rfl ?_ | refine cW (fun h => ?_) fun h => ?_ | refine wQ ?_) | (first | refine seqR.normal ?_ | refine seqR.ret ?_ | refine seqR.exit ?_ | refine blockR.normal ?_ | refine blockR.ret ?_ | refine blockR.here ?_ | refine blockR.exit rfl ?_ | refine loopR.ret ?_ | refine loopR.exit ?_ | refine midA.ret ?_ | refine midA.exit ?_) | (apply gQ; first | refine Q_nil ?_ | refine Q_skip rfl rfl rfl ?_ | refine kQ ?_ | ((fail_if_success (refine Q_known rfl ?_)); refine zW (fun h => ?_) fun h => ?_)) | fail)))
    rename_i b6
    refine W_midA (α := Ar × List Int) (fun y => [(0, .pointer (some ⟨ba, 0, none⟩)), (1, .int .i64 n), (5, .int .i64 d), (6, .pointer (some ⟨b6, 0, none⟩))])
      (fun y => (ba, aObjG C y.1 rp rc) :: (C.bw, wObj C y.1) :: (b6, .cells #[.int .i64 (rk (g B.ws B.scan)), .int .i64 (rs (g B.ws B.scan)), .int .i64 (rn (g B.ws B.scan))] 105 (0, 0)) :: H)
      (fun y => y.1 = Ar.fwI B.scan B.sls (B.sls.length + 1) 0 B ∧ SL B y.1 y.2 B.sls.length) ?_ ?_
    · repeat' (first | ((first | (apply gCall; apply L_call rfl rfl rfl rfl rfl) | (apply gQC; apply Q_call rfl rfl rfl rfl rfl)); (· first | exact overT tk_ | exact head_c at_ at_ hBw om om | exact val2_c at_ at_ hBw q1 om om om | exact forwardedT tk_ tk_ hBc hFP hwc1 | exact isetT tk_ tk_ om om om); try rintro _ _ ⟨rfl, rfl⟩) | (apply gL; first | refine L_nil ?_ | refine yS ?_ | refine yA fun _ => ?_ | (apply gSt; first | refine sR ?_ | refine sB ?_ | refine s1 ?_ | refine sW ?_ | refine sN ?_) | refine kV ?_ | ((fail_if_success (refine L_known rfl ?_)); refine yW (fun h => ?_) fun h => ?_)) | (apply gW; first | refine W_seq ?_ | refine W_region ?_ | refine W_ret ?_ | refine W_skip ?_ | refine W_block ?_ | refine W_exit ?_ | refine W_cond1 rfl ?_ | refine W_cond0 rfl ?_ | refine cW (fun h => ?_) fun h => ?_ | refine wQ ?_) | (first | refine seqR.normal ?_ | refine seqR.ret ?_ | refine seqR.exit ?_ | refine blockR.normal ?_ | refine blockR.ret ?_ | refine blockR.here ?_ | refine blockR.exit rfl ?_ | refine loopR.ret ?_ | refine loopR.exit ?_ | refine midA.ret ?_ | refine midA.exit ?_) | (apply gQ; first | refine Q_nil ?_ | refine Q_skip rfl rfl rfl ?_ | refine kQ ?_ | ((fail_if_success (refine Q_known rfl ?_)); refine zW (fun h => ?_) fun h => ?_)) | fail)
      apply L_call rfl rfl rfl rfl rfl
      · exact islotsG_c hz
      rintro _ _ ⟨bo, cs, sp8, rfl, hbo, rfl⟩
      rw [← hsl] at hbo ⊢
      repeat' (first | ((first | (apply gCall; apply L_call rfl rfl rfl rfl rfl) | (apply gQC; apply Q_call rfl rfl rfl rfl rfl)); (· first | exact overT tk_ | exact head_c at_ at_ hBw om om | exact val2_c at_ at_ hBw q1 om om om | exact forwardedT tk_ tk_ hBc hFP hwc1 | exact isetT tk_ tk_ om om om); try rintro _ _ ⟨rfl, rfl⟩) | (apply gL; first | refine L_nil ?_ | refine yS ?_ | refine yA fun _ => ?_ | (apply gSt; first | refine sR ?_ | refine sB ?_ | refine s1 ?_ | refine sW ?_ | refine sN ?_) | refine kV ?_ | ((fail_if_success (refine L_known rfl ?_)); refine yW (fun h => ?_) fun h => ?_)) | (apply gW; first | refine W_seq ?_ | refine W_region ?_ | refine W_ret ?_ | refine W_skip ?_ | refine W_block ?_ | refine W_exit ?_ | refine W_cond1 rfl ?_ | refine W_cond0 rfl ?_ | refine cW (fun h => ?_) fun h => ?_ | refine wQ ?_) | (first | refine seqR.normal ?_ | refine seqR.ret ?_ | refine seqR.exit ?_ | refine blockR.normal ?_ | refine blockR.ret ?_ | refine blockR.here ?_ | refine blockR.exit rfl ?_ | refine loopR.ret ?_ | refine loopR.exit ?_ | refine midA.ret ?_ | refine midA.exit ?_) | (apply gQ; first | refine Q_nil ?_ | refine Q_skip rfl rfl rfl ?_ | refine kQ ?_ | ((fail_if_success (refine Q_known rfl ?_)); refine zW (fun h => ?_) fun h => ?_)) | fail)
      apply W_loopX (α := Int × Ar × List Int) (fun y => [(0, .pointer (some ⟨ba, 0, none⟩)), (1, .int .i64 n), (5, .int .i64 d), (6, .pointer (some ⟨b6, 0, none⟩)), (32, .slice (ad bo) B.sls.length cs), (33, .int .i64 (B.sls.length : Int)), (34, .int .i64 y.1)])
        (fun y => (ba, aObjG C y.2.1 rp rc) :: (C.bw, wObj C y.2.1) :: (b6, .cells #[.int .i64 (rk (g B.ws B.scan)), .int .i64 (rs (g B.ws B.scan)), .int .i64 (rn (g B.ws B.scan))] 105 (0, 0)) :: (oI bo B.sls sp8 ++ H))
        (fun y => (0 ≤ y.1 ∧ y.1 ≤ B.sls.length) ∧ SL B y.2.1 y.2.2 y.1 ∧ ∃ f, Ar.fwI B.scan B.sls f y.1 y.2.1 = Ar.fwI B.scan B.sls (B.sls.length + 1) 0 B ∧ (B.sls.length : Int) - y.1 < (f : Int)) (fun y => (B.sls.length - y.1).toNat) (0, B, m1)
      · exact sub_
      · exact cvSwap
      · exact ⟨⟨by dsimp only; omega, by dsimp only; omega⟩, SL.zero hS.si hc (hS.ne hc), _, rfl, by dsimp only; omega⟩
      rintro ⟨i, B1, m4⟩ ⟨⟨hi, hi2⟩, hL, f2, hg, hg2⟩
      dsimp only at hi hi2 hL hg hg2 ⊢
      by_cases hlt2 : i < (B.sls.length : Int)
      · rcases bo with _ | bo
        · have := hbo rfl
          rw [this] at hlt2; simp at hlt2; omega
        simp only [oI, ad, List.cons_append, List.nil_append]
        have hBw1 := hBw
        have hBw := hL.gi.wf
        have hBl1 := hL.ln
        have hB1s := hL.sc
        have hBc : B1.cyc = true := hL.cy.trans hc
        have hwc1 : B1.ws.length ≤ C.wc := by have := hS.ln; omega
        obtain ⟨q1, q2, q3⟩ := hL.slot hi hlt2
        obtain ⟨f3, rfl, e2⟩ := fwI_step (p := B.scan) (B := B1) hlt2 hg2
        rw [e2] at hg
        obtain ⟨m5, hL2⟩ := hL.step hi hlt2
        have hFP : FP B1 (rvT B1.ws (B.scan + g B.sls i)) (rvN B1.ws (B.scan + g B.sls i)) := hL.gi.fp q3
        obtain ⟨_, _, kp, -, -⟩ := hL.gi.fwd (hL.hD (by omega)) q3
        have hkw := kp.kw _ (g B.sls i) hs0' hL.k1 (by omega) (by rw [hL.hw]; omega)
        have hone := hL.gi.one _ hs0' hL.k1
        rw [hL.hw] at hone
        have hlt3 := GI.lt hL.gi hs0' (by rw [hL.k1]; omega)
        have hrm := hL.gi.rm
        have hv1 := hL.gi.hv
        have hse1 := hL.gi.se
        have hln1 := hL.gi.ln
        have hS0 := S2_0 B1.ws m4 B1.ws.length
        rw [← hB1s] at q1 q3 hFP hkw
        have eS : B1.fwS (B.scan + g B.sls i) = B1.fwS (B1.scan + g B.sls i) := by rw [hB1s]
        have hfs := fwd_same (A := B1) (rvT B1.ws (B1.scan + g B.sls i)) (rvN B1.ws (B1.scan + g B.sls i))
        have hFl := fwd_len (A := B1) (rvT B1.ws (B1.scan + g B.sls i)) (rvN B1.ws (B1.scan + g B.sls i))
        have eP := fwS_put hBw q1 (by omega) (by omega) hkw
        repeat' (first | exact absurd hlt2 h | ((fail_if_success apply gAt1 10); (first | ((first | (apply gCall; apply L_call rfl rfl rfl rfl rfl) | (apply gQC; apply Q_call rfl rfl rfl rfl rfl)); (· first | exact overT tk_ | exact head_c at_ at_ hBw om om | exact val2_c at_ at_ hBw q1 om om om | exact forwardedT tk_ tk_ hBc hFP hwc1 | exact isetT tk_ tk_ om om om); try rintro _ _ ⟨rfl, rfl⟩) | (apply gL; first | refine L_nil ?_ | refine yS ?_ | refine yA fun _ => ?_ | (apply gSt; first | refine sR ?_ | refine sB ?_ | refine s1 ?_ | refine sW ?_ | refine sN ?_) | refine kV ?_ | ((fail_if_success (refine L_known rfl ?_)); refine yW (fun h => ?_) fun h => ?_)) | (apply gW; first | refine W_seq ?_ | refine W_region ?_ | refine W_ret ?_ | refine W_skip ?_ | refine W_block ?_ | refine W_exit ?_ | refine W_cond1 rfl ?_ | refine W_cond0 rfl ?_ | refine cW (fun h => ?_) fun h => ?_ | refine wQ ?_) | (first | refine seqR.normal ?_ | refine seqR.ret ?_ | refine seqR.exit ?_ | refine blockR.normal ?_ | refine blockR.ret ?_ | refine blockR.here ?_ | refine blockR.exit rfl ?_ | refine loopR.ret ?_ | refine loopR.exit ?_ | refine midA.ret ?_ | refine midA.exit ?_) | (apply gQ; first | refine Q_nil ?_ | refine Q_skip rfl rfl rfl ?_ | refine kQ ?_ | ((fail_if_success (refine Q_known rfl ?_)); refine zW (fun h => ?_) fun h => ?_)) | fail)))
        have hkk : B1.scan = B1.scan ∧ B1.vs.length = B1.vs.length := ⟨rfl, rfl⟩
        apply W_regionK (KF C B1 rp rc ba H) (by kernel_rfl)
        apply K_val 0 rfl (by kernel_rfl) rfl rfl rfl (by exact kf_mk hkk cvt_)
        · intro D hD; first | (first | exact v_move rfl | exact v_fieldAddr rfl | (apply gLd; first | (apply v_ld rfl; (· exact at_); (· first | rfl | exact ld_row om om | exact ld_rowB om om); done) | (apply v_ldV rfl; (· exact at_); (· omega); (· omega); done) | (apply v_ldW rfl; (· exact at_); (· rfl); done) | (apply v_ldN rfl; (· exact at_); (· first | exact Nat.le_refl _ | exact ldN_row om om); done)) | (apply gBin; first | exact v_eq rfl rfl | exact v_add rfl rfl om | exact v_lt rfl rfl | exact v_ne rfl rfl | exact v_ge rfl rfl | exact v_sub rfl rfl om | exact v_le rfl rfl | exact v_gt rfl rfl | exact v_mul rfl rfl om | exact v_rem rfl rfl om om | exact v_quo rfl rfl om om ) | exact v_assign rfl | (apply gPk; first | exact v_pick1 rfl rfl | exact v_pick0 rfl rfl) | exact v_extract rfl rfl | exact v_idx rfl rfl om | exact v_not rfl | exact v_field rfl rfl | exact v_nil rfl | (apply v_lookup rfl rfl; (· exact at_); done) | (apply gCv; first | exact v_convi rfl om | exact v_sg rfl om | exact v_convu rfl om | exact v_conv rfl) | exact v_len rfl | (apply gBd; first | exact v_build0 | exact v_build2' rfl rfl rfl rfl rfl | exact v_build3' rfl rfl rfl rfl rfl rfl rfl | exact v_build2 rfl rfl rfl rfl rfl rfl (by simp only [setParts, List.set_cons_zero, List.set_cons_succ]; rfl) | exact v_build3 rfl rfl rfl rfl rfl rfl rfl rfl rfl (by simp only [setParts, List.set_cons_zero, List.set_cons_succ]; rfl) | exact v_build1 rfl rfl rfl (by simp only [setParts, List.set_cons_zero, List.set_cons_succ]; rfl)) ) | exact kf_scan rfl hD | exact kf_vs rfl hD | (obtain ⟨_, _, rfl⟩ := hD; (first | exact v_move rfl | exact v_fieldAddr rfl | (apply gLd; first | (apply v_ld rfl; (· exact at_); (· first | rfl | exact ld_row om om | exact ld_rowB om om); done) | (apply v_ldV rfl; (· exact at_); (· omega); (· omega); done) | (apply v_ldW rfl; (· exact at_); (· rfl); done) | (apply v_ldN rfl; (· exact at_); (· first | exact Nat.le_refl _ | exact ldN_row om om); done)) | (apply gBin; first | exact v_eq rfl rfl | exact v_add rfl rfl om | exact v_lt rfl rfl | exact v_ne rfl rfl | exact v_ge rfl rfl | exact v_sub rfl rfl om | exact v_le rfl rfl | exact v_gt rfl rfl | exact v_mul rfl rfl om | exact v_rem rfl rfl om om | exact v_quo rfl rfl om om ) | exact v_assign rfl | (apply gPk; first | exact v_pick1 rfl rfl | exact v_pick0 rfl rfl) | exact v_extract rfl rfl | exact v_idx rfl rfl om | exact v_not rfl | exact v_field rfl rfl | exact v_nil rfl | (apply v_lookup rfl rfl; (· exact at_); done) | (apply gCv; first | exact v_convi rfl om | exact v_sg rfl om | exact v_convu rfl om | exact v_conv rfl) | exact v_len rfl | (apply gBd; first | exact v_build0 | exact v_build2' rfl rfl rfl rfl rfl | exact v_build3' rfl rfl rfl rfl rfl rfl rfl | exact v_build2 rfl rfl rfl rfl rfl rfl (by simp only [setParts, List.set_cons_zero, List.set_cons_succ]; rfl) | exact v_build3 rfl rfl rfl rfl rfl rfl rfl rfl rfl (by simp only [setParts, List.set_cons_zero, List.set_cons_succ]; rfl) | exact v_build1 rfl rfl rfl (by simp only [setParts, List.set_cons_zero, List.set_cons_succ]; rfl)) ))
        apply K_val 1 rfl (by kernel_rfl) rfl rfl rfl (by exact kf_mk hkk cvt_)
        · intro D hD; first | (first | exact v_move rfl | exact v_fieldAddr rfl | (apply gLd; first | (apply v_ld rfl; (· exact at_); (· first | rfl | exact ld_row om om | exact ld_rowB om om); done) | (apply v_ldV rfl; (· exact at_); (· omega); (· omega); done) | (apply v_ldW rfl; (· exact at_); (· rfl); done) | (apply v_ldN rfl; (· exact at_); (· first | exact Nat.le_refl _ | exact ldN_row om om); done)) | (apply gBin; first | exact v_eq rfl rfl | exact v_add rfl rfl om | exact v_lt rfl rfl | exact v_ne rfl rfl | exact v_ge rfl rfl | exact v_sub rfl rfl om | exact v_le rfl rfl | exact v_gt rfl rfl | exact v_mul rfl rfl om | exact v_rem rfl rfl om om | exact v_quo rfl rfl om om ) | exact v_assign rfl | (apply gPk; first | exact v_pick1 rfl rfl | exact v_pick0 rfl rfl) | exact v_extract rfl rfl | exact v_idx rfl rfl om | exact v_not rfl | exact v_field rfl rfl | exact v_nil rfl | (apply v_lookup rfl rfl; (· exact at_); done) | (apply gCv; first | exact v_convi rfl om | exact v_sg rfl om | exact v_convu rfl om | exact v_conv rfl) | exact v_len rfl | (apply gBd; first | exact v_build0 | exact v_build2' rfl rfl rfl rfl rfl | exact v_build3' rfl rfl rfl rfl rfl rfl rfl | exact v_build2 rfl rfl rfl rfl rfl rfl (by simp only [setParts, List.set_cons_zero, List.set_cons_succ]; rfl) | exact v_build3 rfl rfl rfl rfl rfl rfl rfl rfl rfl (by simp only [setParts, List.set_cons_zero, List.set_cons_succ]; rfl) | exact v_build1 rfl rfl rfl (by simp only [setParts, List.set_cons_zero, List.set_cons_succ]; rfl)) ) | exact kf_scan rfl hD | exact kf_vs rfl hD | (obtain ⟨_, _, rfl⟩ := hD; (first | exact v_move rfl | exact v_fieldAddr rfl | (apply gLd; first | (apply v_ld rfl; (· exact at_); (· first | rfl | exact ld_row om om | exact ld_rowB om om); done) | (apply v_ldV rfl; (· exact at_); (· omega); (· omega); done) | (apply v_ldW rfl; (· exact at_); (· rfl); done) | (apply v_ldN rfl; (· exact at_); (· first | exact Nat.le_refl _ | exact ldN_row om om); done)) | (apply gBin; first | exact v_eq rfl rfl | exact v_add rfl rfl om | exact v_lt rfl rfl | exact v_ne rfl rfl | exact v_ge rfl rfl | exact v_sub rfl rfl om | exact v_le rfl rfl | exact v_gt rfl rfl | exact v_mul rfl rfl om | exact v_rem rfl rfl om om | exact v_quo rfl rfl om om ) | exact v_assign rfl | (apply gPk; first | exact v_pick1 rfl rfl | exact v_pick0 rfl rfl) | exact v_extract rfl rfl | exact v_idx rfl rfl om | exact v_not rfl | exact v_field rfl rfl | exact v_nil rfl | (apply v_lookup rfl rfl; (· exact at_); done) | (apply gCv; first | exact v_convi rfl om | exact v_sg rfl om | exact v_convu rfl om | exact v_conv rfl) | exact v_len rfl | (apply gBd; first | exact v_build0 | exact v_build2' rfl rfl rfl rfl rfl | exact v_build3' rfl rfl rfl rfl rfl rfl rfl | exact v_build2 rfl rfl rfl rfl rfl rfl (by simp only [setParts, List.set_cons_zero, List.set_cons_succ]; rfl) | exact v_build3 rfl rfl rfl rfl rfl rfl rfl rfl rfl (by simp only [setParts, List.set_cons_zero, List.set_cons_succ]; rfl) | exact v_build1 rfl rfl rfl (by simp only [setParts, List.set_cons_zero, List.set_cons_succ]; rfl)) ))
        apply K_val 2 rfl (by kernel_rfl) rfl rfl rfl (by exact kf_mk hkk cvt_)
        · intro D hD; first | (first | exact v_move rfl | exact v_fieldAddr rfl | (apply gLd; first | (apply v_ld rfl; (· exact at_); (· first | rfl | exact ld_row om om | exact ld_rowB om om); done) | (apply v_ldV rfl; (· exact at_); (· omega); (· omega); done) | (apply v_ldW rfl; (· exact at_); (· rfl); done) | (apply v_ldN rfl; (· exact at_); (· first | exact Nat.le_refl _ | exact ldN_row om om); done)) | (apply gBin; first | exact v_eq rfl rfl | exact v_add rfl rfl om | exact v_lt rfl rfl | exact v_ne rfl rfl | exact v_ge rfl rfl | exact v_sub rfl rfl om | exact v_le rfl rfl | exact v_gt rfl rfl | exact v_mul rfl rfl om | exact v_rem rfl rfl om om | exact v_quo rfl rfl om om ) | exact v_assign rfl | (apply gPk; first | exact v_pick1 rfl rfl | exact v_pick0 rfl rfl) | exact v_extract rfl rfl | exact v_idx rfl rfl om | exact v_not rfl | exact v_field rfl rfl | exact v_nil rfl | (apply v_lookup rfl rfl; (· exact at_); done) | (apply gCv; first | exact v_convi rfl om | exact v_sg rfl om | exact v_convu rfl om | exact v_conv rfl) | exact v_len rfl | (apply gBd; first | exact v_build0 | exact v_build2' rfl rfl rfl rfl rfl | exact v_build3' rfl rfl rfl rfl rfl rfl rfl | exact v_build2 rfl rfl rfl rfl rfl rfl (by simp only [setParts, List.set_cons_zero, List.set_cons_succ]; rfl) | exact v_build3 rfl rfl rfl rfl rfl rfl rfl rfl rfl (by simp only [setParts, List.set_cons_zero, List.set_cons_succ]; rfl) | exact v_build1 rfl rfl rfl (by simp only [setParts, List.set_cons_zero, List.set_cons_succ]; rfl)) ) | exact kf_scan rfl hD | exact kf_vs rfl hD | (obtain ⟨_, _, rfl⟩ := hD; (first | exact v_move rfl | exact v_fieldAddr rfl | (apply gLd; first | (apply v_ld rfl; (· exact at_); (· first | rfl | exact ld_row om om | exact ld_rowB om om); done) | (apply v_ldV rfl; (· exact at_); (· omega); (· omega); done) | (apply v_ldW rfl; (· exact at_); (· rfl); done) | (apply v_ldN rfl; (· exact at_); (· first | exact Nat.le_refl _ | exact ldN_row om om); done)) | (apply gBin; first | exact v_eq rfl rfl | exact v_add rfl rfl om | exact v_lt rfl rfl | exact v_ne rfl rfl | exact v_ge rfl rfl | exact v_sub rfl rfl om | exact v_le rfl rfl | exact v_gt rfl rfl | exact v_mul rfl rfl om | exact v_rem rfl rfl om om | exact v_quo rfl rfl om om ) | exact v_assign rfl | (apply gPk; first | exact v_pick1 rfl rfl | exact v_pick0 rfl rfl) | exact v_extract rfl rfl | exact v_idx rfl rfl om | exact v_not rfl | exact v_field rfl rfl | exact v_nil rfl | (apply v_lookup rfl rfl; (· exact at_); done) | (apply gCv; first | exact v_convi rfl om | exact v_sg rfl om | exact v_convu rfl om | exact v_conv rfl) | exact v_len rfl | (apply gBd; first | exact v_build0 | exact v_build2' rfl rfl rfl rfl rfl | exact v_build3' rfl rfl rfl rfl rfl rfl rfl | exact v_build2 rfl rfl rfl rfl rfl rfl (by simp only [setParts, List.set_cons_zero, List.set_cons_succ]; rfl) | exact v_build3 rfl rfl rfl rfl rfl rfl rfl rfl rfl (by simp only [setParts, List.set_cons_zero, List.set_cons_succ]; rfl) | exact v_build1 rfl rfl rfl (by simp only [setParts, List.set_cons_zero, List.set_cons_succ]; rfl)) ))
        apply K_val 3 rfl (by kernel_rfl) rfl rfl rfl (by exact kf_mk hkk cvt_)
        · intro D hD; first | (first | exact v_move rfl | exact v_fieldAddr rfl | (apply gLd; first | (apply v_ld rfl; (· exact at_); (· first | rfl | exact ld_row om om | exact ld_rowB om om); done) | (apply v_ldV rfl; (· exact at_); (· omega); (· omega); done) | (apply v_ldW rfl; (· exact at_); (· rfl); done) | (apply v_ldN rfl; (· exact at_); (· first | exact Nat.le_refl _ | exact ldN_row om om); done)) | (apply gBin; first | exact v_eq rfl rfl | exact v_add rfl rfl om | exact v_lt rfl rfl | exact v_ne rfl rfl | exact v_ge rfl rfl | exact v_sub rfl rfl om | exact v_le rfl rfl | exact v_gt rfl rfl | exact v_mul rfl rfl om | exact v_rem rfl rfl om om | exact v_quo rfl rfl om om ) | exact v_assign rfl | (apply gPk; first | exact v_pick1 rfl rfl | exact v_pick0 rfl rfl) | exact v_extract rfl rfl | exact v_idx rfl rfl om | exact v_not rfl | exact v_field rfl rfl | exact v_nil rfl | (apply v_lookup rfl rfl; (· exact at_); done) | (apply gCv; first | exact v_convi rfl om | exact v_sg rfl om | exact v_convu rfl om | exact v_conv rfl) | exact v_len rfl | (apply gBd; first | exact v_build0 | exact v_build2' rfl rfl rfl rfl rfl | exact v_build3' rfl rfl rfl rfl rfl rfl rfl | exact v_build2 rfl rfl rfl rfl rfl rfl (by simp only [setParts, List.set_cons_zero, List.set_cons_succ]; rfl) | exact v_build3 rfl rfl rfl rfl rfl rfl rfl rfl rfl (by simp only [setParts, List.set_cons_zero, List.set_cons_succ]; rfl) | exact v_build1 rfl rfl rfl (by simp only [setParts, List.set_cons_zero, List.set_cons_succ]; rfl)) ) | exact kf_scan rfl hD | exact kf_vs rfl hD | (obtain ⟨_, _, rfl⟩ := hD; (first | exact v_move rfl | exact v_fieldAddr rfl | (apply gLd; first | (apply v_ld rfl; (· exact at_); (· first | rfl | exact ld_row om om | exact ld_rowB om om); done) | (apply v_ldV rfl; (· exact at_); (· omega); (· omega); done) | (apply v_ldW rfl; (· exact at_); (· rfl); done) | (apply v_ldN rfl; (· exact at_); (· first | exact Nat.le_refl _ | exact ldN_row om om); done)) | (apply gBin; first | exact v_eq rfl rfl | exact v_add rfl rfl om | exact v_lt rfl rfl | exact v_ne rfl rfl | exact v_ge rfl rfl | exact v_sub rfl rfl om | exact v_le rfl rfl | exact v_gt rfl rfl | exact v_mul rfl rfl om | exact v_rem rfl rfl om om | exact v_quo rfl rfl om om ) | exact v_assign rfl | (apply gPk; first | exact v_pick1 rfl rfl | exact v_pick0 rfl rfl) | exact v_extract rfl rfl | exact v_idx rfl rfl om | exact v_not rfl | exact v_field rfl rfl | exact v_nil rfl | (apply v_lookup rfl rfl; (· exact at_); done) | (apply gCv; first | exact v_convi rfl om | exact v_sg rfl om | exact v_convu rfl om | exact v_conv rfl) | exact v_len rfl | (apply gBd; first | exact v_build0 | exact v_build2' rfl rfl rfl rfl rfl | exact v_build3' rfl rfl rfl rfl rfl rfl rfl | exact v_build2 rfl rfl rfl rfl rfl rfl (by simp only [setParts, List.set_cons_zero, List.set_cons_succ]; rfl) | exact v_build3 rfl rfl rfl rfl rfl rfl rfl rfl rfl (by simp only [setParts, List.set_cons_zero, List.set_cons_succ]; rfl) | exact v_build1 rfl rfl rfl (by simp only [setParts, List.set_cons_zero, List.set_cons_succ]; rfl)) ))
        apply K_val 4 rfl (by kernel_rfl) rfl rfl rfl (by exact kf_mk hkk cvt_)
        · intro D hD; first | (first | exact v_move rfl | exact v_fieldAddr rfl | (apply gLd; first | (apply v_ld rfl; (· exact at_); (· first | rfl | exact ld_row om om | exact ld_rowB om om); done) | (apply v_ldV rfl; (· exact at_); (· omega); (· omega); done) | (apply v_ldW rfl; (· exact at_); (· rfl); done) | (apply v_ldN rfl; (· exact at_); (· first | exact Nat.le_refl _ | exact ldN_row om om); done)) | (apply gBin; first | exact v_eq rfl rfl | exact v_add rfl rfl om | exact v_lt rfl rfl | exact v_ne rfl rfl | exact v_ge rfl rfl | exact v_sub rfl rfl om | exact v_le rfl rfl | exact v_gt rfl rfl | exact v_mul rfl rfl om | exact v_rem rfl rfl om om | exact v_quo rfl rfl om om ) | exact v_assign rfl | (apply gPk; first | exact v_pick1 rfl rfl | exact v_pick0 rfl rfl) | exact v_extract rfl rfl | exact v_idx rfl rfl om | exact v_not rfl | exact v_field rfl rfl | exact v_nil rfl | (apply v_lookup rfl rfl; (· exact at_); done) | (apply gCv; first | exact v_convi rfl om | exact v_sg rfl om | exact v_convu rfl om | exact v_conv rfl) | exact v_len rfl | (apply gBd; first | exact v_build0 | exact v_build2' rfl rfl rfl rfl rfl | exact v_build3' rfl rfl rfl rfl rfl rfl rfl | exact v_build2 rfl rfl rfl rfl rfl rfl (by simp only [setParts, List.set_cons_zero, List.set_cons_succ]; rfl) | exact v_build3 rfl rfl rfl rfl rfl rfl rfl rfl rfl (by simp only [setParts, List.set_cons_zero, List.set_cons_succ]; rfl) | exact v_build1 rfl rfl rfl (by simp only [setParts, List.set_cons_zero, List.set_cons_succ]; rfl)) ) | exact kf_scan rfl hD | exact kf_vs rfl hD | (obtain ⟨_, _, rfl⟩ := hD; (first | exact v_move rfl | exact v_fieldAddr rfl | (apply gLd; first | (apply v_ld rfl; (· exact at_); (· first | rfl | exact ld_row om om | exact ld_rowB om om); done) | (apply v_ldV rfl; (· exact at_); (· omega); (· omega); done) | (apply v_ldW rfl; (· exact at_); (· rfl); done) | (apply v_ldN rfl; (· exact at_); (· first | exact Nat.le_refl _ | exact ldN_row om om); done)) | (apply gBin; first | exact v_eq rfl rfl | exact v_add rfl rfl om | exact v_lt rfl rfl | exact v_ne rfl rfl | exact v_ge rfl rfl | exact v_sub rfl rfl om | exact v_le rfl rfl | exact v_gt rfl rfl | exact v_mul rfl rfl om | exact v_rem rfl rfl om om | exact v_quo rfl rfl om om ) | exact v_assign rfl | (apply gPk; first | exact v_pick1 rfl rfl | exact v_pick0 rfl rfl) | exact v_extract rfl rfl | exact v_idx rfl rfl om | exact v_not rfl | exact v_field rfl rfl | exact v_nil rfl | (apply v_lookup rfl rfl; (· exact at_); done) | (apply gCv; first | exact v_convi rfl om | exact v_sg rfl om | exact v_convu rfl om | exact v_conv rfl) | exact v_len rfl | (apply gBd; first | exact v_build0 | exact v_build2' rfl rfl rfl rfl rfl | exact v_build3' rfl rfl rfl rfl rfl rfl rfl | exact v_build2 rfl rfl rfl rfl rfl rfl (by simp only [setParts, List.set_cons_zero, List.set_cons_succ]; rfl) | exact v_build3 rfl rfl rfl rfl rfl rfl rfl rfl rfl (by simp only [setParts, List.set_cons_zero, List.set_cons_succ]; rfl) | exact v_build1 rfl rfl rfl (by simp only [setParts, List.set_cons_zero, List.set_cons_succ]; rfl)) ))
        apply K_val 5 rfl (by kernel_rfl) rfl rfl rfl (by exact kf_mk hkk cvt_)
        · intro D hD; first | (first | exact v_move rfl | exact v_fieldAddr rfl | (apply gLd; first | (apply v_ld rfl; (· exact at_); (· first | rfl | exact ld_row om om | exact ld_rowB om om); done) | (apply v_ldV rfl; (· exact at_); (· omega); (· omega); done) | (apply v_ldW rfl; (· exact at_); (· rfl); done) | (apply v_ldN rfl; (· exact at_); (· first | exact Nat.le_refl _ | exact ldN_row om om); done)) | (apply gBin; first | exact v_eq rfl rfl | exact v_add rfl rfl om | exact v_lt rfl rfl | exact v_ne rfl rfl | exact v_ge rfl rfl | exact v_sub rfl rfl om | exact v_le rfl rfl | exact v_gt rfl rfl | exact v_mul rfl rfl om | exact v_rem rfl rfl om om | exact v_quo rfl rfl om om ) | exact v_assign rfl | (apply gPk; first | exact v_pick1 rfl rfl | exact v_pick0 rfl rfl) | exact v_extract rfl rfl | exact v_idx rfl rfl om | exact v_not rfl | exact v_field rfl rfl | exact v_nil rfl | (apply v_lookup rfl rfl; (· exact at_); done) | (apply gCv; first | exact v_convi rfl om | exact v_sg rfl om | exact v_convu rfl om | exact v_conv rfl) | exact v_len rfl | (apply gBd; first | exact v_build0 | exact v_build2' rfl rfl rfl rfl rfl | exact v_build3' rfl rfl rfl rfl rfl rfl rfl | exact v_build2 rfl rfl rfl rfl rfl rfl (by simp only [setParts, List.set_cons_zero, List.set_cons_succ]; rfl) | exact v_build3 rfl rfl rfl rfl rfl rfl rfl rfl rfl (by simp only [setParts, List.set_cons_zero, List.set_cons_succ]; rfl) | exact v_build1 rfl rfl rfl (by simp only [setParts, List.set_cons_zero, List.set_cons_succ]; rfl)) ) | exact kf_scan rfl hD | exact kf_vs rfl hD | (obtain ⟨_, _, rfl⟩ := hD; (first | exact v_move rfl | exact v_fieldAddr rfl | (apply gLd; first | (apply v_ld rfl; (· exact at_); (· first | rfl | exact ld_row om om | exact ld_rowB om om); done) | (apply v_ldV rfl; (· exact at_); (· omega); (· omega); done) | (apply v_ldW rfl; (· exact at_); (· rfl); done) | (apply v_ldN rfl; (· exact at_); (· first | exact Nat.le_refl _ | exact ldN_row om om); done)) | (apply gBin; first | exact v_eq rfl rfl | exact v_add rfl rfl om | exact v_lt rfl rfl | exact v_ne rfl rfl | exact v_ge rfl rfl | exact v_sub rfl rfl om | exact v_le rfl rfl | exact v_gt rfl rfl | exact v_mul rfl rfl om | exact v_rem rfl rfl om om | exact v_quo rfl rfl om om ) | exact v_assign rfl | (apply gPk; first | exact v_pick1 rfl rfl | exact v_pick0 rfl rfl) | exact v_extract rfl rfl | exact v_idx rfl rfl om | exact v_not rfl | exact v_field rfl rfl | exact v_nil rfl | (apply v_lookup rfl rfl; (· exact at_); done) | (apply gCv; first | exact v_convi rfl om | exact v_sg rfl om | exact v_convu rfl om | exact v_conv rfl) | exact v_len rfl | (apply gBd; first | exact v_build0 | exact v_build2' rfl rfl rfl rfl rfl | exact v_build3' rfl rfl rfl rfl rfl rfl rfl | exact v_build2 rfl rfl rfl rfl rfl rfl (by simp only [setParts, List.set_cons_zero, List.set_cons_succ]; rfl) | exact v_build3 rfl rfl rfl rfl rfl rfl rfl rfl rfl (by simp only [setParts, List.set_cons_zero, List.set_cons_succ]; rfl) | exact v_build1 rfl rfl rfl (by simp only [setParts, List.set_cons_zero, List.set_cons_succ]; rfl)) ))
        apply K_val 6 rfl (by kernel_rfl) rfl rfl rfl (by exact kf_mk hkk cvt_)
        · intro D hD; first | (first | exact v_move rfl | exact v_fieldAddr rfl | (apply gLd; first | (apply v_ld rfl; (· exact at_); (· first | rfl | exact ld_row om om | exact ld_rowB om om); done) | (apply v_ldV rfl; (· exact at_); (· omega); (· omega); done) | (apply v_ldW rfl; (· exact at_); (· rfl); done) | (apply v_ldN rfl; (· exact at_); (· first | exact Nat.le_refl _ | exact ldN_row om om); done)) | (apply gBin; first | exact v_eq rfl rfl | exact v_add rfl rfl om | exact v_lt rfl rfl | exact v_ne rfl rfl | exact v_ge rfl rfl | exact v_sub rfl rfl om | exact v_le rfl rfl | exact v_gt rfl rfl | exact v_mul rfl rfl om | exact v_rem rfl rfl om om | exact v_quo rfl rfl om om ) | exact v_assign rfl | (apply gPk; first | exact v_pick1 rfl rfl | exact v_pick0 rfl rfl) | exact v_extract rfl rfl | exact v_idx rfl rfl om | exact v_not rfl | exact v_field rfl rfl | exact v_nil rfl | (apply v_lookup rfl rfl; (· exact at_); done) | (apply gCv; first | exact v_convi rfl om | exact v_sg rfl om | exact v_convu rfl om | exact v_conv rfl) | exact v_len rfl | (apply gBd; first | exact v_build0 | exact v_build2' rfl rfl rfl rfl rfl | exact v_build3' rfl rfl rfl rfl rfl rfl rfl | exact v_build2 rfl rfl rfl rfl rfl rfl (by simp only [setParts, List.set_cons_zero, List.set_cons_succ]; rfl) | exact v_build3 rfl rfl rfl rfl rfl rfl rfl rfl rfl (by simp only [setParts, List.set_cons_zero, List.set_cons_succ]; rfl) | exact v_build1 rfl rfl rfl (by simp only [setParts, List.set_cons_zero, List.set_cons_succ]; rfl)) ) | exact kf_scan rfl hD | exact kf_vs rfl hD | (obtain ⟨_, _, rfl⟩ := hD; (first | exact v_move rfl | exact v_fieldAddr rfl | (apply gLd; first | (apply v_ld rfl; (· exact at_); (· first | rfl | exact ld_row om om | exact ld_rowB om om); done) | (apply v_ldV rfl; (· exact at_); (· omega); (· omega); done) | (apply v_ldW rfl; (· exact at_); (· rfl); done) | (apply v_ldN rfl; (· exact at_); (· first | exact Nat.le_refl _ | exact ldN_row om om); done)) | (apply gBin; first | exact v_eq rfl rfl | exact v_add rfl rfl om | exact v_lt rfl rfl | exact v_ne rfl rfl | exact v_ge rfl rfl | exact v_sub rfl rfl om | exact v_le rfl rfl | exact v_gt rfl rfl | exact v_mul rfl rfl om | exact v_rem rfl rfl om om | exact v_quo rfl rfl om om ) | exact v_assign rfl | (apply gPk; first | exact v_pick1 rfl rfl | exact v_pick0 rfl rfl) | exact v_extract rfl rfl | exact v_idx rfl rfl om | exact v_not rfl | exact v_field rfl rfl | exact v_nil rfl | (apply v_lookup rfl rfl; (· exact at_); done) | (apply gCv; first | exact v_convi rfl om | exact v_sg rfl om | exact v_convu rfl om | exact v_conv rfl) | exact v_len rfl | (apply gBd; first | exact v_build0 | exact v_build2' rfl rfl rfl rfl rfl | exact v_build3' rfl rfl rfl rfl rfl rfl rfl | exact v_build2 rfl rfl rfl rfl rfl rfl (by simp only [setParts, List.set_cons_zero, List.set_cons_succ]; rfl) | exact v_build3 rfl rfl rfl rfl rfl rfl rfl rfl rfl (by simp only [setParts, List.set_cons_zero, List.set_cons_succ]; rfl) | exact v_build1 rfl rfl rfl (by simp only [setParts, List.set_cons_zero, List.set_cons_succ]; rfl)) ))
        apply K_val 7 rfl (by kernel_rfl) rfl rfl rfl (by exact kf_mk hkk cvt_)
        · intro D hD; first | (first | exact v_move rfl | exact v_fieldAddr rfl | (apply gLd; first | (apply v_ld rfl; (· exact at_); (· first | rfl | exact ld_row om om | exact ld_rowB om om); done) | (apply v_ldV rfl; (· exact at_); (· omega); (· omega); done) | (apply v_ldW rfl; (· exact at_); (· rfl); done) | (apply v_ldN rfl; (· exact at_); (· first | exact Nat.le_refl _ | exact ldN_row om om); done)) | (apply gBin; first | exact v_eq rfl rfl | exact v_add rfl rfl om | exact v_lt rfl rfl | exact v_ne rfl rfl | exact v_ge rfl rfl | exact v_sub rfl rfl om | exact v_le rfl rfl | exact v_gt rfl rfl | exact v_mul rfl rfl om | exact v_rem rfl rfl om om | exact v_quo rfl rfl om om ) | exact v_assign rfl | (apply gPk; first | exact v_pick1 rfl rfl | exact v_pick0 rfl rfl) | exact v_extract rfl rfl | exact v_idx rfl rfl om | exact v_not rfl | exact v_field rfl rfl | exact v_nil rfl | (apply v_lookup rfl rfl; (· exact at_); done) | (apply gCv; first | exact v_convi rfl om | exact v_sg rfl om | exact v_convu rfl om | exact v_conv rfl) | exact v_len rfl | (apply gBd; first | exact v_build0 | exact v_build2' rfl rfl rfl rfl rfl | exact v_build3' rfl rfl rfl rfl rfl rfl rfl | exact v_build2 rfl rfl rfl rfl rfl rfl (by simp only [setParts, List.set_cons_zero, List.set_cons_succ]; rfl) | exact v_build3 rfl rfl rfl rfl rfl rfl rfl rfl rfl (by simp only [setParts, List.set_cons_zero, List.set_cons_succ]; rfl) | exact v_build1 rfl rfl rfl (by simp only [setParts, List.set_cons_zero, List.set_cons_succ]; rfl)) ) | exact kf_scan rfl hD | exact kf_vs rfl hD | (obtain ⟨_, _, rfl⟩ := hD; (first | exact v_move rfl | exact v_fieldAddr rfl | (apply gLd; first | (apply v_ld rfl; (· exact at_); (· first | rfl | exact ld_row om om | exact ld_rowB om om); done) | (apply v_ldV rfl; (· exact at_); (· omega); (· omega); done) | (apply v_ldW rfl; (· exact at_); (· rfl); done) | (apply v_ldN rfl; (· exact at_); (· first | exact Nat.le_refl _ | exact ldN_row om om); done)) | (apply gBin; first | exact v_eq rfl rfl | exact v_add rfl rfl om | exact v_lt rfl rfl | exact v_ne rfl rfl | exact v_ge rfl rfl | exact v_sub rfl rfl om | exact v_le rfl rfl | exact v_gt rfl rfl | exact v_mul rfl rfl om | exact v_rem rfl rfl om om | exact v_quo rfl rfl om om ) | exact v_assign rfl | (apply gPk; first | exact v_pick1 rfl rfl | exact v_pick0 rfl rfl) | exact v_extract rfl rfl | exact v_idx rfl rfl om | exact v_not rfl | exact v_field rfl rfl | exact v_nil rfl | (apply v_lookup rfl rfl; (· exact at_); done) | (apply gCv; first | exact v_convi rfl om | exact v_sg rfl om | exact v_convu rfl om | exact v_conv rfl) | exact v_len rfl | (apply gBd; first | exact v_build0 | exact v_build2' rfl rfl rfl rfl rfl | exact v_build3' rfl rfl rfl rfl rfl rfl rfl | exact v_build2 rfl rfl rfl rfl rfl rfl (by simp only [setParts, List.set_cons_zero, List.set_cons_succ]; rfl) | exact v_build3 rfl rfl rfl rfl rfl rfl rfl rfl rfl (by simp only [setParts, List.set_cons_zero, List.set_cons_succ]; rfl) | exact v_build1 rfl rfl rfl (by simp only [setParts, List.set_cons_zero, List.set_cons_succ]; rfl)) ))
        apply K_val 8 rfl (by kernel_rfl) rfl rfl rfl (by exact kf_mk hkk cvt_)
        · intro D hD; first | (first | exact v_move rfl | exact v_fieldAddr rfl | (apply gLd; first | (apply v_ld rfl; (· exact at_); (· first | rfl | exact ld_row om om | exact ld_rowB om om); done) | (apply v_ldV rfl; (· exact at_); (· omega); (· omega); done) | (apply v_ldW rfl; (· exact at_); (· rfl); done) | (apply v_ldN rfl; (· exact at_); (· first | exact Nat.le_refl _ | exact ldN_row om om); done)) | (apply gBin; first | exact v_eq rfl rfl | exact v_add rfl rfl om | exact v_lt rfl rfl | exact v_ne rfl rfl | exact v_ge rfl rfl | exact v_sub rfl rfl om | exact v_le rfl rfl | exact v_gt rfl rfl | exact v_mul rfl rfl om | exact v_rem rfl rfl om om | exact v_quo rfl rfl om om ) | exact v_assign rfl | (apply gPk; first | exact v_pick1 rfl rfl | exact v_pick0 rfl rfl) | exact v_extract rfl rfl | exact v_idx rfl rfl om | exact v_not rfl | exact v_field rfl rfl | exact v_nil rfl | (apply v_lookup rfl rfl; (· exact at_); done) | (apply gCv; first | exact v_convi rfl om | exact v_sg rfl om | exact v_convu rfl om | exact v_conv rfl) | exact v_len rfl | (apply gBd; first | exact v_build0 | exact v_build2' rfl rfl rfl rfl rfl | exact v_build3' rfl rfl rfl rfl rfl rfl rfl | exact v_build2 rfl rfl rfl rfl rfl rfl (by simp only [setParts, List.set_cons_zero, List.set_cons_succ]; rfl) | exact v_build3 rfl rfl rfl rfl rfl rfl rfl rfl rfl (by simp only [setParts, List.set_cons_zero, List.set_cons_succ]; rfl) | exact v_build1 rfl rfl rfl (by simp only [setParts, List.set_cons_zero, List.set_cons_succ]; rfl)) ) | exact kf_scan rfl hD | exact kf_vs rfl hD | (obtain ⟨_, _, rfl⟩ := hD; (first | exact v_move rfl | exact v_fieldAddr rfl | (apply gLd; first | (apply v_ld rfl; (· exact at_); (· first | rfl | exact ld_row om om | exact ld_rowB om om); done) | (apply v_ldV rfl; (· exact at_); (· omega); (· omega); done) | (apply v_ldW rfl; (· exact at_); (· rfl); done) | (apply v_ldN rfl; (· exact at_); (· first | exact Nat.le_refl _ | exact ldN_row om om); done)) | (apply gBin; first | exact v_eq rfl rfl | exact v_add rfl rfl om | exact v_lt rfl rfl | exact v_ne rfl rfl | exact v_ge rfl rfl | exact v_sub rfl rfl om | exact v_le rfl rfl | exact v_gt rfl rfl | exact v_mul rfl rfl om | exact v_rem rfl rfl om om | exact v_quo rfl rfl om om ) | exact v_assign rfl | (apply gPk; first | exact v_pick1 rfl rfl | exact v_pick0 rfl rfl) | exact v_extract rfl rfl | exact v_idx rfl rfl om | exact v_not rfl | exact v_field rfl rfl | exact v_nil rfl | (apply v_lookup rfl rfl; (· exact at_); done) | (apply gCv; first | exact v_convi rfl om | exact v_sg rfl om | exact v_convu rfl om | exact v_conv rfl) | exact v_len rfl | (apply gBd; first | exact v_build0 | exact v_build2' rfl rfl rfl rfl rfl | exact v_build3' rfl rfl rfl rfl rfl rfl rfl | exact v_build2 rfl rfl rfl rfl rfl rfl (by simp only [setParts, List.set_cons_zero, List.set_cons_succ]; rfl) | exact v_build3 rfl rfl rfl rfl rfl rfl rfl rfl rfl (by simp only [setParts, List.set_cons_zero, List.set_cons_succ]; rfl) | exact v_build1 rfl rfl rfl (by simp only [setParts, List.set_cons_zero, List.set_cons_succ]; rfl)) ))
        apply K_val 9 rfl (by kernel_rfl) rfl rfl rfl (by exact kf_mk hkk cvt_)
        · intro D hD; first | (first | exact v_move rfl | exact v_fieldAddr rfl | (apply gLd; first | (apply v_ld rfl; (· exact at_); (· first | rfl | exact ld_row om om | exact ld_rowB om om); done) | (apply v_ldV rfl; (· exact at_); (· omega); (· omega); done) | (apply v_ldW rfl; (· exact at_); (· rfl); done) | (apply v_ldN rfl; (· exact at_); (· first | exact Nat.le_refl _ | exact ldN_row om om); done)) | (apply gBin; first | exact v_eq rfl rfl | exact v_add rfl rfl om | exact v_lt rfl rfl | exact v_ne rfl rfl | exact v_ge rfl rfl | exact v_sub rfl rfl om | exact v_le rfl rfl | exact v_gt rfl rfl | exact v_mul rfl rfl om | exact v_rem rfl rfl om om | exact v_quo rfl rfl om om ) | exact v_assign rfl | (apply gPk; first | exact v_pick1 rfl rfl | exact v_pick0 rfl rfl) | exact v_extract rfl rfl | exact v_idx rfl rfl om | exact v_not rfl | exact v_field rfl rfl | exact v_nil rfl | (apply v_lookup rfl rfl; (· exact at_); done) | (apply gCv; first | exact v_convi rfl om | exact v_sg rfl om | exact v_convu rfl om | exact v_conv rfl) | exact v_len rfl | (apply gBd; first | exact v_build0 | exact v_build2' rfl rfl rfl rfl rfl | exact v_build3' rfl rfl rfl rfl rfl rfl rfl | exact v_build2 rfl rfl rfl rfl rfl rfl (by simp only [setParts, List.set_cons_zero, List.set_cons_succ]; rfl) | exact v_build3 rfl rfl rfl rfl rfl rfl rfl rfl rfl (by simp only [setParts, List.set_cons_zero, List.set_cons_succ]; rfl) | exact v_build1 rfl rfl rfl (by simp only [setParts, List.set_cons_zero, List.set_cons_succ]; rfl)) ) | exact kf_scan rfl hD | exact kf_vs rfl hD | (obtain ⟨_, _, rfl⟩ := hD; (first | exact v_move rfl | exact v_fieldAddr rfl | (apply gLd; first | (apply v_ld rfl; (· exact at_); (· first | rfl | exact ld_row om om | exact ld_rowB om om); done) | (apply v_ldV rfl; (· exact at_); (· omega); (· omega); done) | (apply v_ldW rfl; (· exact at_); (· rfl); done) | (apply v_ldN rfl; (· exact at_); (· first | exact Nat.le_refl _ | exact ldN_row om om); done)) | (apply gBin; first | exact v_eq rfl rfl | exact v_add rfl rfl om | exact v_lt rfl rfl | exact v_ne rfl rfl | exact v_ge rfl rfl | exact v_sub rfl rfl om | exact v_le rfl rfl | exact v_gt rfl rfl | exact v_mul rfl rfl om | exact v_rem rfl rfl om om | exact v_quo rfl rfl om om ) | exact v_assign rfl | (apply gPk; first | exact v_pick1 rfl rfl | exact v_pick0 rfl rfl) | exact v_extract rfl rfl | exact v_idx rfl rfl om | exact v_not rfl | exact v_field rfl rfl | exact v_nil rfl | (apply v_lookup rfl rfl; (· exact at_); done) | (apply gCv; first | exact v_convi rfl om | exact v_sg rfl om | exact v_convu rfl om | exact v_conv rfl) | exact v_len rfl | (apply gBd; first | exact v_build0 | exact v_build2' rfl rfl rfl rfl rfl | exact v_build3' rfl rfl rfl rfl rfl rfl rfl | exact v_build2 rfl rfl rfl rfl rfl rfl (by simp only [setParts, List.set_cons_zero, List.set_cons_succ]; rfl) | exact v_build3 rfl rfl rfl rfl rfl rfl rfl rfl rfl (by simp only [setParts, List.set_cons_zero, List.set_cons_succ]; rfl) | exact v_build1 rfl rfl rfl (by simp only [setParts, List.set_cons_zero, List.set_cons_succ]; rfl)) ))
        apply K_val 10 rfl (by kernel_rfl) rfl rfl rfl (by exact kf_mk hkk cvt_)
        · intro D hD; first | (first | exact v_move rfl | exact v_fieldAddr rfl | (apply gLd; first | (apply v_ld rfl; (· exact at_); (· first | rfl | exact ld_row om om | exact ld_rowB om om); done) | (apply v_ldV rfl; (· exact at_); (· omega); (· omega); done) | (apply v_ldW rfl; (· exact at_); (· rfl); done) | (apply v_ldN rfl; (· exact at_); (· first | exact Nat.le_refl _ | exact ldN_row om om); done)) | (apply gBin; first | exact v_eq rfl rfl | exact v_add rfl rfl om | exact v_lt rfl rfl | exact v_ne rfl rfl | exact v_ge rfl rfl | exact v_sub rfl rfl om | exact v_le rfl rfl | exact v_gt rfl rfl | exact v_mul rfl rfl om | exact v_rem rfl rfl om om | exact v_quo rfl rfl om om ) | exact v_assign rfl | (apply gPk; first | exact v_pick1 rfl rfl | exact v_pick0 rfl rfl) | exact v_extract rfl rfl | exact v_idx rfl rfl om | exact v_not rfl | exact v_field rfl rfl | exact v_nil rfl | (apply v_lookup rfl rfl; (· exact at_); done) | (apply gCv; first | exact v_convi rfl om | exact v_sg rfl om | exact v_convu rfl om | exact v_conv rfl) | exact v_len rfl | (apply gBd; first | exact v_build0 | exact v_build2' rfl rfl rfl rfl rfl | exact v_build3' rfl rfl rfl rfl rfl rfl rfl | exact v_build2 rfl rfl rfl rfl rfl rfl (by simp only [setParts, List.set_cons_zero, List.set_cons_succ]; rfl) | exact v_build3 rfl rfl rfl rfl rfl rfl rfl rfl rfl (by simp only [setParts, List.set_cons_zero, List.set_cons_succ]; rfl) | exact v_build1 rfl rfl rfl (by simp only [setParts, List.set_cons_zero, List.set_cons_succ]; rfl)) ) | exact kf_scan rfl hD | exact kf_vs rfl hD | (obtain ⟨_, _, rfl⟩ := hD; (first | exact v_move rfl | exact v_fieldAddr rfl | (apply gLd; first | (apply v_ld rfl; (· exact at_); (· first | rfl | exact ld_row om om | exact ld_rowB om om); done) | (apply v_ldV rfl; (· exact at_); (· omega); (· omega); done) | (apply v_ldW rfl; (· exact at_); (· rfl); done) | (apply v_ldN rfl; (· exact at_); (· first | exact Nat.le_refl _ | exact ldN_row om om); done)) | (apply gBin; first | exact v_eq rfl rfl | exact v_add rfl rfl om | exact v_lt rfl rfl | exact v_ne rfl rfl | exact v_ge rfl rfl | exact v_sub rfl rfl om | exact v_le rfl rfl | exact v_gt rfl rfl | exact v_mul rfl rfl om | exact v_rem rfl rfl om om | exact v_quo rfl rfl om om ) | exact v_assign rfl | (apply gPk; first | exact v_pick1 rfl rfl | exact v_pick0 rfl rfl) | exact v_extract rfl rfl | exact v_idx rfl rfl om | exact v_not rfl | exact v_field rfl rfl | exact v_nil rfl | (apply v_lookup rfl rfl; (· exact at_); done) | (apply gCv; first | exact v_convi rfl om | exact v_sg rfl om | exact v_convu rfl om | exact v_conv rfl) | exact v_len rfl | (apply gBd; first | exact v_build0 | exact v_build2' rfl rfl rfl rfl rfl | exact v_build3' rfl rfl rfl rfl rfl rfl rfl | exact v_build2 rfl rfl rfl rfl rfl rfl (by simp only [setParts, List.set_cons_zero, List.set_cons_succ]; rfl) | exact v_build3 rfl rfl rfl rfl rfl rfl rfl rfl rfl (by simp only [setParts, List.set_cons_zero, List.set_cons_succ]; rfl) | exact v_build1 rfl rfl rfl (by simp only [setParts, List.set_cons_zero, List.set_cons_succ]; rfl)) ))
        apply K_val 11 rfl (by kernel_rfl) rfl rfl rfl (by exact kf_mk hkk cvt_)
        · intro D hD; first | (first | exact v_move rfl | exact v_fieldAddr rfl | (apply gLd; first | (apply v_ld rfl; (· exact at_); (· first | rfl | exact ld_row om om | exact ld_rowB om om); done) | (apply v_ldV rfl; (· exact at_); (· omega); (· omega); done) | (apply v_ldW rfl; (· exact at_); (· rfl); done) | (apply v_ldN rfl; (· exact at_); (· first | exact Nat.le_refl _ | exact ldN_row om om); done)) | (apply gBin; first | exact v_eq rfl rfl | exact v_add rfl rfl om | exact v_lt rfl rfl | exact v_ne rfl rfl | exact v_ge rfl rfl | exact v_sub rfl rfl om | exact v_le rfl rfl | exact v_gt rfl rfl | exact v_mul rfl rfl om | exact v_rem rfl rfl om om | exact v_quo rfl rfl om om ) | exact v_assign rfl | (apply gPk; first | exact v_pick1 rfl rfl | exact v_pick0 rfl rfl) | exact v_extract rfl rfl | exact v_idx rfl rfl om | exact v_not rfl | exact v_field rfl rfl | exact v_nil rfl | (apply v_lookup rfl rfl; (· exact at_); done) | (apply gCv; first | exact v_convi rfl om | exact v_sg rfl om | exact v_convu rfl om | exact v_conv rfl) | exact v_len rfl | (apply gBd; first | exact v_build0 | exact v_build2' rfl rfl rfl rfl rfl | exact v_build3' rfl rfl rfl rfl rfl rfl rfl | exact v_build2 rfl rfl rfl rfl rfl rfl (by simp only [setParts, List.set_cons_zero, List.set_cons_succ]; rfl) | exact v_build3 rfl rfl rfl rfl rfl rfl rfl rfl rfl (by simp only [setParts, List.set_cons_zero, List.set_cons_succ]; rfl) | exact v_build1 rfl rfl rfl (by simp only [setParts, List.set_cons_zero, List.set_cons_succ]; rfl)) ) | exact kf_scan rfl hD | exact kf_vs rfl hD | (obtain ⟨_, _, rfl⟩ := hD; (first | exact v_move rfl | exact v_fieldAddr rfl | (apply gLd; first | (apply v_ld rfl; (· exact at_); (· first | rfl | exact ld_row om om | exact ld_rowB om om); done) | (apply v_ldV rfl; (· exact at_); (· omega); (· omega); done) | (apply v_ldW rfl; (· exact at_); (· rfl); done) | (apply v_ldN rfl; (· exact at_); (· first | exact Nat.le_refl _ | exact ldN_row om om); done)) | (apply gBin; first | exact v_eq rfl rfl | exact v_add rfl rfl om | exact v_lt rfl rfl | exact v_ne rfl rfl | exact v_ge rfl rfl | exact v_sub rfl rfl om | exact v_le rfl rfl | exact v_gt rfl rfl | exact v_mul rfl rfl om | exact v_rem rfl rfl om om | exact v_quo rfl rfl om om ) | exact v_assign rfl | (apply gPk; first | exact v_pick1 rfl rfl | exact v_pick0 rfl rfl) | exact v_extract rfl rfl | exact v_idx rfl rfl om | exact v_not rfl | exact v_field rfl rfl | exact v_nil rfl | (apply v_lookup rfl rfl; (· exact at_); done) | (apply gCv; first | exact v_convi rfl om | exact v_sg rfl om | exact v_convu rfl om | exact v_conv rfl) | exact v_len rfl | (apply gBd; first | exact v_build0 | exact v_build2' rfl rfl rfl rfl rfl | exact v_build3' rfl rfl rfl rfl rfl rfl rfl | exact v_build2 rfl rfl rfl rfl rfl rfl (by simp only [setParts, List.set_cons_zero, List.set_cons_succ]; rfl) | exact v_build3 rfl rfl rfl rfl rfl rfl rfl rfl rfl (by simp only [setParts, List.set_cons_zero, List.set_cons_succ]; rfl) | exact v_build1 rfl rfl rfl (by simp only [setParts, List.set_cons_zero, List.set_cons_succ]; rfl)) ))
        apply K_val 12 rfl (by kernel_rfl) rfl rfl rfl (by exact kf_mk hkk cvt_)
        · intro D hD; first | (first | exact v_move rfl | exact v_fieldAddr rfl | (apply gLd; first | (apply v_ld rfl; (· exact at_); (· first | rfl | exact ld_row om om | exact ld_rowB om om); done) | (apply v_ldV rfl; (· exact at_); (· omega); (· omega); done) | (apply v_ldW rfl; (· exact at_); (· rfl); done) | (apply v_ldN rfl; (· exact at_); (· first | exact Nat.le_refl _ | exact ldN_row om om); done)) | (apply gBin; first | exact v_eq rfl rfl | exact v_add rfl rfl om | exact v_lt rfl rfl | exact v_ne rfl rfl | exact v_ge rfl rfl | exact v_sub rfl rfl om | exact v_le rfl rfl | exact v_gt rfl rfl | exact v_mul rfl rfl om | exact v_rem rfl rfl om om | exact v_quo rfl rfl om om ) | exact v_assign rfl | (apply gPk; first | exact v_pick1 rfl rfl | exact v_pick0 rfl rfl) | exact v_extract rfl rfl | exact v_idx rfl rfl om | exact v_not rfl | exact v_field rfl rfl | exact v_nil rfl | (apply v_lookup rfl rfl; (· exact at_); done) | (apply gCv; first | exact v_convi rfl om | exact v_sg rfl om | exact v_convu rfl om | exact v_conv rfl) | exact v_len rfl | (apply gBd; first | exact v_build0 | exact v_build2' rfl rfl rfl rfl rfl | exact v_build3' rfl rfl rfl rfl rfl rfl rfl | exact v_build2 rfl rfl rfl rfl rfl rfl (by simp only [setParts, List.set_cons_zero, List.set_cons_succ]; rfl) | exact v_build3 rfl rfl rfl rfl rfl rfl rfl rfl rfl (by simp only [setParts, List.set_cons_zero, List.set_cons_succ]; rfl) | exact v_build1 rfl rfl rfl (by simp only [setParts, List.set_cons_zero, List.set_cons_succ]; rfl)) ) | exact kf_scan rfl hD | exact kf_vs rfl hD | (obtain ⟨_, _, rfl⟩ := hD; (first | exact v_move rfl | exact v_fieldAddr rfl | (apply gLd; first | (apply v_ld rfl; (· exact at_); (· first | rfl | exact ld_row om om | exact ld_rowB om om); done) | (apply v_ldV rfl; (· exact at_); (· omega); (· omega); done) | (apply v_ldW rfl; (· exact at_); (· rfl); done) | (apply v_ldN rfl; (· exact at_); (· first | exact Nat.le_refl _ | exact ldN_row om om); done)) | (apply gBin; first | exact v_eq rfl rfl | exact v_add rfl rfl om | exact v_lt rfl rfl | exact v_ne rfl rfl | exact v_ge rfl rfl | exact v_sub rfl rfl om | exact v_le rfl rfl | exact v_gt rfl rfl | exact v_mul rfl rfl om | exact v_rem rfl rfl om om | exact v_quo rfl rfl om om ) | exact v_assign rfl | (apply gPk; first | exact v_pick1 rfl rfl | exact v_pick0 rfl rfl) | exact v_extract rfl rfl | exact v_idx rfl rfl om | exact v_not rfl | exact v_field rfl rfl | exact v_nil rfl | (apply v_lookup rfl rfl; (· exact at_); done) | (apply gCv; first | exact v_convi rfl om | exact v_sg rfl om | exact v_convu rfl om | exact v_conv rfl) | exact v_len rfl | (apply gBd; first | exact v_build0 | exact v_build2' rfl rfl rfl rfl rfl | exact v_build3' rfl rfl rfl rfl rfl rfl rfl | exact v_build2 rfl rfl rfl rfl rfl rfl (by simp only [setParts, List.set_cons_zero, List.set_cons_succ]; rfl) | exact v_build3 rfl rfl rfl rfl rfl rfl rfl rfl rfl (by simp only [setParts, List.set_cons_zero, List.set_cons_succ]; rfl) | exact v_build1 rfl rfl rfl (by simp only [setParts, List.set_cons_zero, List.set_cons_succ]; rfl)) ))
        apply K_val 13 rfl (by kernel_rfl) rfl rfl rfl (by exact kf_mk hkk cvt_)
        · intro D hD; first | (first | exact v_move rfl | exact v_fieldAddr rfl | (apply gLd; first | (apply v_ld rfl; (· exact at_); (· first | rfl | exact ld_row om om | exact ld_rowB om om); done) | (apply v_ldV rfl; (· exact at_); (· omega); (· omega); done) | (apply v_ldW rfl; (· exact at_); (· rfl); done) | (apply v_ldN rfl; (· exact at_); (· first | exact Nat.le_refl _ | exact ldN_row om om); done)) | (apply gBin; first | exact v_eq rfl rfl | exact v_add rfl rfl om | exact v_lt rfl rfl | exact v_ne rfl rfl | exact v_ge rfl rfl | exact v_sub rfl rfl om | exact v_le rfl rfl | exact v_gt rfl rfl | exact v_mul rfl rfl om | exact v_rem rfl rfl om om | exact v_quo rfl rfl om om ) | exact v_assign rfl | (apply gPk; first | exact v_pick1 rfl rfl | exact v_pick0 rfl rfl) | exact v_extract rfl rfl | exact v_idx rfl rfl om | exact v_not rfl | exact v_field rfl rfl | exact v_nil rfl | (apply v_lookup rfl rfl; (· exact at_); done) | (apply gCv; first | exact v_convi rfl om | exact v_sg rfl om | exact v_convu rfl om | exact v_conv rfl) | exact v_len rfl | (apply gBd; first | exact v_build0 | exact v_build2' rfl rfl rfl rfl rfl | exact v_build3' rfl rfl rfl rfl rfl rfl rfl | exact v_build2 rfl rfl rfl rfl rfl rfl (by simp only [setParts, List.set_cons_zero, List.set_cons_succ]; rfl) | exact v_build3 rfl rfl rfl rfl rfl rfl rfl rfl rfl (by simp only [setParts, List.set_cons_zero, List.set_cons_succ]; rfl) | exact v_build1 rfl rfl rfl (by simp only [setParts, List.set_cons_zero, List.set_cons_succ]; rfl)) ) | exact kf_scan rfl hD | exact kf_vs rfl hD | (obtain ⟨_, _, rfl⟩ := hD; (first | exact v_move rfl | exact v_fieldAddr rfl | (apply gLd; first | (apply v_ld rfl; (· exact at_); (· first | rfl | exact ld_row om om | exact ld_rowB om om); done) | (apply v_ldV rfl; (· exact at_); (· omega); (· omega); done) | (apply v_ldW rfl; (· exact at_); (· rfl); done) | (apply v_ldN rfl; (· exact at_); (· first | exact Nat.le_refl _ | exact ldN_row om om); done)) | (apply gBin; first | exact v_eq rfl rfl | exact v_add rfl rfl om | exact v_lt rfl rfl | exact v_ne rfl rfl | exact v_ge rfl rfl | exact v_sub rfl rfl om | exact v_le rfl rfl | exact v_gt rfl rfl | exact v_mul rfl rfl om | exact v_rem rfl rfl om om | exact v_quo rfl rfl om om ) | exact v_assign rfl | (apply gPk; first | exact v_pick1 rfl rfl | exact v_pick0 rfl rfl) | exact v_extract rfl rfl | exact v_idx rfl rfl om | exact v_not rfl | exact v_field rfl rfl | exact v_nil rfl | (apply v_lookup rfl rfl; (· exact at_); done) | (apply gCv; first | exact v_convi rfl om | exact v_sg rfl om | exact v_convu rfl om | exact v_conv rfl) | exact v_len rfl | (apply gBd; first | exact v_build0 | exact v_build2' rfl rfl rfl rfl rfl | exact v_build3' rfl rfl rfl rfl rfl rfl rfl | exact v_build2 rfl rfl rfl rfl rfl rfl (by simp only [setParts, List.set_cons_zero, List.set_cons_succ]; rfl) | exact v_build3 rfl rfl rfl rfl rfl rfl rfl rfl rfl (by simp only [setParts, List.set_cons_zero, List.set_cons_succ]; rfl) | exact v_build1 rfl rfl rfl (by simp only [setParts, List.set_cons_zero, List.set_cons_succ]; rfl)) ))
        apply K_val 14 rfl (by kernel_rfl) rfl rfl rfl (by exact kf_mk hkk cvt_)
        · intro D hD; first | (first | exact v_move rfl | exact v_fieldAddr rfl | (apply gLd; first | (apply v_ld rfl; (· exact at_); (· first | rfl | exact ld_row om om | exact ld_rowB om om); done) | (apply v_ldV rfl; (· exact at_); (· omega); (· omega); done) | (apply v_ldW rfl; (· exact at_); (· rfl); done) | (apply v_ldN rfl; (· exact at_); (· first | exact Nat.le_refl _ | exact ldN_row om om); done)) | (apply gBin; first | exact v_eq rfl rfl | exact v_add rfl rfl om | exact v_lt rfl rfl | exact v_ne rfl rfl | exact v_ge rfl rfl | exact v_sub rfl rfl om | exact v_le rfl rfl | exact v_gt rfl rfl | exact v_mul rfl rfl om | exact v_rem rfl rfl om om | exact v_quo rfl rfl om om ) | exact v_assign rfl | (apply gPk; first | exact v_pick1 rfl rfl | exact v_pick0 rfl rfl) | exact v_extract rfl rfl | exact v_idx rfl rfl om | exact v_not rfl | exact v_field rfl rfl | exact v_nil rfl | (apply v_lookup rfl rfl; (· exact at_); done) | (apply gCv; first | exact v_convi rfl om | exact v_sg rfl om | exact v_convu rfl om | exact v_conv rfl) | exact v_len rfl | (apply gBd; first | exact v_build0 | exact v_build2' rfl rfl rfl rfl rfl | exact v_build3' rfl rfl rfl rfl rfl rfl rfl | exact v_build2 rfl rfl rfl rfl rfl rfl (by simp only [setParts, List.set_cons_zero, List.set_cons_succ]; rfl) | exact v_build3 rfl rfl rfl rfl rfl rfl rfl rfl rfl (by simp only [setParts, List.set_cons_zero, List.set_cons_succ]; rfl) | exact v_build1 rfl rfl rfl (by simp only [setParts, List.set_cons_zero, List.set_cons_succ]; rfl)) ) | exact kf_scan rfl hD | exact kf_vs rfl hD | (obtain ⟨_, _, rfl⟩ := hD; (first | exact v_move rfl | exact v_fieldAddr rfl | (apply gLd; first | (apply v_ld rfl; (· exact at_); (· first | rfl | exact ld_row om om | exact ld_rowB om om); done) | (apply v_ldV rfl; (· exact at_); (· omega); (· omega); done) | (apply v_ldW rfl; (· exact at_); (· rfl); done) | (apply v_ldN rfl; (· exact at_); (· first | exact Nat.le_refl _ | exact ldN_row om om); done)) | (apply gBin; first | exact v_eq rfl rfl | exact v_add rfl rfl om | exact v_lt rfl rfl | exact v_ne rfl rfl | exact v_ge rfl rfl | exact v_sub rfl rfl om | exact v_le rfl rfl | exact v_gt rfl rfl | exact v_mul rfl rfl om | exact v_rem rfl rfl om om | exact v_quo rfl rfl om om ) | exact v_assign rfl | (apply gPk; first | exact v_pick1 rfl rfl | exact v_pick0 rfl rfl) | exact v_extract rfl rfl | exact v_idx rfl rfl om | exact v_not rfl | exact v_field rfl rfl | exact v_nil rfl | (apply v_lookup rfl rfl; (· exact at_); done) | (apply gCv; first | exact v_convi rfl om | exact v_sg rfl om | exact v_convu rfl om | exact v_conv rfl) | exact v_len rfl | (apply gBd; first | exact v_build0 | exact v_build2' rfl rfl rfl rfl rfl | exact v_build3' rfl rfl rfl rfl rfl rfl rfl | exact v_build2 rfl rfl rfl rfl rfl rfl (by simp only [setParts, List.set_cons_zero, List.set_cons_succ]; rfl) | exact v_build3 rfl rfl rfl rfl rfl rfl rfl rfl rfl (by simp only [setParts, List.set_cons_zero, List.set_cons_succ]; rfl) | exact v_build1 rfl rfl rfl (by simp only [setParts, List.set_cons_zero, List.set_cons_succ]; rfl)) ))
        refine K_one (i := 15) (by kernel_rfl) (by exact kf_mk hkk cvt_) rfl (OK_of_L fun S hS => ?_)
        first | (apply gCall; apply L_call rfl rfl rfl rfl rfl; (· first | exact overT tk_ | exact head_c at_ at_ hBw om om | exact val2_c at_ at_ hBw q1 om om om | exact forwardedT tk_ tk_ hBc hFP hwc1 | exact isetT tk_ tk_ om om om); rintro _ _ ⟨rfl, rfl⟩) | (apply gL; first | refine L_nil ?_ | refine yS ?_ | refine yA fun _ => ?_ | (apply gSt; first | refine sR ?_ | refine sB ?_ | refine s1 ?_ | refine sW ?_ | refine sN ?_) | refine kV ?_ | ((fail_if_success (refine L_known rfl ?_)); refine yW (fun h => ?_) fun h => ?_))
        refine L_nil (hS _ _ ?_)
        clear hS
        refine K_one (i := 16) (by kernel_rfl) (by exact kf_mk hkk cvt_) rfl (OK_of_L fun S hS => ?_)
        first | (apply gCall; apply L_call rfl rfl rfl rfl rfl; (· first | exact overT tk_ | exact head_c at_ at_ hBw om om | exact val2_c at_ at_ hBw q1 om om om | exact forwardedT tk_ tk_ hBc hFP hwc1 | exact isetT tk_ tk_ om om om); rintro _ _ ⟨rfl, rfl⟩) | (apply gL; first | refine L_nil ?_ | refine yS ?_ | refine yA fun _ => ?_ | (apply gSt; first | refine sR ?_ | refine sB ?_ | refine s1 ?_ | refine sW ?_ | refine sN ?_) | refine kV ?_ | ((fail_if_success (refine L_known rfl ?_)); refine yW (fun h => ?_) fun h => ?_))
        refine L_nil (hS _ _ ?_)
        clear hS
        have hkk : (B1.fwd (rvT B1.ws (B1.scan + g B.sls i)) (rvN B1.ws (B1.scan + g B.sls i))).1.scan = B1.scan ∧ (B1.fwd (rvT B1.ws (B1.scan + g B.sls i)) (rvN B1.ws (B1.scan + g B.sls i))).1.vs.length = B1.vs.length := ⟨hfs.2.2.2.1, congrArg List.length hfs.2.2.2.2.2.2⟩
        refine K_one (i := 17) (by kernel_rfl) (by exact kf_mk hkk cvt_) rfl (OK_of_L fun S hS => ?_)
        first | (apply gCall; apply L_call rfl rfl rfl rfl rfl; (· first | exact overT tk_ | exact head_c at_ at_ hBw om om | exact val2_c at_ at_ hBw q1 om om om | exact forwardedT tk_ tk_ hBc hFP hwc1 | exact isetT tk_ tk_ om om om); rintro _ _ ⟨rfl, rfl⟩) | (apply gL; first | refine L_nil ?_ | refine yS ?_ | refine yA fun _ => ?_ | (apply gSt; first | refine sR ?_ | refine sB ?_ | refine s1 ?_ | refine sW ?_ | refine sN ?_) | refine kV ?_ | ((fail_if_success (refine L_known rfl ?_)); refine yW (fun h => ?_) fun h => ?_))
        refine L_nil (hS _ _ ?_)
        clear hS
        rw [eP]
        have hkk : (B1.fwS (B1.scan + g B.sls i)).scan = B1.scan ∧ (B1.fwS (B1.scan + g B.sls i)).vs.length = B1.vs.length := ⟨hfs.2.2.2.1, congrArg List.length hfs.2.2.2.2.2.2⟩
        refine K_nil (by kernel_rfl) (by exact kf_mk hkk cvt_) ?_
        repeat' (first | ((first | (apply gCall; apply L_call rfl rfl rfl rfl rfl) | (apply gQC; apply Q_call rfl rfl rfl rfl rfl)); (· first | exact overT tk_ | exact head_c at_ at_ hBw om om | exact val2_c at_ at_ hBw q1 om om om | exact forwardedT tk_ tk_ hBc hFP hwc1 | exact isetT tk_ tk_ om om om); try rintro _ _ ⟨rfl, rfl⟩) | (apply gL; first | refine L_nil ?_ | refine yS ?_ | refine yA fun _ => ?_ | (apply gSt; first | refine sR ?_ | refine sB ?_ | refine s1 ?_ | refine sW ?_ | refine sN ?_) | refine kV ?_ | ((fail_if_success (refine L_known rfl ?_)); refine yW (fun h => ?_) fun h => ?_)) | (apply gW; first | refine W_seq ?_ | refine W_region ?_ | refine W_ret ?_ | refine W_skip ?_ | refine W_block ?_ | refine W_exit ?_ | refine W_cond1 rfl ?_ | refine W_cond0 rfl ?_ | refine cW (fun h => ?_) fun h => ?_ | refine wQ ?_) | (first | refine seqR.normal ?_ | refine seqR.ret ?_ | refine seqR.exit ?_ | refine blockR.normal ?_ | refine blockR.ret ?_ | refine blockR.here ?_ | refine blockR.exit rfl ?_ | refine loopR.ret ?_ | refine loopR.exit ?_ | refine midA.ret ?_ | refine midA.exit ?_) | (apply gQ; first | refine Q_nil ?_ | refine Q_skip rfl rfl rfl ?_ | refine kQ ?_ | ((fail_if_success (refine Q_known rfl ?_)); refine zW (fun h => ?_) fun h => ?_)) | fail)
        apply loopR.mk (i + 1, B1.fwS (B1.scan + g B.sls i), m5)
        · exact sub_
        · exact cvt_
        · refine ⟨⟨by dsimp only; omega, by dsimp only; omega⟩, ?_, f3, ?_, by dsimp only; omega⟩
          · rw [← eS]; exact hL2
          · rw [← eS]; exact hg
        · dsimp only; omega
      · have hil : i = (B.sls.length : Int) := by omega
        rw [fwI_end hlt2] at hg
        repeat' (first | exact absurd h hlt2 | first | ((first | (apply gCall; apply L_call rfl rfl rfl rfl rfl) | (apply gQC; apply Q_call rfl rfl rfl rfl rfl)); (· first | exact overT tk_ | exact head_c at_ at_ hBw om om | exact val2_c at_ at_ hBw q1 om om om | exact forwardedT tk_ tk_ hBc hFP hwc1 | exact isetT tk_ tk_ om om om); try rintro _ _ ⟨rfl, rfl⟩) | (apply gL; first | refine L_nil ?_ | refine yS ?_ | refine yA fun _ => ?_ | (apply gSt; first | refine sR ?_ | refine sB ?_ | refine s1 ?_ | refine sW ?_ | refine sN ?_) | refine kV ?_ | ((fail_if_success (refine L_known rfl ?_)); refine yW (fun h => ?_) fun h => ?_)) | (apply gW; first | refine W_seq ?_ | refine W_region ?_ | refine W_ret ?_ | refine W_skip ?_ | refine W_block ?_ | refine W_exit ?_ | refine W_cond1 rfl ?_ | refine W_cond0 rfl ?_ | refine cW (fun h => ?_) fun h => ?_ | refine wQ ?_) | (first | refine seqR.normal ?_ | refine seqR.ret ?_ | refine seqR.exit ?_ | refine blockR.normal ?_ | refine blockR.ret ?_ | refine blockR.here ?_ | refine blockR.exit rfl ?_ | refine loopR.ret ?_ | refine loopR.exit ?_ | refine midA.ret ?_ | refine midA.exit ?_) | (apply gQ; first | refine Q_nil ?_ | refine Q_skip rfl rfl rfl ?_ | refine kQ ?_ | ((fail_if_success (refine Q_known rfl ?_)); refine zW (fun h => ?_) fun h => ?_)) | fail)
        apply midA.mk (B1, m4)
        · exact sub_
        · exact cvDrop
        · exact ⟨hg, by rw [← hil]; exact hL⟩
    rintro ⟨B', m3⟩ ⟨hB', hL⟩
    dsimp only at hB' hL ⊢
    have hscB := hL.sc
    have hlt4 := GI.lt hL.gi hs0' (by rw [hL.k1]; omega)
    repeat' ((fail_if_success apply gAtR 12); (first | ((first | (apply gCall; apply L_call rfl rfl rfl rfl rfl) | (apply gQC; apply Q_call rfl rfl rfl rfl rfl)); (· first | exact overT tk_ | exact head_c at_ at_ hBw om om | exact val2_c at_ at_ hBw q1 om om om | exact forwardedT tk_ tk_ hBc hFP hwc1 | exact isetT tk_ tk_ om om om); try rintro _ _ ⟨rfl, rfl⟩) | (apply gL; first | refine L_nil ?_ | refine yS ?_ | refine yA fun _ => ?_ | (apply gSt; first | refine sR ?_ | refine sB ?_ | refine s1 ?_ | refine sW ?_ | refine sN ?_) | refine kV ?_ | ((fail_if_success (refine L_known rfl ?_)); refine yW (fun h => ?_) fun h => ?_)) | (apply gW; first | refine W_seq ?_ | refine W_region ?_ | refine W_ret ?_ | refine W_skip ?_ | refine W_block ?_ | refine W_exit ?_ | refine W_cond1 rfl ?_ | refine W_cond0 rfl ?_ | refine cW (fun h => ?_) fun h => ?_ | refine wQ ?_) | (first | refine seqR.normal ?_ | refine seqR.ret ?_ | refine seqR.exit ?_ | refine blockR.normal ?_ | refine blockR.ret ?_ | refine blockR.here ?_ | refine blockR.exit rfl ?_ | refine loopR.ret ?_ | refine loopR.exit ?_ | refine midA.ret ?_ | refine midA.exit ?_) | (apply gQ; first | refine Q_nil ?_ | refine Q_skip rfl rfl rfl ?_ | refine kQ ?_ | ((fail_if_success (refine Q_known rfl ?_)); refine zW (fun h => ?_) fun h => ?_)) | fail))
    refine W_seq ?_
    apply W_regionA (D := (b6, .cells #[.int .i64 (rk (g B.ws B.scan)), .int .i64 (rs (g B.ws B.scan)), .int .i64 (rn (g B.ws B.scan))] 105 (0, 0)) :: H) (by kernel_rfl)
    refine kAt 0 ?_
    refine kAt 1 ?_
    refine kAt 2 ?_
    refine kAt 3 ?_
    refine kAt 5 ?_
    refine kAt 6 ?_
    refine A_one (i := 4) (by kernel_rfl) cvt_ rfl (O_of_L fun S hS => ?_)
    first | (apply gCall; apply L_call rfl rfl rfl rfl rfl; (· first | exact overT tk_ | exact head_c at_ at_ hBw om om | exact val2_c at_ at_ hBw q1 om om om | exact forwardedT tk_ tk_ hBc hFP hwc1 | exact isetT tk_ tk_ om om om); rintro _ _ ⟨rfl, rfl⟩) | (apply gL; first | refine L_nil ?_ | refine yS ?_ | refine yA fun _ => ?_ | (apply gSt; first | refine sR ?_ | refine sB ?_ | refine s1 ?_ | refine sW ?_ | refine sN ?_) | refine kV ?_ | ((fail_if_success (refine L_known rfl ?_)); refine yW (fun h => ?_) fun h => ?_))
    refine L_nil (hS _ _ ?_)
    clear hS
    refine kAt 7 ?_
    refine kAt 8 ?_
    refine kAt 9 ?_
    refine kAt 10 ?_
    refine A_one (i := 11) (by kernel_rfl) cvt_ rfl (O_of_L fun S hS => ?_)
    (apply gSt; apply L_stc rfl rfl rfl rfl rfl rfl; (· exact at_); (· simp only [List.set_cons_zero, List.set_cons_succ]; rfl); (· exact up_); (· rfl))
    refine L_nil (hS _ _ ?_)
    clear hS
    refine A_nil (by kernel_rfl) cvt_ ?_
    repeat' (first | ((first | (apply gCall; apply L_call rfl rfl rfl rfl rfl) | (apply gQC; apply Q_call rfl rfl rfl rfl rfl)); (· first | exact overT tk_ | exact head_c at_ at_ hBw om om | exact val2_c at_ at_ hBw q1 om om om | exact forwardedT tk_ tk_ hBc hFP hwc1 | exact isetT tk_ tk_ om om om); try rintro _ _ ⟨rfl, rfl⟩) | (apply gL; first | refine L_nil ?_ | refine yS ?_ | refine yA fun _ => ?_ | (apply gSt; first | refine sR ?_ | refine sB ?_ | refine s1 ?_ | refine sW ?_ | refine sN ?_) | refine kV ?_ | ((fail_if_success (refine L_known rfl ?_)); refine yW (fun h => ?_) fun h => ?_)) | (apply gW; first | refine W_seq ?_ | refine W_region ?_ | refine W_ret ?_ | refine W_skip ?_ | refine W_block ?_ | refine W_exit ?_ | refine W_cond1 rfl ?_ | refine W_cond0 rfl ?_ | refine cW (fun h => ?_) fun h => ?_ | refine wQ ?_) | (first | refine seqR.normal ?_ | refine seqR.ret ?_ | refine seqR.exit ?_ | refine blockR.normal ?_ | refine blockR.ret ?_ | refine blockR.here ?_ | refine blockR.exit rfl ?_ | refine loopR.ret ?_ | refine loopR.exit ?_ | refine midA.ret ?_ | refine midA.exit ?_) | (apply gQ; first | refine Q_nil ?_ | refine Q_skip rfl rfl rfl ?_ | refine kQ ?_ | ((fail_if_success (refine Q_known rfl ?_)); refine zW (fun h => ?_) fun h => ?_)) | fail)
    apply L_call rfl rfl rfl rfl rfl
    · exact overT (C := C) (A := { B' with scan := B'.scan + rs (g B.ws B.scan) + 1 }) (rp := rp) (rc := rc) tk_
    rintro _ _ ⟨rfl, rfl⟩
    have eO : ({ B' with scan := B'.scan + rs (g B.ws B.scan) + 1 } : Ar) = B.fwO := by rw [hscB, hB']; rfl
    repeat' (first | ((first | (apply gCall; apply L_call rfl rfl rfl rfl rfl) | (apply gQC; apply Q_call rfl rfl rfl rfl rfl)); (· first | exact overT tk_ | exact head_c at_ at_ hBw om om | exact val2_c at_ at_ hBw q1 om om om | exact forwardedT tk_ tk_ hBc hFP hwc1 | exact isetT tk_ tk_ om om om); try rintro _ _ ⟨rfl, rfl⟩) | (apply gL; first | refine L_nil ?_ | refine yS ?_ | refine yA fun _ => ?_ | (apply gSt; first | refine sR ?_ | refine sB ?_ | refine s1 ?_ | refine sW ?_ | refine sN ?_) | refine kV ?_ | ((fail_if_success (refine L_known rfl ?_)); refine yW (fun h => ?_) fun h => ?_)) | (apply gW; first | refine W_seq ?_ | refine W_region ?_ | refine W_ret ?_ | refine W_skip ?_ | refine W_block ?_ | refine W_exit ?_ | refine W_cond1 rfl ?_ | refine W_cond0 rfl ?_ | refine cW (fun h => ?_) fun h => ?_ | refine wQ ?_) | (first | refine seqR.normal ?_ | refine seqR.ret ?_ | refine seqR.exit ?_ | refine blockR.normal ?_ | refine blockR.ret ?_ | refine blockR.here ?_ | refine blockR.exit rfl ?_ | refine loopR.ret ?_ | refine loopR.exit ?_ | refine midA.ret ?_ | refine midA.exit ?_) | (apply gQ; first | refine Q_nil ?_ | refine Q_skip rfl rfl rfl ?_ | refine kQ ?_ | ((fail_if_success (refine Q_known rfl ?_)); refine zW (fun h => ?_) fun h => ?_)) | fail)
    apply loopR.mk (d + 1, B.fwO.over, m2)
    · exact sub_
    · dsimp only
      rw [(aObj_over (C := C) (B := B.fwO) (rp := none) (rc := 0)).2, ← eO]
      exact cvt_
    · exact ⟨hS2, f', hf, by dsimp only; omega⟩
    · exact hmeas
  · have e := stp_end (f := f) hcd
    rw [e] at hf
    repeat' (first | exact absurd ⟨by assumption, by assumption⟩ hcd | first | ((first | (apply gCall; apply L_call rfl rfl rfl rfl rfl) | (apply gQC; apply Q_call rfl rfl rfl rfl rfl)); (· first | exact overT tk_ | exact head_c at_ at_ hBw om om | exact val2_c at_ at_ hBw q1 om om om | exact forwardedT tk_ tk_ hBc hFP hwc1 | exact isetT tk_ tk_ om om om); try rintro _ _ ⟨rfl, rfl⟩) | (apply gL; first | refine L_nil ?_ | refine yS ?_ | refine yA fun _ => ?_ | (apply gSt; first | refine sR ?_ | refine sB ?_ | refine s1 ?_ | refine sW ?_ | refine sN ?_) | refine kV ?_ | ((fail_if_success (refine L_known rfl ?_)); refine yW (fun h => ?_) fun h => ?_)) | (apply gW; first | refine W_seq ?_ | refine W_region ?_ | refine W_ret ?_ | refine W_skip ?_ | refine W_block ?_ | refine W_exit ?_ | refine W_cond1 rfl ?_ | refine W_cond0 rfl ?_ | refine cW (fun h => ?_) fun h => ?_ | refine wQ ?_) | (first | refine seqR.normal ?_ | refine seqR.ret ?_ | refine seqR.exit ?_ | refine blockR.normal ?_ | refine blockR.ret ?_ | refine blockR.here ?_ | refine blockR.exit rfl ?_ | refine loopR.ret ?_ | refine loopR.exit ?_ | refine midA.ret ?_ | refine midA.exit ?_) | (apply gQ; first | refine Q_nil ?_ | refine Q_skip rfl rfl rfl ?_ | refine kQ ?_ | ((fail_if_success (refine Q_known rfl ?_)); refine zW (fun h => ?_) fun h => ?_)) | fail)
    all_goals (
      rw [← hf]
      exact retR.ret _ _ (ret1 rfl rfl) cvt_ ⟨rfl, rfl⟩)
end Go.Proofs.YtepddopgmhdllaaGreat.Eng
namespace Go.Proofs.YtepddopgmhdllaaGreat.Eng
open Go Go.RowKit Go.Proofs.YtepddopgmhdllaaGreat.Sl Go.Proofs.YtepddopgmhdllaaGreat.Ar Go.Proofs.YtepddopgmhdllaaGreat.Base
set_option linter.unusedVariables false
set_option linter.unusedSimpArgs false
set_option maxRecDepth 10000
variable {w0 : World} {H : HL} {C : Cn} {A : Ar} {ba rc : Nat} {m : List Int} {rp : Option Addr}
theorem istepT {n : Int} {H1 H2 : HL} (hT : Tk H ba (aObjG C A rp rc) H1) (hT2 : Tk H1 C.bw (wObj C A) H2) (h : SI A m) (hn : 1 ≤ n ∧ n ≤ 1000000) (hwc : A.ws.length ≤ C.wc) :
    Fn Tryz.prog w0 158 #[.pointer (some ⟨ba, 0, none⟩), .int .i64 n] H fun v H' => v = .int .i64 (Ar.stp 8001 A.over 0 n).2 ∧ H' = (ba, aObjG C (Ar.stp 8001 A.over 0 n).1 rp rc) :: (C.bw, wObj C (Ar.stp 8001 A.over 0 n).1) :: H2 :=
  Fn.conv (Cv.take hT (Cv.take hT2 Cv.refl)) (istep_c h hn hwc)
theorem ifinishT {H1 H2 : HL} (hT : Tk H ba (aObjG C A rp rc) H1) (hT2 : Tk H1 C.bw (wObj C A) H2) (h : SI A m) (hwc : A.ws.length ≤ C.wc) :
    Fn Tryz.prog w0 183 #[.pointer (some ⟨ba, 0, none⟩)] H fun v H' => v = .int .i64 A.fin.2 ∧ H' = (ba, aObjG C A.fin.1 rp rc) :: (C.bw, wObj C A.fin.1) :: H2 := by
  refine Fn.conv (Cv.take hT (Cv.take hT2 Cv.refl)) ?_
  have hl := h.ln
  have hs := h.se
  rw [← h.fin_n (Int.le_refl _)]
  refine enter1 Tryz.func183 rfl rfl Tryz.ntmps183 rfl ?_
  repeat' (first | (apply gCall; apply L_call rfl rfl rfl rfl rfl; (· first | exact val2_c at_ at_ hw hr om om om | exact forwardedT tk_ tk_ hc hFP hwc | exact forwarded0_c (A := A) hc at_ | exact isetT tk_ tk_ om om om); rintro _ _ ⟨rfl, rfl⟩) | (apply gL; first | refine L_nil ?_ | refine kV ?_) | (apply gW; first | refine W_seq ?_ | refine W_region ?_ | refine W_ret ?_ | refine W_skip ?_) | (first | refine seqR.normal ?_ | refine seqR.ret ?_) | fail)
  apply L_call rfl rfl rfl rfl rfl
  · exact istepT (C := C) (A := A) tk_ tk_ h (by omega) hwc
  rintro _ _ ⟨rfl, rfl⟩
  repeat' (first | (apply gCall; apply L_call rfl rfl rfl rfl rfl; (· first | exact val2_c at_ at_ hw hr om om om | exact forwardedT tk_ tk_ hc hFP hwc | exact forwarded0_c (A := A) hc at_ | exact isetT tk_ tk_ om om om); rintro _ _ ⟨rfl, rfl⟩) | (apply gL; first | refine L_nil ?_ | refine kV ?_) | (apply gW; first | refine W_seq ?_ | refine W_region ?_ | refine W_ret ?_ | refine W_skip ?_) | (first | refine seqR.normal ?_ | refine seqR.ret ?_) | fail)
  exact retR.ret _ _ (ret1 rfl rfl) cvt_ ⟨rfl, rfl⟩
theorem iflipT {br : Option Nat} {rsp : List Value} (h : SI A m) (hc : A.cyc = false) (hx : A.vs.length ≤ 1048576) (hwc : A.ws.length ≤ C.wc) (hbr : br = none → A.vs = []) :
    Fn Tryz.prog w0 159 #[.pointer (some ⟨ba, 0, none⟩)] ((ba, aObjG C A (ad br) rc) :: (C.bw, wObj C A) :: (oV br A.vs rsp ++ H)) fun v H' => v = .tuple #[] ∧ H' = (ba, aObjG C A.flip (ad br) rc) :: (C.bw, wObj C A.flip) :: (oV br A.flip.vs rsp ++ H) := iflip_c h hc hx hwc hbr
set_option maxHeartbeats 2000000 in
theorem icollect_c {br : Option Nat} {rsp : List Value} (h : SI A m) (hx : A.vs.length ≤ 1048576) (hwc : A.ws.length ≤ C.wc) (hbr : br = none → A.vs = []) :
    Fn Tryz.prog w0 161 #[.pointer (some ⟨ba, 0, none⟩)] ((ba, aObjG C A (ad br) rc) :: (C.bw, wObj C A) :: (oV br A.vs rsp ++ H)) fun v H' => v = .tuple #[] ∧ H' = (ba, aObjG C A.col (ad br) rc) :: (C.bw, wObj C A.col) :: (oV br A.col.vs rsp ++ H) := by
  obtain ⟨m1, h1, c1, v1, l1⟩ := h.fin
  obtain ⟨m2, h2, l2, v2⟩ := h1.flip c1
  obtain ⟨m3, h3, c3, v3, l3⟩ := h2.fin
  refine enter1 Tryz.func161 rfl rfl Tryz.ntmps161 rfl ?_
  repeat' (first | (apply gCall; apply L_call rfl rfl rfl rfl rfl; (· first | exact val2_c at_ at_ hw hr om om om | exact forwardedT tk_ tk_ hc hFP hwc | exact forwarded0_c (A := A) hc at_ | exact isetT tk_ tk_ om om om); rintro _ _ ⟨rfl, rfl⟩) | (apply gL; first | refine L_nil ?_ | refine kV ?_) | (apply gW; first | refine W_seq ?_ | refine W_region ?_ | refine W_ret ?_ | refine W_skip ?_) | (first | refine seqR.normal ?_ | refine seqR.ret ?_) | fail)
  apply L_call rfl rfl rfl rfl rfl
  · exact ifinishT (C := C) (A := A) (rp := ad br) (rc := rc) tk_ tk_ h hwc
  rintro _ _ ⟨rfl, rfl⟩
  rw [← v1]
  repeat' (first | (apply gCall; apply L_call rfl rfl rfl rfl rfl; (· first | exact val2_c at_ at_ hw hr om om om | exact forwardedT tk_ tk_ hc hFP hwc | exact forwarded0_c (A := A) hc at_ | exact isetT tk_ tk_ om om om); rintro _ _ ⟨rfl, rfl⟩) | (apply gL; first | refine L_nil ?_ | refine kV ?_) | (apply gW; first | refine W_seq ?_ | refine W_region ?_ | refine W_ret ?_ | refine W_skip ?_) | (first | refine seqR.normal ?_ | refine seqR.ret ?_) | fail)
  apply L_call rfl rfl rfl rfl rfl
  · exact iflip_c (C := C) (A := A.fin.1) h1 c1 (by rw [v1]; exact hx) (by rw [l1]; exact hwc) (by rw [v1]; exact hbr)
  rintro _ _ ⟨rfl, rfl⟩
  repeat' (first | (apply gCall; apply L_call rfl rfl rfl rfl rfl; (· first | exact val2_c at_ at_ hw hr om om om | exact forwardedT tk_ tk_ hc hFP hwc | exact forwarded0_c (A := A) hc at_ | exact isetT tk_ tk_ om om om); rintro _ _ ⟨rfl, rfl⟩) | (apply gL; first | refine L_nil ?_ | refine kV ?_) | (apply gW; first | refine W_seq ?_ | refine W_region ?_ | refine W_ret ?_ | refine W_skip ?_) | (first | refine seqR.normal ?_ | refine seqR.ret ?_) | fail)
  apply L_call rfl rfl rfl rfl rfl
  · exact ifinishT (C := C) (A := A.fin.1.flip) (rp := ad br) (rc := rc) tk_ tk_ h2 (by rw [l2, l1]; exact hwc)
  rintro _ _ ⟨rfl, rfl⟩
  rw [← v3]
  repeat' (first | (apply gCall; apply L_call rfl rfl rfl rfl rfl; (· first | exact val2_c at_ at_ hw hr om om om | exact forwardedT tk_ tk_ hc hFP hwc | exact forwarded0_c (A := A) hc at_ | exact isetT tk_ tk_ om om om); rintro _ _ ⟨rfl, rfl⟩) | (apply gL; first | refine L_nil ?_ | refine kV ?_) | (apply gW; first | refine W_seq ?_ | refine W_region ?_ | refine W_ret ?_ | refine W_skip ?_) | (first | refine seqR.normal ?_ | refine seqR.ret ?_) | fail)
  exact retR.end_ _ _ (ret0 rfl) cvt_ ⟨rfl, rfl⟩
end Go.Proofs.YtepddopgmhdllaaGreat.Eng
namespace Go.Proofs.YtepddopgmhdllaaGreat.Eng
open Go Go.RowKit Go.Proofs.YtepddopgmhdllaaGreat.Sl Go.Proofs.YtepddopgmhdllaaGreat.Ar
set_option linter.unusedVariables false
set_option linter.unusedSimpArgs false
section
variable {P : Program} {N : Nat} {w0 w : World} {E : Env} {H H' H1 : HL} {o : Oper} {x y z : Operand} {T T2 e ty : TypeId} {v u zv : Value} {k bytes b b1 m c : Nat} {ops : Array Oper} {rest : List Oper} {R : Post} {news sp : List Value} {d_ : Option Tmp} {ty_ : TypeId} {pos_ : String} {af_ : Array Edge} {gd_ : Option (Nat × Bool)}
theorem L_eff0 (hw : wantE ops E o = some true) (hd : o.dst = none)
    (hr : ∀ a w, Holds N E a → Sat w0 H w → ∃ v w', (execOp a.eval o).run P w = .ok (.value v) w' ∧ Sat w0 H' w')
    (hk : L P N w0 ops rest E H' R) : L P N w0 ops (o :: rest) E H R := by
  refine ⟨fun a w ha hs => ?_⟩
  refine wpList_step fun K hK => ?_
  rw [if_pos (wanted_of ha hw)]
  obtain ⟨v, w', e, h1⟩ := hr a w ha hs
  unfold Oper.wp
  rw [e]
  exact hK _ _ (hk.out _ _ (by rw [hd]; exact ha) h1)
theorem zeroW_cons {ws : List Int} {p k : Int} (hp : 0 ≤ p) (hk : 0 ≤ k) (hl : p < (ws.length : Int)) : zeroW (ws.set p.toNat 0) (p + 1) k = zeroW ws p (k + 1) := by
  refine list_g (by rw [length_zeroW, length_zeroW, List.length_set]) (fun q hq => ?_)
  rw [g_zeroW hq, g_zeroW hq, g_set hp hl hq]
  by_cases c : q = p
  · rw [if_pos c, if_neg (by omega), if_pos (by omega)]
  · rw [if_neg c]
    by_cases d : p + 1 ≤ q ∧ q < p + 1 + k
    · rw [if_pos d, if_pos (by omega)]
    · rw [if_neg d, if_neg (by omega)]
theorem putAt_zero {sp : List Value} : ∀ (n : Nat) (ws : List Int) (p : Nat), p + n ≤ ws.length → putAt (rowA .u64 ws sp) p (List.replicate n (.int .u64 0)) = rowA .u64 (zeroW ws (p : Int) (n : Int)) sp := by
  intro n
  induction n with
  | zero => intro ws p h; show _ = rowA .u64 (zeroW ws (p : Int) 0) sp; rw [zeroW_0 (by omega)]; rfl
  | succ n ih =>
    intro ws p h
    rw [List.replicate_succ, putAt]
    have e1 : (rowA .u64 ws sp).setIfInBounds p (.int .u64 0) = rowA .u64 (ws.set p 0) sp := by
      have := rowA_set (k := .u64) (xs := ws) (sp := sp) (i := (p : Int)) (u := 0) (by omega) (by omega)
      rw [Int.toNat_natCast, Nat.zero_add, Nat.mul_one] at this; exact this
    rw [e1, ih _ _ (by rw [List.length_set]; omega)]
    have := zeroW_cons (ws := ws) (p := (p : Int)) (k := (n : Int)) (by omega) (by omega) (by omega)
    rw [Int.toNat_natCast] at this
    rw [show ((n + 1 : Nat) : Int) = (n : Int) + 1 by omega, ← this]; rfl
theorem zeroCells_one (z : Value) (n : Nat) : (Builtin.zeroCells #[z] n).toList = List.replicate n z := by
  unfold Builtin.zeroCells
  apply List.ext_getElem?
  intro i
  by_cases h : i < n
  · simp [List.getElem?_replicate, h, Nat.mod_one]
  · simp [List.getElem?_replicate, h]
/-- clear of a piece of a row of words -/
theorem L_clear {ws : List Int} {sp : List Value} {p zz : Int} {l c : Nat} [TSlice P T e 1] [TInfo P e (.int .u64 0) 1 bytes] (hw : wantE ops E o = some true) (hd : o.dst = none) (ho : o.op = .call { callee := .builtin .clear, args := #[x], argTypes := #[T] })
    (hx : ev E x = some (.slice (some ⟨b, 0 + p.toNat * 1, none⟩) l c)) (hl : (l : Int) = zz) (hz : 1 ≤ zz) (hp : 0 ≤ p) (hp2 : p + zz ≤ (ws.length : Int))
    (hU : Up H b (.cells (rowA .u64 ws sp) e (0, 0)) (.cells (rowA .u64 (zeroW ws p zz) sp) e (0, 0)) H') (hK : L P N w0 ops rest E H' R) : L P N w0 ops (o :: rest) E H R := by
  subst hl
  refine L_eff0 hw hd (fun A w ha hs => ?_) hK
  rw [exec_builtin _ ho]
  obtain ⟨i, hi, h1, h2, h3⟩ := info_of (P := P) (e := e) (zv := .int .u64 0) (k := 1) (bytes := bytes)
  have ht := TSlice.out (P := P) (T := T) (e := e)
  have hzv : ∀ w, (zeroValue e).run P w = .ok (.int .u64 0) w := fun w => by simp [zeroValue, typeInfo, hi, h1]
  have hcs := putAt_zero (sp := sp) l ws p.toNat (by omega)
  rw [Int.toNat_of_nonneg hp] at hcs
  rw [← hcs] at hU
  obtain ⟨w', hr, hs'⟩ := run_storeCells_putAt (P := P) (List.replicate l (.int .u64 0)) 0 p.toNat (rowA .u64 ws sp) w H H' hs (by simpa using hU) (by rw [size_rowA]; simp; omega) (fun v hv => by rw [List.mem_replicate] at hv; rw [hv.2]; rfl)
  refine ⟨.tuple #[], w', run_v ?_, hs'⟩
  simp only [List.map_toArray, List.map_cons, List.map_nil, ha.eval hx]
  obtain ⟨l', rfl⟩ : ∃ l', l = l' + 1 := ⟨l - 1, by omega⟩
  have hzc : (Builtin.zeroCells (Value.int .u64 0).cells (l' + 1)).toList = List.replicate (l' + 1) (.int .u64 0) := zeroCells_one _ _
  simp [Builtin.clear_, run_underlying ht, hzv, hzc, hr]
theorem v_shl20 {a : Int} (hx : ev E x = some (.int .i64 a)) (hy : ev E y = some (.int .u64 20)) (h : 0 ≤ a ∧ a ≤ 1000000000000) : OpV P N w0 ⟨d_, .binOp .shl T x y T2, ty_, pos_, af_, gd_⟩ E H (.int .i64 (a * 1048576)) := by
  have := v_shl (P := P) (N := N) (w0 := w0) (H := H) (T := T) (T2 := T2) (d_ := d_) (ty_ := ty_) (pos_ := pos_) (af_ := af_) (gd_ := gd_) hx hy (by decide) (by decide)
  have e : IntKind.i64.wrap (a * 2 ^ (20 : Int).toNat) = a * 1048576 := by
    rw [show (2 : Int) ^ (20 : Int).toNat = 1048576 from rfl]
    rw [IntKind.wrap_i64]; omega
  rwa [e] at this
end
end Go.Proofs.YtepddopgmhdllaaGreat.Eng
namespace Go.Proofs.YtepddopgmhdllaaGreat.Eng
open Go Go.RowKit Go.Proofs.YtepddopgmhdllaaGreat.Sl Go.Proofs.YtepddopgmhdllaaGreat.Ar Go.Proofs.YtepddopgmhdllaaGreat.Base
set_option linter.unusedVariables false
set_option linter.unusedSimpArgs false
set_option maxRecDepth 10000
theorem fwI_ser {p : Int} {sl : List Int} : ∀ (f : Nat) (i : Int) (B : Ar), (Ar.fwI p sl f i B).serial = B.serial := by
  intro f
  induction f with
  | zero => intro i B; rfl
  | succ f ih =>
    intro i B
    rw [Ar.fwI]
    split
    · rw [ih]; exact (fwd_same (A := B) _ _).2.2.2.2.2.1
    · rfl
theorem stp_ser : ∀ (f : Nat) (B : Ar) (d n : Int), (Ar.stp f B d n).1.serial = B.serial := by
  intro f
  induction f with
  | zero => intro B d n; rfl
  | succ f ih =>
    intro B d n
    rw [Ar.stp]
    split
    · rw [ih, over_ser]; exact fwI_ser _ _ _
    · rfl
theorem flR_ser : ∀ (f : Nat) (i : Int) (B : Ar), (Ar.flR f i B).serial = B.serial := by
  intro f
  induction f with
  | zero => intro i B; rfl
  | succ f ih =>
    intro i B
    rw [Ar.flR]
    split
    · rw [ih]; exact (fwd_same (A := B) _ _).2.2.2.2.2.1
    · rfl
theorem flip_ser {B : Ar} : B.flip.serial = B.serial := by unfold Ar.flip; rw [over_ser, flR_ser]; rfl
theorem fin_ser {B : Ar} : B.fin.1.serial = B.serial := by unfold Ar.fin; rw [stp_ser, over_ser]
theorem col_ser {B : Ar} : B.col.serial = B.serial := by unfold Ar.col; rw [fin_ser, flip_ser, fin_ser]
theorem ask1_ser {B : Ar} : B.ask1.serial = B.serial := by
  unfold Ar.ask1
  split
  · rw [stp_ser, over_ser]
  · split
    · rw [stp_ser, over_ser, flip_ser]
    · rfl
theorem ask2_ser {B : Ar} {n : Int} : (B.ask2 n).serial = B.serial := by
  unfold Ar.ask2
  split
  · rw [col_ser, ask1_ser]
  · exact ask1_ser
/-- how far a cycle's old half goes -/
def OldP (A : Ar) : Prop := 0 ≤ A.old ∧ A.old ≤ 8000
theorem OldP.over {B : Ar} (h : OldP B) : OldP B.over := by
  unfold Ar.over
  split
  · exact ⟨Int.le_refl _, by show (0 : Int) ≤ 8000; decide⟩
  · exact h
theorem OldP.of_eq {B B' : Ar} (h : OldP B) (e : B'.old = B.old) : OldP B' := by unfold OldP; rw [e]; exact h
theorem OldP.fwI {p : Int} {sl : List Int} : ∀ (f : Nat) (i : Int) (B : Ar), (Ar.fwI p sl f i B).old = B.old := by
  intro f
  induction f with
  | zero => intro i B; rfl
  | succ f ih =>
    intro i B
    rw [Ar.fwI]
    split
    · rw [ih]; exact (fwd_same (A := B) _ _).2.2.2.2.1
    · rfl
theorem OldP.stp : ∀ (f : Nat) (B : Ar) (d n : Int), OldP B → OldP (Ar.stp f B d n).1 := by
  intro f
  induction f with
  | zero => intro B d n h; exact h
  | succ f ih =>
    intro B d n h
    rw [Ar.stp]
    split
    · exact ih _ _ _ (OldP.over (h.of_eq (OldP.fwI _ _ _)))
    · exact h
theorem OldP.flR : ∀ (f : Nat) (i : Int) (B : Ar), (Ar.flR f i B).old = B.old := by
  intro f
  induction f with
  | zero => intro i B; rfl
  | succ f ih =>
    intro i B
    rw [Ar.flR]
    split
    · rw [ih]; exact (fwd_same (A := B) _ _).2.2.2.2.1
    · rfl
theorem SI.top8 {A : Ar} {m : List Int} (h : SI A m) : 0 ≤ A.top ∧ A.top ≤ 8000 := by
  have hv := h.hv
  have hse := h.se
  have htp := h.tp
  have hrm := h.rm
  have hS := S2_0 A.ws m A.ws.length
  omega
theorem OldP.flip {A : Ar} {m : List Int} (h : SI A m) : OldP A.flip := by
  unfold Ar.flip
  refine OldP.over ?_
  have : OldP A.fl0 := h.top8
  exact this.of_eq (OldP.flR _ _ _)
theorem OldP.fin {B : Ar} (h : OldP B) : OldP B.fin.1 := OldP.stp _ _ _ _ h.over
theorem OldP.col {A : Ar} {m : List Int} (h : SI A m) : OldP A.col := by
  obtain ⟨m1, h1, c1, v1, l1⟩ := h.fin
  exact (OldP.flip h1).fin
theorem OldP.ask1 {A : Ar} {m : List Int} (h : SI A m) (ho : OldP A) : OldP A.ask1 := by
  unfold Ar.ask1
  split
  · exact OldP.stp _ _ _ _ ho.over
  · split
    · exact OldP.stp _ _ _ _ (OldP.flip h).over
    · exact ho
theorem OldP.ask2 {A : Ar} {m : List Int} (h : SI A m) (ho : OldP A) (n : Int) : OldP (A.ask2 n) := by
  obtain ⟨m1, h1, -⟩ := h.ask1
  unfold Ar.ask2
  split
  · exact OldP.col h1
  · exact OldP.ask1 h ho
theorem OldP.of_ok {A : Ar} {m : List Int} (h : OkP A m) : OldP A := by
  have h7 := h.num.2.2.2.2.2.2
  have := h.lens
  unfold OldP
  split at h7
  · have : 0 ≤ A.start (1 - A.to) ∧ (2 - A.to) * A.semi ≤ 8000 := by unfold Ar.start; rcases this.2.1 with e | e <;> rw [e] <;> omega
    omega
  · omega
variable {w0 : World} {H : HL} {C : Cn} {A : Ar} {ba rc : Nat} {m : List Int} {rp : Option Addr}
theorem implHeadOkB_c {k s n : Int} (hh : HeadP k s n) : Fn Tryz.prog w0 169 #[.agg #[.int .i64 k, .int .i64 s, .int .i64 n]] H fun v H' => v = .bool true ∧ H' = H := by
  have := implHeadOk_c (w0 := w0) (H := H) k s n
  rwa [show headOk k s n = true from decide_eq_true hh] at this
theorem hWord_r {k s n : Int} (hh : HeadP k s n) : 0 ≤ hWord k s n ∧ hWord k s n < 9223372036854775808 := by
  have := hh.range; unfold hWord; omega
theorem iPackHead_c {k s n : Int} (hh : HeadP k s n) : Fn Tryz.prog w0 163 #[.agg #[.int .i64 k, .int .i64 s, .int .i64 n]] H fun v H' => v = .tuple #[.int .u64 (hWord k s n), .bool true] ∧ H' = H := by
  have hr := hh.range
  have hw := hWord_r hh
  have e : k + 16 * s + n * 1048576 = hWord k s n := by unfold hWord; omega
  refine enter1 Tryz.func163 rfl rfl Tryz.ntmps163 rfl ?_
  repeat' (first | ((first | (apply gCall; apply L_call rfl rfl rfl rfl rfl) | (apply gQC; apply Q_call rfl rfl rfl rfl rfl)); (· first | exact implHeadOkB_c hh | exact other_c at_ om | exact begin_c at_ om om | exact end_c at_ om om | exact ileft_c at_ hS hO | exact ifree_c at_ hS hO | exact isBorn_c _ | exact iPackHead_c hh); try rintro _ _ ⟨rfl, rfl⟩) | (apply gL; first | refine L_nil ?_ | refine yX fun _ => ?_ | refine yA fun _ => ?_ | (apply gSt; first | refine sR ?_ | refine sB ?_ | refine s1 ?_ | refine sW ?_ | refine sN ?_) | refine kV ?_ | (apply L_val rfl rfl rfl; (· first | (apply gBin; first | fail | exact v_shl20 rfl rfl om) | fail | exact v_slice rfl rfl rfl om om om om))) | (apply gW; first | refine W_seq ?_ | refine W_region ?_ | refine W_ret ?_ | refine W_skip ?_ | refine W_cond1 rfl ?_ | refine W_cond0 rfl ?_ | refine cW (fun h => ?_) fun h => ?_ | refine wQ ?_) | (first | refine seqR.normal ?_ | refine seqR.ret ?_ | refine midA.ret ?_ | refine midA.exit ?_) | (apply gQ; first | refine Q_nil ?_ | refine kQ ?_ | (apply Q_val rfl rfl rfl; (· first | (apply gBin; first | fail | exact v_shl20 rfl rfl om) | fail | exact v_slice rfl rfl rfl om om om om))) | fail)
  refine retR.ret _ _ (ret2 rfl rfl rfl) cv_ ⟨?_, rfl⟩
  rw [e]
theorem ileft_c (hP : At H ba (aObjG C A rp rc)) (hS : SI A m) (hO : OldP A) :
    Fn Tryz.prog w0 94 #[.pointer (some ⟨ba, 0, none⟩)] H fun v H' => v = .int .i64 (if A.cyc = true then A.old - (1 - A.to) * A.semi - 1 - A.copied else 0) ∧ H' = H := by
  have hse := hS.se
  have hv := hS.hv
  have hto := hS.to
  have hcp := hS.cp
  have hS0 := S2_0 A.ws m A.ws.length
  have hst : A.start (1 - A.to) = (1 - A.to) * A.semi + 1 := rfl
  obtain ⟨o1, o2⟩ := hO
  refine enter1 Tryz.func94 rfl rfl Tryz.ntmps94 rfl ?_
  repeat' (first | ((first | (apply gCall; apply L_call rfl rfl rfl rfl rfl) | (apply gQC; apply Q_call rfl rfl rfl rfl rfl)); (· first | exact implHeadOkB_c hh | exact other_c at_ om | exact begin_c at_ om om | exact end_c at_ om om | exact ileft_c at_ hS hO | exact ifree_c at_ hS hO | exact isBorn_c _ | exact iPackHead_c hh); try rintro _ _ ⟨rfl, rfl⟩) | (apply gL; first | refine L_nil ?_ | refine yX fun _ => ?_ | refine yA fun _ => ?_ | (apply gSt; first | refine sR ?_ | refine sB ?_ | refine s1 ?_ | refine sW ?_ | refine sN ?_) | refine kV ?_ | (apply L_val rfl rfl rfl; (· first | (apply gBin; first | fail | exact v_shl20 rfl rfl om) | fail | exact v_slice rfl rfl rfl om om om om))) | (apply gW; first | refine W_seq ?_ | refine W_region ?_ | refine W_ret ?_ | refine W_skip ?_ | refine W_cond1 rfl ?_ | refine W_cond0 rfl ?_ | refine cW (fun h => ?_) fun h => ?_ | refine wQ ?_) | (first | refine seqR.normal ?_ | refine seqR.ret ?_ | refine midA.ret ?_ | refine midA.exit ?_) | (apply gQ; first | refine Q_nil ?_ | refine kQ ?_ | (apply Q_val rfl rfl rfl; (· first | (apply gBin; first | fail | exact v_shl20 rfl rfl om) | fail | exact v_slice rfl rfl rfl om om om om))) | fail)
  · refine retR.ret _ _ (ret1 rfl rfl) cv_ ⟨?_, rfl⟩
    rw [if_neg (by rw [h]; decide)]
  · refine retR.ret _ _ (ret1 rfl rfl) cv_ ⟨?_, rfl⟩
    rw [if_pos h]
    congr 1; omega
theorem ifree_c (hP : At H ba (aObjG C A rp rc)) (hS : SI A m) (hO : OldP A) :
    Fn Tryz.prog w0 160 #[.pointer (some ⟨ba, 0, none⟩)] H fun v H' => v = .int .i64 A.fr ∧ H' = H := by
  have hse := hS.se
  have hv := hS.hv
  have hto := hS.to
  have hcp := hS.cp
  have htp := hS.top8
  have hS0 := S2_0 A.ws m A.ws.length
  obtain ⟨o1, o2⟩ := id hO
  have hl : -100000 ≤ (if A.cyc = true then A.old - (1 - A.to) * A.semi - 1 - A.copied else 0) ∧ (if A.cyc = true then A.old - (1 - A.to) * A.semi - 1 - A.copied else 0) ≤ 100000 := by split <;> omega
  refine enter1 Tryz.func160 rfl rfl Tryz.ntmps160 rfl ?_
  repeat' (first | ((first | (apply gCall; apply L_call rfl rfl rfl rfl rfl) | (apply gQC; apply Q_call rfl rfl rfl rfl rfl)); (· first | exact implHeadOkB_c hh | exact other_c at_ om | exact begin_c at_ om om | exact end_c at_ om om | exact ileft_c at_ hS hO | exact ifree_c at_ hS hO | exact isBorn_c _ | exact iPackHead_c hh); try rintro _ _ ⟨rfl, rfl⟩) | (apply gL; first | refine L_nil ?_ | refine yX fun _ => ?_ | refine yA fun _ => ?_ | (apply gSt; first | refine sR ?_ | refine sB ?_ | refine s1 ?_ | refine sW ?_ | refine sN ?_) | refine kV ?_ | (apply L_val rfl rfl rfl; (· first | (apply gBin; first | fail | exact v_shl20 rfl rfl om) | fail | exact v_slice rfl rfl rfl om om om om))) | (apply gW; first | refine W_seq ?_ | refine W_region ?_ | refine W_ret ?_ | refine W_skip ?_ | refine W_cond1 rfl ?_ | refine W_cond0 rfl ?_ | refine cW (fun h => ?_) fun h => ?_ | refine wQ ?_) | (first | refine seqR.normal ?_ | refine seqR.ret ?_ | refine midA.ret ?_ | refine midA.exit ?_) | (apply gQ; first | refine Q_nil ?_ | refine kQ ?_ | (apply Q_val rfl rfl rfl; (· first | (apply gBin; first | fail | exact v_shl20 rfl rfl om) | fail | exact v_slice rfl rfl rfl om om om om))) | fail)
  refine retR.ret _ _ (ret1 rfl rfl) cv_ ⟨?_, rfl⟩
  rfl
/-- an arena with another serial -/
abbrev aObjS (C : Cn) (A : Ar) (sr : Int) (rp : Option Addr) (rc : Nat) : Obj := .cells #[.slice (some ⟨C.bw, 0, none⟩) A.ws.length C.wc, .int .i64 A.semi, .int .i64 A.to, .int .i64 A.top, .bool A.cyc, .int .i64 A.scan, .int .i64 A.old, .int .i64 A.copied, .int .i64 sr, .slice rp A.vs.length rc] 29 (0, 0)
set_option maxHeartbeats 8000000 in
theorem iask_c {k s : Int} {br : Option Nat} {rsp : List Value} (hS : SI A m) (hO : OldP A) (hh : HeadP k s (A.born k)) (hx : A.vs.length ≤ 1048576) (hwc : A.ws.length ≤ C.wc) (hbr : br = none → A.vs = []) (hsr : -1000000000 ≤ A.serial ∧ A.serial ≤ 1000000000) :
    Fn Tryz.prog w0 116 #[.pointer (some ⟨ba, 0, none⟩), .int .i64 k, .int .i64 s] ((ba, aObjG C A (ad br) rc) :: (C.bw, wObj C A) :: (oV br A.vs rsp ++ H)) fun v H' => v = .tuple #[.int .i64 (A.ask k s).2.1, .int .i64 (A.ask k s).2.2] ∧ H' = (ba, aObjG C (A.ask k s).1 (ad br) rc) :: (C.bw, wObj C (A.ask k s).1) :: (oV br (A.ask k s).1.vs rsp ++ H) := by
  have hr := hh.range
  have hse := hS.se
  have hv := hS.hv
  have hto := hS.to
  have htp := hS.top8
  have hst : A.start A.to = A.to * A.semi + 1 := rfl
  refine enter3 Tryz.func116 rfl rfl Tryz.ntmps116 rfl ?_
  repeat' ((fail_if_success apply gAt 4); (first | ((first | (apply gCall; apply L_call rfl rfl rfl rfl rfl) | (apply gQC; apply Q_call rfl rfl rfl rfl rfl)); (· first | exact implHeadOkB_c hh | exact other_c at_ om | exact begin_c at_ om om | exact end_c at_ om om | exact ileft_c at_ hS hO | exact ifree_c at_ hS hO | exact isBorn_c _ | exact iPackHead_c hh); try rintro _ _ ⟨rfl, rfl⟩) | (apply gL; first | refine L_nil ?_ | refine yX fun _ => ?_ | refine yA fun _ => ?_ | (apply gSt; first | refine sR ?_ | refine sB ?_ | refine s1 ?_ | refine sW ?_ | refine sN ?_) | refine kV ?_ | (apply L_val rfl rfl rfl; (· first | (apply gBin; first | fail | exact v_shl20 rfl rfl om) | fail | exact v_slice rfl rfl rfl om om om om))) | (apply gW; first | refine W_seq ?_ | refine W_region ?_ | refine W_ret ?_ | refine W_skip ?_ | refine W_cond1 rfl ?_ | refine W_cond0 rfl ?_ | refine cW (fun h => ?_) fun h => ?_ | refine wQ ?_) | (first | refine seqR.normal ?_ | refine seqR.ret ?_ | refine midA.ret ?_ | refine midA.exit ?_) | (apply gQ; first | refine Q_nil ?_ | refine kQ ?_ | (apply Q_val rfl rfl rfl; (· first | (apply gBin; first | fail | exact v_shl20 rfl rfl om) | fail | exact v_slice rfl rfl rfl om om om om))) | fail))
  · have e : A.ask k s = (A, 0, 2) := by unfold Ar.ask; rw [if_pos (by omega)]
    rw [e]
    exact retR.ret _ _ (ret2 rfl rfl rfl) cvt_ ⟨rfl, rfl⟩
  have e0 : ¬ A.semi - 1 < s + 1 := by omega
  obtain ⟨m1, hS1, l1, v1⟩ := hS.ask1
  have hO1 := OldP.ask1 hS hO
  have hto1 := hS1.to
  have hwc1 : A.ask1.ws.length ≤ C.wc := by omega
  have hx1 : A.ask1.vs.length ≤ 1048576 := by omega
  have hbr1 : br = none → A.ask1.vs = [] := fun c => List.eq_nil_of_length_eq_zero (by rw [v1, hbr c]; rfl)
  refine W_midA (α := Unit) (fun _ => [(0, .pointer (some ⟨ba, 0, none⟩)), (1, .int .i64 k), (2, .int .i64 s), (8, .int .i64 (s + 1))]) (fun _ => (ba, aObjG C A.ask1 (ad br) rc) :: (C.bw, wObj C A.ask1) :: (oV br A.ask1.vs rsp ++ H)) (fun _ => True) ?_ ?_
  · cases hc : A.cyc with
    | true =>
      have e : A.ask1 = (Ar.stp 8001 A.over 0 2).1 := by unfold Ar.ask1; rw [if_pos hc]
      have ev : (Ar.stp 8001 A.over 0 2).1.vs = A.vs := by
        obtain ⟨m3, -, -, -, -, h5, -⟩ := stp_all 8001 A.over m 0 2 hS.over (fun c => by obtain ⟨a, b⟩ := over_ne c; rw [a]; exact b)
        rw [h5]; exact over_same.2.2.2.1
      rw [e, ev]
      repeat' (first | exact absurd h (by rw [hc]; decide) | (apply gCall; apply L_call rfl rfl rfl rfl rfl; (· exact istepT tk_ tk_ hS (by omega) hwc); rintro _ _ ⟨rfl, rfl⟩) | first | ((first | (apply gCall; apply L_call rfl rfl rfl rfl rfl) | (apply gQC; apply Q_call rfl rfl rfl rfl rfl)); (· first | exact implHeadOkB_c hh | exact other_c at_ om | exact begin_c at_ om om | exact end_c at_ om om | exact ileft_c at_ hS hO | exact ifree_c at_ hS hO | exact isBorn_c _ | exact iPackHead_c hh); try rintro _ _ ⟨rfl, rfl⟩) | (apply gL; first | refine L_nil ?_ | refine yX fun _ => ?_ | refine yA fun _ => ?_ | (apply gSt; first | refine sR ?_ | refine sB ?_ | refine s1 ?_ | refine sW ?_ | refine sN ?_) | refine kV ?_ | (apply L_val rfl rfl rfl; (· first | (apply gBin; first | fail | exact v_shl20 rfl rfl om) | fail | exact v_slice rfl rfl rfl om om om om))) | (apply gW; first | refine W_seq ?_ | refine W_region ?_ | refine W_ret ?_ | refine W_skip ?_ | refine W_cond1 rfl ?_ | refine W_cond0 rfl ?_ | refine cW (fun h => ?_) fun h => ?_ | refine wQ ?_) | (first | refine seqR.normal ?_ | refine seqR.ret ?_ | refine midA.ret ?_ | refine midA.exit ?_) | (apply gQ; first | refine Q_nil ?_ | refine kQ ?_ | (apply Q_val rfl rfl rfl; (· first | (apply gBin; first | fail | exact v_shl20 rfl rfl om) | fail | exact v_slice rfl rfl rfl om om om om))) | fail)
      apply midA.mk ()
      · exact sub_
      · exact cvt_
      · trivial
    | false =>
      by_cases hf : A.semi - 1 < 2 * (A.top - (A.to * A.semi + 1))
      · obtain ⟨m3, hS3, l3, v3⟩ := hS.flip hc
        have e : A.ask1 = (Ar.stp 8001 A.flip.over 0 2).1 := by unfold Ar.ask1; rw [if_neg (by rw [hc]; decide), if_pos hf]
        have ev : (Ar.stp 8001 A.flip.over 0 2).1.vs = A.flip.vs := by
          obtain ⟨m4, -, -, -, -, h5, -⟩ := stp_all 8001 A.flip.over m3 0 2 hS3.over (fun c => by obtain ⟨a, b⟩ := over_ne c; rw [a]; exact b)
          rw [h5]; exact over_same.2.2.2.1
        have hwc3 : A.flip.ws.length ≤ C.wc := by omega
        rw [e, ev]
        repeat' (first | exact absurd h (by rw [hc]; decide) | (exfalso; omega) | (apply gCall; apply L_call rfl rfl rfl rfl rfl; (· first | exact iflip_c hS hc hx hwc hbr | exact istepT tk_ tk_ hS3 (by omega) hwc3); rintro _ _ ⟨rfl, rfl⟩) | first | ((first | (apply gCall; apply L_call rfl rfl rfl rfl rfl) | (apply gQC; apply Q_call rfl rfl rfl rfl rfl)); (· first | exact implHeadOkB_c hh | exact other_c at_ om | exact begin_c at_ om om | exact end_c at_ om om | exact ileft_c at_ hS hO | exact ifree_c at_ hS hO | exact isBorn_c _ | exact iPackHead_c hh); try rintro _ _ ⟨rfl, rfl⟩) | (apply gL; first | refine L_nil ?_ | refine yX fun _ => ?_ | refine yA fun _ => ?_ | (apply gSt; first | refine sR ?_ | refine sB ?_ | refine s1 ?_ | refine sW ?_ | refine sN ?_) | refine kV ?_ | (apply L_val rfl rfl rfl; (· first | (apply gBin; first | fail | exact v_shl20 rfl rfl om) | fail | exact v_slice rfl rfl rfl om om om om))) | (apply gW; first | refine W_seq ?_ | refine W_region ?_ | refine W_ret ?_ | refine W_skip ?_ | refine W_cond1 rfl ?_ | refine W_cond0 rfl ?_ | refine cW (fun h => ?_) fun h => ?_ | refine wQ ?_) | (first | refine seqR.normal ?_ | refine seqR.ret ?_ | refine midA.ret ?_ | refine midA.exit ?_) | (apply gQ; first | refine Q_nil ?_ | refine kQ ?_ | (apply Q_val rfl rfl rfl; (· first | (apply gBin; first | fail | exact v_shl20 rfl rfl om) | fail | exact v_slice rfl rfl rfl om om om om))) | fail)
        apply midA.mk ()
        · exact sub_
        · exact cvt_
        · trivial
      · have e : A.ask1 = A := by unfold Ar.ask1; rw [if_neg (by rw [hc]; decide), if_neg hf]
        rw [e]
        repeat' (first | exact absurd h (by rw [hc]; decide) | (exfalso; omega) | first | ((first | (apply gCall; apply L_call rfl rfl rfl rfl rfl) | (apply gQC; apply Q_call rfl rfl rfl rfl rfl)); (· first | exact implHeadOkB_c hh | exact other_c at_ om | exact begin_c at_ om om | exact end_c at_ om om | exact ileft_c at_ hS hO | exact ifree_c at_ hS hO | exact isBorn_c _ | exact iPackHead_c hh); try rintro _ _ ⟨rfl, rfl⟩) | (apply gL; first | refine L_nil ?_ | refine yX fun _ => ?_ | refine yA fun _ => ?_ | (apply gSt; first | refine sR ?_ | refine sB ?_ | refine s1 ?_ | refine sW ?_ | refine sN ?_) | refine kV ?_ | (apply L_val rfl rfl rfl; (· first | (apply gBin; first | fail | exact v_shl20 rfl rfl om) | fail | exact v_slice rfl rfl rfl om om om om))) | (apply gW; first | refine W_seq ?_ | refine W_region ?_ | refine W_ret ?_ | refine W_skip ?_ | refine W_cond1 rfl ?_ | refine W_cond0 rfl ?_ | refine cW (fun h => ?_) fun h => ?_ | refine wQ ?_) | (first | refine seqR.normal ?_ | refine seqR.ret ?_ | refine midA.ret ?_ | refine midA.exit ?_) | (apply gQ; first | refine Q_nil ?_ | refine kQ ?_ | (apply Q_val rfl rfl rfl; (· first | (apply gBin; first | fail | exact v_shl20 rfl rfl om) | fail | exact v_slice rfl rfl rfl om om om om))) | fail)
        apply midA.mk ()
        · exact sub_
        · exact cvt_
        · trivial
  rintro _ _
  have hse1 := hS1.se
  obtain ⟨m2, hS2, l2, v2⟩ := hS.ask2 (s + 1)
  have hO2 := OldP.ask2 hS hO (s + 1)
  have es2 := ask2_ser (B := A) (n := s + 1)
  refine W_midA (α := Unit) (fun _ => [(0, .pointer (some ⟨ba, 0, none⟩)), (1, .int .i64 k), (2, .int .i64 s), (8, .int .i64 (s + 1))]) (fun _ => (ba, aObjG C (A.ask2 (s + 1)) (ad br) rc) :: (C.bw, wObj C (A.ask2 (s + 1))) :: (oV br (A.ask2 (s + 1)).vs rsp ++ H)) (fun _ => True) ?_ ?_
  · by_cases hf : A.ask1.fr < s + 1
    · have e : A.ask2 (s + 1) = A.ask1.col := by unfold Ar.ask2; rw [if_pos hf]
      rw [e]
      have hS := hS1
      have hO := hO1
      repeat' (first | exact absurd hf h | (apply gCall; apply L_call rfl rfl rfl rfl rfl; (· first | exact icollect_c hS1 hx1 hwc1 hbr1 | exact ifree_c at_ hS1 hO1); rintro _ _ ⟨rfl, rfl⟩) | first | ((first | (apply gCall; apply L_call rfl rfl rfl rfl rfl) | (apply gQC; apply Q_call rfl rfl rfl rfl rfl)); (· first | exact implHeadOkB_c hh | exact other_c at_ om | exact begin_c at_ om om | exact end_c at_ om om | exact ileft_c at_ hS hO | exact ifree_c at_ hS hO | exact isBorn_c _ | exact iPackHead_c hh); try rintro _ _ ⟨rfl, rfl⟩) | (apply gL; first | refine L_nil ?_ | refine yX fun _ => ?_ | refine yA fun _ => ?_ | (apply gSt; first | refine sR ?_ | refine sB ?_ | refine s1 ?_ | refine sW ?_ | refine sN ?_) | refine kV ?_ | (apply L_val rfl rfl rfl; (· first | (apply gBin; first | fail | exact v_shl20 rfl rfl om) | fail | exact v_slice rfl rfl rfl om om om om))) | (apply gW; first | refine W_seq ?_ | refine W_region ?_ | refine W_ret ?_ | refine W_skip ?_ | refine W_cond1 rfl ?_ | refine W_cond0 rfl ?_ | refine cW (fun h => ?_) fun h => ?_ | refine wQ ?_) | (first | refine seqR.normal ?_ | refine seqR.ret ?_ | refine midA.ret ?_ | refine midA.exit ?_) | (apply gQ; first | refine Q_nil ?_ | refine kQ ?_ | (apply Q_val rfl rfl rfl; (· first | (apply gBin; first | fail | exact v_shl20 rfl rfl om) | fail | exact v_slice rfl rfl rfl om om om om))) | fail)
      apply midA.mk ()
      · exact sub_
      · exact cvt_
      · trivial
    · have e : A.ask2 (s + 1) = A.ask1 := by unfold Ar.ask2; rw [if_neg hf]
      rw [e]
      repeat' (first | exact absurd h hf | (apply gCall; apply L_call rfl rfl rfl rfl rfl; (· exact ifree_c at_ hS1 hO1); rintro _ _ ⟨rfl, rfl⟩) | first | ((first | (apply gCall; apply L_call rfl rfl rfl rfl rfl) | (apply gQC; apply Q_call rfl rfl rfl rfl rfl)); (· first | exact implHeadOkB_c hh | exact other_c at_ om | exact begin_c at_ om om | exact end_c at_ om om | exact ileft_c at_ hS hO | exact ifree_c at_ hS hO | exact isBorn_c _ | exact iPackHead_c hh); try rintro _ _ ⟨rfl, rfl⟩) | (apply gL; first | refine L_nil ?_ | refine yX fun _ => ?_ | refine yA fun _ => ?_ | (apply gSt; first | refine sR ?_ | refine sB ?_ | refine s1 ?_ | refine sW ?_ | refine sN ?_) | refine kV ?_ | (apply L_val rfl rfl rfl; (· first | (apply gBin; first | fail | exact v_shl20 rfl rfl om) | fail | exact v_slice rfl rfl rfl om om om om))) | (apply gW; first | refine W_seq ?_ | refine W_region ?_ | refine W_ret ?_ | refine W_skip ?_ | refine W_cond1 rfl ?_ | refine W_cond0 rfl ?_ | refine cW (fun h => ?_) fun h => ?_ | refine wQ ?_) | (first | refine seqR.normal ?_ | refine seqR.ret ?_ | refine midA.ret ?_ | refine midA.exit ?_) | (apply gQ; first | refine Q_nil ?_ | refine kQ ?_ | (apply Q_val rfl rfl rfl; (· first | (apply gBin; first | fail | exact v_shl20 rfl rfl om) | fail | exact v_slice rfl rfl rfl om om om om))) | fail)
      apply midA.mk ()
      · exact sub_
      · exact cvt_
      · trivial
  rintro _ _
  generalize hB : A.ask2 (s + 1) = B at *
  by_cases hf : B.fr < s + 1
  · have e : A.ask k s = (B, 0, 2) := by unfold Ar.ask; rw [if_neg e0, hB, if_pos hf]
    rw [e]
    repeat' (first | exact absurd hf h | (apply gCall; apply L_call rfl rfl rfl rfl rfl; (· exact ifree_c at_ hS2 hO2); rintro _ _ ⟨rfl, rfl⟩) | first | ((first | (apply gCall; apply L_call rfl rfl rfl rfl rfl) | (apply gQC; apply Q_call rfl rfl rfl rfl rfl)); (· first | exact implHeadOkB_c hh | exact other_c at_ om | exact begin_c at_ om om | exact end_c at_ om om | exact ileft_c at_ hS hO | exact ifree_c at_ hS hO | exact isBorn_c _ | exact iPackHead_c hh); try rintro _ _ ⟨rfl, rfl⟩) | (apply gL; first | refine L_nil ?_ | refine yX fun _ => ?_ | refine yA fun _ => ?_ | (apply gSt; first | refine sR ?_ | refine sB ?_ | refine s1 ?_ | refine sW ?_ | refine sN ?_) | refine kV ?_ | (apply L_val rfl rfl rfl; (· first | (apply gBin; first | fail | exact v_shl20 rfl rfl om) | fail | exact v_slice rfl rfl rfl om om om om))) | (apply gW; first | refine W_seq ?_ | refine W_region ?_ | refine W_ret ?_ | refine W_skip ?_ | refine W_cond1 rfl ?_ | refine W_cond0 rfl ?_ | refine cW (fun h => ?_) fun h => ?_ | refine wQ ?_) | (first | refine seqR.normal ?_ | refine seqR.ret ?_ | refine midA.ret ?_ | refine midA.exit ?_) | (apply gQ; first | refine Q_nil ?_ | refine kQ ?_ | (apply Q_val rfl rfl rfl; (· first | (apply gBin; first | fail | exact v_shl20 rfl rfl om) | fail | exact v_slice rfl rfl rfl om om om om))) | fail)
    exact retR.ret _ _ (ret2 rfl rfl rfl) cvt_ ⟨rfl, rfl⟩
  have e : A.ask k s = (B.mkO k s, B.top, 0) := by unfold Ar.ask; rw [if_neg e0, hB, if_neg hf]
  rw [e]
  obtain ⟨r1, r2, r3, r4⟩ := hS2.room hf
  have hbn : A.born k = B.born k := by unfold Ar.born; rw [es2]
  rw [hbn] at hh
  have hwr := hWord_r hh
  have hln2 := hS2.ln
  have hse2 := hS2.se
  repeat' (first | exact absurd h hf | (apply gCall; apply L_call rfl rfl rfl rfl rfl; (· exact ifree_c at_ hS2 hO2); rintro _ _ ⟨rfl, rfl⟩) | ((fail_if_success apply gAt 14); (first | ((first | (apply gCall; apply L_call rfl rfl rfl rfl rfl) | (apply gQC; apply Q_call rfl rfl rfl rfl rfl)); (· first | exact implHeadOkB_c hh | exact other_c at_ om | exact begin_c at_ om om | exact end_c at_ om om | exact ileft_c at_ hS hO | exact ifree_c at_ hS hO | exact isBorn_c _ | exact iPackHead_c hh); try rintro _ _ ⟨rfl, rfl⟩) | (apply gL; first | refine L_nil ?_ | refine yX fun _ => ?_ | refine yA fun _ => ?_ | (apply gSt; first | refine sR ?_ | refine sB ?_ | refine s1 ?_ | refine sW ?_ | refine sN ?_) | refine kV ?_ | (apply L_val rfl rfl rfl; (· first | (apply gBin; first | fail | exact v_shl20 rfl rfl om) | fail | exact v_slice rfl rfl rfl om om om om))) | (apply gW; first | refine W_seq ?_ | refine W_region ?_ | refine W_ret ?_ | refine W_skip ?_ | refine W_cond1 rfl ?_ | refine W_cond0 rfl ?_ | refine cW (fun h => ?_) fun h => ?_ | refine wQ ?_) | (first | refine seqR.normal ?_ | refine seqR.ret ?_ | refine midA.ret ?_ | refine midA.exit ?_) | (apply gQ; first | refine Q_nil ?_ | refine kQ ?_ | (apply Q_val rfl rfl rfl; (· first | (apply gBin; first | fail | exact v_shl20 rfl rfl om) | fail | exact v_slice rfl rfl rfl om om om om))) | fail)))
  rename_i b9
  refine W_midA (α := Unit) (fun _ => [(0, .pointer (some ⟨ba, 0, none⟩)), (1, .int .i64 k), (2, .int .i64 s), (8, .int .i64 (s + 1)), (9, .pointer (some ⟨b9, 0, none⟩))]) (fun _ => (ba, aObjS C B (if BornP k then B.serial + 1 else B.serial) (ad br) rc) :: (b9, .cells #[.int .i64 k, .int .i64 s, .int .i64 (B.born k)] 105 (0, 0)) :: (C.bw, wObj C B) :: (oV br B.vs rsp ++ H)) (fun _ => True) ?_ ?_
  · by_cases hk : BornP k
    · have e1 : B.born k = B.serial := by unfold Ar.born; rw [if_pos hk]
      rw [e1, if_pos hk]
      repeat' (first | exact absurd hk h | (apply gSt; apply L_stc rfl rfl rfl rfl rfl rfl; (· exact at_); (· simp only [List.set_cons_zero, List.set_cons_succ]; rfl); (· exact up_); (· rfl)) | first | ((first | (apply gCall; apply L_call rfl rfl rfl rfl rfl) | (apply gQC; apply Q_call rfl rfl rfl rfl rfl)); (· first | exact implHeadOkB_c hh | exact other_c at_ om | exact begin_c at_ om om | exact end_c at_ om om | exact ileft_c at_ hS hO | exact ifree_c at_ hS hO | exact isBorn_c _ | exact iPackHead_c hh); try rintro _ _ ⟨rfl, rfl⟩) | (apply gL; first | refine L_nil ?_ | refine yX fun _ => ?_ | refine yA fun _ => ?_ | (apply gSt; first | refine sR ?_ | refine sB ?_ | refine s1 ?_ | refine sW ?_ | refine sN ?_) | refine kV ?_ | (apply L_val rfl rfl rfl; (· first | (apply gBin; first | fail | exact v_shl20 rfl rfl om) | fail | exact v_slice rfl rfl rfl om om om om))) | (apply gW; first | refine W_seq ?_ | refine W_region ?_ | refine W_ret ?_ | refine W_skip ?_ | refine W_cond1 rfl ?_ | refine W_cond0 rfl ?_ | refine cW (fun h => ?_) fun h => ?_ | refine wQ ?_) | (first | refine seqR.normal ?_ | refine seqR.ret ?_ | refine midA.ret ?_ | refine midA.exit ?_) | (apply gQ; first | refine Q_nil ?_ | refine kQ ?_ | (apply Q_val rfl rfl rfl; (· first | (apply gBin; first | fail | exact v_shl20 rfl rfl om) | fail | exact v_slice rfl rfl rfl om om om om))) | fail)
      apply midA.mk ()
      · exact sub_
      · exact cvt_
      · trivial
    · have e1 : B.born k = 0 := by unfold Ar.born; rw [if_neg hk]
      rw [e1, if_neg hk]
      repeat' (first | exact absurd h hk | (apply gSt; apply L_stc rfl rfl rfl rfl rfl rfl; (· exact at_); (· simp only [List.set_cons_zero, List.set_cons_succ]; rfl); (· exact up_); (· rfl)) | first | ((first | (apply gCall; apply L_call rfl rfl rfl rfl rfl) | (apply gQC; apply Q_call rfl rfl rfl rfl rfl)); (· first | exact implHeadOkB_c hh | exact other_c at_ om | exact begin_c at_ om om | exact end_c at_ om om | exact ileft_c at_ hS hO | exact ifree_c at_ hS hO | exact isBorn_c _ | exact iPackHead_c hh); try rintro _ _ ⟨rfl, rfl⟩) | (apply gL; first | refine L_nil ?_ | refine yX fun _ => ?_ | refine yA fun _ => ?_ | (apply gSt; first | refine sR ?_ | refine sB ?_ | refine s1 ?_ | refine sW ?_ | refine sN ?_) | refine kV ?_ | (apply L_val rfl rfl rfl; (· first | (apply gBin; first | fail | exact v_shl20 rfl rfl om) | fail | exact v_slice rfl rfl rfl om om om om))) | (apply gW; first | refine W_seq ?_ | refine W_region ?_ | refine W_ret ?_ | refine W_skip ?_ | refine W_cond1 rfl ?_ | refine W_cond0 rfl ?_ | refine cW (fun h => ?_) fun h => ?_ | refine wQ ?_) | (first | refine seqR.normal ?_ | refine seqR.ret ?_ | refine midA.ret ?_ | refine midA.exit ?_) | (apply gQ; first | refine Q_nil ?_ | refine kQ ?_ | (apply Q_val rfl rfl rfl; (· first | (apply gBin; first | fail | exact v_shl20 rfl rfl om) | fail | exact v_slice rfl rfl rfl om om om om))) | fail)
      apply midA.mk ()
      · exact sub_
      · exact cvt_
      · trivial
  rintro _ _
  repeat' ((fail_if_success apply gAtR 18); (first | ((first | (apply gCall; apply L_call rfl rfl rfl rfl rfl) | (apply gQC; apply Q_call rfl rfl rfl rfl rfl)); (· first | exact implHeadOkB_c hh | exact other_c at_ om | exact begin_c at_ om om | exact end_c at_ om om | exact ileft_c at_ hS hO | exact ifree_c at_ hS hO | exact isBorn_c _ | exact iPackHead_c hh); try rintro _ _ ⟨rfl, rfl⟩) | (apply gL; first | refine L_nil ?_ | refine yX fun _ => ?_ | refine yA fun _ => ?_ | (apply gSt; first | refine sR ?_ | refine sB ?_ | refine s1 ?_ | refine sW ?_ | refine sN ?_) | refine kV ?_ | (apply L_val rfl rfl rfl; (· first | (apply gBin; first | fail | exact v_shl20 rfl rfl om) | fail | exact v_slice rfl rfl rfl om om om om))) | (apply gW; first | refine W_seq ?_ | refine W_region ?_ | refine W_ret ?_ | refine W_skip ?_ | refine W_cond1 rfl ?_ | refine W_cond0 rfl ?_ | refine cW (fun h => ?_) fun h => ?_ | refine wQ ?_) | (first | refine seqR.normal ?_ | refine seqR.ret ?_ | refine midA.ret ?_ | refine midA.exit ?_) | (apply gQ; first | refine Q_nil ?_ | refine kQ ?_ | (apply Q_val rfl rfl rfl; (· first | (apply gBin; first | fail | exact v_shl20 rfl rfl om) | fail | exact v_slice rfl rfl rfl om om om om))) | fail))
  refine W_seq ?_
  apply W_regionA (D := (ba, aObjS C B (if BornP k then B.serial + 1 else B.serial) (ad br) rc) :: (b9, .cells #[.int .i64 k, .int .i64 s, .int .i64 (B.born k)] 105 (0, 0)) :: (oV br B.vs rsp ++ H)) (by kernel_rfl)
  refine kAt 0 ?_
  refine kAt 1 ?_
  refine kAt 2 ?_
  refine kAt 3 ?_
  refine kAt 4 ?_
  refine kAt 5 ?_
  refine A_one (i := 6) (by kernel_rfl) cvt_ rfl (O_of_L fun S hS => ?_)
  first | (apply gCall; apply L_call rfl rfl rfl rfl rfl; (· first | exact implHeadOkB_c hh | exact other_c at_ om | exact begin_c at_ om om | exact end_c at_ om om | exact ileft_c at_ hS hO | exact ifree_c at_ hS hO | exact isBorn_c _ | exact iPackHead_c hh); rintro _ _ ⟨rfl, rfl⟩) | (apply gL; first | refine L_nil ?_ | refine yX fun _ => ?_ | refine yA fun _ => ?_ | (apply gSt; first | refine sR ?_ | refine sB ?_ | refine s1 ?_ | refine sW ?_ | refine sN ?_) | refine kV ?_ | (apply L_val rfl rfl rfl; (· first | (apply gBin; first | fail | exact v_shl20 rfl rfl om) | fail | exact v_slice rfl rfl rfl om om om om)))
  refine L_nil (hS _ _ ?_)
  clear hS
  refine kAt 7 ?_
  refine kAt 8 ?_
  refine kAt 9 ?_
  refine kAt 10 ?_
  refine A_one (i := 11) (by kernel_rfl) cvt_ rfl (O_of_L fun S hS => ?_)
  first | (apply gCall; apply L_call rfl rfl rfl rfl rfl; (· first | exact implHeadOkB_c hh | exact other_c at_ om | exact begin_c at_ om om | exact end_c at_ om om | exact ileft_c at_ hS hO | exact ifree_c at_ hS hO | exact isBorn_c _ | exact iPackHead_c hh); rintro _ _ ⟨rfl, rfl⟩) | (apply gL; first | refine L_nil ?_ | refine yX fun _ => ?_ | refine yA fun _ => ?_ | (apply gSt; first | refine sR ?_ | refine sB ?_ | refine s1 ?_ | refine sW ?_ | refine sN ?_) | refine kV ?_ | (apply L_val rfl rfl rfl; (· first | (apply gBin; first | fail | exact v_shl20 rfl rfl om) | fail | exact v_slice rfl rfl rfl om om om om)))
  refine L_nil (hS _ _ ?_)
  clear hS
  refine A_nil (by kernel_rfl) cvt_ ?_
  have hsl : (B.ws.set B.top.toNat (hWord k s (B.born k))).length = B.ws.length := List.length_set
  repeat' (first | (apply gCall; apply L_clear (ws := B.ws.set B.top.toNat (hWord k s (B.born k))) (zz := s) rfl rfl rfl rfl; (· omega); (· omega); (· omega); (· omega); (· exact up_)) | (apply gSt; apply L_stc rfl rfl rfl rfl rfl rfl; (· exact at_); (· simp only [List.set_cons_zero, List.set_cons_succ]; rfl); (· exact up_); (· rfl)) | first | ((first | (apply gCall; apply L_call rfl rfl rfl rfl rfl) | (apply gQC; apply Q_call rfl rfl rfl rfl rfl)); (· first | exact implHeadOkB_c hh | exact other_c at_ om | exact begin_c at_ om om | exact end_c at_ om om | exact ileft_c at_ hS hO | exact ifree_c at_ hS hO | exact isBorn_c _ | exact iPackHead_c hh); try rintro _ _ ⟨rfl, rfl⟩) | (apply gL; first | refine L_nil ?_ | refine yX fun _ => ?_ | refine yA fun _ => ?_ | (apply gSt; first | refine sR ?_ | refine sB ?_ | refine s1 ?_ | refine sW ?_ | refine sN ?_) | refine kV ?_ | (apply L_val rfl rfl rfl; (· first | (apply gBin; first | fail | exact v_shl20 rfl rfl om) | fail | exact v_slice rfl rfl rfl om om om om))) | (apply gW; first | refine W_seq ?_ | refine W_region ?_ | refine W_ret ?_ | refine W_skip ?_ | refine W_cond1 rfl ?_ | refine W_cond0 rfl ?_ | refine cW (fun h => ?_) fun h => ?_ | refine wQ ?_) | (first | refine seqR.normal ?_ | refine seqR.ret ?_ | refine midA.ret ?_ | refine midA.exit ?_) | (apply gQ; first | refine Q_nil ?_ | refine kQ ?_ | (apply Q_val rfl rfl rfl; (· first | (apply gBin; first | fail | exact v_shl20 rfl rfl om) | fail | exact v_slice rfl rfl rfl om om om om))) | fail)
  have hml : (B.mkO k s).ws.length = B.ws.length := by show (zeroW _ _ _).length = _; rw [length_zeroW, List.length_set]
  have eA : aObjG C (B.mkO k s) (ad br) rc = .cells #[.slice (some ⟨C.bw, 0, none⟩) B.ws.length C.wc, .int .i64 B.semi, .int .i64 B.to, .int .i64 (B.top + (s + 1)), .bool B.cyc, .int .i64 B.scan, .int .i64 B.old, .int .i64 B.copied, .int .i64 (if BornP k then B.serial + 1 else B.serial), .slice (ad br) B.vs.length rc] 29 (0, 0) := by
    show Obj.cells #[.slice _ (B.mkO k s).ws.length _, _, _, _, _, _, _, _, _, _] _ _ = _
    rw [hml]; rfl
  rw [eA]
  exact retR.ret _ _ (ret2 rfl rfl rfl) cvt_ ⟨rfl, rfl⟩
end Go.Proofs.YtepddopgmhdllaaGreat.Eng
