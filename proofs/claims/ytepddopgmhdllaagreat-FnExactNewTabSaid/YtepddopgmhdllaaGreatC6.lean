/- The reference asks for an object. -/
import Derived.Test.YtepddopgmhdllaaGreatC4
import Derived.Test.YtepddopgmhdllaaGreatBkX
namespace Go.Proofs.YtepddopgmhdllaaGreat.Eng
open Go Go.RowKit Go.Proofs.YtepddopgmhdllaaGreat.Sl Go.Proofs.YtepddopgmhdllaaGreat.Ar Go.Proofs.YtepddopgmhdllaaGreat.Base
set_option linter.unusedVariables false
set_option linter.unusedSimpArgs false
set_option maxRecDepth 10000
section
variable {P : Program} {N : Nat} {w0 : World} {E : Env} {H : HL} {T : TypeId} {v v2 : Value}
theorem retCTT {fn : Func} {t u u2 n bk : Nat} {cs : Array Value} {ty : TypeId} {fr : Nat × Nat} [TAgg P T n] (h : fn.results = #[.cell t T, .tmp u, .tmp u2]) (hv : look E t = some (.pointer (some ⟨bk, 0, none⟩))) (hA : At H bk (.cells cs ty fr)) (hn : cs.size = n)
    (hu : look E u = some v) (hu2 : look E u2 = some v2) : RetV P N w0 fn E H (.tuple #[.agg cs, v, v2]) := by
  refine ⟨fun a w ha hs => ?_⟩
  obtain ⟨d, h1, h2⟩ := TAgg.agg (P := P) (T := T)
  have hl := run_loadCells_ext (P := P) (i := 0) (n := n) hs hA (by omega)
  have he : cs.extract 0 (0 + n) = cs := by rw [Nat.zero_add, ← hn]; simp
  rw [he] at hl
  simp [results, h, Array.getD_eq_getD_getElem?, ha.at_ t _ hv, ha.at_ u _ hu, ha.at_ u2 _ hu2, asAddr, loadVar, run_isAgg h1 h2, run_sizeOf (TAgg.size (P := P) (T := T)), hl]
end
variable {w0 : World} {H : HL} {C : Cn} {A : Ar} {m : List Int}
theorem packU_h {k s n : Int} (hh : HeadP k s n) : packU k s n = hWord k s n := by
  have hr := hh.range
  unfold packU hWord
  simp only [IntKind.wrap, IntKind.bits, IntKind.signed]
  simp
  omega
theorem sPackHead_c {k s n : Int} (hh : HeadP k s n) : Fn Tryz.prog w0 111 #[.agg #[.int .i64 k, .int .i64 s, .int .i64 n]] H fun v H' => v = .tuple #[.int .u64 (hWord k s n), .bool true] ∧ H' = H := by
  have := specPackHead_c (w0 := w0) (H := H) k s n
  rw [show headOk k s n = true from decide_eq_true hh, if_pos rfl, packU_h hh] at this
  exact this
theorem l2FreeS_c (hS : SI A m) (hO : OldP A) :
    Fn Tryz.prog w0 109 #[arV C A] H fun v H' => v = .int .i64 A.fr ∧ H' = H := by
  have hse := hS.se
  have hv := hS.hv
  have hto := hS.to
  have hcp := hS.cp
  have htp := hS.top8
  have hS0 := S2_0 A.ws m A.ws.length
  obtain ⟨o1, o2⟩ := id hO
  have hto2 : 1 - A.to = 0 ∨ 1 - A.to = 1 := by omega
  have e1 : A.start (1 - A.to) = (1 - A.to) * A.semi + 1 := rfl
  have hm : 0 ≤ (A.to + 1) * A.semi ∧ (A.to + 1) * A.semi ≤ 8000 := by rcases hto with e | e <;> rw [e] <;> omega
  have hm2 : 0 ≤ (1 - A.to) * A.semi ∧ (1 - A.to) * A.semi ≤ 8000 := by rcases hto with e | e <;> rw [e] <;> omega
  refine enter1 Tryz.func109 rfl rfl Tryz.ntmps109 rfl ?_
  repeat' (first | ((first | (apply gCall; apply L_call rfl rfl rfl rfl rfl) | (apply gQC; apply Q_call rfl rfl rfl rfl rfl)); (· first | exact l2Start_c hto hse | exact l2Start_c hto2 hse | exact l2End_c hto hse | exact l3Over_c | exact l2FreeS_c hS hO | exact sPackHead_c hh); try rintro _ _ ⟨rfl, rfl⟩) | (apply gL; first | refine L_nil ?_ | refine yS ?_ | refine yX fun _ => ?_ | refine yA fun _ => ?_ | (apply gSt; first | refine sR ?_ | refine sB ?_ | refine s1 ?_ | refine sW ?_ | refine sN ?_) | refine kV ?_ | ((fail_if_success (refine L_known rfl ?_)); refine yW (fun h => ?_) fun h => ?_)) | (apply gW; first | refine W_seq ?_ | refine W_region ?_ | refine W_ret ?_ | refine W_skip ?_ | refine W_block ?_ | refine W_exit ?_ | refine W_cond1 rfl ?_ | refine W_cond0 rfl ?_ | refine cW (fun h => ?_) fun h => ?_ | refine wQ ?_) | (first | refine seqR.normal ?_ | refine seqR.ret ?_ | refine seqR.exit ?_ | refine blockR.normal ?_ | refine blockR.ret ?_ | refine blockR.here ?_ | refine blockR.exit rfl ?_ | refine loopR.ret ?_ | refine loopR.exit ?_ | refine midA.ret ?_ | refine midA.exit ?_) | (apply gQ; first | refine Q_nil ?_ | refine Q_skip rfl rfl rfl ?_ | refine kQ ?_ | ((fail_if_success (refine Q_known rfl ?_)); refine zW (fun h => ?_) fun h => ?_)) | fail)
  all_goals refine retR.ret _ _ (ret1 rfl rfl) cv_ ⟨?_, rfl⟩
  all_goals unfold Ar.fr
  · rw [if_pos (by assumption), e1]; congr 1; omega
  · rw [if_neg (by rename_i h; rw [h]; decide)]; congr 1; omega
theorem stp_off (h : A.cyc = false) : (Ar.stp 8001 A.over 0 2).1 = A := by
  have e : A.over = A := by unfold Ar.over; rw [if_neg (fun c => by have := c.1; rw [h] at this; cases this)]
  rw [e]; unfold Ar.stp; rw [if_neg (fun c => by have := c.1; rw [h] at this; cases this)]
set_option maxHeartbeats 8000000 in
theorem l4Ask_c {k s : Int} (hS : SI A m) (hO : OldP A) (hh : HeadP k s (A.born k)) (hx : A.vs.length ≤ 1048576) (hsr : -1000000000 ≤ A.serial ∧ A.serial ≤ 1000000000) :
    Fn Tryz.prog w0 52 #[arV C A, .int .i64 k, .int .i64 s] ((C.br, rObj C A) :: (C.bw, wObj C A) :: H) fun v H' => v = .tuple #[arV C (A.ask k s).1, .int .i64 (A.ask k s).2.1, .int .i64 (A.ask k s).2.2] ∧ H' = (C.br, rObj C (A.ask k s).1) :: (C.bw, wObj C (A.ask k s).1) :: H := by
  have hr := hh.range
  have hse := hS.se
  have hv := hS.hv
  have hto := hS.to
  have htp := hS.top8
  have hst : A.start A.to = A.to * A.semi + 1 := rfl
  have hm : 0 ≤ A.to * A.semi ∧ A.to * A.semi ≤ 8000 := by rcases hto with e | e <;> rw [e] <;> omega
  refine enter3 Tryz.func52 rfl rfl Tryz.ntmps52 rfl ?_
  repeat' ((fail_if_success apply gAt 4); (first | ((first | (apply gCall; apply L_call rfl rfl rfl rfl rfl) | (apply gQC; apply Q_call rfl rfl rfl rfl rfl)); (· first | exact l2Start_c hto hse | exact l2Start_c hto2 hse | exact l2End_c hto hse | exact l3Over_c | exact l2FreeS_c hS hO | exact sPackHead_c hh); try rintro _ _ ⟨rfl, rfl⟩) | (apply gL; first | refine L_nil ?_ | refine yS ?_ | refine yX fun _ => ?_ | refine yA fun _ => ?_ | (apply gSt; first | refine sR ?_ | refine sB ?_ | refine s1 ?_ | refine sW ?_ | refine sN ?_) | refine kV ?_ | ((fail_if_success (refine L_known rfl ?_)); refine yW (fun h => ?_) fun h => ?_)) | (apply gW; first | refine W_seq ?_ | refine W_region ?_ | refine W_ret ?_ | refine W_skip ?_ | refine W_block ?_ | refine W_exit ?_ | refine W_cond1 rfl ?_ | refine W_cond0 rfl ?_ | refine cW (fun h => ?_) fun h => ?_ | refine wQ ?_) | (first | refine seqR.normal ?_ | refine seqR.ret ?_ | refine seqR.exit ?_ | refine blockR.normal ?_ | refine blockR.ret ?_ | refine blockR.here ?_ | refine blockR.exit rfl ?_ | refine loopR.ret ?_ | refine loopR.exit ?_ | refine midA.ret ?_ | refine midA.exit ?_) | (apply gQ; first | refine Q_nil ?_ | refine Q_skip rfl rfl rfl ?_ | refine kQ ?_ | ((fail_if_success (refine Q_known rfl ?_)); refine zW (fun h => ?_) fun h => ?_)) | fail))
  · have e : A.ask k s = (A, 0, 2) := by unfold Ar.ask; rw [if_pos (by omega)]
    rw [e]
    exact retR.ret _ _ (retCTT rfl rfl at_ (by rfl) rfl rfl) cvt_ ⟨rfl, rfl⟩
  rename_i b3 b6
  have e0 : ¬ A.semi - 1 < s + 1 := by omega
  obtain ⟨F, mF, hSF, lF, vF, eF, hcase⟩ : ∃ F mF, SI F mF ∧ F.ws.length = A.ws.length ∧ F.vs.length = A.vs.length ∧ A.ask1 = (if F.cyc = true then (Ar.stp 8001 F.over 0 2).1 else F) ∧ ((F = A ∧ ¬ (A.cyc = false ∧ A.semi - 1 < 2 * (A.top - (A.to * A.semi + 1)))) ∨ (F = A.flip ∧ A.cyc = false ∧ A.semi - 1 < 2 * (A.top - (A.to * A.semi + 1)))) := by
    cases hc : A.cyc with
    | true => exact ⟨A, m, hS, rfl, rfl, by unfold Ar.ask1; rw [if_pos hc, if_pos hc], .inl ⟨rfl, fun c => by cases c.1⟩⟩
    | false =>
      by_cases hf : A.semi - 1 < 2 * (A.top - (A.to * A.semi + 1))
      · obtain ⟨m3, hS3, l3, v3⟩ := hS.flip hc
        refine ⟨A.flip, m3, hS3, l3, v3, ?_, .inr ⟨rfl, rfl, hf⟩⟩
        unfold Ar.ask1; rw [if_neg (by rw [hc]; decide), if_pos hf]
        cases hc2 : A.flip.cyc with
        | true => rw [if_pos rfl]
        | false => rw [if_neg (by decide), stp_off hc2]
      · refine ⟨A, m, hS, rfl, rfl, ?_, .inl ⟨rfl, fun c => hf c.2⟩⟩
        unfold Ar.ask1; rw [if_neg (by rw [hc]; decide), if_neg hf, if_neg (by rw [hc]; decide)]
  refine W_midA (α := Unit) (fun _ => [(1, .int .i64 k), (2, .int .i64 s), (3, .pointer (some ⟨b3, 0, none⟩)), (6, .pointer (some ⟨b6, 0, none⟩)), (9, .int .i64 (s + 1))]) (fun _ => (b3, aObj C F) :: (b6, .cells #[.slice none 0 0, .int .i64 0, .int .i64 0, .int .i64 0, .bool false, .int .i64 0, .int .i64 0, .int .i64 0, .int .i64 0, .slice none 0 0] 29 (0, 0)) :: (C.br, rObj C F) :: (C.bw, wObj C F) :: H) (fun _ => True) ?_ ?_
  · rcases hcase with ⟨rfl, hn⟩ | ⟨rfl, hc, hf⟩
    · repeat' (first | (exfalso; exact hn ⟨by assumption, by omega⟩) | first | ((first | (apply gCall; apply L_call rfl rfl rfl rfl rfl) | (apply gQC; apply Q_call rfl rfl rfl rfl rfl)); (· first | exact l2Start_c hto hse | exact l2Start_c hto2 hse | exact l2End_c hto hse | exact l3Over_c | exact l2FreeS_c hS hO | exact sPackHead_c hh); try rintro _ _ ⟨rfl, rfl⟩) | (apply gL; first | refine L_nil ?_ | refine yS ?_ | refine yX fun _ => ?_ | refine yA fun _ => ?_ | (apply gSt; first | refine sR ?_ | refine sB ?_ | refine s1 ?_ | refine sW ?_ | refine sN ?_) | refine kV ?_ | ((fail_if_success (refine L_known rfl ?_)); refine yW (fun h => ?_) fun h => ?_)) | (apply gW; first | refine W_seq ?_ | refine W_region ?_ | refine W_ret ?_ | refine W_skip ?_ | refine W_block ?_ | refine W_exit ?_ | refine W_cond1 rfl ?_ | refine W_cond0 rfl ?_ | refine cW (fun h => ?_) fun h => ?_ | refine wQ ?_) | (first | refine seqR.normal ?_ | refine seqR.ret ?_ | refine seqR.exit ?_ | refine blockR.normal ?_ | refine blockR.ret ?_ | refine blockR.here ?_ | refine blockR.exit rfl ?_ | refine loopR.ret ?_ | refine loopR.exit ?_ | refine midA.ret ?_ | refine midA.exit ?_) | (apply gQ; first | refine Q_nil ?_ | refine Q_skip rfl rfl rfl ?_ | refine kQ ?_ | ((fail_if_success (refine Q_known rfl ?_)); refine zW (fun h => ?_) fun h => ?_)) | fail)
      all_goals apply midA.mk ()
      all_goals first | (exact sub_; done) | (exact cvt_; done) | trivial
    · repeat' (first | exact absurd h (by rw [hc]; decide) | (exfalso; omega) | (apply gCall; apply L_call rfl rfl rfl rfl rfl; (· exact l3FlipT tk_ tk_ hS hc hx); rintro _ _ ⟨rfl, rfl⟩) | first | ((first | (apply gCall; apply L_call rfl rfl rfl rfl rfl) | (apply gQC; apply Q_call rfl rfl rfl rfl rfl)); (· first | exact l2Start_c hto hse | exact l2Start_c hto2 hse | exact l2End_c hto hse | exact l3Over_c | exact l2FreeS_c hS hO | exact sPackHead_c hh); try rintro _ _ ⟨rfl, rfl⟩) | (apply gL; first | refine L_nil ?_ | refine yS ?_ | refine yX fun _ => ?_ | refine yA fun _ => ?_ | (apply gSt; first | refine sR ?_ | refine sB ?_ | refine s1 ?_ | refine sW ?_ | refine sN ?_) | refine kV ?_ | ((fail_if_success (refine L_known rfl ?_)); refine yW (fun h => ?_) fun h => ?_)) | (apply gW; first | refine W_seq ?_ | refine W_region ?_ | refine W_ret ?_ | refine W_skip ?_ | refine W_block ?_ | refine W_exit ?_ | refine W_cond1 rfl ?_ | refine W_cond0 rfl ?_ | refine cW (fun h => ?_) fun h => ?_ | refine wQ ?_) | (first | refine seqR.normal ?_ | refine seqR.ret ?_ | refine seqR.exit ?_ | refine blockR.normal ?_ | refine blockR.ret ?_ | refine blockR.here ?_ | refine blockR.exit rfl ?_ | refine loopR.ret ?_ | refine loopR.exit ?_ | refine midA.ret ?_ | refine midA.exit ?_) | (apply gQ; first | refine Q_nil ?_ | refine Q_skip rfl rfl rfl ?_ | refine kQ ?_ | ((fail_if_success (refine Q_known rfl ?_)); refine zW (fun h => ?_) fun h => ?_)) | fail)
      all_goals apply midA.mk ()
      all_goals first | (exact sub_; done) | (exact cvt_; done) | trivial
  rintro - -
  obtain ⟨m1, hS1, l1, v1⟩ := hS.ask1
  have hO1 := OldP.ask1 hS hO
  have hxF : F.vs.length ≤ 1048576 := by omega
  refine W_midA (α := Unit) (fun _ => [(1, .int .i64 k), (2, .int .i64 s), (3, .pointer (some ⟨b3, 0, none⟩)), (6, .pointer (some ⟨b6, 0, none⟩)), (9, .int .i64 (s + 1))]) (fun _ => (b3, aObj C A.ask1) :: (b6, .cells #[.slice none 0 0, .int .i64 0, .int .i64 0, .int .i64 0, .bool false, .int .i64 0, .int .i64 0, .int .i64 0, .int .i64 0, .slice none 0 0] 29 (0, 0)) :: (C.br, rObj C A.ask1) :: (C.bw, wObj C A.ask1) :: H) (fun _ => True) ?_ ?_
  · cases hc : F.cyc with
    | true =>
      rw [hc, if_pos rfl] at eF
      have ev : (Ar.stp 8001 F.over 0 2).1.vs = F.vs := by
        obtain ⟨m4, -, -, -, -, h5, -⟩ := stp_all 8001 F.over mF 0 2 hSF.over (fun c => by obtain ⟨a, b⟩ := over_ne c; rw [a]; exact b)
        rw [h5]; exact over_same.2.2.2.1
      rw [eF, rObj_vs (C := C) ev]
      repeat' (first | exact absurd h (by rw [hc]; decide) | (apply gCall; apply L_call rfl rfl rfl rfl rfl; (· exact l3StepO tk_ hSF (by omega) hxF); rintro _ _ ⟨rfl, rfl⟩) | first | ((first | (apply gCall; apply L_call rfl rfl rfl rfl rfl) | (apply gQC; apply Q_call rfl rfl rfl rfl rfl)); (· first | exact l2Start_c hto hse | exact l2Start_c hto2 hse | exact l2End_c hto hse | exact l3Over_c | exact l2FreeS_c hS hO | exact sPackHead_c hh); try rintro _ _ ⟨rfl, rfl⟩) | (apply gL; first | refine L_nil ?_ | refine yS ?_ | refine yX fun _ => ?_ | refine yA fun _ => ?_ | (apply gSt; first | refine sR ?_ | refine sB ?_ | refine s1 ?_ | refine sW ?_ | refine sN ?_) | refine kV ?_ | ((fail_if_success (refine L_known rfl ?_)); refine yW (fun h => ?_) fun h => ?_)) | (apply gW; first | refine W_seq ?_ | refine W_region ?_ | refine W_ret ?_ | refine W_skip ?_ | refine W_block ?_ | refine W_exit ?_ | refine W_cond1 rfl ?_ | refine W_cond0 rfl ?_ | refine cW (fun h => ?_) fun h => ?_ | refine wQ ?_) | (first | refine seqR.normal ?_ | refine seqR.ret ?_ | refine seqR.exit ?_ | refine blockR.normal ?_ | refine blockR.ret ?_ | refine blockR.here ?_ | refine blockR.exit rfl ?_ | refine loopR.ret ?_ | refine loopR.exit ?_ | refine midA.ret ?_ | refine midA.exit ?_) | (apply gQ; first | refine Q_nil ?_ | refine Q_skip rfl rfl rfl ?_ | refine kQ ?_ | ((fail_if_success (refine Q_known rfl ?_)); refine zW (fun h => ?_) fun h => ?_)) | fail)
      all_goals apply midA.mk ()
      all_goals first | (exact sub_; done) | (exact cvt_; done) | trivial
    | false =>
      rw [hc, if_neg (by decide)] at eF
      rw [eF]
      repeat' (first | exact absurd h (by rw [hc]; decide) | first | ((first | (apply gCall; apply L_call rfl rfl rfl rfl rfl) | (apply gQC; apply Q_call rfl rfl rfl rfl rfl)); (· first | exact l2Start_c hto hse | exact l2Start_c hto2 hse | exact l2End_c hto hse | exact l3Over_c | exact l2FreeS_c hS hO | exact sPackHead_c hh); try rintro _ _ ⟨rfl, rfl⟩) | (apply gL; first | refine L_nil ?_ | refine yS ?_ | refine yX fun _ => ?_ | refine yA fun _ => ?_ | (apply gSt; first | refine sR ?_ | refine sB ?_ | refine s1 ?_ | refine sW ?_ | refine sN ?_) | refine kV ?_ | ((fail_if_success (refine L_known rfl ?_)); refine yW (fun h => ?_) fun h => ?_)) | (apply gW; first | refine W_seq ?_ | refine W_region ?_ | refine W_ret ?_ | refine W_skip ?_ | refine W_block ?_ | refine W_exit ?_ | refine W_cond1 rfl ?_ | refine W_cond0 rfl ?_ | refine cW (fun h => ?_) fun h => ?_ | refine wQ ?_) | (first | refine seqR.normal ?_ | refine seqR.ret ?_ | refine seqR.exit ?_ | refine blockR.normal ?_ | refine blockR.ret ?_ | refine blockR.here ?_ | refine blockR.exit rfl ?_ | refine loopR.ret ?_ | refine loopR.exit ?_ | refine midA.ret ?_ | refine midA.exit ?_) | (apply gQ; first | refine Q_nil ?_ | refine Q_skip rfl rfl rfl ?_ | refine kQ ?_ | ((fail_if_success (refine Q_known rfl ?_)); refine zW (fun h => ?_) fun h => ?_)) | fail)
      all_goals apply midA.mk ()
      all_goals first | (exact sub_; done) | (exact cvt_; done) | trivial
  rintro - -
  have hse1 := hS1.se
  have hx1 : A.ask1.vs.length ≤ 1048576 := by omega
  obtain ⟨m2, hS2, l2, v2⟩ := hS.ask2 (s + 1)
  have hO2 := OldP.ask2 hS hO (s + 1)
  have es2 := ask2_ser (B := A) (n := s + 1)
  refine W_midA (α := Unit) (fun _ => [(1, .int .i64 k), (2, .int .i64 s), (3, .pointer (some ⟨b3, 0, none⟩)), (6, .pointer (some ⟨b6, 0, none⟩)), (9, .int .i64 (s + 1))]) (fun _ => (b3, aObj C (A.ask2 (s + 1))) :: (b6, .cells #[.slice none 0 0, .int .i64 0, .int .i64 0, .int .i64 0, .bool false, .int .i64 0, .int .i64 0, .int .i64 0, .int .i64 0, .slice none 0 0] 29 (0, 0)) :: (C.br, rObj C (A.ask2 (s + 1))) :: (C.bw, wObj C (A.ask2 (s + 1))) :: H) (fun _ => True) ?_ ?_
  · have hS := hS1
    have hO := hO1
    by_cases hf : A.ask1.fr < s + 1
    · have e : A.ask2 (s + 1) = A.ask1.col := by unfold Ar.ask2; rw [if_pos hf]
      rw [e]
      repeat' (first | exact absurd hf h | (apply gCall; apply L_call rfl rfl rfl rfl rfl; (· exact l3CollectT tk_ tk_ hS1 hx1); rintro _ _ ⟨rfl, rfl⟩) | first | ((first | (apply gCall; apply L_call rfl rfl rfl rfl rfl) | (apply gQC; apply Q_call rfl rfl rfl rfl rfl)); (· first | exact l2Start_c hto hse | exact l2Start_c hto2 hse | exact l2End_c hto hse | exact l3Over_c | exact l2FreeS_c hS hO | exact sPackHead_c hh); try rintro _ _ ⟨rfl, rfl⟩) | (apply gL; first | refine L_nil ?_ | refine yS ?_ | refine yX fun _ => ?_ | refine yA fun _ => ?_ | (apply gSt; first | refine sR ?_ | refine sB ?_ | refine s1 ?_ | refine sW ?_ | refine sN ?_) | refine kV ?_ | ((fail_if_success (refine L_known rfl ?_)); refine yW (fun h => ?_) fun h => ?_)) | (apply gW; first | refine W_seq ?_ | refine W_region ?_ | refine W_ret ?_ | refine W_skip ?_ | refine W_block ?_ | refine W_exit ?_ | refine W_cond1 rfl ?_ | refine W_cond0 rfl ?_ | refine cW (fun h => ?_) fun h => ?_ | refine wQ ?_) | (first | refine seqR.normal ?_ | refine seqR.ret ?_ | refine seqR.exit ?_ | refine blockR.normal ?_ | refine blockR.ret ?_ | refine blockR.here ?_ | refine blockR.exit rfl ?_ | refine loopR.ret ?_ | refine loopR.exit ?_ | refine midA.ret ?_ | refine midA.exit ?_) | (apply gQ; first | refine Q_nil ?_ | refine Q_skip rfl rfl rfl ?_ | refine kQ ?_ | ((fail_if_success (refine Q_known rfl ?_)); refine zW (fun h => ?_) fun h => ?_)) | fail)
      all_goals apply midA.mk ()
      all_goals first | (exact sub_; done) | (exact cvt_; done) | trivial
    · have e : A.ask2 (s + 1) = A.ask1 := by unfold Ar.ask2; rw [if_neg hf]
      rw [e]
      repeat' (first | exact absurd h hf | first | ((first | (apply gCall; apply L_call rfl rfl rfl rfl rfl) | (apply gQC; apply Q_call rfl rfl rfl rfl rfl)); (· first | exact l2Start_c hto hse | exact l2Start_c hto2 hse | exact l2End_c hto hse | exact l3Over_c | exact l2FreeS_c hS hO | exact sPackHead_c hh); try rintro _ _ ⟨rfl, rfl⟩) | (apply gL; first | refine L_nil ?_ | refine yS ?_ | refine yX fun _ => ?_ | refine yA fun _ => ?_ | (apply gSt; first | refine sR ?_ | refine sB ?_ | refine s1 ?_ | refine sW ?_ | refine sN ?_) | refine kV ?_ | ((fail_if_success (refine L_known rfl ?_)); refine yW (fun h => ?_) fun h => ?_)) | (apply gW; first | refine W_seq ?_ | refine W_region ?_ | refine W_ret ?_ | refine W_skip ?_ | refine W_block ?_ | refine W_exit ?_ | refine W_cond1 rfl ?_ | refine W_cond0 rfl ?_ | refine cW (fun h => ?_) fun h => ?_ | refine wQ ?_) | (first | refine seqR.normal ?_ | refine seqR.ret ?_ | refine seqR.exit ?_ | refine blockR.normal ?_ | refine blockR.ret ?_ | refine blockR.here ?_ | refine blockR.exit rfl ?_ | refine loopR.ret ?_ | refine loopR.exit ?_ | refine midA.ret ?_ | refine midA.exit ?_) | (apply gQ; first | refine Q_nil ?_ | refine Q_skip rfl rfl rfl ?_ | refine kQ ?_ | ((fail_if_success (refine Q_known rfl ?_)); refine zW (fun h => ?_) fun h => ?_)) | fail)
      all_goals apply midA.mk ()
      all_goals first | (exact sub_; done) | (exact cvt_; done) | trivial
  rintro - -
  generalize hB : A.ask2 (s + 1) = B at *
  have hS := hS2
  have hO := hO2
  by_cases hf : B.fr < s + 1
  · have e : A.ask k s = (B, 0, 2) := by unfold Ar.ask; rw [if_neg e0, hB, if_pos hf]
    rw [e]
    repeat' (first | exact absurd hf h | first | ((first | (apply gCall; apply L_call rfl rfl rfl rfl rfl) | (apply gQC; apply Q_call rfl rfl rfl rfl rfl)); (· first | exact l2Start_c hto hse | exact l2Start_c hto2 hse | exact l2End_c hto hse | exact l3Over_c | exact l2FreeS_c hS hO | exact sPackHead_c hh); try rintro _ _ ⟨rfl, rfl⟩) | (apply gL; first | refine L_nil ?_ | refine yS ?_ | refine yX fun _ => ?_ | refine yA fun _ => ?_ | (apply gSt; first | refine sR ?_ | refine sB ?_ | refine s1 ?_ | refine sW ?_ | refine sN ?_) | refine kV ?_ | ((fail_if_success (refine L_known rfl ?_)); refine yW (fun h => ?_) fun h => ?_)) | (apply gW; first | refine W_seq ?_ | refine W_region ?_ | refine W_ret ?_ | refine W_skip ?_ | refine W_block ?_ | refine W_exit ?_ | refine W_cond1 rfl ?_ | refine W_cond0 rfl ?_ | refine cW (fun h => ?_) fun h => ?_ | refine wQ ?_) | (first | refine seqR.normal ?_ | refine seqR.ret ?_ | refine seqR.exit ?_ | refine blockR.normal ?_ | refine blockR.ret ?_ | refine blockR.here ?_ | refine blockR.exit rfl ?_ | refine loopR.ret ?_ | refine loopR.exit ?_ | refine midA.ret ?_ | refine midA.exit ?_) | (apply gQ; first | refine Q_nil ?_ | refine Q_skip rfl rfl rfl ?_ | refine kQ ?_ | ((fail_if_success (refine Q_known rfl ?_)); refine zW (fun h => ?_) fun h => ?_)) | fail)
    exact retR.ret _ _ (retCTT rfl rfl at_ (by rfl) rfl rfl) cvt_ ⟨rfl, rfl⟩
  have e : A.ask k s = (B.mkO k s, B.top, 0) := by unfold Ar.ask; rw [if_neg e0, hB, if_neg hf]
  rw [e]
  obtain ⟨r1, r2, r3, r4⟩ := hS2.room hf
  have hbn : A.born k = B.born k := by unfold Ar.born; rw [es2]
  rw [hbn] at hh
  have hwr := hWord_r hh
  have hln2 := hS2.ln
  have hse2 := hS2.se
  repeat' (first | exact absurd h hf | ((fail_if_success apply gAt 13); (first | ((first | (apply gCall; apply L_call rfl rfl rfl rfl rfl) | (apply gQC; apply Q_call rfl rfl rfl rfl rfl)); (· first | exact l2Start_c hto hse | exact l2Start_c hto2 hse | exact l2End_c hto hse | exact l3Over_c | exact l2FreeS_c hS hO | exact sPackHead_c hh); try rintro _ _ ⟨rfl, rfl⟩) | (apply gL; first | refine L_nil ?_ | refine yS ?_ | refine yX fun _ => ?_ | refine yA fun _ => ?_ | (apply gSt; first | refine sR ?_ | refine sB ?_ | refine s1 ?_ | refine sW ?_ | refine sN ?_) | refine kV ?_ | ((fail_if_success (refine L_known rfl ?_)); refine yW (fun h => ?_) fun h => ?_)) | (apply gW; first | refine W_seq ?_ | refine W_region ?_ | refine W_ret ?_ | refine W_skip ?_ | refine W_block ?_ | refine W_exit ?_ | refine W_cond1 rfl ?_ | refine W_cond0 rfl ?_ | refine cW (fun h => ?_) fun h => ?_ | refine wQ ?_) | (first | refine seqR.normal ?_ | refine seqR.ret ?_ | refine seqR.exit ?_ | refine blockR.normal ?_ | refine blockR.ret ?_ | refine blockR.here ?_ | refine blockR.exit rfl ?_ | refine loopR.ret ?_ | refine loopR.exit ?_ | refine midA.ret ?_ | refine midA.exit ?_) | (apply gQ; first | refine Q_nil ?_ | refine Q_skip rfl rfl rfl ?_ | refine kQ ?_ | ((fail_if_success (refine Q_known rfl ?_)); refine zW (fun h => ?_) fun h => ?_)) | fail)))
  rename_i bh
  refine W_midA (α := Unit) (fun _ => [(1, .int .i64 k), (2, .int .i64 s), (3, .pointer (some ⟨b3, 0, none⟩)), (6, .pointer (some ⟨b6, 0, none⟩)), (9, .int .i64 (s + 1)), (10, .pointer (some ⟨bh, 0, none⟩))]) (fun _ => (b3, aObjS C B (if BornP k then B.serial + 1 else B.serial) (some ⟨C.br, 0, none⟩) C.rc) :: (bh, .cells #[.int .i64 k, .int .i64 s, .int .i64 (B.born k)] 105 (0, 0)) :: (b6, .cells #[.slice none 0 0, .int .i64 0, .int .i64 0, .int .i64 0, .bool false, .int .i64 0, .int .i64 0, .int .i64 0, .int .i64 0, .slice none 0 0] 29 (0, 0)) :: (C.br, rObj C B) :: (C.bw, wObj C B) :: H) (fun _ => True) ?_ ?_
  · by_cases hk : BornP k
    · have e1 : B.born k = B.serial := by unfold Ar.born; rw [if_pos hk]
      rw [e1, if_pos hk]
      have hk' : k = 2 ∨ k = 4 ∨ k = 6 := hk
      repeat' (first | (exfalso; omega) | (apply gSt; apply L_stc rfl rfl rfl rfl rfl rfl; (· exact at_); (· simp only [List.set_cons_zero, List.set_cons_succ]; rfl); (· exact up_); (· rfl)) | first | ((first | (apply gCall; apply L_call rfl rfl rfl rfl rfl) | (apply gQC; apply Q_call rfl rfl rfl rfl rfl)); (· first | exact l2Start_c hto hse | exact l2Start_c hto2 hse | exact l2End_c hto hse | exact l3Over_c | exact l2FreeS_c hS hO | exact sPackHead_c hh); try rintro _ _ ⟨rfl, rfl⟩) | (apply gL; first | refine L_nil ?_ | refine yS ?_ | refine yX fun _ => ?_ | refine yA fun _ => ?_ | (apply gSt; first | refine sR ?_ | refine sB ?_ | refine s1 ?_ | refine sW ?_ | refine sN ?_) | refine kV ?_ | ((fail_if_success (refine L_known rfl ?_)); refine yW (fun h => ?_) fun h => ?_)) | (apply gW; first | refine W_seq ?_ | refine W_region ?_ | refine W_ret ?_ | refine W_skip ?_ | refine W_block ?_ | refine W_exit ?_ | refine W_cond1 rfl ?_ | refine W_cond0 rfl ?_ | refine cW (fun h => ?_) fun h => ?_ | refine wQ ?_) | (first | refine seqR.normal ?_ | refine seqR.ret ?_ | refine seqR.exit ?_ | refine blockR.normal ?_ | refine blockR.ret ?_ | refine blockR.here ?_ | refine blockR.exit rfl ?_ | refine loopR.ret ?_ | refine loopR.exit ?_ | refine midA.ret ?_ | refine midA.exit ?_) | (apply gQ; first | refine Q_nil ?_ | refine Q_skip rfl rfl rfl ?_ | refine kQ ?_ | ((fail_if_success (refine Q_known rfl ?_)); refine zW (fun h => ?_) fun h => ?_)) | fail)
      all_goals apply midA.mk ()
      all_goals first | (exact sub_; done) | (exact cvt_; done) | trivial
    · have e1 : B.born k = 0 := by unfold Ar.born; rw [if_neg hk]
      rw [e1, if_neg hk]
      have hk' : ¬ (k = 2 ∨ k = 4 ∨ k = 6) := hk
      repeat' (first | (exfalso; omega) | (apply gSt; apply L_stc rfl rfl rfl rfl rfl rfl; (· exact at_); (· simp only [List.set_cons_zero, List.set_cons_succ]; rfl); (· exact up_); (· rfl)) | first | ((first | (apply gCall; apply L_call rfl rfl rfl rfl rfl) | (apply gQC; apply Q_call rfl rfl rfl rfl rfl)); (· first | exact l2Start_c hto hse | exact l2Start_c hto2 hse | exact l2End_c hto hse | exact l3Over_c | exact l2FreeS_c hS hO | exact sPackHead_c hh); try rintro _ _ ⟨rfl, rfl⟩) | (apply gL; first | refine L_nil ?_ | refine yS ?_ | refine yX fun _ => ?_ | refine yA fun _ => ?_ | (apply gSt; first | refine sR ?_ | refine sB ?_ | refine s1 ?_ | refine sW ?_ | refine sN ?_) | refine kV ?_ | ((fail_if_success (refine L_known rfl ?_)); refine yW (fun h => ?_) fun h => ?_)) | (apply gW; first | refine W_seq ?_ | refine W_region ?_ | refine W_ret ?_ | refine W_skip ?_ | refine W_block ?_ | refine W_exit ?_ | refine W_cond1 rfl ?_ | refine W_cond0 rfl ?_ | refine cW (fun h => ?_) fun h => ?_ | refine wQ ?_) | (first | refine seqR.normal ?_ | refine seqR.ret ?_ | refine seqR.exit ?_ | refine blockR.normal ?_ | refine blockR.ret ?_ | refine blockR.here ?_ | refine blockR.exit rfl ?_ | refine loopR.ret ?_ | refine loopR.exit ?_ | refine midA.ret ?_ | refine midA.exit ?_) | (apply gQ; first | refine Q_nil ?_ | refine Q_skip rfl rfl rfl ?_ | refine kQ ?_ | ((fail_if_success (refine Q_known rfl ?_)); refine zW (fun h => ?_) fun h => ?_)) | fail)
      all_goals apply midA.mk ()
      all_goals first | (exact sub_; done) | (exact cvt_; done) | trivial
  rintro - -
  repeat' ((fail_if_success apply gAtR 17); (first | ((first | (apply gCall; apply L_call rfl rfl rfl rfl rfl) | (apply gQC; apply Q_call rfl rfl rfl rfl rfl)); (· first | exact l2Start_c hto hse | exact l2Start_c hto2 hse | exact l2End_c hto hse | exact l3Over_c | exact l2FreeS_c hS hO | exact sPackHead_c hh); try rintro _ _ ⟨rfl, rfl⟩) | (apply gL; first | refine L_nil ?_ | refine yS ?_ | refine yX fun _ => ?_ | refine yA fun _ => ?_ | (apply gSt; first | refine sR ?_ | refine sB ?_ | refine s1 ?_ | refine sW ?_ | refine sN ?_) | refine kV ?_ | ((fail_if_success (refine L_known rfl ?_)); refine yW (fun h => ?_) fun h => ?_)) | (apply gW; first | refine W_seq ?_ | refine W_region ?_ | refine W_ret ?_ | refine W_skip ?_ | refine W_block ?_ | refine W_exit ?_ | refine W_cond1 rfl ?_ | refine W_cond0 rfl ?_ | refine cW (fun h => ?_) fun h => ?_ | refine wQ ?_) | (first | refine seqR.normal ?_ | refine seqR.ret ?_ | refine seqR.exit ?_ | refine blockR.normal ?_ | refine blockR.ret ?_ | refine blockR.here ?_ | refine blockR.exit rfl ?_ | refine loopR.ret ?_ | refine loopR.exit ?_ | refine midA.ret ?_ | refine midA.exit ?_) | (apply gQ; first | refine Q_nil ?_ | refine Q_skip rfl rfl rfl ?_ | refine kQ ?_ | ((fail_if_success (refine Q_known rfl ?_)); refine zW (fun h => ?_) fun h => ?_)) | fail))
  refine W_seq ?_
  apply W_regionA (D := (b3, aObjS C B (if BornP k then B.serial + 1 else B.serial) (some ⟨C.br, 0, none⟩) C.rc) :: (bh, .cells #[.int .i64 k, .int .i64 s, .int .i64 (B.born k)] 105 (0, 0)) :: (C.br, rObj C B) :: H) (by kernel_rfl)
  refine kAt 0 ?_
  refine kAt 1 ?_
  refine kAt 2 ?_
  refine kAt 3 ?_
  refine A_one (i := 4) (by kernel_rfl) cvt_ rfl (O_of_L fun S hS => ?_)
  first | (apply gCall; apply L_call rfl rfl rfl rfl rfl; (· first | exact l2Start_c hto hse | exact l2Start_c hto2 hse | exact l2End_c hto hse | exact l3Over_c | exact l2FreeS_c hS hO | exact sPackHead_c hh); rintro _ _ ⟨rfl, rfl⟩) | (apply gL; first | refine L_nil ?_ | refine yS ?_ | refine yX fun _ => ?_ | refine yA fun _ => ?_ | (apply gSt; first | refine sR ?_ | refine sB ?_ | refine s1 ?_ | refine sW ?_ | refine sN ?_) | refine kV ?_ | ((fail_if_success (refine L_known rfl ?_)); refine yW (fun h => ?_) fun h => ?_))
  refine L_nil (hS _ _ ?_)
  clear hS
  refine kAt 5 ?_
  refine kAt 6 ?_
  refine kAt 7 ?_
  refine kAt 8 ?_
  refine A_one (i := 9) (by kernel_rfl) cvt_ rfl (O_of_L fun S hS => ?_)
  first | (apply gCall; apply L_call rfl rfl rfl rfl rfl; (· first | exact l2Start_c hto hse | exact l2Start_c hto2 hse | exact l2End_c hto hse | exact l3Over_c | exact l2FreeS_c hS hO | exact sPackHead_c hh); rintro _ _ ⟨rfl, rfl⟩) | (apply gL; first | refine L_nil ?_ | refine yS ?_ | refine yX fun _ => ?_ | refine yA fun _ => ?_ | (apply gSt; first | refine sR ?_ | refine sB ?_ | refine s1 ?_ | refine sW ?_ | refine sN ?_) | refine kV ?_ | ((fail_if_success (refine L_known rfl ?_)); refine yW (fun h => ?_) fun h => ?_))
  refine L_nil (hS _ _ ?_)
  clear hS
  refine A_nil (by kernel_rfl) cvt_ ?_
  have hsl : (B.ws.set B.top.toNat (hWord k s (B.born k))).length = B.ws.length := List.length_set
  repeat' (first | ((first | (apply gCall; apply L_call rfl rfl rfl rfl rfl) | (apply gQC; apply Q_call rfl rfl rfl rfl rfl)); (· first | exact l2Start_c hto hse | exact l2Start_c hto2 hse | exact l2End_c hto hse | exact l3Over_c | exact l2FreeS_c hS hO | exact sPackHead_c hh); try rintro _ _ ⟨rfl, rfl⟩) | (apply gL; first | refine L_nil ?_ | refine yS ?_ | refine yX fun _ => ?_ | refine yA fun _ => ?_ | (apply gSt; first | refine sR ?_ | refine sB ?_ | refine s1 ?_ | refine sW ?_ | refine sN ?_) | refine kV ?_ | ((fail_if_success (refine L_known rfl ?_)); refine yW (fun h => ?_) fun h => ?_)) | (apply gW; first | refine W_seq ?_ | refine W_region ?_ | refine W_ret ?_ | refine W_skip ?_ | refine W_block ?_ | refine W_exit ?_ | refine W_cond1 rfl ?_ | refine W_cond0 rfl ?_ | refine cW (fun h => ?_) fun h => ?_ | refine wQ ?_) | (first | refine seqR.normal ?_ | refine seqR.ret ?_ | refine seqR.exit ?_ | refine blockR.normal ?_ | refine blockR.ret ?_ | refine blockR.here ?_ | refine blockR.exit rfl ?_ | refine loopR.ret ?_ | refine loopR.exit ?_ | refine midA.ret ?_ | refine midA.exit ?_) | (apply gQ; first | refine Q_nil ?_ | refine Q_skip rfl rfl rfl ?_ | refine kQ ?_ | ((fail_if_success (refine Q_known rfl ?_)); refine zW (fun h => ?_) fun h => ?_)) | fail)
  apply W_loopX (α := Int) (fun i => [(2, .int .i64 s), (3, .pointer (some ⟨b3, 0, none⟩)), (6, .pointer (some ⟨b6, 0, none⟩)), (9, .int .i64 (s + 1)), (11, .int .i64 B.top), (12, .int .i64 i)]) (fun i => (b3, aObjS C B (if BornP k then B.serial + 1 else B.serial) (some ⟨C.br, 0, none⟩) C.rc) :: (b6, .cells #[.slice none 0 0, .int .i64 0, .int .i64 0, .int .i64 0, .bool false, .int .i64 0, .int .i64 0, .int .i64 0, .int .i64 0, .slice none 0 0] 29 (0, 0)) :: (C.br, rObj C B) :: (C.bw, .cells (rowA .u64 (zeroW (B.ws.set B.top.toNat (hWord k s (B.born k))) (B.top + 1) (i - 1)) C.ws) 92 (0, 0)) :: H)
    (fun i => 1 ≤ i ∧ i ≤ s + 1) (fun i => (s + 1 - i).toNat) 1
  · exact sub_
  · rw [show (1 : Int) - 1 = 0 from rfl, zeroW_0 (by omega)]
    exact cvt_
  · omega
  rintro i ⟨hi, hi2⟩
  have hzl : (zeroW (B.ws.set B.top.toNat (hWord k s (B.born k))) (B.top + 1) (i - 1)).length = B.ws.length := by rw [length_zeroW, hsl]
  by_cases hlt : i ≤ s
  · repeat' (first | exact absurd hlt h | first | ((first | (apply gCall; apply L_call rfl rfl rfl rfl rfl) | (apply gQC; apply Q_call rfl rfl rfl rfl rfl)); (· first | exact l2Start_c hto hse | exact l2Start_c hto2 hse | exact l2End_c hto hse | exact l3Over_c | exact l2FreeS_c hS hO | exact sPackHead_c hh); try rintro _ _ ⟨rfl, rfl⟩) | (apply gL; first | refine L_nil ?_ | refine yS ?_ | refine yX fun _ => ?_ | refine yA fun _ => ?_ | (apply gSt; first | refine sR ?_ | refine sB ?_ | refine s1 ?_ | refine sW ?_ | refine sN ?_) | refine kV ?_ | ((fail_if_success (refine L_known rfl ?_)); refine yW (fun h => ?_) fun h => ?_)) | (apply gW; first | refine W_seq ?_ | refine W_region ?_ | refine W_ret ?_ | refine W_skip ?_ | refine W_block ?_ | refine W_exit ?_ | refine W_cond1 rfl ?_ | refine W_cond0 rfl ?_ | refine cW (fun h => ?_) fun h => ?_ | refine wQ ?_) | (first | refine seqR.normal ?_ | refine seqR.ret ?_ | refine seqR.exit ?_ | refine blockR.normal ?_ | refine blockR.ret ?_ | refine blockR.here ?_ | refine blockR.exit rfl ?_ | refine loopR.ret ?_ | refine loopR.exit ?_ | refine midA.ret ?_ | refine midA.exit ?_) | (apply gQ; first | refine Q_nil ?_ | refine Q_skip rfl rfl rfl ?_ | refine kQ ?_ | ((fail_if_success (refine Q_known rfl ?_)); refine zW (fun h => ?_) fun h => ?_)) | fail)
    have e2 : (zeroW (B.ws.set B.top.toNat (hWord k s (B.born k))) (B.top + 1) (i - 1)).set (B.top + i).toNat 0 = zeroW (B.ws.set B.top.toNat (hWord k s (B.born k))) (B.top + 1) (i + 1 - 1) := by
      have := zeroW_succ (ws := B.ws.set B.top.toNat (hWord k s (B.born k))) (p := B.top + 1) (k := i - 1) (by omega) (by omega) (by omega)
      rw [show B.top + 1 + (i - 1) = B.top + i by omega, show i - 1 + 1 = i + 1 - 1 by omega] at this
      exact this
    apply loopR.mk (i + 1)
    · exact sub_
    · rw [← e2]; exact cvt_
    · omega
    · omega
  have ei : i - 1 = s := by omega
  rw [ei]
  repeat' (first | exact absurd h hlt | (apply gSt; apply L_stc rfl rfl rfl rfl rfl rfl; (· exact at_); (· simp only [List.set_cons_zero, List.set_cons_succ]; rfl); (· exact up_); (· rfl)) | first | ((first | (apply gCall; apply L_call rfl rfl rfl rfl rfl) | (apply gQC; apply Q_call rfl rfl rfl rfl rfl)); (· first | exact l2Start_c hto hse | exact l2Start_c hto2 hse | exact l2End_c hto hse | exact l3Over_c | exact l2FreeS_c hS hO | exact sPackHead_c hh); try rintro _ _ ⟨rfl, rfl⟩) | (apply gL; first | refine L_nil ?_ | refine yS ?_ | refine yX fun _ => ?_ | refine yA fun _ => ?_ | (apply gSt; first | refine sR ?_ | refine sB ?_ | refine s1 ?_ | refine sW ?_ | refine sN ?_) | refine kV ?_ | ((fail_if_success (refine L_known rfl ?_)); refine yW (fun h => ?_) fun h => ?_)) | (apply gW; first | refine W_seq ?_ | refine W_region ?_ | refine W_ret ?_ | refine W_skip ?_ | refine W_block ?_ | refine W_exit ?_ | refine W_cond1 rfl ?_ | refine W_cond0 rfl ?_ | refine cW (fun h => ?_) fun h => ?_ | refine wQ ?_) | (first | refine seqR.normal ?_ | refine seqR.ret ?_ | refine seqR.exit ?_ | refine blockR.normal ?_ | refine blockR.ret ?_ | refine blockR.here ?_ | refine blockR.exit rfl ?_ | refine loopR.ret ?_ | refine loopR.exit ?_ | refine midA.ret ?_ | refine midA.exit ?_) | (apply gQ; first | refine Q_nil ?_ | refine Q_skip rfl rfl rfl ?_ | refine kQ ?_ | ((fail_if_success (refine Q_known rfl ?_)); refine zW (fun h => ?_) fun h => ?_)) | fail)
  have hml : (B.mkO k s).ws.length = B.ws.length := by show (zeroW _ _ _).length = _; rw [length_zeroW, List.length_set]
  have eA : arV C (B.mkO k s) = .agg #[.slice (some ⟨C.bw, 0, none⟩) B.ws.length C.wc, .int .i64 B.semi, .int .i64 B.to, .int .i64 (B.top + (s + 1)), .bool B.cyc, .int .i64 B.scan, .int .i64 B.old, .int .i64 B.copied, .int .i64 (if BornP k then B.serial + 1 else B.serial), .slice (some ⟨C.br, 0, none⟩) B.vs.length C.rc] := by
    show Value.agg #[.slice _ (B.mkO k s).ws.length _, _, _, _, _, _, _, _, _, _] = _
    rw [hml]; rfl
  rw [eA]
  exact retR.ret _ _ (retCTT rfl rfl at_ (by rfl) rfl rfl) cvt_ ⟨rfl, rfl⟩
end Go.Proofs.YtepddopgmhdllaaGreat.Eng
