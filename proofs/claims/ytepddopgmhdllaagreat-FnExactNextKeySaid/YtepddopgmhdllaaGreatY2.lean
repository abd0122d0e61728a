/- The reference's GetKey. -/
import Derived.Test.YtepddopgmhdllaaGreatC5
import Derived.Test.YtepddopgmhdllaaGreatBkH
import Derived.Test.YtepddopgmhdllaaGreatBkS7
import Derived.Test.YtepddopgmhdllaaGreatT6x
import Derived.Test.YtepddopgmhdllaaGreatY1
namespace Go.Proofs.YtepddopgmhdllaaGreat.Eng
open Go Go.RowKit Go.Proofs.YtepddopgmhdllaaGreat.Sl Go.Proofs.YtepddopgmhdllaaGreat.Ar Go.Proofs.YtepddopgmhdllaaGreat.Base
set_option linter.unusedVariables false
set_option linter.unusedSimpArgs false
set_option maxRecDepth 10000
section
variable {P : Program} {N : Nat} {w0 : World} {E : Env} {H : HL} {T : TypeId} {v v2 : Value}
theorem retCT2 {fn : Func} {t u u2 n bk : Nat} {cs : Array Value} {ty : TypeId} {fr : Nat × Nat} [TAgg P T n] (h : fn.results = #[.cell t T, .tmp u, .tmp u2]) (hv : look E t = some (.pointer (some ⟨bk, 0, none⟩))) (hA : At H bk (.cells cs ty fr)) (hn : cs.size = n)
    (hu : look E u = some v) (hu2 : look E u2 = some v2) : RetV P N w0 fn E H (.tuple #[.agg cs, v, v2]) := by
  refine ⟨fun a w ha hs => ?_⟩
  obtain ⟨d, h1, h2⟩ := TAgg.agg (P := P) (T := T)
  have hl := run_loadCells_ext (P := P) (i := 0) (n := n) hs hA (by omega)
  have he : cs.extract 0 (0 + n) = cs := by rw [Nat.zero_add, ← hn]; simp
  rw [he] at hl
  simp [results, h, Array.getD_eq_getD_getElem?, ha.at_ t _ hv, ha.at_ u _ hu, ha.at_ u2 _ hu2, asAddr, loadVar, run_isAgg h1 h2, run_sizeOf (TAgg.size (P := P) (T := T)), hl]
end
variable {w0 : World} {H : HL} {C : Cn} {A B : Ar} {m : List Int}
/-- a table's block, loaded -/
theorem l6BlockS_c {p b : Int} (hA : At H C.bw (wObj C B)) (hS : SI B m) (hp : 0 ≤ p) (hp2 : p + 3 < (B.ws.length : Int)) (hc : rvT B.ws (p + 2) = 0 ∨ (rvT B.ws (p + 2) = 8 ∧ rvN B.ws (p + 2) = b ∧ 0 ≤ b ∧ g m b = 1)) :
    Fn Tryz.prog w0 134 #[arV C B, .int .i64 p] H fun v H' => v = .tuple #[.int .i64 (if rvT B.ws (p + 2) = 0 then 0 else b), .int .i64 (if rvT B.ws (p + 2) = 0 then 0 else rs (g B.ws b) / 4)] ∧ H' = H := by
  have hw := hS.wf
  have hln := hS.ln
  have hse := hS.se
  refine enter2 Tryz.func134 rfl rfl Tryz.ntmps134 rfl ?_
  repeat' (fail_if_success apply gAt 4); (first | ((first | (apply gCall; apply L_call rfl rfl rfl rfl rfl) | (apply gQC; apply Q_call rfl rfl rfl rfl rfl)); (· first | exact l1Read_c at_ hw om om om | exact l2Where_c at_ hw om om | exact l2Look_c at_ hw om om); try rintro _ _ ⟨rfl, rfl⟩) | (apply gL; first | refine L_nil ?_ | refine yX fun _ => ?_ | refine yA fun _ => ?_ | (apply gSt; first | refine sR ?_ | refine sB ?_ | refine s1 ?_ | refine sW ?_ | refine sN ?_) | refine kV ?_ | (apply L_val rfl rfl rfl; (· first | (apply gBin; first | fail ) | fail | (apply v_ld rfl; (· exact at_); (· first | exact ld_rowV0 om om | exact ld_rowV1 om om); done)))) | (apply gW; first | refine W_seq ?_ | refine W_region ?_ | refine W_ret ?_ | refine W_skip ?_ | refine W_cond1 rfl ?_ | refine W_cond0 rfl ?_ | refine cW (fun h => ?_) fun h => ?_ | refine wQ ?_) | (first | refine seqR.normal ?_ | refine seqR.ret ?_ | refine midA.ret ?_ | refine midA.exit ?_) | (apply gQ; first | refine Q_nil ?_ | refine kQ ?_ | (apply Q_val rfl rfl rfl; (· first | (apply gBin; first | fail ) | fail | (apply v_ld rfl; (· exact at_); (· first | exact ld_rowV0 om om | exact ld_rowV1 om om); done)))) | fail)
  · refine retR.ret _ _ (ret2 rfl rfl rfl) cv_ ⟨?_, rfl⟩
    rw [if_pos h, if_pos h]
  · obtain ⟨h8, hn, b0, b1⟩ := hc.resolve_left h
    have bl := GI.lt hS b0 (by rw [b1]; decide)
    have ew : B.where_ (rvN B.ws (p + 2)) = b := by rw [hn]; exact hS.where1 b0 b1
    have hr := rsR (g B.ws b)
    rw [← hn] at b0 bl
    repeat' (fail_if_success apply gAt 5); (first | ((first | (apply gCall; apply L_call rfl rfl rfl rfl rfl) | (apply gQC; apply Q_call rfl rfl rfl rfl rfl)); (· first | exact l1Read_c at_ hw om om om | exact l2Where_c at_ hw om om | exact l2Look_c at_ hw om om); try rintro _ _ ⟨rfl, rfl⟩) | (apply gL; first | refine L_nil ?_ | refine yX fun _ => ?_ | refine yA fun _ => ?_ | (apply gSt; first | refine sR ?_ | refine sB ?_ | refine s1 ?_ | refine sW ?_ | refine sN ?_) | refine kV ?_ | (apply L_val rfl rfl rfl; (· first | (apply gBin; first | fail ) | fail | (apply v_ld rfl; (· exact at_); (· first | exact ld_rowV0 om om | exact ld_rowV1 om om); done)))) | (apply gW; first | refine W_seq ?_ | refine W_region ?_ | refine W_ret ?_ | refine W_skip ?_ | refine W_cond1 rfl ?_ | refine W_cond0 rfl ?_ | refine cW (fun h => ?_) fun h => ?_ | refine wQ ?_) | (first | refine seqR.normal ?_ | refine seqR.ret ?_ | refine midA.ret ?_ | refine midA.exit ?_) | (apply gQ; first | refine Q_nil ?_ | refine kQ ?_ | (apply Q_val rfl rfl rfl; (· first | (apply gBin; first | fail ) | fail | (apply v_ld rfl; (· exact at_); (· first | exact ld_rowV0 om om | exact ld_rowV1 om om); done)))) | fail)
    rw [ew]
    rw [hn] at b0 bl
    repeat' (first | ((first | (apply gCall; apply L_call rfl rfl rfl rfl rfl) | (apply gQC; apply Q_call rfl rfl rfl rfl rfl)); (· first | exact l1Read_c at_ hw om om om | exact l2Where_c at_ hw om om | exact l2Look_c at_ hw om om); try rintro _ _ ⟨rfl, rfl⟩) | (apply gL; first | refine L_nil ?_ | refine yX fun _ => ?_ | refine yA fun _ => ?_ | (apply gSt; first | refine sR ?_ | refine sB ?_ | refine s1 ?_ | refine sW ?_ | refine sN ?_) | refine kV ?_ | (apply L_val rfl rfl rfl; (· first | (apply gBin; first | fail ) | fail | (apply v_ld rfl; (· exact at_); (· first | exact ld_rowV0 om om | exact ld_rowV1 om om); done)))) | (apply gW; first | refine W_seq ?_ | refine W_region ?_ | refine W_ret ?_ | refine W_skip ?_ | refine W_cond1 rfl ?_ | refine W_cond0 rfl ?_ | refine cW (fun h => ?_) fun h => ?_ | refine wQ ?_) | (first | refine seqR.normal ?_ | refine seqR.ret ?_ | refine midA.ret ?_ | refine midA.exit ?_) | (apply gQ; first | refine Q_nil ?_ | refine kQ ?_ | (apply Q_val rfl rfl rfl; (· first | (apply gBin; first | fail ) | fail | (apply v_ld rfl; (· exact at_); (· first | exact ld_rowV0 om om | exact ld_rowV1 om om); done)))) | fail)
    refine retR.ret _ _ (ret2 rfl rfl rfl) cv_ ⟨?_, rfl⟩
    rw [if_neg h, if_neg h]
/-- a table is opened by the reference -/
theorem l6Open_c {r p : Int} {H1 H2 : HL} (hT : Tk H C.br (rObj C A) H1) (hT2 : Tk H1 C.bw (wObj C A) H2) (hS : SI A m) (hr0 : 0 ≤ r) (hr1 : r < (A.vs.length : Int)) (hx : A.vs.length ≤ 1048576) (hp : (A.vs.getD r.toNat (0, 0)).2 = p) (hp0 : 0 ≤ p) (h1 : g m p = 1) (h2 : hk (g A.ws p) = 2) :
    Fn Tryz.prog w0 84 #[arV C A, .int .i64 r] H fun v H' => v = .tuple #[arV C (A.ld (p + 2)), .int .i64 (if rvT A.ws (p + 2) = 0 then 0 else A.ldN (p + 2)), .int .i64 (if rvT A.ws (p + 2) = 0 then 0 else rs (g (A.ld (p + 2)).ws (A.ldN (p + 2))) / 4)] ∧ H' = (C.br, rObj C A) :: (C.bw, wObj C (A.ld (p + 2))) :: H2 := by
  refine Fn.conv (Cv.take hT (Cv.take hT2 Cv.refl)) ?_
  obtain ⟨mB, hL, s1, s2, s3, s4, s5⟩ := hS.open_ hp0 h1 h2
  have hw := hS.wf
  have hln := hS.ln
  have hse := hS.se
  have hlB := hL.ln
  have hc : rvT (A.ld (p + 2)).ws (p + 2) = 0 ∨ (rvT (A.ld (p + 2)).ws (p + 2) = 8 ∧ rvN (A.ld (p + 2)).ws (p + 2) = A.ldN (p + 2) ∧ 0 ≤ A.ldN (p + 2) ∧ g mB (A.ldN (p + 2)) = 1) := by
    rw [hL.rr.2]
    rcases s5 with e | ⟨e, bk, e2⟩
    · exact .inl e
    · exact .inr ⟨e, e2, bk.b0, bk.b1⟩
  refine enter2 Tryz.func84 rfl rfl Tryz.ntmps84 rfl ?_
  repeat' (fail_if_success apply gAtR 1); (first | ((first | (apply gCall; apply L_call rfl rfl rfl rfl rfl) | (apply gQC; apply Q_call rfl rfl rfl rfl rfl)); (· first | exact l1Read_c at_ hw om om om | exact l2Where_c at_ hw om om | exact l2Look_c at_ hw om om); try rintro _ _ ⟨rfl, rfl⟩) | (apply gL; first | refine L_nil ?_ | refine yX fun _ => ?_ | refine yA fun _ => ?_ | (apply gSt; first | refine sR ?_ | refine sB ?_ | refine s1 ?_ | refine sW ?_ | refine sN ?_) | refine kV ?_ | (apply L_val rfl rfl rfl; (· first | (apply gBin; first | fail ) | fail | (apply v_ld rfl; (· exact at_); (· first | exact ld_rowV0 om om | exact ld_rowV1 om om); done)))) | (apply gW; first | refine W_seq ?_ | refine W_region ?_ | refine W_ret ?_ | refine W_skip ?_ | refine W_cond1 rfl ?_ | refine W_cond0 rfl ?_ | refine cW (fun h => ?_) fun h => ?_ | refine wQ ?_) | (first | refine seqR.normal ?_ | refine seqR.ret ?_ | refine midA.ret ?_ | refine midA.exit ?_) | (apply gQ; first | refine Q_nil ?_ | refine kQ ?_ | (apply Q_val rfl rfl rfl; (· first | (apply gBin; first | fail ) | fail | (apply v_ld rfl; (· exact at_); (· first | exact ld_rowV0 om om | exact ld_rowV1 om om); done)))) | fail)
  rename_i b2 b4
  subst hp
  refine W_midA (α := Unit) (fun _ => [(1, .int .i64 r), (2, .pointer (some ⟨b2, 0, none⟩)), (4, .pointer (some ⟨b4, 0, none⟩))]) (fun _ => (b2, aObj C (A.ld ((A.vs.getD r.toNat (0, 0)).2 + 2))) :: (b4, .cells #[.slice none 0 0, .int .i64 0, .int .i64 0, .int .i64 0, .bool false, .int .i64 0, .int .i64 0, .int .i64 0, .int .i64 0, .slice none 0 0] 29 (0, 0)) :: (C.br, rObj C A) :: (C.bw, wObj C (A.ld ((A.vs.getD r.toNat (0, 0)).2 + 2))) :: H2) (fun _ => True) ?_ ?_
  · apply W_regionA (D := (C.br, rObj C A) :: H2) (by kernel_rfl)
    refine kAt 1 ?_
    refine kAt 3 ?_
    refine A_two (i := 0) (j := 2) (by kernel_rfl) cvt_ rfl rfl ?_ ?_
    · refine O_of_L fun S hS => ?_
      first | (apply gCall; apply L_call rfl rfl rfl rfl rfl; (· first | exact l1Read_c at_ hw om om om | exact l2Where_c at_ hw om om | exact l2Look_c at_ hw om om); rintro _ _ ⟨rfl, rfl⟩) | (apply gL; first | refine L_nil ?_ | refine yX fun _ => ?_ | refine yA fun _ => ?_ | (apply gSt; first | refine sR ?_ | refine sB ?_ | refine s1 ?_ | refine sW ?_ | refine sN ?_) | refine kV ?_ | (apply L_val rfl rfl rfl; (· first | (apply gBin; first | fail ) | fail | (apply v_ld rfl; (· exact at_); (· first | exact ld_rowV0 om om | exact ld_rowV1 om om); done))))
      refine L_nil (hS _ _ ?_)
      clear hS
      refine A_one (i := 2) (by kernel_rfl) cvt_ rfl ?_
      refine O_of_L fun S hS => ?_
      first | (apply gCall; apply L_call rfl rfl rfl rfl rfl; (· first | exact l1Read_c at_ hw om om om | exact l2Where_c at_ hw om om | exact l2Look_c at_ hw om om); rintro _ _ ⟨rfl, rfl⟩) | (apply gL; first | refine L_nil ?_ | refine yX fun _ => ?_ | refine yA fun _ => ?_ | (apply gSt; first | refine sR ?_ | refine sB ?_ | refine s1 ?_ | refine sW ?_ | refine sN ?_) | refine kV ?_ | (apply L_val rfl rfl rfl; (· first | (apply gBin; first | fail ) | fail | (apply v_ld rfl; (· exact at_); (· first | exact ld_rowV0 om om | exact ld_rowV1 om om); done))))
      refine L_nil (hS _ _ ?_)
      clear hS
      refine kAt 4 ?_
      refine kAt 5 ?_
      apply A_val 6 rfl (by kernel_rfl) rfl rfl rfl cvt_
      · apply gLd; apply v_ld rfl; (· exact at_); exact ld_rowV1 (by omega) (by omega)
      refine kAt 7 ?_
      refine A_one (i := 8) (by kernel_rfl) cvt_ rfl (O_of_L fun S hS => ?_)
      apply L_call rfl rfl rfl rfl rfl
      · exact l4LoadT tk_ hw (by omega) (by omega) (by omega) s2 s3 s4
      rintro _ _ ⟨rfl, rfl⟩
      refine L_nil (hS _ _ ?_)
      clear hS
      refine kAt 9 ?_
      refine kAt 10 ?_
      refine kAt 11 ?_
      refine A_one (i := 12) (by kernel_rfl) cvt_ rfl (O_of_L fun S hS => ?_)
      first | (apply gCall; apply L_call rfl rfl rfl rfl rfl; (· first | exact l1Read_c at_ hw om om om | exact l2Where_c at_ hw om om | exact l2Look_c at_ hw om om); rintro _ _ ⟨rfl, rfl⟩) | (apply gL; first | refine L_nil ?_ | refine yX fun _ => ?_ | refine yA fun _ => ?_ | (apply gSt; first | refine sR ?_ | refine sB ?_ | refine s1 ?_ | refine sW ?_ | refine sN ?_) | refine kV ?_ | (apply L_val rfl rfl rfl; (· first | (apply gBin; first | fail ) | fail | (apply v_ld rfl; (· exact at_); (· first | exact ld_rowV0 om om | exact ld_rowV1 om om); done))))
      refine L_nil (hS _ _ ?_)
      clear hS
      refine A_nil (by kernel_rfl) cvt_ ?_
      apply midA.mk ()
      · exact sub_
      · exact cvt_
      · trivial
    · refine O_of_L fun S hS => ?_
      first | (apply gCall; apply L_call rfl rfl rfl rfl rfl; (· first | exact l1Read_c at_ hw om om om | exact l2Where_c at_ hw om om | exact l2Look_c at_ hw om om); rintro _ _ ⟨rfl, rfl⟩) | (apply gL; first | refine L_nil ?_ | refine yX fun _ => ?_ | refine yA fun _ => ?_ | (apply gSt; first | refine sR ?_ | refine sB ?_ | refine s1 ?_ | refine sW ?_ | refine sN ?_) | refine kV ?_ | (apply L_val rfl rfl rfl; (· first | (apply gBin; first | fail ) | fail | (apply v_ld rfl; (· exact at_); (· first | exact ld_rowV0 om om | exact ld_rowV1 om om); done))))
      refine L_nil (hS _ _ ?_)
      clear hS
      refine kAt 4 ?_
      refine kAt 5 ?_
      apply A_val 6 rfl (by kernel_rfl) rfl rfl rfl cvt_
      · apply gLd; apply v_ld rfl; (· exact at_); exact ld_rowV1 (by omega) (by omega)
      refine kAt 7 ?_
      refine A_one (i := 0) (by kernel_rfl) cvt_ rfl ?_
      refine O_of_L fun S hS => ?_
      first | (apply gCall; apply L_call rfl rfl rfl rfl rfl; (· first | exact l1Read_c at_ hw om om om | exact l2Where_c at_ hw om om | exact l2Look_c at_ hw om om); rintro _ _ ⟨rfl, rfl⟩) | (apply gL; first | refine L_nil ?_ | refine yX fun _ => ?_ | refine yA fun _ => ?_ | (apply gSt; first | refine sR ?_ | refine sB ?_ | refine s1 ?_ | refine sW ?_ | refine sN ?_) | refine kV ?_ | (apply L_val rfl rfl rfl; (· first | (apply gBin; first | fail ) | fail | (apply v_ld rfl; (· exact at_); (· first | exact ld_rowV0 om om | exact ld_rowV1 om om); done))))
      refine L_nil (hS _ _ ?_)
      clear hS
      refine A_one (i := 8) (by kernel_rfl) cvt_ rfl (O_of_L fun S hS => ?_)
      apply L_call rfl rfl rfl rfl rfl
      · exact l4LoadT tk_ hw (by omega) (by omega) (by omega) s2 s3 s4
      rintro _ _ ⟨rfl, rfl⟩
      refine L_nil (hS _ _ ?_)
      clear hS
      refine kAt 9 ?_
      refine kAt 10 ?_
      refine kAt 11 ?_
      refine A_one (i := 12) (by kernel_rfl) cvt_ rfl (O_of_L fun S hS => ?_)
      first | (apply gCall; apply L_call rfl rfl rfl rfl rfl; (· first | exact l1Read_c at_ hw om om om | exact l2Where_c at_ hw om om | exact l2Look_c at_ hw om om); rintro _ _ ⟨rfl, rfl⟩) | (apply gL; first | refine L_nil ?_ | refine yX fun _ => ?_ | refine yA fun _ => ?_ | (apply gSt; first | refine sR ?_ | refine sB ?_ | refine s1 ?_ | refine sW ?_ | refine sN ?_) | refine kV ?_ | (apply L_val rfl rfl rfl; (· first | (apply gBin; first | fail ) | fail | (apply v_ld rfl; (· exact at_); (· first | exact ld_rowV0 om om | exact ld_rowV1 om om); done))))
      refine L_nil (hS _ _ ?_)
      clear hS
      refine A_nil (by kernel_rfl) cvt_ ?_
      apply midA.mk ()
      · exact sub_
      · exact cvt_
      · trivial
  rintro - -
  have hvB := hL.vs
  have hvl := congrArg List.length hvB
  repeat' (first | (apply gQC; apply Q_call rfl rfl rfl rfl rfl; (· exact l6BlockS_c (C := C) (B := A.ld ((A.vs.getD r.toNat (0, 0)).2 + 2)) (b := A.ldN ((A.vs.getD r.toNat (0, 0)).2 + 2)) at_ hL.si hp0 (by omega) hc); try rintro _ _ ⟨rfl, rfl⟩) | (apply gCall; apply L_call rfl rfl rfl rfl rfl; (· exact l6BlockS_c (C := C) (B := A.ld ((A.vs.getD r.toNat (0, 0)).2 + 2)) (b := A.ldN ((A.vs.getD r.toNat (0, 0)).2 + 2)) at_ hL.si hp0 (by omega) hc); rintro _ _ ⟨rfl, rfl⟩) | first | ((first | (apply gCall; apply L_call rfl rfl rfl rfl rfl) | (apply gQC; apply Q_call rfl rfl rfl rfl rfl)); (· first | exact l1Read_c at_ hw om om om | exact l2Where_c at_ hw om om | exact l2Look_c at_ hw om om); try rintro _ _ ⟨rfl, rfl⟩) | (apply gL; first | refine L_nil ?_ | refine yX fun _ => ?_ | refine yA fun _ => ?_ | (apply gSt; first | refine sR ?_ | refine sB ?_ | refine s1 ?_ | refine sW ?_ | refine sN ?_) | refine kV ?_ | (apply L_val rfl rfl rfl; (· first | (apply gBin; first | fail ) | fail | (apply v_ld rfl; (· exact at_); (· first | exact ld_rowV0 om om | exact ld_rowV1 om om); done)))) | (apply gW; first | refine W_seq ?_ | refine W_region ?_ | refine W_ret ?_ | refine W_skip ?_ | refine W_cond1 rfl ?_ | refine W_cond0 rfl ?_ | refine cW (fun h => ?_) fun h => ?_ | refine wQ ?_) | (first | refine seqR.normal ?_ | refine seqR.ret ?_ | refine midA.ret ?_ | refine midA.exit ?_) | (apply gQ; first | refine Q_nil ?_ | refine kQ ?_ | (apply Q_val rfl rfl rfl; (· first | (apply gBin; first | fail ) | fail | (apply v_ld rfl; (· exact at_); (· first | exact ld_rowV0 om om | exact ld_rowV1 om om); done)))) | fail)
  rw [hL.rr.2]
  exact retR.ret _ _ (retCT2 rfl rfl at_ (by rfl) rfl rfl) cvt_ ⟨rfl, rfl⟩
end Go.Proofs.YtepddopgmhdllaaGreat.Eng
