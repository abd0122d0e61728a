/- The reference's numbers of nodes: l7Number, l7Val. -/
import Derived.Test.YtfhihnonafklbaaH0
import Derived.Test.YtfhihnonafklbaaBkS7
import Derived.Test.YtfhihnonafklbaaTys2
namespace Go.Proofs.Ytfhihnonafklbaa.Eng
open Go Go.RowKit Go.Proofs.Ytfhihnonafklbaa.Sl Go.Proofs.Ytfhihnonafklbaa.Ar Go.Proofs.Ytfhihnonafklbaa.Base
set_option linter.unusedVariables false
set_option linter.unusedSimpArgs false
set_option maxRecDepth 10000
section
variable {P : Program} {N : Nat} {w0 : World} {E : Env} {H : HL} {T : TypeId} {v v2 : Value}
theorem retTC {fn : Func} {t u n bk : Nat} {cs : Array Value} {ty : TypeId} {fr : Nat × Nat} [TAgg P T n] (h : fn.results = #[.tmp u, .cell t T]) (hu : look E u = some v) (hv : look E t = some (.pointer (some ⟨bk, 0, none⟩))) (hA : At H bk (.cells cs ty fr)) (hn : cs.size = n) :
    RetV P N w0 fn E H (.tuple #[v, .agg cs]) := by
  refine ⟨fun a w ha hs => ?_⟩
  obtain ⟨d, h1, h2⟩ := TAgg.agg (P := P) (T := T)
  have hl := run_loadCells_ext (P := P) (i := 0) (n := n) hs hA (by omega)
  have he : cs.extract 0 (0 + n) = cs := by rw [Nat.zero_add, ← hn]; simp
  rw [he] at hl
  simp [results, h, Array.getD_eq_getD_getElem?, ha.at_ t _ hv, ha.at_ u _ hu, asAddr, loadVar, run_isAgg h1 h2, run_sizeOf (TAgg.size (P := P) (T := T)), hl]
end
theorem ix_at {P : List Int} (hn : P.Nodup) {i : Int} (h0 : 0 ≤ i) (h1 : i < (P.length : Int)) : ix P (g P i) = i := by
  have hl : i.toNat < P.length := by omega
  have e : g P i = P[i.toNat] := by unfold g; rw [List.getD_eq_getElem?_getD, List.getElem?_eq_getElem hl]; rfl
  unfold ix
  rw [e, hn.idxOf_getElem i.toNat hl]; omega
theorem not_mem_of {P : List Int} {p : Int} (h : ∀ j : Int, 0 ≤ j → j < (P.length : Int) → g P j ≠ p) : p ∉ P := by
  intro c
  obtain ⟨n, hn, e⟩ := List.getElem_of_mem c
  refine h (n : Int) (by omega) (by omega) ?_
  unfold g; rw [Int.toNat_natCast, List.getD_eq_getElem?_getD, List.getElem?_eq_getElem hn]; exact e
theorem shPut_mem {P : List Int} {p : Int} (h : p ∈ P) : shPut P p = P := if_pos h
theorem shPut_not {P : List Int} {p : Int} (h : p ∉ P) : shPut P p = P ++ [p] := if_neg h
variable {w0 : World} {H : HL} {C : Cn} {A : Ar} {m : List Int}
set_option maxHeartbeats 1000000 in
theorem l7Number_c {bp : Nat} {sp : List Value} {P : List Int} {p : Int} {H1 : HL} (hT : Tk H bp (.cells (rowA .i64 P sp) 3 (0, 0)) H1) (hl : P.length ≤ 8000) (hn : P.Nodup) :
    Fn Try.prog w0 39 #[.slice (some ⟨bp, 0, none⟩) P.length (P.length + List.length sp), .int .i64 p] H fun v H' => ∃ b' sp', v = .tuple #[.slice (some ⟨b', 0, none⟩) (shPut P p).length ((shPut P p).length + List.length sp'), .int .i64 (ix P p)] ∧ H' = (b', .cells (rowA .i64 (shPut P p) sp') 3 (0, 0)) :: H1 := by
  refine Fn.conv (Cv.take hT Cv.refl) ?_
  refine enter2 Try.func39 rfl rfl Try.ntmps39 rfl ?_
  repeat' (first | (apply gCall; apply L_call rfl rfl rfl rfl rfl; (· first | exact l2Where_c at_ hw om om | exact specIsRef_c _ _); rintro _ _ ⟨rfl, rfl⟩) | (apply gL; first | refine L_nil ?_ | refine yX fun _ => ?_ | refine yA fun _ => ?_ | (apply gSt; first | refine sR ?_ | refine sB ?_ | refine s1 ?_ | refine sW ?_ | refine sN ?_) | (apply gBs; first | (refine L_bs0 rfl rfl rfl rfl (fun _ => ?_)) | (refine L_bs1 rfl rfl rfl rfl rfl rfl rfl (fun _ => ?_))) | (apply gApp; apply L_appI rfl rfl rfl rfl rfl rfl; (· exact at_); (· exact tk_); (· rfl); (· omega); intro _ _) | refine kV ?_) | (apply gW; first | refine W_seq ?_ | refine W_region ?_ | refine W_ret ?_ | refine W_skip ?_ | refine W_block ?_ | refine W_exit ?_ | refine W_cond1 rfl ?_ | refine W_cond0 rfl ?_ | refine cW (fun h => ?_) fun h => ?_) | (first | refine seqR.normal ?_ | refine seqR.ret ?_ | refine seqR.exit ?_ | refine blockR.normal ?_ | refine blockR.ret ?_ | refine blockR.here ?_ | refine blockR.exit rfl ?_ | refine loopR.ret ?_ | refine loopR.exit ?_) | fail)
  apply W_loopX (α := Int) (fun i => [(0, .slice (some ⟨bp, 0, none⟩) P.length (P.length + List.length sp)), (1, .int .i64 p), (6, .int .i64 i)]) (fun _ => (bp, .cells (rowA .i64 P sp) 3 (0, 0)) :: H1)
    (fun i => 0 ≤ i ∧ i ≤ P.length ∧ ∀ j : Int, 0 ≤ j → j < i → g P j ≠ p) (fun i => (P.length - i).toNat) 0
  · exact sub_
  · exact cvt_
  · exact ⟨by omega, by omega, fun j a b => by omega⟩
  rintro i ⟨hi, hi2, hi3⟩
  by_cases hlt : i < (P.length : Int)
  · by_cases he : g P i = p
    · repeat' (first | exact absurd hlt h | exact absurd he h | first | (apply gCall; apply L_call rfl rfl rfl rfl rfl; (· first | exact l2Where_c at_ hw om om | exact specIsRef_c _ _); rintro _ _ ⟨rfl, rfl⟩) | (apply gL; first | refine L_nil ?_ | refine yX fun _ => ?_ | refine yA fun _ => ?_ | (apply gSt; first | refine sR ?_ | refine sB ?_ | refine s1 ?_ | refine sW ?_ | refine sN ?_) | (apply gBs; first | (refine L_bs0 rfl rfl rfl rfl (fun _ => ?_)) | (refine L_bs1 rfl rfl rfl rfl rfl rfl rfl (fun _ => ?_))) | (apply gApp; apply L_appI rfl rfl rfl rfl rfl rfl; (· exact at_); (· exact tk_); (· rfl); (· omega); intro _ _) | refine kV ?_) | (apply gW; first | refine W_seq ?_ | refine W_region ?_ | refine W_ret ?_ | refine W_skip ?_ | refine W_block ?_ | refine W_exit ?_ | refine W_cond1 rfl ?_ | refine W_cond0 rfl ?_ | refine cW (fun h => ?_) fun h => ?_) | (first | refine seqR.normal ?_ | refine seqR.ret ?_ | refine seqR.exit ?_ | refine blockR.normal ?_ | refine blockR.ret ?_ | refine blockR.here ?_ | refine blockR.exit rfl ?_ | refine loopR.ret ?_ | refine loopR.exit ?_) | fail)
      have hm : p ∈ P := he ▸ g_mem hi hlt
      refine retR.ret _ ((bp, .cells (rowA .i64 P sp) 3 (0, 0)) :: H1) (ret2 rfl rfl rfl) cvt_ ⟨bp, sp, ?_, ?_⟩
      · rw [shPut_mem hm, ← he, ix_at hn hi hlt]
      · rw [shPut_mem hm]
    · repeat' (first | exact absurd hlt h | exact absurd h he | first | (apply gCall; apply L_call rfl rfl rfl rfl rfl; (· first | exact l2Where_c at_ hw om om | exact specIsRef_c _ _); rintro _ _ ⟨rfl, rfl⟩) | (apply gL; first | refine L_nil ?_ | refine yX fun _ => ?_ | refine yA fun _ => ?_ | (apply gSt; first | refine sR ?_ | refine sB ?_ | refine s1 ?_ | refine sW ?_ | refine sN ?_) | (apply gBs; first | (refine L_bs0 rfl rfl rfl rfl (fun _ => ?_)) | (refine L_bs1 rfl rfl rfl rfl rfl rfl rfl (fun _ => ?_))) | (apply gApp; apply L_appI rfl rfl rfl rfl rfl rfl; (· exact at_); (· exact tk_); (· rfl); (· omega); intro _ _) | refine kV ?_) | (apply gW; first | refine W_seq ?_ | refine W_region ?_ | refine W_ret ?_ | refine W_skip ?_ | refine W_block ?_ | refine W_exit ?_ | refine W_cond1 rfl ?_ | refine W_cond0 rfl ?_ | refine cW (fun h => ?_) fun h => ?_) | (first | refine seqR.normal ?_ | refine seqR.ret ?_ | refine seqR.exit ?_ | refine blockR.normal ?_ | refine blockR.ret ?_ | refine blockR.here ?_ | refine blockR.exit rfl ?_ | refine loopR.ret ?_ | refine loopR.exit ?_) | fail)
      apply loopR.mk (i + 1)
      · exact sub_
      · exact cvt_
      · exact ⟨by omega, by omega, fun j a b => by
          by_cases e : j = i
          · subst e; exact he
          · exact hi3 j a (by omega)⟩
      · omega
  · have hm : p ∉ P := not_mem_of (fun j a b => hi3 j a (by omega))
    rw [shPut_not hm, ix_not hm]
    repeat' (first | exact absurd h hlt | first | (apply gCall; apply L_call rfl rfl rfl rfl rfl; (· first | exact l2Where_c at_ hw om om | exact specIsRef_c _ _); rintro _ _ ⟨rfl, rfl⟩) | (apply gL; first | refine L_nil ?_ | refine yX fun _ => ?_ | refine yA fun _ => ?_ | (apply gSt; first | refine sR ?_ | refine sB ?_ | refine s1 ?_ | refine sW ?_ | refine sN ?_) | (apply gBs; first | (refine L_bs0 rfl rfl rfl rfl (fun _ => ?_)) | (refine L_bs1 rfl rfl rfl rfl rfl rfl rfl (fun _ => ?_))) | (apply gApp; apply L_appI rfl rfl rfl rfl rfl rfl; (· exact at_); (· exact tk_); (· rfl); (· omega); intro _ _) | refine kV ?_) | (apply gW; first | refine W_seq ?_ | refine W_region ?_ | refine W_ret ?_ | refine W_skip ?_ | refine W_block ?_ | refine W_exit ?_ | refine W_cond1 rfl ?_ | refine W_cond0 rfl ?_ | refine cW (fun h => ?_) fun h => ?_) | (first | refine seqR.normal ?_ | refine seqR.ret ?_ | refine seqR.exit ?_ | refine blockR.normal ?_ | refine blockR.ret ?_ | refine blockR.here ?_ | refine blockR.exit rfl ?_ | refine loopR.ret ?_ | refine loopR.exit ?_) | fail)
    exact retR.ret _ _ (ret2 rfl rfl rfl) cvt_ ⟨_, _, rfl, rfl⟩
set_option maxHeartbeats 1000000 in
theorem l7Val_c {bp : Nat} {sp : List Value} {P : List Int} {v : Int × Int} {H1 : HL} (hA : At H1 C.bw (wObj C A)) (hw : Wf A.ws) (hm8 : A.ws.length ≤ 8000) (hv : VOk A m v) (hT : Tk H bp (.cells (rowA .i64 P sp) 3 (0, 0)) H1) (hP : Pls A m P) :
    Fn Try.prog w0 16 #[arV C A, .slice (some ⟨bp, 0, none⟩) P.length (P.length + List.length sp), .agg #[.int .i64 v.1, .int .i64 v.2]] H fun r H' => ∃ b' sp', r = .tuple #[.slice (some ⟨b', 0, none⟩) (A.shV P v).1.length ((A.shV P v).1.length + List.length sp'), .agg #[.int .i64 (A.shV P v).2.1, .int .i64 (A.shV P v).2.2]] ∧ H' = (b', .cells (rowA .i64 (A.shV P v).1 sp') 3 (0, 0)) :: H1 := by
  obtain ⟨t, n⟩ := v
  have hl := hP.le
  refine Fn.conv (Cv.take hT Cv.refl) ?_
  refine enter3 Try.func16 rfl rfl Try.ntmps16 rfl ?_
  by_cases hr : isRef t = true
  · obtain ⟨⟨n0, n1⟩, n2, n3⟩ := hv hr
    have hr' : ¬ isRef t = false := by rw [hr]; decide
    have hr0 : kd t ≠ 0 := of_decide_eq_true hr
    have e : A.shV P (t, n) = (shPut P (A.where_ n), (t, ix P (A.where_ n))) := by unfold Ar.shV; rw [if_pos hr]
    rw [e]
    dsimp only at n0 n1 n2 n3 ⊢
    repeat' (first | exact absurd h hr' | exact absurd hr h | exact absurd hr0 h | exact absurd h (not_not_intro hr0) | first | (apply gCall; apply L_call rfl rfl rfl rfl rfl; (· first | exact l2Where_c at_ hw om om | exact specIsRef_c _ _); rintro _ _ ⟨rfl, rfl⟩) | (apply gL; first | refine L_nil ?_ | refine yX fun _ => ?_ | refine yA fun _ => ?_ | (apply gSt; first | refine sR ?_ | refine sB ?_ | refine s1 ?_ | refine sW ?_ | refine sN ?_) | (apply gBs; first | (refine L_bs0 rfl rfl rfl rfl (fun _ => ?_)) | (refine L_bs1 rfl rfl rfl rfl rfl rfl rfl (fun _ => ?_))) | (apply gApp; apply L_appI rfl rfl rfl rfl rfl rfl; (· exact at_); (· exact tk_); (· rfl); (· omega); intro _ _) | refine kV ?_) | (apply gW; first | refine W_seq ?_ | refine W_region ?_ | refine W_ret ?_ | refine W_skip ?_ | refine W_block ?_ | refine W_exit ?_ | refine W_cond1 rfl ?_ | refine W_cond0 rfl ?_ | refine cW (fun h => ?_) fun h => ?_) | (first | refine seqR.normal ?_ | refine seqR.ret ?_ | refine seqR.exit ?_ | refine blockR.normal ?_ | refine blockR.ret ?_ | refine blockR.here ?_ | refine blockR.exit rfl ?_ | refine loopR.ret ?_ | refine loopR.exit ?_) | fail)
    apply L_call rfl rfl rfl rfl rfl
    · exact l7Number_c tk_ (by omega) hP.nd
    rintro _ _ ⟨b', sp', rfl, rfl⟩
    repeat' (first | (apply gSt; apply L_stc rfl rfl rfl rfl rfl rfl; (· exact at_); (· simp only [List.set_cons_zero, List.set_cons_succ]; rfl); (· exact up_); (· rfl)) | first | (apply gCall; apply L_call rfl rfl rfl rfl rfl; (· first | exact l2Where_c at_ hw om om | exact specIsRef_c _ _); rintro _ _ ⟨rfl, rfl⟩) | (apply gL; first | refine L_nil ?_ | refine yX fun _ => ?_ | refine yA fun _ => ?_ | (apply gSt; first | refine sR ?_ | refine sB ?_ | refine s1 ?_ | refine sW ?_ | refine sN ?_) | (apply gBs; first | (refine L_bs0 rfl rfl rfl rfl (fun _ => ?_)) | (refine L_bs1 rfl rfl rfl rfl rfl rfl rfl (fun _ => ?_))) | (apply gApp; apply L_appI rfl rfl rfl rfl rfl rfl; (· exact at_); (· exact tk_); (· rfl); (· omega); intro _ _) | refine kV ?_) | (apply gW; first | refine W_seq ?_ | refine W_region ?_ | refine W_ret ?_ | refine W_skip ?_ | refine W_block ?_ | refine W_exit ?_ | refine W_cond1 rfl ?_ | refine W_cond0 rfl ?_ | refine cW (fun h => ?_) fun h => ?_) | (first | refine seqR.normal ?_ | refine seqR.ret ?_ | refine seqR.exit ?_ | refine blockR.normal ?_ | refine blockR.ret ?_ | refine blockR.here ?_ | refine blockR.exit rfl ?_ | refine loopR.ret ?_ | refine loopR.exit ?_) | fail)
    rename_i b3 b5 b7
    apply W_regionA (D := (b5, .cells #[.int .i64 t, .int .i64 (ix P (A.where_ n))] 46 (0, 0)) :: H1) (by kernel_rfl)
    refine kAt 0 ?_
    refine kAt 1 ?_
    refine kAt 2 ?_
    refine A_one (i := 3) (by kernel_rfl) cvt_ rfl (O_of_L fun S hS => ?_)
    first | (apply gCall; apply L_call rfl rfl rfl rfl rfl; (· first | exact l2Where_c at_ hw om om | exact specIsRef_c _ _); rintro _ _ ⟨rfl, rfl⟩) | (apply gL; first | refine L_nil ?_ | refine yX fun _ => ?_ | refine yA fun _ => ?_ | (apply gSt; first | refine sR ?_ | refine sB ?_ | refine s1 ?_ | refine sW ?_ | refine sN ?_) | (apply gBs; first | (refine L_bs0 rfl rfl rfl rfl (fun _ => ?_)) | (refine L_bs1 rfl rfl rfl rfl rfl rfl rfl (fun _ => ?_))) | (apply gApp; apply L_appI rfl rfl rfl rfl rfl rfl; (· exact at_); (· exact tk_); (· rfl); (· omega); intro _ _) | refine kV ?_)
    refine L_nil (hS _ _ ?_)
    clear hS
    refine A_nil (by kernel_rfl) cvt_ ?_
    repeat' (first | (apply gCall; apply L_call rfl rfl rfl rfl rfl; (· first | exact l2Where_c at_ hw om om | exact specIsRef_c _ _); rintro _ _ ⟨rfl, rfl⟩) | (apply gL; first | refine L_nil ?_ | refine yX fun _ => ?_ | refine yA fun _ => ?_ | (apply gSt; first | refine sR ?_ | refine sB ?_ | refine s1 ?_ | refine sW ?_ | refine sN ?_) | (apply gBs; first | (refine L_bs0 rfl rfl rfl rfl (fun _ => ?_)) | (refine L_bs1 rfl rfl rfl rfl rfl rfl rfl (fun _ => ?_))) | (apply gApp; apply L_appI rfl rfl rfl rfl rfl rfl; (· exact at_); (· exact tk_); (· rfl); (· omega); intro _ _) | refine kV ?_) | (apply gW; first | refine W_seq ?_ | refine W_region ?_ | refine W_ret ?_ | refine W_skip ?_ | refine W_block ?_ | refine W_exit ?_ | refine W_cond1 rfl ?_ | refine W_cond0 rfl ?_ | refine cW (fun h => ?_) fun h => ?_) | (first | refine seqR.normal ?_ | refine seqR.ret ?_ | refine seqR.exit ?_ | refine blockR.normal ?_ | refine blockR.ret ?_ | refine blockR.here ?_ | refine blockR.exit rfl ?_ | refine loopR.ret ?_ | refine loopR.exit ?_) | fail)
    exact retR.ret _ _ (retTC rfl rfl rfl at_ (by rfl)) cvt_ ⟨b', sp', rfl, rfl⟩
  · have e : A.shV P (t, n) = (P, (t, n)) := by unfold Ar.shV; rw [if_neg hr]
    rw [e]
    dsimp only
    have hr0 : ¬ kd t ≠ 0 := fun c => hr (decide_eq_true c)
    repeat' (first | exact absurd h hr | exact absurd h hr0 | first | (apply gCall; apply L_call rfl rfl rfl rfl rfl; (· first | exact l2Where_c at_ hw om om | exact specIsRef_c _ _); rintro _ _ ⟨rfl, rfl⟩) | (apply gL; first | refine L_nil ?_ | refine yX fun _ => ?_ | refine yA fun _ => ?_ | (apply gSt; first | refine sR ?_ | refine sB ?_ | refine s1 ?_ | refine sW ?_ | refine sN ?_) | (apply gBs; first | (refine L_bs0 rfl rfl rfl rfl (fun _ => ?_)) | (refine L_bs1 rfl rfl rfl rfl rfl rfl rfl (fun _ => ?_))) | (apply gApp; apply L_appI rfl rfl rfl rfl rfl rfl; (· exact at_); (· exact tk_); (· rfl); (· omega); intro _ _) | refine kV ?_) | (apply gW; first | refine W_seq ?_ | refine W_region ?_ | refine W_ret ?_ | refine W_skip ?_ | refine W_block ?_ | refine W_exit ?_ | refine W_cond1 rfl ?_ | refine W_cond0 rfl ?_ | refine cW (fun h => ?_) fun h => ?_) | (first | refine seqR.normal ?_ | refine seqR.ret ?_ | refine seqR.exit ?_ | refine blockR.normal ?_ | refine blockR.ret ?_ | refine blockR.here ?_ | refine blockR.exit rfl ?_ | refine loopR.ret ?_ | refine loopR.exit ?_) | fail)
    rename_i b3 b5 b7
    apply W_regionA (D := (b5, .cells #[.int .i64 t, .int .i64 n] 46 (0, 0)) :: H1) (by kernel_rfl)
    refine kAt 0 ?_
    refine kAt 1 ?_
    refine kAt 2 ?_
    refine A_one (i := 3) (by kernel_rfl) cvt_ rfl (O_of_L fun S hS => ?_)
    first | (apply gCall; apply L_call rfl rfl rfl rfl rfl; (· first | exact l2Where_c at_ hw om om | exact specIsRef_c _ _); rintro _ _ ⟨rfl, rfl⟩) | (apply gL; first | refine L_nil ?_ | refine yX fun _ => ?_ | refine yA fun _ => ?_ | (apply gSt; first | refine sR ?_ | refine sB ?_ | refine s1 ?_ | refine sW ?_ | refine sN ?_) | (apply gBs; first | (refine L_bs0 rfl rfl rfl rfl (fun _ => ?_)) | (refine L_bs1 rfl rfl rfl rfl rfl rfl rfl (fun _ => ?_))) | (apply gApp; apply L_appI rfl rfl rfl rfl rfl rfl; (· exact at_); (· exact tk_); (· rfl); (· omega); intro _ _) | refine kV ?_)
    refine L_nil (hS _ _ ?_)
    clear hS
    refine A_nil (by kernel_rfl) cvt_ ?_
    repeat' (first | (apply gCall; apply L_call rfl rfl rfl rfl rfl; (· first | exact l2Where_c at_ hw om om | exact specIsRef_c _ _); rintro _ _ ⟨rfl, rfl⟩) | (apply gL; first | refine L_nil ?_ | refine yX fun _ => ?_ | refine yA fun _ => ?_ | (apply gSt; first | refine sR ?_ | refine sB ?_ | refine s1 ?_ | refine sW ?_ | refine sN ?_) | (apply gBs; first | (refine L_bs0 rfl rfl rfl rfl (fun _ => ?_)) | (refine L_bs1 rfl rfl rfl rfl rfl rfl rfl (fun _ => ?_))) | (apply gApp; apply L_appI rfl rfl rfl rfl rfl rfl; (· exact at_); (· exact tk_); (· rfl); (· omega); intro _ _) | refine kV ?_) | (apply gW; first | refine W_seq ?_ | refine W_region ?_ | refine W_ret ?_ | refine W_skip ?_ | refine W_block ?_ | refine W_exit ?_ | refine W_cond1 rfl ?_ | refine W_cond0 rfl ?_ | refine cW (fun h => ?_) fun h => ?_) | (first | refine seqR.normal ?_ | refine seqR.ret ?_ | refine seqR.exit ?_ | refine blockR.normal ?_ | refine blockR.ret ?_ | refine blockR.here ?_ | refine blockR.exit rfl ?_ | refine loopR.ret ?_ | refine loopR.exit ?_) | fail)
    exact retR.ret _ _ (retTC rfl rfl rfl at_ (by rfl)) cvt_ ⟨bp, sp, rfl, rfl⟩
end Go.Proofs.Ytfhihnonafklbaa.Eng
