/- The implementation's ArenaOk. -/
import Derived.Test.YtfhihnonafklbaaJ2
namespace Go.Proofs.Ytfhihnonafklbaa.Eng
open Go Go.RowKit Go.Proofs.Ytfhihnonafklbaa.Sl Go.Proofs.Ytfhihnonafklbaa.Ar Go.Proofs.Ytfhihnonafklbaa.Base
set_option linter.unusedVariables false
set_option linter.unusedSimpArgs false
set_option maxRecDepth 10000
section
variable {P : Program} {N : Nat} {w0 : World} {E : Env} {H : HL} {o : Oper} {x y : Operand} {T : TypeId} {d_ : Option Tmp} {ty_ : TypeId} {pos_ : String} {af_ : Array Edge} {gd_ : Option (Nat × Bool)}
theorem ov_build4 {z : List Value} [TFlat P T z] {u w s r : Value} {q q2 : Operand} (ho : o.op = .build T #[(0, x), (1, y), (2, q), (3, q2)]) (hz : z.length = 4) (hx : ev E x = some u) (hy : ev E y = some w) (hq : ev E q = some s) (hq2 : ev E q2 = some r) (h1 : u.oneCell' = true) (h2 : w.oneCell' = true) (h3 : s.oneCell' = true) (h4 : r.oneCell' = true) :
    OpV P N w0 o E H (.agg #[u, w, s, r]) := by
  have e : setParts z [(0, u), (1, w), (2, s), (3, r)] = [u, w, s, r] := by
    match z, hz with
    | [_, _, _, _], _ => rfl
  have := ov_build (P := P) (N := N) (w0 := w0) (E := E) (H := H) ho (vs := [u, w, s, r]) (by simp [evs, hx, hy, hq, hq2]) (built_flat (P := P) (T := T) _ (fun p hp => by
    simp at hp
    rcases hp with rfl | rfl | rfl | rfl
    · exact ⟨by simp [hz], cells_one h1⟩
    · exact ⟨by simp [hz], cells_one h2⟩
    · exact ⟨by simp [hz], cells_one h3⟩
    · exact ⟨by simp [hz], cells_one h4⟩))
  exact e ▸ this
theorem A_norm {ops : Array Oper} {D : HL} {n : Nat} {l l' : Array Bool} {R : Post} (h : l = l') (k : A P N w0 ops D n l' E H R) : A P N w0 ops D n l E H R := h ▸ k
theorem v_build4 {z : List Value} [TFlat P T z] {u w s r : Value} {q q2 : Operand} (hz : z.length = 4) (hx : ev E x = some u) (hy : ev E y = some w) (hq : ev E q = some s) (hq2 : ev E q2 = some r) (h1 : u.oneCell' = true) (h2 : w.oneCell' = true) (h3 : s.oneCell' = true) (h4 : r.oneCell' = true) :
    OpV P N w0 ⟨d_, .build T #[(0, x), (1, y), (2, q), (3, q2)], ty_, pos_, af_, gd_⟩ E H (.agg #[u, w, s, r]) := ov_build4 rfl hz hx hy hq hq2 h1 h2 h3 h4
end
variable {w0 : World} {H : HL} {C : Cn} {A : Ar} {ba : Nat}
theorem left_c (hP : At H ba (aObj C A)) (hh : A.to = 0 ∨ A.to = 1) (hs : 256 ≤ A.semi ∧ A.semi ≤ 4000) (hc : A.cyc = true) (h1 : 0 ≤ A.old ∧ A.old ≤ 10000) (h2 : 0 ≤ A.copied ∧ A.copied ≤ 10000) :
    Fn Try.prog w0 51 #[.pointer (some ⟨ba, 0, none⟩)] H fun v H' => v = .int .i64 (A.old - A.start (1 - A.to) - A.copied) ∧ H' = H := by
  have hm : 0 ≤ A.start (1 - A.to) ∧ A.start (1 - A.to) ≤ 8001 := by unfold Ar.start; rcases hh with e | e <;> rw [e] <;> omega
  refine enter1 Try.func51 rfl rfl Try.ntmps51 rfl ?_
  repeat' (first | ((first | (apply gCall; apply L_call rfl rfl rfl rfl rfl) | (apply gQC; apply Q_call rfl rfl rfl rfl rfl)); (· first | exact within_c _ _ _ | exact begin_c at_ om om | exact end_c at_ om om | exact other_c at_ om | exact left_c at_ om om (by assumption) om om); try rintro _ _ ⟨rfl, rfl⟩) | (apply gL; first | refine L_nil ?_ | refine yS ?_ | refine yX fun _ => ?_ | (apply gMk; first | (apply L_mkcap rfl rfl rfl rfl rfl rfl; (· omega); (· omega); (· omega); intro _ _) | (apply L_makeI rfl rfl rfl rfl rfl rfl; (· omega); (· omega); intro _) | (apply L_makeB rfl rfl rfl rfl rfl rfl; (· omega); (· omega); intro _) | (apply L_makeV rfl rfl rfl rfl rfl rfl; (· omega); (· omega); intro _)) | (apply gMm; refine L_mkmap rfl rfl rfl rfl (fun _ => ?_)) | refine kV ?_ | (apply L_val rfl rfl rfl; (· first | (apply gBin; first | fail ) | fail | exact v_build4 rfl rfl rfl rfl rfl rfl rfl rfl rfl)) | ((fail_if_success (refine L_known rfl ?_)); refine yW (fun h => ?_) fun h => ?_)) | (apply gW; first | refine W_seq ?_ | refine W_region ?_ | refine W_ret ?_ | refine W_skip ?_ | refine W_cond1 rfl ?_ | refine W_cond0 rfl ?_ | refine cW (fun h => ?_) fun h => ?_ | refine wQ ?_) | (first | refine seqR.normal ?_ | refine seqR.ret ?_ | refine midA.ret ?_ | refine midA.exit ?_) | (apply gQ; first | refine Q_nil ?_ | refine Q_skip rfl rfl rfl ?_ | refine kQ ?_ | (apply Q_val rfl rfl rfl; (· first | (apply gBin; first | fail ) | fail | exact v_build4 rfl rfl rfl rfl rfl rfl rfl rfl rfl)) | ((fail_if_success (refine Q_known rfl ?_)); refine zW (fun h => ?_) fun h => ?_)) | fail)
  all_goals (first | (rw [hc] at h; cases h) | skip)
  all_goals refine retR.ret _ _ (ret1 rfl rfl) cv_ ⟨?_, rfl⟩
  all_goals rfl
set_option maxHeartbeats 4000000 in
theorem implArenaOk_c (hA : At H C.bw (wObj C A)) (hR : At H C.br (rObj C A)) (hw : Wf A.ws) (hc : A.ws.length ≤ C.wc) (hx : A.vs.length ≤ 1048576) :
    Fn Try.prog w0 20 #[arV C A] H fun v H' => v = .bool A.ok ∧ H' = H := by
  refine enter1 Try.func20 rfl rfl Try.ntmps20 rfl ?_
  repeat' (fail_if_success apply gAtR 3); (first | ((first | (apply gCall; apply L_call rfl rfl rfl rfl rfl) | (apply gQC; apply Q_call rfl rfl rfl rfl rfl)); (· first | exact within_c _ _ _ | exact begin_c at_ om om | exact end_c at_ om om | exact other_c at_ om | exact left_c at_ om om (by assumption) om om); try rintro _ _ ⟨rfl, rfl⟩) | (apply gL; first | refine L_nil ?_ | refine yS ?_ | refine yX fun _ => ?_ | (apply gMk; first | (apply L_mkcap rfl rfl rfl rfl rfl rfl; (· omega); (· omega); (· omega); intro _ _) | (apply L_makeI rfl rfl rfl rfl rfl rfl; (· omega); (· omega); intro _) | (apply L_makeB rfl rfl rfl rfl rfl rfl; (· omega); (· omega); intro _) | (apply L_makeV rfl rfl rfl rfl rfl rfl; (· omega); (· omega); intro _)) | (apply gMm; refine L_mkmap rfl rfl rfl rfl (fun _ => ?_)) | refine kV ?_ | (apply L_val rfl rfl rfl; (· first | (apply gBin; first | fail ) | fail | exact v_build4 rfl rfl rfl rfl rfl rfl rfl rfl rfl)) | ((fail_if_success (refine L_known rfl ?_)); refine yW (fun h => ?_) fun h => ?_)) | (apply gW; first | refine W_seq ?_ | refine W_region ?_ | refine W_ret ?_ | refine W_skip ?_ | refine W_cond1 rfl ?_ | refine W_cond0 rfl ?_ | refine cW (fun h => ?_) fun h => ?_ | refine wQ ?_) | (first | refine seqR.normal ?_ | refine seqR.ret ?_ | refine midA.ret ?_ | refine midA.exit ?_) | (apply gQ; first | refine Q_nil ?_ | refine Q_skip rfl rfl rfl ?_ | refine kQ ?_ | (apply Q_val rfl rfl rfl; (· first | (apply gBin; first | fail ) | fail | exact v_build4 rfl rfl rfl rfl rfl rfl rfl rfl rfl)) | ((fail_if_success (refine Q_known rfl ?_)); refine zW (fun h => ?_) fun h => ?_)) | fail)
  all_goals (try (
    refine retR.ret _ _ (ret1 rfl rfl) cv_ ⟨?_, rfl⟩
    exact congrArg Value.bool (ok_f fun c => by
      have c1 := num1_of (ok_parts c).1
      unfold Ar.num1P at c1
      omega)))
  rename_i ba _ _ _ _ _
  have hn1 : Ar.num1P A := ⟨by assumption, by assumption, by assumption, by assumption, by assumption, by omega⟩
  obtain ⟨f1, f2, f3, f4, f5, f6, f7, f8, f9, f10, f11⟩ := num1F hn1
  have hz : A.zeros.length = A.ws.length := by simp [Ar.zeros]
  repeat' (fail_if_success apply gAt 4); (first | ((first | (apply gCall; apply L_call rfl rfl rfl rfl rfl) | (apply gQC; apply Q_call rfl rfl rfl rfl rfl)); (· first | exact within_c _ _ _ | exact begin_c at_ om om | exact end_c at_ om om | exact other_c at_ om | exact left_c at_ om om (by assumption) om om); try rintro _ _ ⟨rfl, rfl⟩) | (apply gL; first | refine L_nil ?_ | refine yS ?_ | refine yX fun _ => ?_ | (apply gMk; first | (apply L_mkcap rfl rfl rfl rfl rfl rfl; (· omega); (· omega); (· omega); intro _ _) | (apply L_makeI rfl rfl rfl rfl rfl rfl; (· omega); (· omega); intro _) | (apply L_makeB rfl rfl rfl rfl rfl rfl; (· omega); (· omega); intro _) | (apply L_makeV rfl rfl rfl rfl rfl rfl; (· omega); (· omega); intro _)) | (apply gMm; refine L_mkmap rfl rfl rfl rfl (fun _ => ?_)) | refine kV ?_ | (apply L_val rfl rfl rfl; (· first | (apply gBin; first | fail ) | fail | exact v_build4 rfl rfl rfl rfl rfl rfl rfl rfl rfl)) | ((fail_if_success (refine L_known rfl ?_)); refine yW (fun h => ?_) fun h => ?_)) | (apply gW; first | refine W_seq ?_ | refine W_region ?_ | refine W_ret ?_ | refine W_skip ?_ | refine W_cond1 rfl ?_ | refine W_cond0 rfl ?_ | refine cW (fun h => ?_) fun h => ?_ | refine wQ ?_) | (first | refine seqR.normal ?_ | refine seqR.ret ?_ | refine midA.ret ?_ | refine midA.exit ?_) | (apply gQ; first | refine Q_nil ?_ | refine Q_skip rfl rfl rfl ?_ | refine kQ ?_ | (apply Q_val rfl rfl rfl; (· first | (apply gBin; first | fail ) | fail | exact v_build4 rfl rfl rfl rfl rfl rfl rfl rfl rfl)) | ((fail_if_success (refine Q_known rfl ?_)); refine zW (fun h => ?_) fun h => ?_)) | fail)
  rename_i bi bs bb bv
  refine W_midA (α := List Int × List Int) (fun _ => [(1, .pointer (some ⟨ba, 0, none⟩)), (3, .pointer (some ⟨bv, 0, none⟩))]) (fun y => (bb, sObj []) :: (bs, sObj y.2) :: (bi, uObj y.1) :: (bv, svObj ba bi A.ws.length bs bb) :: (ba, aObj C A) :: H) (fun y => A.hd1 (A.ws.length + 1) (A.start A.to) A.zeros [] = some (y.1, y.2)) ?_ ?_
  · refine W_seq ?_
    apply W_regionA (D := (ba, aObj C A) :: H) (by kernel_rfl)
    first | refine kA 0 ?_ | (apply A_val 0 rfl (by kernel_rfl) rfl rfl rfl cv_; (· first | (apply gBin; first | fail ) | fail | exact v_build4 rfl rfl rfl rfl rfl rfl rfl rfl rfl))
    first | refine kA 1 ?_ | (apply A_val 1 rfl (by kernel_rfl) rfl rfl rfl cv_; (· first | (apply gBin; first | fail ) | fail | exact v_build4 rfl rfl rfl rfl rfl rfl rfl rfl rfl))
    first | refine kA 2 ?_ | (apply A_val 2 rfl (by kernel_rfl) rfl rfl rfl cv_; (· first | (apply gBin; first | fail ) | fail | exact v_build4 rfl rfl rfl rfl rfl rfl rfl rfl rfl))
    first | refine kA 4 ?_ | (apply A_val 4 rfl (by kernel_rfl) rfl rfl rfl cv_; (· first | (apply gBin; first | fail ) | fail | exact v_build4 rfl rfl rfl rfl rfl rfl rfl rfl rfl))
    first | refine kA 5 ?_ | (apply A_val 5 rfl (by kernel_rfl) rfl rfl rfl cv_; (· first | (apply gBin; first | fail ) | fail | exact v_build4 rfl rfl rfl rfl rfl rfl rfl rfl rfl))
    refine A_one (i := 3) (by kernel_rfl) cv_ rfl (O_of_L fun S hS => ?_)
    first | (apply gCall; apply L_call rfl rfl rfl rfl rfl; (· first | exact within_c _ _ _ | exact begin_c at_ om om | exact end_c at_ om om | exact other_c at_ om | exact left_c at_ om om (by assumption) om om); rintro _ _ ⟨rfl, rfl⟩) | (apply gL; first | refine L_nil ?_ | refine yS ?_ | refine yX fun _ => ?_ | (apply gMk; first | (apply L_mkcap rfl rfl rfl rfl rfl rfl; (· omega); (· omega); (· omega); intro _ _) | (apply L_makeI rfl rfl rfl rfl rfl rfl; (· omega); (· omega); intro _) | (apply L_makeB rfl rfl rfl rfl rfl rfl; (· omega); (· omega); intro _) | (apply L_makeV rfl rfl rfl rfl rfl rfl; (· omega); (· omega); intro _)) | (apply gMm; refine L_mkmap rfl rfl rfl rfl (fun _ => ?_)) | refine kV ?_ | (apply L_val rfl rfl rfl; (· first | (apply gBin; first | fail ) | fail | exact v_build4 rfl rfl rfl rfl rfl rfl rfl rfl rfl)) | ((fail_if_success (refine L_known rfl ?_)); refine yW (fun h => ?_) fun h => ?_))
    refine L_nil (hS _ _ ?_)
    clear hS
    refine A_one (i := 6) (by kernel_rfl) cv_ rfl (O_of_L fun S hS => ?_)
    apply L_call rfl rfl rfl rfl rfl
    · exact heads1_c (m0 := A.zeros) at_ at_ hw (by omega) hz (by omega) (by omega) (by omega)
    rintro _ _ ⟨rfl, m1, ks1, rfl, hl1, hx1⟩
    refine L_nil (hS _ _ ?_)
    clear hS
    first | refine kA 7 ?_ | (apply A_val 7 rfl (by kernel_rfl) rfl rfl rfl cv_; (· first | (apply gBin; first | fail ) | fail | exact v_build4 rfl rfl rfl rfl rfl rfl rfl rfl rfl))
    refine A_nil (by kernel_rfl) cv_ ?_
    repeat' (first | ((first | (apply gCall; apply L_call rfl rfl rfl rfl rfl) | (apply gQC; apply Q_call rfl rfl rfl rfl rfl)); (· first | exact within_c _ _ _ | exact begin_c at_ om om | exact end_c at_ om om | exact other_c at_ om | exact left_c at_ om om (by assumption) om om); try rintro _ _ ⟨rfl, rfl⟩) | (apply gL; first | refine L_nil ?_ | refine yS ?_ | refine yX fun _ => ?_ | (apply gMk; first | (apply L_mkcap rfl rfl rfl rfl rfl rfl; (· omega); (· omega); (· omega); intro _ _) | (apply L_makeI rfl rfl rfl rfl rfl rfl; (· omega); (· omega); intro _) | (apply L_makeB rfl rfl rfl rfl rfl rfl; (· omega); (· omega); intro _) | (apply L_makeV rfl rfl rfl rfl rfl rfl; (· omega); (· omega); intro _)) | (apply gMm; refine L_mkmap rfl rfl rfl rfl (fun _ => ?_)) | refine kV ?_ | (apply L_val rfl rfl rfl; (· first | (apply gBin; first | fail ) | fail | exact v_build4 rfl rfl rfl rfl rfl rfl rfl rfl rfl)) | ((fail_if_success (refine L_known rfl ?_)); refine yW (fun h => ?_) fun h => ?_)) | (apply gW; first | refine W_seq ?_ | refine W_region ?_ | refine W_ret ?_ | refine W_skip ?_ | refine W_cond1 rfl ?_ | refine W_cond0 rfl ?_ | refine cW (fun h => ?_) fun h => ?_ | refine wQ ?_) | (first | refine seqR.normal ?_ | refine seqR.ret ?_ | refine midA.ret ?_ | refine midA.exit ?_) | (apply gQ; first | refine Q_nil ?_ | refine Q_skip rfl rfl rfl ?_ | refine kQ ?_ | (apply Q_val rfl rfl rfl; (· first | (apply gBin; first | fail ) | fail | exact v_build4 rfl rfl rfl rfl rfl rfl rfl rfl rfl)) | ((fail_if_success (refine Q_known rfl ?_)); refine zW (fun h => ?_) fun h => ?_)) | fail)
    · refine retR.ret _ _ (ret1 rfl rfl) cvt_ ⟨?_, rfl⟩
      exact congrArg Value.bool (ok_f fun c => by
        obtain ⟨m, ks, e⟩ := K1 c
        rw [e] at h; cases h)
    · obtain ⟨x, hx2⟩ := Option.isSome_iff_exists.1 h
      have := hx1 x hx2
      subst this
      apply midA.mk (m1, ks1)
      · exact sub_
      · exact cvt_
      · exact hx2
  rintro ⟨m1, ks1⟩ hh1
  dsimp only at hh1 ⊢
  obtain ⟨e1, e2, e3, e4, e5, e6, e7⟩ := hd1_all hn1 hh1
  refine W_midA (α := List Int × List Int) (fun _ => [(3, .pointer (some ⟨bv, 0, none⟩))]) (fun y => (bv, svObj ba bi A.ws.length bs bb) :: (bb, sObj []) :: (bs, sObj y.2) :: (bi, uObj y.1) :: (ba, aObj C A) :: H) (fun y => A.numbersP ∧ A.marks = some y.1 ∧ A.sers y.1 = true) ?_ ?_
  · by_cases hX : A.cyc = true ∧ (1 ≤ A.scan ∧ A.scan ≤ A.top) ∧ (A.scan = A.top ∨ g m1 A.scan = 1) ∧ (A.start (1 - A.to) ≤ A.old ∧ A.old ≤ (1 - A.to + 1) * A.semi)
    · obtain ⟨hcy, hX1, hX2, hX3⟩ := hX
      repeat' (fail_if_success apply gAtR 10); (first | ((first | (apply gCall; apply L_call rfl rfl rfl rfl rfl) | (apply gQC; apply Q_call rfl rfl rfl rfl rfl)); (· first | exact within_c _ _ _ | exact begin_c at_ om om | exact end_c at_ om om | exact other_c at_ om | exact left_c at_ om om (by assumption) om om); try rintro _ _ ⟨rfl, rfl⟩) | (apply gL; first | refine L_nil ?_ | refine yS ?_ | refine yX fun _ => ?_ | (apply gMk; first | (apply L_mkcap rfl rfl rfl rfl rfl rfl; (· omega); (· omega); (· omega); intro _ _) | (apply L_makeI rfl rfl rfl rfl rfl rfl; (· omega); (· omega); intro _) | (apply L_makeB rfl rfl rfl rfl rfl rfl; (· omega); (· omega); intro _) | (apply L_makeV rfl rfl rfl rfl rfl rfl; (· omega); (· omega); intro _)) | (apply gMm; refine L_mkmap rfl rfl rfl rfl (fun _ => ?_)) | refine kV ?_ | (apply L_val rfl rfl rfl; (· first | (apply gBin; first | fail ) | fail | exact v_build4 rfl rfl rfl rfl rfl rfl rfl rfl rfl)) | ((fail_if_success (refine L_known rfl ?_)); refine yW (fun h => ?_) fun h => ?_)) | (apply gW; first | refine W_seq ?_ | refine W_region ?_ | refine W_ret ?_ | refine W_skip ?_ | refine W_cond1 rfl ?_ | refine W_cond0 rfl ?_ | refine cW (fun h => ?_) fun h => ?_ | refine wQ ?_) | (first | refine seqR.normal ?_ | refine seqR.ret ?_ | refine midA.ret ?_ | refine midA.exit ?_) | (apply gQ; first | refine Q_nil ?_ | refine Q_skip rfl rfl rfl ?_ | refine kQ ?_ | (apply Q_val rfl rfl rfl; (· first | (apply gBin; first | fail ) | fail | exact v_build4 rfl rfl rfl rfl rfl rfl rfl rfl rfl)) | ((fail_if_success (refine Q_known rfl ?_)); refine zW (fun h => ?_) fun h => ?_)) | fail)
      all_goals (first
        | (exfalso
           have hf : A.cyc = false := by assumption
           rw [hcy] at hf; cases hf)
        | skip)
      refine W_seq ?_
      apply W_regionA (D := (bv, svObj ba bi A.ws.length bs bb) :: (ba, aObj C A) :: H) (by kernel_rfl)
      first | refine kA 0 ?_ | (apply A_val 0 rfl (by kernel_rfl) rfl rfl rfl cv_; (· first | (apply gBin; first | fail ) | fail | exact v_build4 rfl rfl rfl rfl rfl rfl rfl rfl rfl))
      first | refine kA 1 ?_ | (apply A_val 1 rfl (by kernel_rfl) rfl rfl rfl cv_; (· first | (apply gBin; first | fail ) | fail | exact v_build4 rfl rfl rfl rfl rfl rfl rfl rfl rfl))
      first | refine kA 2 ?_ | (apply A_val 2 rfl (by kernel_rfl) rfl rfl rfl cv_; (· first | (apply gBin; first | fail ) | fail | exact v_build4 rfl rfl rfl rfl rfl rfl rfl rfl rfl))
      first | refine kA 3 ?_ | (apply A_val 3 rfl (by kernel_rfl) rfl rfl rfl cv_; (· first | (apply gBin; first | fail ) | fail | exact v_build4 rfl rfl rfl rfl rfl rfl rfl rfl rfl))
      refine A_one (i := 4) (by kernel_rfl) cv_ rfl (O_of_L fun S hS => ?_)
      first | (apply gCall; apply L_call rfl rfl rfl rfl rfl; (· first | exact within_c _ _ _ | exact begin_c at_ om om | exact end_c at_ om om | exact other_c at_ om | exact left_c at_ om om (by assumption) om om); rintro _ _ ⟨rfl, rfl⟩) | (apply gL; first | refine L_nil ?_ | refine yS ?_ | refine yX fun _ => ?_ | (apply gMk; first | (apply L_mkcap rfl rfl rfl rfl rfl rfl; (· omega); (· omega); (· omega); intro _ _) | (apply L_makeI rfl rfl rfl rfl rfl rfl; (· omega); (· omega); intro _) | (apply L_makeB rfl rfl rfl rfl rfl rfl; (· omega); (· omega); intro _) | (apply L_makeV rfl rfl rfl rfl rfl rfl; (· omega); (· omega); intro _)) | (apply gMm; refine L_mkmap rfl rfl rfl rfl (fun _ => ?_)) | refine kV ?_ | (apply L_val rfl rfl rfl; (· first | (apply gBin; first | fail ) | fail | exact v_build4 rfl rfl rfl rfl rfl rfl rfl rfl rfl)) | ((fail_if_success (refine L_known rfl ?_)); refine yW (fun h => ?_) fun h => ?_))
      refine L_nil (hS _ _ ?_)
      clear hS
      first | refine kA 5 ?_ | (apply A_val 5 rfl (by kernel_rfl) rfl rfl rfl cv_; (· first | (apply gBin; first | fail ) | fail | exact v_build4 rfl rfl rfl rfl rfl rfl rfl rfl rfl))
      first | refine kA 6 ?_ | (apply A_val 6 rfl (by kernel_rfl) rfl rfl rfl cv_; (· first | (apply gBin; first | fail ) | fail | exact v_build4 rfl rfl rfl rfl rfl rfl rfl rfl rfl))
      refine A_know 7 rfl rfl rfl rfl (fun h => ?_) (fun h => ?_)
      · exfalso; rw [show inB A.scan 1 A.top = true from decide_eq_true hX1] at h; cases h
      first | refine kA 7 ?_ | (apply A_val 7 rfl (by kernel_rfl) rfl rfl rfl cv_; (· first | (apply gBin; first | fail ) | fail | exact v_build4 rfl rfl rfl rfl rfl rfl rfl rfl rfl))
      first | refine kA 8 ?_ | (apply A_val 8 rfl (by kernel_rfl) rfl rfl rfl cv_; (· first | (apply gBin; first | fail ) | fail | exact v_build4 rfl rfl rfl rfl rfl rfl rfl rfl rfl))
      first | refine kA 9 ?_ | (apply A_val 9 rfl (by kernel_rfl) rfl rfl rfl cv_; (· first | (apply gBin; first | fail ) | fail | exact v_build4 rfl rfl rfl rfl rfl rfl rfl rfl rfl))
      first | refine kA 10 ?_ | (apply A_val 10 rfl (by kernel_rfl) rfl rfl rfl cv_; (· first | (apply gBin; first | fail ) | fail | exact v_build4 rfl rfl rfl rfl rfl rfl rfl rfl rfl))
      first | refine kA 11 ?_ | (apply A_val 11 rfl (by kernel_rfl) rfl rfl rfl cv_; (· first | (apply gBin; first | fail ) | fail | exact v_build4 rfl rfl rfl rfl rfl rfl rfl rfl rfl))
      first | refine kA 12 ?_ | (apply A_val 12 rfl (by kernel_rfl) rfl rfl rfl cv_; (· first | (apply gBin; first | fail ) | fail | exact v_build4 rfl rfl rfl rfl rfl rfl rfl rfl rfl))
      refine A_know 13 rfl rfl rfl rfl (fun h => ?_) (fun h => ?_)
      · have h' : ¬ A.scan = A.top := by simpa using h
        have h1' : g m1 A.scan = 1 := by omega
        first | refine kA 13 ?_ | (apply A_val 13 rfl (by kernel_rfl) rfl rfl rfl cv_; (· first | (apply gBin; first | fail ) | fail | exact v_build4 rfl rfl rfl rfl rfl rfl rfl rfl rfl))
        first | refine kA 14 ?_ | (apply A_val 14 rfl (by kernel_rfl) rfl rfl rfl cv_; (· first | (apply gBin; first | fail ) | fail | exact v_build4 rfl rfl rfl rfl rfl rfl rfl rfl rfl))
        first | refine kA 15 ?_ | (apply A_val 15 rfl (by kernel_rfl) rfl rfl rfl cv_; (· first | (apply gBin; first | fail ) | fail | exact v_build4 rfl rfl rfl rfl rfl rfl rfl rfl rfl))
        first | refine kA 16 ?_ | (apply A_val 16 rfl (by kernel_rfl) rfl rfl rfl cv_; (· first | (apply gBin; first | fail ) | fail | exact v_build4 rfl rfl rfl rfl rfl rfl rfl rfl rfl))
        first | refine kA 17 ?_ | (apply A_val 17 rfl (by kernel_rfl) rfl rfl rfl cv_; (· first | (apply gBin; first | fail ) | fail | exact v_build4 rfl rfl rfl rfl rfl rfl rfl rfl rfl))
        first | refine kA 18 ?_ | (apply A_val 18 rfl (by kernel_rfl) rfl rfl rfl cv_; (· first | (apply gBin; first | fail ) | fail | exact v_build4 rfl rfl rfl rfl rfl rfl rfl rfl rfl))
        first | refine kA 19 ?_ | (apply A_val 19 rfl (by kernel_rfl) rfl rfl rfl cv_; (· first | (apply gBin; first | fail ) | fail | exact v_build4 rfl rfl rfl rfl rfl rfl rfl rfl rfl))
        refine A_one (i := 20) (by kernel_rfl) cv_ rfl (O_of_L fun S hS => ?_)
        first | (apply gCall; apply L_call rfl rfl rfl rfl rfl; (· first | exact within_c _ _ _ | exact begin_c at_ om om | exact end_c at_ om om | exact other_c at_ om | exact left_c at_ om om (by assumption) om om); rintro _ _ ⟨rfl, rfl⟩) | (apply gL; first | refine L_nil ?_ | refine yS ?_ | refine yX fun _ => ?_ | (apply gMk; first | (apply L_mkcap rfl rfl rfl rfl rfl rfl; (· omega); (· omega); (· omega); intro _ _) | (apply L_makeI rfl rfl rfl rfl rfl rfl; (· omega); (· omega); intro _) | (apply L_makeB rfl rfl rfl rfl rfl rfl; (· omega); (· omega); intro _) | (apply L_makeV rfl rfl rfl rfl rfl rfl; (· omega); (· omega); intro _)) | (apply gMm; refine L_mkmap rfl rfl rfl rfl (fun _ => ?_)) | refine kV ?_ | (apply L_val rfl rfl rfl; (· first | (apply gBin; first | fail ) | fail | exact v_build4 rfl rfl rfl rfl rfl rfl rfl rfl rfl)) | ((fail_if_success (refine L_known rfl ?_)); refine yW (fun h => ?_) fun h => ?_))
        refine L_nil (hS _ _ ?_)
        clear hS
        first | refine kA 21 ?_ | refine kS 21 ?_
        first | refine kA 22 ?_ | refine kS 22 ?_
        first | refine kA 23 ?_ | refine kS 23 ?_
        first | refine kA 24 ?_ | refine kS 24 ?_
        refine A_know 25 rfl rfl rfl rfl (fun h => ?_) (fun h => ?_)
        · exfalso; simp [h1'] at h
        refine A_norm (l' := #[true, true, true, true, true, true, true, true, true, true, true, true, true, true, true, true, true, true, true, true, true, true, true, true, true, false, false, false, false, false, false, false, false, false, false, false, false, false, false, false, false, false, false, false, false, false, false, false, false, false, false]) (by kernel_rfl) ?_
        first | refine kA 25 ?_ | (apply A_val 25 rfl (by kernel_rfl) rfl rfl rfl cv_; (· first | (apply gBin; first | fail ) | fail | exact v_build4 rfl rfl rfl rfl rfl rfl rfl rfl rfl))
        first | refine kA 26 ?_ | (apply A_val 26 rfl (by kernel_rfl) rfl rfl rfl cv_; (· first | (apply gBin; first | fail ) | fail | exact v_build4 rfl rfl rfl rfl rfl rfl rfl rfl rfl))
        first | refine kA 27 ?_ | (apply A_val 27 rfl (by kernel_rfl) rfl rfl rfl cv_; (· first | (apply gBin; first | fail ) | fail | exact v_build4 rfl rfl rfl rfl rfl rfl rfl rfl rfl))
        refine A_one (i := 28) (by kernel_rfl) cv_ rfl (O_of_L fun S hS => ?_)
        first | (apply gCall; apply L_call rfl rfl rfl rfl rfl; (· first | exact within_c _ _ _ | exact begin_c at_ om om | exact end_c at_ om om | exact other_c at_ om | exact left_c at_ om om (by assumption) om om); rintro _ _ ⟨rfl, rfl⟩) | (apply gL; first | refine L_nil ?_ | refine yS ?_ | refine yX fun _ => ?_ | (apply gMk; first | (apply L_mkcap rfl rfl rfl rfl rfl rfl; (· omega); (· omega); (· omega); intro _ _) | (apply L_makeI rfl rfl rfl rfl rfl rfl; (· omega); (· omega); intro _) | (apply L_makeB rfl rfl rfl rfl rfl rfl; (· omega); (· omega); intro _) | (apply L_makeV rfl rfl rfl rfl rfl rfl; (· omega); (· omega); intro _)) | (apply gMm; refine L_mkmap rfl rfl rfl rfl (fun _ => ?_)) | refine kV ?_ | (apply L_val rfl rfl rfl; (· first | (apply gBin; first | fail ) | fail | exact v_build4 rfl rfl rfl rfl rfl rfl rfl rfl rfl)) | ((fail_if_success (refine L_known rfl ?_)); refine yW (fun h => ?_) fun h => ?_))
        refine L_nil (hS _ _ ?_)
        clear hS
        refine A_one (i := 29) (by kernel_rfl) cv_ rfl (O_of_L fun S hS => ?_)
        first | (apply gCall; apply L_call rfl rfl rfl rfl rfl; (· first | exact within_c _ _ _ | exact begin_c at_ om om | exact end_c at_ om om | exact other_c at_ om | exact left_c at_ om om (by assumption) om om); rintro _ _ ⟨rfl, rfl⟩) | (apply gL; first | refine L_nil ?_ | refine yS ?_ | refine yX fun _ => ?_ | (apply gMk; first | (apply L_mkcap rfl rfl rfl rfl rfl rfl; (· omega); (· omega); (· omega); intro _ _) | (apply L_makeI rfl rfl rfl rfl rfl rfl; (· omega); (· omega); intro _) | (apply L_makeB rfl rfl rfl rfl rfl rfl; (· omega); (· omega); intro _) | (apply L_makeV rfl rfl rfl rfl rfl rfl; (· omega); (· omega); intro _)) | (apply gMm; refine L_mkmap rfl rfl rfl rfl (fun _ => ?_)) | refine kV ?_ | (apply L_val rfl rfl rfl; (· first | (apply gBin; first | fail ) | fail | exact v_build4 rfl rfl rfl rfl rfl rfl rfl rfl rfl)) | ((fail_if_success (refine L_known rfl ?_)); refine yW (fun h => ?_) fun h => ?_))
        refine L_nil (hS _ _ ?_)
        clear hS
        refine A_one (i := 30) (by kernel_rfl) cv_ rfl (O_of_L fun S hS => ?_)
        first | (apply gCall; apply L_call rfl rfl rfl rfl rfl; (· first | exact within_c _ _ _ | exact begin_c at_ om om | exact end_c at_ om om | exact other_c at_ om | exact left_c at_ om om (by assumption) om om); rintro _ _ ⟨rfl, rfl⟩) | (apply gL; first | refine L_nil ?_ | refine yS ?_ | refine yX fun _ => ?_ | (apply gMk; first | (apply L_mkcap rfl rfl rfl rfl rfl rfl; (· omega); (· omega); (· omega); intro _ _) | (apply L_makeI rfl rfl rfl rfl rfl rfl; (· omega); (· omega); intro _) | (apply L_makeB rfl rfl rfl rfl rfl rfl; (· omega); (· omega); intro _) | (apply L_makeV rfl rfl rfl rfl rfl rfl; (· omega); (· omega); intro _)) | (apply gMm; refine L_mkmap rfl rfl rfl rfl (fun _ => ?_)) | refine kV ?_ | (apply L_val rfl rfl rfl; (· first | (apply gBin; first | fail ) | fail | exact v_build4 rfl rfl rfl rfl rfl rfl rfl rfl rfl)) | ((fail_if_success (refine L_known rfl ?_)); refine yW (fun h => ?_) fun h => ?_))
        refine L_nil (hS _ _ ?_)
        clear hS
        first | refine kA 31 ?_ | (apply A_val 31 rfl (by kernel_rfl) rfl rfl rfl cv_; (· first | (apply gBin; first | fail ) | fail | exact v_build4 rfl rfl rfl rfl rfl rfl rfl rfl rfl))
        first | refine kA 32 ?_ | (apply A_val 32 rfl (by kernel_rfl) rfl rfl rfl cv_; (· first | (apply gBin; first | fail ) | fail | exact v_build4 rfl rfl rfl rfl rfl rfl rfl rfl rfl))
        first | refine kA 33 ?_ | (apply A_val 33 rfl (by kernel_rfl) rfl rfl rfl cv_; (· first | (apply gBin; first | fail ) | fail | exact v_build4 rfl rfl rfl rfl rfl rfl rfl rfl rfl))
        refine A_know 34 rfl rfl rfl rfl (fun h => ?_) (fun h => ?_)
        · exfalso; rw [show inB A.old (A.start (1 - A.to)) ((1 - A.to + 1) * A.semi) = true from decide_eq_true hX3] at h; cases h
        first | refine kA 34 ?_ | (apply A_val 34 rfl (by kernel_rfl) rfl rfl rfl cv_; (· first | (apply gBin; first | fail ) | fail | exact v_build4 rfl rfl rfl rfl rfl rfl rfl rfl rfl))
        first | refine kA 35 ?_ | (apply A_val 35 rfl (by kernel_rfl) rfl rfl rfl cv_; (· first | (apply gBin; first | fail ) | fail | exact v_build4 rfl rfl rfl rfl rfl rfl rfl rfl rfl))
        first | refine kA 36 ?_ | (apply A_val 36 rfl (by kernel_rfl) rfl rfl rfl cv_; (· first | (apply gBin; first | fail ) | fail | exact v_build4 rfl rfl rfl rfl rfl rfl rfl rfl rfl))
        first | refine kA 37 ?_ | (apply A_val 37 rfl (by kernel_rfl) rfl rfl rfl cv_; (· first | (apply gBin; first | fail ) | fail | exact v_build4 rfl rfl rfl rfl rfl rfl rfl rfl rfl))
        refine A_one (i := 38) (by kernel_rfl) cv_ rfl (O_of_L fun S hS => ?_)
        apply L_call rfl rfl rfl rfl rfl
        · exact Fn.conv (H' := (bv, svObj ba bi A.ws.length bs bb) :: (bb, sObj []) :: (bs, sObj ks1) :: (bi, uObj m1) :: (ba, aObj C A) :: H) cvt_ (heads2_c at_ at_ hw (by omega) e4 (by omega) (by omega) (by omega))
        rintro _ _ ⟨rfl, m2, ks2, rfl, hl2, hx2⟩
        refine L_nil (hS _ _ ?_)
        clear hS
        refine A_norm (l' := #[true, true, true, true, true, true, true, true, true, true, true, true, true, true, true, true, true, true, true, true, true, true, true, true, true, true, true, true, true, true, true, true, true, true, true, true, true, true, true, false, false, false, false, false, false, false, false, false, false, false, false]) (by kernel_rfl) ?_
        refine kAt 39 ?_
        refine kAt 40 ?_
        refine kAt 41 ?_
        refine A_know 42 rfl rfl rfl rfl (fun h => ?_) (fun h => ?_)
        · have hno : A.ok = true → False := fun c => by
            obtain ⟨_, _, _, ⟨m2', ks2', e8⟩, _⟩ := K4 c hcy hh1
            rw [e8] at h; simp [sumOk] at h
          first | refine kAt 42 ?_ | refine kS 42 ?_
          first | refine kAt 43 ?_ | refine kS 43 ?_
          first | refine kAt 44 ?_ | refine kS 44 ?_
          first | refine kAt 45 ?_ | refine kS 45 ?_
          first | refine kAt 46 ?_ | refine kS 46 ?_
          first | refine kAt 47 ?_ | refine kS 47 ?_
          first | refine kAt 48 ?_ | refine kS 48 ?_
          first | refine kAt 49 ?_ | refine kS 49 ?_
          first | refine kAt 50 ?_ | refine kS 50 ?_
          refine A_nil (by kernel_rfl) cvt_ ?_
          repeat' (first | ((first | (apply gCall; apply L_call rfl rfl rfl rfl rfl) | (apply gQC; apply Q_call rfl rfl rfl rfl rfl)); (· first | exact within_c _ _ _ | exact begin_c at_ om om | exact end_c at_ om om | exact other_c at_ om | exact left_c at_ om om (by assumption) om om); try rintro _ _ ⟨rfl, rfl⟩) | (apply gL; first | refine L_nil ?_ | refine yS ?_ | refine yX fun _ => ?_ | (apply gMk; first | (apply L_mkcap rfl rfl rfl rfl rfl rfl; (· omega); (· omega); (· omega); intro _ _) | (apply L_makeI rfl rfl rfl rfl rfl rfl; (· omega); (· omega); intro _) | (apply L_makeB rfl rfl rfl rfl rfl rfl; (· omega); (· omega); intro _) | (apply L_makeV rfl rfl rfl rfl rfl rfl; (· omega); (· omega); intro _)) | (apply gMm; refine L_mkmap rfl rfl rfl rfl (fun _ => ?_)) | refine kV ?_ | (apply L_val rfl rfl rfl; (· first | (apply gBin; first | fail ) | fail | exact v_build4 rfl rfl rfl rfl rfl rfl rfl rfl rfl)) | ((fail_if_success (refine L_known rfl ?_)); refine yW (fun h => ?_) fun h => ?_)) | (apply gW; first | refine W_seq ?_ | refine W_region ?_ | refine W_ret ?_ | refine W_skip ?_ | refine W_cond1 rfl ?_ | refine W_cond0 rfl ?_ | refine cW (fun h => ?_) fun h => ?_ | refine wQ ?_) | (first | refine seqR.normal ?_ | refine seqR.ret ?_ | refine midA.ret ?_ | refine midA.exit ?_) | (apply gQ; first | refine Q_nil ?_ | refine Q_skip rfl rfl rfl ?_ | refine kQ ?_ | (apply Q_val rfl rfl rfl; (· first | (apply gBin; first | fail ) | fail | exact v_build4 rfl rfl rfl rfl rfl rfl rfl rfl rfl)) | ((fail_if_success (refine Q_known rfl ?_)); refine zW (fun h => ?_) fun h => ?_)) | fail)
          exact retR.ret _ _ (ret1 rfl rfl) cvt_ ⟨congrArg Value.bool (ok_f hno), rfl⟩
        · obtain ⟨x, hxe, hxs⟩ : ∃ x, A.hd2 (A.ws.length + 1) (A.start (1 - A.to)) m1 ks1 [] 0 = some x ∧ x.2.2 = A.copied := by
            cases e8 : A.hd2 (A.ws.length + 1) (A.start (1 - A.to)) m1 ks1 [] 0 with
            | none => rw [e8] at h; simp [sumOk] at h
            | some x => rw [e8] at h; exact ⟨x, rfl, by simpa [sumOk] using h⟩
          have hsum := hd2_sum _ _ _ _ _ _ _ hX3.1 hxe
          obtain ⟨e8, e9⟩ := hx2 x hxe
          refine kAt 42 ?_
          refine kAt 43 ?_
          refine kAt 46 ?_
          refine kAt 47 ?_
          refine A_one (i := 44) (by kernel_rfl) cvt_ rfl (O_of_L fun S hS => ?_)
          first | (apply gCall; apply L_call rfl rfl rfl rfl rfl; (· first | exact within_c _ _ _ | exact begin_c at_ om om | exact end_c at_ om om | exact other_c at_ om | exact left_c at_ om om (by assumption) om om); rintro _ _ ⟨rfl, rfl⟩) | (apply gL; first | refine L_nil ?_ | refine yS ?_ | refine yX fun _ => ?_ | (apply gMk; first | (apply L_mkcap rfl rfl rfl rfl rfl rfl; (· omega); (· omega); (· omega); intro _ _) | (apply L_makeI rfl rfl rfl rfl rfl rfl; (· omega); (· omega); intro _) | (apply L_makeB rfl rfl rfl rfl rfl rfl; (· omega); (· omega); intro _) | (apply L_makeV rfl rfl rfl rfl rfl rfl; (· omega); (· omega); intro _)) | (apply gMm; refine L_mkmap rfl rfl rfl rfl (fun _ => ?_)) | refine kV ?_ | (apply L_val rfl rfl rfl; (· first | (apply gBin; first | fail ) | fail | exact v_build4 rfl rfl rfl rfl rfl rfl rfl rfl rfl)) | ((fail_if_success (refine L_known rfl ?_)); refine yW (fun h => ?_) fun h => ?_))
          refine L_nil (hS _ _ ?_)
          clear hS
          refine kAt 45 ?_
          refine A_one (i := 48) (by kernel_rfl) cvt_ rfl (O_of_L fun S hS => ?_)
          first | (apply gCall; apply L_call rfl rfl rfl rfl rfl; (· first | exact within_c _ _ _ | exact begin_c at_ om om | exact end_c at_ om om | exact other_c at_ om | exact left_c at_ om om (by assumption) om om); rintro _ _ ⟨rfl, rfl⟩) | (apply gL; first | refine L_nil ?_ | refine yS ?_ | refine yX fun _ => ?_ | (apply gMk; first | (apply L_mkcap rfl rfl rfl rfl rfl rfl; (· omega); (· omega); (· omega); intro _ _) | (apply L_makeI rfl rfl rfl rfl rfl rfl; (· omega); (· omega); intro _) | (apply L_makeB rfl rfl rfl rfl rfl rfl; (· omega); (· omega); intro _) | (apply L_makeV rfl rfl rfl rfl rfl rfl; (· omega); (· omega); intro _)) | (apply gMm; refine L_mkmap rfl rfl rfl rfl (fun _ => ?_)) | refine kV ?_ | (apply L_val rfl rfl rfl; (· first | (apply gBin; first | fail ) | fail | exact v_build4 rfl rfl rfl rfl rfl rfl rfl rfl rfl)) | ((fail_if_success (refine L_known rfl ?_)); refine yW (fun h => ?_) fun h => ?_))
          refine L_nil (hS _ _ ?_)
          clear hS
          refine kAt 49 ?_
          refine kAt 50 ?_
          refine A_nil (by kernel_rfl) cvt_ ?_
          repeat' (first | ((first | (apply gCall; apply L_call rfl rfl rfl rfl rfl) | (apply gQC; apply Q_call rfl rfl rfl rfl rfl)); (· first | exact within_c _ _ _ | exact begin_c at_ om om | exact end_c at_ om om | exact other_c at_ om | exact left_c at_ om om (by assumption) om om); try rintro _ _ ⟨rfl, rfl⟩) | (apply gL; first | refine L_nil ?_ | refine yS ?_ | refine yX fun _ => ?_ | (apply gMk; first | (apply L_mkcap rfl rfl rfl rfl rfl rfl; (· omega); (· omega); (· omega); intro _ _) | (apply L_makeI rfl rfl rfl rfl rfl rfl; (· omega); (· omega); intro _) | (apply L_makeB rfl rfl rfl rfl rfl rfl; (· omega); (· omega); intro _) | (apply L_makeV rfl rfl rfl rfl rfl rfl; (· omega); (· omega); intro _)) | (apply gMm; refine L_mkmap rfl rfl rfl rfl (fun _ => ?_)) | refine kV ?_ | (apply L_val rfl rfl rfl; (· first | (apply gBin; first | fail ) | fail | exact v_build4 rfl rfl rfl rfl rfl rfl rfl rfl rfl)) | ((fail_if_success (refine L_known rfl ?_)); refine yW (fun h => ?_) fun h => ?_)) | (apply gW; first | refine W_seq ?_ | refine W_region ?_ | refine W_ret ?_ | refine W_skip ?_ | refine W_cond1 rfl ?_ | refine W_cond0 rfl ?_ | refine cW (fun h => ?_) fun h => ?_ | refine wQ ?_) | (first | refine seqR.normal ?_ | refine seqR.ret ?_ | refine midA.ret ?_ | refine midA.exit ?_) | (apply gQ; first | refine Q_nil ?_ | refine Q_skip rfl rfl rfl ?_ | refine kQ ?_ | (apply Q_val rfl rfl rfl; (· first | (apply gBin; first | fail ) | fail | exact v_build4 rfl rfl rfl rfl rfl rfl rfl rfl rfl)) | ((fail_if_success (refine Q_known rfl ?_)); refine zW (fun h => ?_) fun h => ?_)) | fail)
          · refine retR.ret _ _ (ret1 rfl rfl) cvt_ ⟨?_, rfl⟩
            exact congrArg Value.bool (ok_f fun c => by have c2 := K4 c hcy hh1; omega)
          · have hk := K3 (m2 := m2) (ks2 := ks2) hn1 hcy hh1 hX1.1 hX1.2 hX2 hX3.1 hX3.2 (by rw [hxe, ← e8, ← e9, ← hxs]) (by omega)
            apply midA.mk (m2, ks2)
            · exact sub_
            · exact cvt_
            · exact hk
      · have h0' : True := trivial
        first | refine kA 13 ?_ | refine kS 13 ?_
        first | refine kA 14 ?_ | refine kS 14 ?_
        first | refine kA 15 ?_ | refine kS 15 ?_
        first | refine kA 16 ?_ | refine kS 16 ?_
        first | refine kA 17 ?_ | refine kS 17 ?_
        first | refine kA 18 ?_ | refine kS 18 ?_
        first | refine kA 19 ?_ | refine kS 19 ?_
        first | refine kA 20 ?_ | refine kS 20 ?_
        first | refine kA 21 ?_ | refine kS 21 ?_
        first | refine kA 22 ?_ | refine kS 22 ?_
        first | refine kA 23 ?_ | refine kS 23 ?_
        first | refine kA 24 ?_ | refine kS 24 ?_
        refine A_norm (l' := #[true, true, true, true, true, true, true, true, true, true, true, true, true, true, true, true, true, true, true, true, true, true, true, true, true, false, false, false, false, false, false, false, false, false, false, false, false, false, false, false, false, false, false, false, false, false, false, false, false, false, false]) (by kernel_rfl) ?_
        first | refine kA 25 ?_ | (apply A_val 25 rfl (by kernel_rfl) rfl rfl rfl cv_; (· first | (apply gBin; first | fail ) | fail | exact v_build4 rfl rfl rfl rfl rfl rfl rfl rfl rfl))
        first | refine kA 26 ?_ | (apply A_val 26 rfl (by kernel_rfl) rfl rfl rfl cv_; (· first | (apply gBin; first | fail ) | fail | exact v_build4 rfl rfl rfl rfl rfl rfl rfl rfl rfl))
        first | refine kA 27 ?_ | (apply A_val 27 rfl (by kernel_rfl) rfl rfl rfl cv_; (· first | (apply gBin; first | fail ) | fail | exact v_build4 rfl rfl rfl rfl rfl rfl rfl rfl rfl))
        refine A_one (i := 28) (by kernel_rfl) cv_ rfl (O_of_L fun S hS => ?_)
        first | (apply gCall; apply L_call rfl rfl rfl rfl rfl; (· first | exact within_c _ _ _ | exact begin_c at_ om om | exact end_c at_ om om | exact other_c at_ om | exact left_c at_ om om (by assumption) om om); rintro _ _ ⟨rfl, rfl⟩) | (apply gL; first | refine L_nil ?_ | refine yS ?_ | refine yX fun _ => ?_ | (apply gMk; first | (apply L_mkcap rfl rfl rfl rfl rfl rfl; (· omega); (· omega); (· omega); intro _ _) | (apply L_makeI rfl rfl rfl rfl rfl rfl; (· omega); (· omega); intro _) | (apply L_makeB rfl rfl rfl rfl rfl rfl; (· omega); (· omega); intro _) | (apply L_makeV rfl rfl rfl rfl rfl rfl; (· omega); (· omega); intro _)) | (apply gMm; refine L_mkmap rfl rfl rfl rfl (fun _ => ?_)) | refine kV ?_ | (apply L_val rfl rfl rfl; (· first | (apply gBin; first | fail ) | fail | exact v_build4 rfl rfl rfl rfl rfl rfl rfl rfl rfl)) | ((fail_if_success (refine L_known rfl ?_)); refine yW (fun h => ?_) fun h => ?_))
        refine L_nil (hS _ _ ?_)
        clear hS
        refine A_one (i := 29) (by kernel_rfl) cv_ rfl (O_of_L fun S hS => ?_)
        first | (apply gCall; apply L_call rfl rfl rfl rfl rfl; (· first | exact within_c _ _ _ | exact begin_c at_ om om | exact end_c at_ om om | exact other_c at_ om | exact left_c at_ om om (by assumption) om om); rintro _ _ ⟨rfl, rfl⟩) | (apply gL; first | refine L_nil ?_ | refine yS ?_ | refine yX fun _ => ?_ | (apply gMk; first | (apply L_mkcap rfl rfl rfl rfl rfl rfl; (· omega); (· omega); (· omega); intro _ _) | (apply L_makeI rfl rfl rfl rfl rfl rfl; (· omega); (· omega); intro _) | (apply L_makeB rfl rfl rfl rfl rfl rfl; (· omega); (· omega); intro _) | (apply L_makeV rfl rfl rfl rfl rfl rfl; (· omega); (· omega); intro _)) | (apply gMm; refine L_mkmap rfl rfl rfl rfl (fun _ => ?_)) | refine kV ?_ | (apply L_val rfl rfl rfl; (· first | (apply gBin; first | fail ) | fail | exact v_build4 rfl rfl rfl rfl rfl rfl rfl rfl rfl)) | ((fail_if_success (refine L_known rfl ?_)); refine yW (fun h => ?_) fun h => ?_))
        refine L_nil (hS _ _ ?_)
        clear hS
        refine A_one (i := 30) (by kernel_rfl) cv_ rfl (O_of_L fun S hS => ?_)
        first | (apply gCall; apply L_call rfl rfl rfl rfl rfl; (· first | exact within_c _ _ _ | exact begin_c at_ om om | exact end_c at_ om om | exact other_c at_ om | exact left_c at_ om om (by assumption) om om); rintro _ _ ⟨rfl, rfl⟩) | (apply gL; first | refine L_nil ?_ | refine yS ?_ | refine yX fun _ => ?_ | (apply gMk; first | (apply L_mkcap rfl rfl rfl rfl rfl rfl; (· omega); (· omega); (· omega); intro _ _) | (apply L_makeI rfl rfl rfl rfl rfl rfl; (· omega); (· omega); intro _) | (apply L_makeB rfl rfl rfl rfl rfl rfl; (· omega); (· omega); intro _) | (apply L_makeV rfl rfl rfl rfl rfl rfl; (· omega); (· omega); intro _)) | (apply gMm; refine L_mkmap rfl rfl rfl rfl (fun _ => ?_)) | refine kV ?_ | (apply L_val rfl rfl rfl; (· first | (apply gBin; first | fail ) | fail | exact v_build4 rfl rfl rfl rfl rfl rfl rfl rfl rfl)) | ((fail_if_success (refine L_known rfl ?_)); refine yW (fun h => ?_) fun h => ?_))
        refine L_nil (hS _ _ ?_)
        clear hS
        first | refine kA 31 ?_ | (apply A_val 31 rfl (by kernel_rfl) rfl rfl rfl cv_; (· first | (apply gBin; first | fail ) | fail | exact v_build4 rfl rfl rfl rfl rfl rfl rfl rfl rfl))
        first | refine kA 32 ?_ | (apply A_val 32 rfl (by kernel_rfl) rfl rfl rfl cv_; (· first | (apply gBin; first | fail ) | fail | exact v_build4 rfl rfl rfl rfl rfl rfl rfl rfl rfl))
        first | refine kA 33 ?_ | (apply A_val 33 rfl (by kernel_rfl) rfl rfl rfl cv_; (· first | (apply gBin; first | fail ) | fail | exact v_build4 rfl rfl rfl rfl rfl rfl rfl rfl rfl))
        refine A_know 34 rfl rfl rfl rfl (fun h => ?_) (fun h => ?_)
        · exfalso; rw [show inB A.old (A.start (1 - A.to)) ((1 - A.to + 1) * A.semi) = true from decide_eq_true hX3] at h; cases h
        first | refine kA 34 ?_ | (apply A_val 34 rfl (by kernel_rfl) rfl rfl rfl cv_; (· first | (apply gBin; first | fail ) | fail | exact v_build4 rfl rfl rfl rfl rfl rfl rfl rfl rfl))
        first | refine kA 35 ?_ | (apply A_val 35 rfl (by kernel_rfl) rfl rfl rfl cv_; (· first | (apply gBin; first | fail ) | fail | exact v_build4 rfl rfl rfl rfl rfl rfl rfl rfl rfl))
        first | refine kA 36 ?_ | (apply A_val 36 rfl (by kernel_rfl) rfl rfl rfl cv_; (· first | (apply gBin; first | fail ) | fail | exact v_build4 rfl rfl rfl rfl rfl rfl rfl rfl rfl))
        first | refine kA 37 ?_ | (apply A_val 37 rfl (by kernel_rfl) rfl rfl rfl cv_; (· first | (apply gBin; first | fail ) | fail | exact v_build4 rfl rfl rfl rfl rfl rfl rfl rfl rfl))
        refine A_one (i := 38) (by kernel_rfl) cv_ rfl (O_of_L fun S hS => ?_)
        apply L_call rfl rfl rfl rfl rfl
        · exact Fn.conv (H' := (bv, svObj ba bi A.ws.length bs bb) :: (bb, sObj []) :: (bs, sObj ks1) :: (bi, uObj m1) :: (ba, aObj C A) :: H) cvt_ (heads2_c at_ at_ hw (by omega) e4 (by omega) (by omega) (by omega))
        rintro _ _ ⟨rfl, m2, ks2, rfl, hl2, hx2⟩
        refine L_nil (hS _ _ ?_)
        clear hS
        refine A_norm (l' := #[true, true, true, true, true, true, true, true, true, true, true, true, true, true, true, true, true, true, true, true, true, true, true, true, true, true, true, true, true, true, true, true, true, true, true, true, true, true, true, false, false, false, false, false, false, false, false, false, false, false, false]) (by kernel_rfl) ?_
        refine kAt 39 ?_
        refine kAt 40 ?_
        refine kAt 41 ?_
        refine A_know 42 rfl rfl rfl rfl (fun h => ?_) (fun h => ?_)
        · have hno : A.ok = true → False := fun c => by
            obtain ⟨_, _, _, ⟨m2', ks2', e8⟩, _⟩ := K4 c hcy hh1
            rw [e8] at h; simp [sumOk] at h
          first | refine kAt 42 ?_ | refine kS 42 ?_
          first | refine kAt 43 ?_ | refine kS 43 ?_
          first | refine kAt 44 ?_ | refine kS 44 ?_
          first | refine kAt 45 ?_ | refine kS 45 ?_
          first | refine kAt 46 ?_ | refine kS 46 ?_
          first | refine kAt 47 ?_ | refine kS 47 ?_
          first | refine kAt 48 ?_ | refine kS 48 ?_
          first | refine kAt 49 ?_ | refine kS 49 ?_
          first | refine kAt 50 ?_ | refine kS 50 ?_
          refine A_nil (by kernel_rfl) cvt_ ?_
          repeat' (first | ((first | (apply gCall; apply L_call rfl rfl rfl rfl rfl) | (apply gQC; apply Q_call rfl rfl rfl rfl rfl)); (· first | exact within_c _ _ _ | exact begin_c at_ om om | exact end_c at_ om om | exact other_c at_ om | exact left_c at_ om om (by assumption) om om); try rintro _ _ ⟨rfl, rfl⟩) | (apply gL; first | refine L_nil ?_ | refine yS ?_ | refine yX fun _ => ?_ | (apply gMk; first | (apply L_mkcap rfl rfl rfl rfl rfl rfl; (· omega); (· omega); (· omega); intro _ _) | (apply L_makeI rfl rfl rfl rfl rfl rfl; (· omega); (· omega); intro _) | (apply L_makeB rfl rfl rfl rfl rfl rfl; (· omega); (· omega); intro _) | (apply L_makeV rfl rfl rfl rfl rfl rfl; (· omega); (· omega); intro _)) | (apply gMm; refine L_mkmap rfl rfl rfl rfl (fun _ => ?_)) | refine kV ?_ | (apply L_val rfl rfl rfl; (· first | (apply gBin; first | fail ) | fail | exact v_build4 rfl rfl rfl rfl rfl rfl rfl rfl rfl)) | ((fail_if_success (refine L_known rfl ?_)); refine yW (fun h => ?_) fun h => ?_)) | (apply gW; first | refine W_seq ?_ | refine W_region ?_ | refine W_ret ?_ | refine W_skip ?_ | refine W_cond1 rfl ?_ | refine W_cond0 rfl ?_ | refine cW (fun h => ?_) fun h => ?_ | refine wQ ?_) | (first | refine seqR.normal ?_ | refine seqR.ret ?_ | refine midA.ret ?_ | refine midA.exit ?_) | (apply gQ; first | refine Q_nil ?_ | refine Q_skip rfl rfl rfl ?_ | refine kQ ?_ | (apply Q_val rfl rfl rfl; (· first | (apply gBin; first | fail ) | fail | exact v_build4 rfl rfl rfl rfl rfl rfl rfl rfl rfl)) | ((fail_if_success (refine Q_known rfl ?_)); refine zW (fun h => ?_) fun h => ?_)) | fail)
          exact retR.ret _ _ (ret1 rfl rfl) cvt_ ⟨congrArg Value.bool (ok_f hno), rfl⟩
        · obtain ⟨x, hxe, hxs⟩ : ∃ x, A.hd2 (A.ws.length + 1) (A.start (1 - A.to)) m1 ks1 [] 0 = some x ∧ x.2.2 = A.copied := by
            cases e8 : A.hd2 (A.ws.length + 1) (A.start (1 - A.to)) m1 ks1 [] 0 with
            | none => rw [e8] at h; simp [sumOk] at h
            | some x => rw [e8] at h; exact ⟨x, rfl, by simpa [sumOk] using h⟩
          have hsum := hd2_sum _ _ _ _ _ _ _ hX3.1 hxe
          obtain ⟨e8, e9⟩ := hx2 x hxe
          refine kAt 42 ?_
          refine kAt 43 ?_
          refine kAt 46 ?_
          refine kAt 47 ?_
          refine A_one (i := 44) (by kernel_rfl) cvt_ rfl (O_of_L fun S hS => ?_)
          first | (apply gCall; apply L_call rfl rfl rfl rfl rfl; (· first | exact within_c _ _ _ | exact begin_c at_ om om | exact end_c at_ om om | exact other_c at_ om | exact left_c at_ om om (by assumption) om om); rintro _ _ ⟨rfl, rfl⟩) | (apply gL; first | refine L_nil ?_ | refine yS ?_ | refine yX fun _ => ?_ | (apply gMk; first | (apply L_mkcap rfl rfl rfl rfl rfl rfl; (· omega); (· omega); (· omega); intro _ _) | (apply L_makeI rfl rfl rfl rfl rfl rfl; (· omega); (· omega); intro _) | (apply L_makeB rfl rfl rfl rfl rfl rfl; (· omega); (· omega); intro _) | (apply L_makeV rfl rfl rfl rfl rfl rfl; (· omega); (· omega); intro _)) | (apply gMm; refine L_mkmap rfl rfl rfl rfl (fun _ => ?_)) | refine kV ?_ | (apply L_val rfl rfl rfl; (· first | (apply gBin; first | fail ) | fail | exact v_build4 rfl rfl rfl rfl rfl rfl rfl rfl rfl)) | ((fail_if_success (refine L_known rfl ?_)); refine yW (fun h => ?_) fun h => ?_))
          refine L_nil (hS _ _ ?_)
          clear hS
          refine kAt 45 ?_
          refine A_one (i := 48) (by kernel_rfl) cvt_ rfl (O_of_L fun S hS => ?_)
          first | (apply gCall; apply L_call rfl rfl rfl rfl rfl; (· first | exact within_c _ _ _ | exact begin_c at_ om om | exact end_c at_ om om | exact other_c at_ om | exact left_c at_ om om (by assumption) om om); rintro _ _ ⟨rfl, rfl⟩) | (apply gL; first | refine L_nil ?_ | refine yS ?_ | refine yX fun _ => ?_ | (apply gMk; first | (apply L_mkcap rfl rfl rfl rfl rfl rfl; (· omega); (· omega); (· omega); intro _ _) | (apply L_makeI rfl rfl rfl rfl rfl rfl; (· omega); (· omega); intro _) | (apply L_makeB rfl rfl rfl rfl rfl rfl; (· omega); (· omega); intro _) | (apply L_makeV rfl rfl rfl rfl rfl rfl; (· omega); (· omega); intro _)) | (apply gMm; refine L_mkmap rfl rfl rfl rfl (fun _ => ?_)) | refine kV ?_ | (apply L_val rfl rfl rfl; (· first | (apply gBin; first | fail ) | fail | exact v_build4 rfl rfl rfl rfl rfl rfl rfl rfl rfl)) | ((fail_if_success (refine L_known rfl ?_)); refine yW (fun h => ?_) fun h => ?_))
          refine L_nil (hS _ _ ?_)
          clear hS
          refine kAt 49 ?_
          refine kAt 50 ?_
          refine A_nil (by kernel_rfl) cvt_ ?_
          repeat' (first | ((first | (apply gCall; apply L_call rfl rfl rfl rfl rfl) | (apply gQC; apply Q_call rfl rfl rfl rfl rfl)); (· first | exact within_c _ _ _ | exact begin_c at_ om om | exact end_c at_ om om | exact other_c at_ om | exact left_c at_ om om (by assumption) om om); try rintro _ _ ⟨rfl, rfl⟩) | (apply gL; first | refine L_nil ?_ | refine yS ?_ | refine yX fun _ => ?_ | (apply gMk; first | (apply L_mkcap rfl rfl rfl rfl rfl rfl; (· omega); (· omega); (· omega); intro _ _) | (apply L_makeI rfl rfl rfl rfl rfl rfl; (· omega); (· omega); intro _) | (apply L_makeB rfl rfl rfl rfl rfl rfl; (· omega); (· omega); intro _) | (apply L_makeV rfl rfl rfl rfl rfl rfl; (· omega); (· omega); intro _)) | (apply gMm; refine L_mkmap rfl rfl rfl rfl (fun _ => ?_)) | refine kV ?_ | (apply L_val rfl rfl rfl; (· first | (apply gBin; first | fail ) | fail | exact v_build4 rfl rfl rfl rfl rfl rfl rfl rfl rfl)) | ((fail_if_success (refine L_known rfl ?_)); refine yW (fun h => ?_) fun h => ?_)) | (apply gW; first | refine W_seq ?_ | refine W_region ?_ | refine W_ret ?_ | refine W_skip ?_ | refine W_cond1 rfl ?_ | refine W_cond0 rfl ?_ | refine cW (fun h => ?_) fun h => ?_ | refine wQ ?_) | (first | refine seqR.normal ?_ | refine seqR.ret ?_ | refine midA.ret ?_ | refine midA.exit ?_) | (apply gQ; first | refine Q_nil ?_ | refine Q_skip rfl rfl rfl ?_ | refine kQ ?_ | (apply Q_val rfl rfl rfl; (· first | (apply gBin; first | fail ) | fail | exact v_build4 rfl rfl rfl rfl rfl rfl rfl rfl rfl)) | ((fail_if_success (refine Q_known rfl ?_)); refine zW (fun h => ?_) fun h => ?_)) | fail)
          · refine retR.ret _ _ (ret1 rfl rfl) cvt_ ⟨?_, rfl⟩
            exact congrArg Value.bool (ok_f fun c => by have c2 := K4 c hcy hh1; omega)
          · have hk := K3 (m2 := m2) (ks2 := ks2) hn1 hcy hh1 hX1.1 hX1.2 hX2 hX3.1 hX3.2 (by rw [hxe, ← e8, ← e9, ← hxs]) (by omega)
            apply midA.mk (m2, ks2)
            · exact sub_
            · exact cvt_
            · exact hk
    · repeat' (first | ((first | (apply gCall; apply L_call rfl rfl rfl rfl rfl) | (apply gQC; apply Q_call rfl rfl rfl rfl rfl)); (· first | exact within_c _ _ _ | exact begin_c at_ om om | exact end_c at_ om om | exact other_c at_ om | exact left_c at_ om om (by assumption) om om); try rintro _ _ ⟨rfl, rfl⟩) | (apply gL; first | refine L_nil ?_ | refine yS ?_ | refine yX fun _ => ?_ | (apply gMk; first | (apply L_mkcap rfl rfl rfl rfl rfl rfl; (· omega); (· omega); (· omega); intro _ _) | (apply L_makeI rfl rfl rfl rfl rfl rfl; (· omega); (· omega); intro _) | (apply L_makeB rfl rfl rfl rfl rfl rfl; (· omega); (· omega); intro _) | (apply L_makeV rfl rfl rfl rfl rfl rfl; (· omega); (· omega); intro _)) | (apply gMm; refine L_mkmap rfl rfl rfl rfl (fun _ => ?_)) | refine kV ?_ | (apply L_val rfl rfl rfl; (· first | (apply gBin; first | fail ) | fail | exact v_build4 rfl rfl rfl rfl rfl rfl rfl rfl rfl)) | ((fail_if_success (refine L_known rfl ?_)); refine yW (fun h => ?_) fun h => ?_)) | (apply gW; first | refine W_seq ?_ | refine W_region ?_ | refine W_ret ?_ | refine W_skip ?_ | refine W_cond1 rfl ?_ | refine W_cond0 rfl ?_ | refine cW (fun h => ?_) fun h => ?_ | refine wQ ?_) | (first | refine seqR.normal ?_ | refine seqR.ret ?_ | refine midA.ret ?_ | refine midA.exit ?_) | (apply gQ; first | refine Q_nil ?_ | refine Q_skip rfl rfl rfl ?_ | refine kQ ?_ | (apply Q_val rfl rfl rfl; (· first | (apply gBin; first | fail ) | fail | exact v_build4 rfl rfl rfl rfl rfl rfl rfl rfl rfl)) | ((fail_if_success (refine Q_known rfl ?_)); refine zW (fun h => ?_) fun h => ?_)) | fail)
      all_goals (first
        | (exfalso; exact hX ⟨by assumption, by assumption, by omega, by assumption⟩)
        | (refine retR.ret _ _ (ret1 rfl rfl) cv_ ⟨?_, rfl⟩
           exact congrArg Value.bool (ok_f fun c => by
             have c1 := (ok_parts c).1.2.2.2.2.2.2
             first
               | (have hcf : A.cyc = false := by assumption
                  rw [if_neg (by rw [hcf]; decide)] at c1; omega)
               | (have c2 := K4 c (by assumption) hh1; omega)))
        | (have hcf : A.cyc = false := by assumption
           have hn : A.numbersP := ⟨hn1.1, hn1.2.1, hn1.2.2.1, hn1.2.2.2.2.1, hn1.2.2.2.2.2, hn1.2.2.2.1, by rw [if_neg (by rw [hcf]; decide)]; exact ⟨by assumption, by assumption, by assumption⟩⟩
           have hk := K2 hn hcf hh1
           apply midA.mk (m1, ks1)
           · exact sub_
           · exact cvt_
           · exact ⟨hn, hk.1, hk.2⟩))
  rintro ⟨m, ks⟩ ⟨hn, hm, hs⟩
  dsimp only at hm hs ⊢
  have hI := MI_of hn hm
  repeat' (first | ((first | (apply gCall; apply L_call rfl rfl rfl rfl rfl) | (apply gQC; apply Q_call rfl rfl rfl rfl rfl)); (· first | exact within_c _ _ _ | exact begin_c at_ om om | exact end_c at_ om om | exact other_c at_ om | exact left_c at_ om om (by assumption) om om); try rintro _ _ ⟨rfl, rfl⟩) | (apply gL; first | refine L_nil ?_ | refine yS ?_ | refine yX fun _ => ?_ | (apply gMk; first | (apply L_mkcap rfl rfl rfl rfl rfl rfl; (· omega); (· omega); (· omega); intro _ _) | (apply L_makeI rfl rfl rfl rfl rfl rfl; (· omega); (· omega); intro _) | (apply L_makeB rfl rfl rfl rfl rfl rfl; (· omega); (· omega); intro _) | (apply L_makeV rfl rfl rfl rfl rfl rfl; (· omega); (· omega); intro _)) | (apply gMm; refine L_mkmap rfl rfl rfl rfl (fun _ => ?_)) | refine kV ?_ | (apply L_val rfl rfl rfl; (· first | (apply gBin; first | fail ) | fail | exact v_build4 rfl rfl rfl rfl rfl rfl rfl rfl rfl)) | ((fail_if_success (refine L_known rfl ?_)); refine yW (fun h => ?_) fun h => ?_)) | (apply gW; first | refine W_seq ?_ | refine W_region ?_ | refine W_ret ?_ | refine W_skip ?_ | refine W_cond1 rfl ?_ | refine W_cond0 rfl ?_ | refine cW (fun h => ?_) fun h => ?_ | refine wQ ?_) | (first | refine seqR.normal ?_ | refine seqR.ret ?_ | refine midA.ret ?_ | refine midA.exit ?_) | (apply gQ; first | refine Q_nil ?_ | refine Q_skip rfl rfl rfl ?_ | refine kQ ?_ | (apply Q_val rfl rfl rfl; (· first | (apply gBin; first | fail ) | fail | exact v_build4 rfl rfl rfl rfl rfl rfl rfl rfl rfl)) | ((fail_if_success (refine Q_known rfl ?_)); refine zW (fun h => ?_) fun h => ?_)) | fail)
  apply L_call rfl rfl rfl rfl rfl
  · exact contentOk_c (m := m) at_ at_ at_ at_ hw (by omega) hc hx f6 ⟨f7, f8⟩ (markP_of hn hm) (hof_of hI.1) (fun n h0 h1 h2 => placeP_of hn hI.1 (fun d => oldP hn (hI.2 d)) h0 h2)
  rintro _ _ ⟨rfl, kb', rfl⟩
  repeat' (first | ((first | (apply gCall; apply L_call rfl rfl rfl rfl rfl) | (apply gQC; apply Q_call rfl rfl rfl rfl rfl)); (· first | exact within_c _ _ _ | exact begin_c at_ om om | exact end_c at_ om om | exact other_c at_ om | exact left_c at_ om om (by assumption) om om); try rintro _ _ ⟨rfl, rfl⟩) | (apply gL; first | refine L_nil ?_ | refine yS ?_ | refine yX fun _ => ?_ | (apply gMk; first | (apply L_mkcap rfl rfl rfl rfl rfl rfl; (· omega); (· omega); (· omega); intro _ _) | (apply L_makeI rfl rfl rfl rfl rfl rfl; (· omega); (· omega); intro _) | (apply L_makeB rfl rfl rfl rfl rfl rfl; (· omega); (· omega); intro _) | (apply L_makeV rfl rfl rfl rfl rfl rfl; (· omega); (· omega); intro _)) | (apply gMm; refine L_mkmap rfl rfl rfl rfl (fun _ => ?_)) | refine kV ?_ | (apply L_val rfl rfl rfl; (· first | (apply gBin; first | fail ) | fail | exact v_build4 rfl rfl rfl rfl rfl rfl rfl rfl rfl)) | ((fail_if_success (refine L_known rfl ?_)); refine yW (fun h => ?_) fun h => ?_)) | (apply gW; first | refine W_seq ?_ | refine W_region ?_ | refine W_ret ?_ | refine W_skip ?_ | refine W_cond1 rfl ?_ | refine W_cond0 rfl ?_ | refine cW (fun h => ?_) fun h => ?_ | refine wQ ?_) | (first | refine seqR.normal ?_ | refine seqR.ret ?_ | refine midA.ret ?_ | refine midA.exit ?_) | (apply gQ; first | refine Q_nil ?_ | refine Q_skip rfl rfl rfl ?_ | refine kQ ?_ | (apply Q_val rfl rfl rfl; (· first | (apply gBin; first | fail ) | fail | exact v_build4 rfl rfl rfl rfl rfl rfl rfl rfl rfl)) | ((fail_if_success (refine Q_known rfl ?_)); refine zW (fun h => ?_) fun h => ?_)) | fail)
  refine retR.ret _ _ (ret1 rfl rfl) cvt_ ⟨?_, rfl⟩
  rw [ok_content hn hm hs]
end Go.Proofs.Ytfhihnonafklbaa.Eng
