/- The law of Boot returns true. -/
import Derived.Test.YtfmhlieaodbgiaaGreatLH
namespace Go.Proofs.YtfmhlieaodbgiaaGreat.Eng
open Go Go.RowKit Go.Proofs.YtfmhlieaodbgiaaGreat.Sl Go.Proofs.YtfmhlieaodbgiaaGreat.Ar Go.Proofs.YtfmhlieaodbgiaaGreat.Base
set_option linter.unusedVariables false
set_option linter.unusedSimpArgs false
set_option maxRecDepth 10000
section
variable {X Lc G M0 T : HL}
theorem sink3 : (X ++ (Lc ++ (G ++ (M0 ++ T)))).Perm (Lc ++ (G ++ (M0 ++ (X ++ T)))) := by
  refine (List.perm_append_comm_assoc X Lc _).trans (List.Perm.append_left Lc ?_)
  refine (List.perm_append_comm_assoc X G _).trans (List.Perm.append_left G ?_)
  exact List.perm_append_comm_assoc X M0 T
theorem bring2 : (Lc ++ (G ++ (M0 ++ T))).Perm (M0 ++ (Lc ++ (G ++ T))) :=
  (List.Perm.append_left Lc (List.perm_append_comm_assoc G M0 T)).trans (List.perm_append_comm_assoc Lc M0 _)
theorem back2 : (M0 ++ (Lc ++ (G ++ T))).Perm (Lc ++ (G ++ (M0 ++ T))) :=
  (List.perm_append_comm_assoc M0 Lc _).trans (List.Perm.append_left Lc (List.perm_append_comm_assoc M0 G T))
end
theorem cvNil : ∀ {H : HL}, Cv H []
  | [] => Cv.refl
  | _ :: _ => Cv.skip cvNil
variable {w0 : World}
set_option maxHeartbeats 8000000 in
theorem lawBoot_c {aP aT : Option Addr} {cP cT : Nat} {l : List (PR × IA)} {tx : List (List Int)} {s : Int} (hI : InM w0 aP aT l tx) (hby : ∀ t ∈ tx, (t.length : Int) ≤ 9223372036854775807) :
    Fn Tryz.prog w0 3 #[.agg #[.slice aP l.length cP, .slice aT tx.length cT], .int .i64 s] [] fun v H' => v = .bool true := by
  refine enter2 Tryz.func3 rfl rfl Tryz.ntmps3 rfl ?_
  repeat' (first | ((first | (apply gCall; apply L_call rfl rfl rfl rfl rfl) | (apply gQC; apply Q_call rfl rfl rfl rfl rfl)); (· first | exact eqMachine_c (M := Mb) (A := Ab) (Y := Yg) (Y' := Yw) (by (repeat (first | assumption | apply RG.there | apply RG.app))) (by (repeat (first | assumption | apply RG.there | apply RG.app))) hMb hAb hubb); try rintro _ _ ⟨rfl, rfl⟩) | (apply gL; first | refine L_nil ?_ | refine yS ?_ | refine yX fun _ => ?_ | refine yA fun _ => ?_ | (apply gSt; first | refine sR ?_ | refine sB ?_ | refine s1 ?_ | refine sW ?_ | refine sN ?_) | refine kV ?_ | (apply L_val rfl rfl rfl; (· first | (apply gBin; first | fail | exact v_nebs rfl rfl) | fail )) | ((fail_if_success (refine L_known rfl ?_)); refine yW (fun h => ?_) fun h => ?_)) | (apply gW; first | refine W_seq ?_ | refine W_region ?_ | refine W_ret ?_ | refine W_skip ?_ | refine W_cond1 rfl ?_ | refine W_cond0 rfl ?_ | refine cW (fun h => ?_) fun h => ?_ | refine wQ ?_) | (first | refine seqR.normal ?_ | refine seqR.ret ?_) | (apply gQ; first | refine Q_nil ?_ | refine Q_skip rfl rfl rfl ?_ | refine kQ ?_ | (apply Q_val rfl rfl rfl; (· first | (apply gBin; first | fail | exact v_nebs rfl rfl) | fail )) | ((fail_if_success (refine Q_known rfl ?_)); refine zW (fun h => ?_) fun h => ?_)) | fail)
  apply L_call rfl rfl rfl rfl rfl
  · exact szModule_c hI hby
  rintro _ _ ⟨⟨r, rfl, hr⟩, rfl⟩
  repeat' (first | ((first | (apply gCall; apply L_call rfl rfl rfl rfl rfl) | (apply gQC; apply Q_call rfl rfl rfl rfl rfl)); (· first | exact eqMachine_c (M := Mb) (A := Ab) (Y := Yg) (Y' := Yw) (by (repeat (first | assumption | apply RG.there | apply RG.app))) (by (repeat (first | assumption | apply RG.there | apply RG.app))) hMb hAb hubb); try rintro _ _ ⟨rfl, rfl⟩) | (apply gL; first | refine L_nil ?_ | refine yS ?_ | refine yX fun _ => ?_ | refine yA fun _ => ?_ | (apply gSt; first | refine sR ?_ | refine sB ?_ | refine s1 ?_ | refine sW ?_ | refine sN ?_) | refine kV ?_ | (apply L_val rfl rfl rfl; (· first | (apply gBin; first | fail | exact v_nebs rfl rfl) | fail )) | ((fail_if_success (refine L_known rfl ?_)); refine yW (fun h => ?_) fun h => ?_)) | (apply gW; first | refine W_seq ?_ | refine W_region ?_ | refine W_ret ?_ | refine W_skip ?_ | refine W_cond1 rfl ?_ | refine W_cond0 rfl ?_ | refine cW (fun h => ?_) fun h => ?_ | refine wQ ?_) | (first | refine seqR.normal ?_ | refine seqR.ret ?_) | (apply gQ; first | refine Q_nil ?_ | refine Q_skip rfl rfl rfl ?_ | refine kQ ?_ | (apply Q_val rfl rfl rfl; (· first | (apply gBin; first | fail | exact v_nebs rfl rfl) | fail )) | ((fail_if_success (refine Q_known rfl ?_)); refine zW (fun h => ?_) fun h => ?_)) | fail)
  · exact retR.ret _ _ (ret1 rfl rfl) cvt_ rfl
  have hnP := szP_nn (l.map Prod.fst)
  have hnT := szT_nn tx
  have hl : l.length ≤ 1048576 ∧ tx.length ≤ 1048576 := by omega
  have hsz : ∀ x ∈ l, x.1.ups.length ≤ 1048576 ∧ x.1.code.length ≤ 1048576 := fun x hx => by
    have := szP_mem (List.mem_map_of_mem (f := Prod.fst) hx)
    omega
  obtain ⟨M, hMd⟩ : ∃ M : Md, M = ⟨l.map Prod.fst, tx⟩ := ⟨_, rfl⟩
  have hMl : M.pr.length ≤ 1048576 ∧ M.tx.length ≤ 1048576 := by rw [hMd]; exact ⟨by rw [List.length_map]; exact hl.1, hl.2⟩
  have hub : ∀ q ∈ M.pr, q.ups.length ≤ 1048576 ∧ q.code.length ≤ 1048576 := fun q hq => by
    rw [hMd] at hq
    obtain ⟨x, hx, rfl⟩ := List.mem_map.1 hq
    exact hsz x hx
  have hnw : nW M.pr ≤ 4200000 := by rw [hMd]; unfold nW; dsimp only; rw [List.length_map]; omega
  have hbyM : ∀ t ∈ M.tx, Byt t := by rw [hMd]; exact hI.hb
  obtain ⟨Mb, Ab, b, hMb0, hA1, hA2, hB⟩ := boot_ex M s
  have hAb : Ab.ws.length ≤ 1048576 ∧ Ab.vs.length ≤ 1048576 := ⟨hA1, hA2⟩
  have hMb : Mb.pr.length ≤ 1048576 ∧ Mb.tx.length ≤ 1048576 := by rcases hMb0 with rfl | rfl; exact hMl; exact ⟨Nat.zero_le _, Nat.zero_le _⟩
  have hubb : ∀ q ∈ Mb.pr, q.ups.length ≤ 1048576 ∧ q.code.length ≤ 1048576 := by rcases hMb0 with rfl | rfl; exact hub; exact fun q hq => (by cases hq)
  have hnwb : nW Mb.pr ≤ 4200000 := by rcases hMb0 with rfl | rfl; exact hnw; decide
  have hbyb : ∀ t ∈ Mb.tx, Byt t := by rcases hMb0 with rfl | rfl; exact hbyM; exact fun q hq => (by cases hq)
  have hnnb := nW_nn Mb.pr
  have hnnM := nW_nn M.pr
  have hTo : ∀ H : HL, Fn Tryz.prog w0 6 #[.agg #[.slice aP l.length cP, .slice aT tx.length cT]] H fun v H' => ∃ X, v = mdV M X ∧ MOk M X ∧ H' = mHL M X ++ H := by rw [hMd]; exact fun H => toModule_c hI hl hsz
  apply L_call rfl rfl rfl rfl rfl
  · exact hTo _
  rintro _ _ ⟨X1, rfl, hO1, rfl⟩
  refine L_perm (List.perm_append_comm_assoc _ [_] []) ?_
  dsimp only [List.cons_append, List.nil_append]
  have rm1 : RM (mHL M X1 ++ []) M X1 := RM.left (RM.of hO1 hbyM)
  generalize mHL M X1 ++ [] = T1 at rm1 ⊢
  repeat' (first | ((first | (apply gCall; apply L_call rfl rfl rfl rfl rfl) | (apply gQC; apply Q_call rfl rfl rfl rfl rfl)); (· first | exact eqMachine_c (M := Mb) (A := Ab) (Y := Yg) (Y' := Yw) (by (repeat (first | assumption | apply RG.there | apply RG.app))) (by (repeat (first | assumption | apply RG.there | apply RG.app))) hMb hAb hubb); try rintro _ _ ⟨rfl, rfl⟩) | (apply gL; first | refine L_nil ?_ | refine yS ?_ | refine yX fun _ => ?_ | refine yA fun _ => ?_ | (apply gSt; first | refine sR ?_ | refine sB ?_ | refine s1 ?_ | refine sW ?_ | refine sN ?_) | refine kV ?_ | (apply L_val rfl rfl rfl; (· first | (apply gBin; first | fail | exact v_nebs rfl rfl) | fail )) | ((fail_if_success (refine L_known rfl ?_)); refine yW (fun h => ?_) fun h => ?_)) | (apply gW; first | refine W_seq ?_ | refine W_region ?_ | refine W_ret ?_ | refine W_skip ?_ | refine W_cond1 rfl ?_ | refine W_cond0 rfl ?_ | refine cW (fun h => ?_) fun h => ?_ | refine wQ ?_) | (first | refine seqR.normal ?_ | refine seqR.ret ?_) | (apply gQ; first | refine Q_nil ?_ | refine Q_skip rfl rfl rfl ?_ | refine kQ ?_ | (apply Q_val rfl rfl rfl; (· first | (apply gBin; first | fail | exact v_nebs rfl rfl) | fail )) | ((fail_if_success (refine Q_known rfl ?_)); refine zW (fun h => ?_) fun h => ?_)) | fail)
  apply L_call rfl rfl rfl rfl rfl
  · exact specBootG hB (by (repeat (first | assumption | apply RM.there | apply RM.app))) hMl hub
  rintro _ _ ⟨Yw, rfl, hOw, rfl⟩
  refine L_perm (List.perm_append_comm_assoc _ [_] _) ?_
  dsimp only [List.cons_append, List.nil_append]
  have rw2 : RG (gHL Mb Yw Ab ++ T1) Mb Yw Ab := RG.left (RG.of hOw hbyb)
  generalize gHL Mb Yw Ab ++ T1 = T2 at rw2 ⊢
  repeat' (first | ((first | (apply gCall; apply L_call rfl rfl rfl rfl rfl) | (apply gQC; apply Q_call rfl rfl rfl rfl rfl)); (· first | exact eqMachine_c (M := Mb) (A := Ab) (Y := Yg) (Y' := Yw) (by (repeat (first | assumption | apply RG.there | apply RG.app))) (by (repeat (first | assumption | apply RG.there | apply RG.app))) hMb hAb hubb); try rintro _ _ ⟨rfl, rfl⟩) | (apply gL; first | refine L_nil ?_ | refine yS ?_ | refine yX fun _ => ?_ | refine yA fun _ => ?_ | (apply gSt; first | refine sR ?_ | refine sB ?_ | refine s1 ?_ | refine sW ?_ | refine sN ?_) | refine kV ?_ | (apply L_val rfl rfl rfl; (· first | (apply gBin; first | fail | exact v_nebs rfl rfl) | fail )) | ((fail_if_success (refine L_known rfl ?_)); refine yW (fun h => ?_) fun h => ?_)) | (apply gW; first | refine W_seq ?_ | refine W_region ?_ | refine W_ret ?_ | refine W_skip ?_ | refine W_cond1 rfl ?_ | refine W_cond0 rfl ?_ | refine cW (fun h => ?_) fun h => ?_ | refine wQ ?_) | (first | refine seqR.normal ?_ | refine seqR.ret ?_) | (apply gQ; first | refine Q_nil ?_ | refine Q_skip rfl rfl rfl ?_ | refine kQ ?_ | (apply Q_val rfl rfl rfl; (· first | (apply gBin; first | fail | exact v_nebs rfl rfl) | fail )) | ((fail_if_success (refine Q_known rfl ?_)); refine zW (fun h => ?_) fun h => ?_)) | fail)
  apply L_call rfl rfl rfl rfl rfl
  · exact hTo _
  rintro _ _ ⟨X0, rfl, hO0, rfl⟩
  refine L_perm (List.perm_append_comm_assoc _ [_, _] _) ?_
  dsimp only [List.cons_append, List.nil_append]
  have rm0 : RM (mHL M X0 ++ T2) M X0 := RM.left (RM.of hO0 hbyM)
  repeat' (first | ((first | (apply gCall; apply L_call rfl rfl rfl rfl rfl) | (apply gQC; apply Q_call rfl rfl rfl rfl rfl)); (· first | exact eqMachine_c (M := Mb) (A := Ab) (Y := Yg) (Y' := Yw) (by (repeat (first | assumption | apply RG.there | apply RG.app))) (by (repeat (first | assumption | apply RG.there | apply RG.app))) hMb hAb hubb); try rintro _ _ ⟨rfl, rfl⟩) | (apply gL; first | refine L_nil ?_ | refine yS ?_ | refine yX fun _ => ?_ | refine yA fun _ => ?_ | (apply gSt; first | refine sR ?_ | refine sB ?_ | refine s1 ?_ | refine sW ?_ | refine sN ?_) | refine kV ?_ | (apply L_val rfl rfl rfl; (· first | (apply gBin; first | fail | exact v_nebs rfl rfl) | fail )) | ((fail_if_success (refine L_known rfl ?_)); refine yW (fun h => ?_) fun h => ?_)) | (apply gW; first | refine W_seq ?_ | refine W_region ?_ | refine W_ret ?_ | refine W_skip ?_ | refine W_cond1 rfl ?_ | refine W_cond0 rfl ?_ | refine cW (fun h => ?_) fun h => ?_ | refine wQ ?_) | (first | refine seqR.normal ?_ | refine seqR.ret ?_) | (apply gQ; first | refine Q_nil ?_ | refine Q_skip rfl rfl rfl ?_ | refine kQ ?_ | (apply Q_val rfl rfl rfl; (· first | (apply gBin; first | fail | exact v_nebs rfl rfl) | fail )) | ((fail_if_success (refine Q_known rfl ?_)); refine zW (fun h => ?_) fun h => ?_)) | fail)
  apply L_call rfl rfl rfl rfl rfl
  · exact implBootG hB (by (repeat (first | assumption | apply RM.there | apply RM.app))) hMl hub
  rintro _ _ ⟨Yg, rfl, hOg, rfl⟩
  refine L_perm (List.perm_append_comm_assoc _ [_, _, _] (mHL M X0 ++ T2)) ?_
  dsimp only [List.cons_append, List.nil_append]
  have rg : ∀ Z, RG (gHL Mb Yg Ab ++ Z) Mb Yg Ab := fun Z => RG.left (RG.of hOg hbyb)
  have rg2 := rg (mHL M X0 ++ T2)
  repeat' (first | exact absurd rfl h | ((fail_if_success apply gAt 10); (first | ((first | (apply gCall; apply L_call rfl rfl rfl rfl rfl) | (apply gQC; apply Q_call rfl rfl rfl rfl rfl)); (· first | exact eqMachine_c (M := Mb) (A := Ab) (Y := Yg) (Y' := Yw) (by (repeat (first | assumption | apply RG.there | apply RG.app))) (by (repeat (first | assumption | apply RG.there | apply RG.app))) hMb hAb hubb); try rintro _ _ ⟨rfl, rfl⟩) | (apply gL; first | refine L_nil ?_ | refine yS ?_ | refine yX fun _ => ?_ | refine yA fun _ => ?_ | (apply gSt; first | refine sR ?_ | refine sB ?_ | refine s1 ?_ | refine sW ?_ | refine sN ?_) | refine kV ?_ | (apply L_val rfl rfl rfl; (· first | (apply gBin; first | fail | exact v_nebs rfl rfl) | fail )) | ((fail_if_success (refine L_known rfl ?_)); refine yW (fun h => ?_) fun h => ?_)) | (apply gW; first | refine W_seq ?_ | refine W_region ?_ | refine W_ret ?_ | refine W_skip ?_ | refine W_cond1 rfl ?_ | refine W_cond0 rfl ?_ | refine cW (fun h => ?_) fun h => ?_ | refine wQ ?_) | (first | refine seqR.normal ?_ | refine seqR.ret ?_) | (apply gQ; first | refine Q_nil ?_ | refine Q_skip rfl rfl rfl ?_ | refine kQ ?_ | (apply Q_val rfl rfl rfl; (· first | (apply gBin; first | fail | exact v_nebs rfl rfl) | fail )) | ((fail_if_success (refine Q_known rfl ?_)); refine zW (fun h => ?_) fun h => ?_)) | fail)))
  rename_i b2 b6 b8 b9
  refine W_seq ?_
  refine W_seq ?_
  apply W_regionA (D := (b8, .cells (mdV M X0).cells 29 (0, 0)) :: (b2, .cells #[.slice aP l.length cP, .slice aT tx.length cT] 25 (0, 0)) :: []) (by kernel_rfl)
  refine kAt 0 ?_ (cv := by (repeat (first | exact cvNil | exact Cv.refl | exact Cv.app | (refine Cv.take tk_ ?_) | apply Cv.skip)))
  refine kAt 1 ?_ (cv := by (repeat (first | exact cvNil | exact Cv.refl | exact Cv.app | (refine Cv.take tk_ ?_) | apply Cv.skip)))
  refine A_one (i := 2) (by kernel_rfl) (by (repeat (first | exact cvNil | exact Cv.refl | exact Cv.app | (refine Cv.take tk_ ?_) | apply Cv.skip))) rfl (O_of_L fun S hS => ?_)
  apply L_call rfl rfl rfl rfl rfl
  · exact hTo _
  rintro _ _ ⟨X3, rfl, hO3, rfl⟩
  refine L_perm (sink3 (Lc := [_, _, _, _]) (G := gHL Mb Yg Ab) (M0 := mHL M X0) (T := T2)) ?_
  dsimp only [List.cons_append, List.nil_append]
  have rm3 : RM (mHL M X3 ++ T2) M X3 := RM.left (RM.of hO3 hbyM)
  have rw3 : RG (mHL M X3 ++ T2) Mb Yw Ab := RG.app rw2
  generalize mHL M X3 ++ T2 = T3 at rm3 rw3 ⊢
  have rm30 : RM (mHL M X0 ++ T3) M X0 := RM.left (RM.of hO0 hbyM)
  refine L_nil (hS _ _ ?_)
  clear hS
  refine A_one (i := 3) (by kernel_rfl) (by (repeat (first | exact cvNil | exact Cv.refl | exact Cv.app | (refine Cv.take tk_ ?_) | apply Cv.skip))) rfl (O_of_L fun S hS => ?_)
  apply L_call rfl rfl rfl rfl rfl
  · exact eqModule_c (X := X0) (X' := X3) (by (repeat (first | assumption | apply RM.there | apply RM.app))) (by (repeat (first | assumption | apply RM.there | apply RM.app))) hMl hub
  rintro _ _ ⟨rfl, rfl⟩
  refine L_nil (hS _ _ ?_)
  clear hS
  refine kAt 4 ?_ (cv := by (repeat (first | exact cvNil | exact Cv.refl | exact Cv.app | (refine Cv.take tk_ ?_) | apply Cv.skip)))
  refine A_nil (by kernel_rfl) (by (repeat (first | exact cvNil | exact Cv.refl | exact Cv.app | (refine Cv.take tk_ ?_) | apply Cv.skip))) ?_
  repeat' (first | exact absurd rfl h | first | ((first | (apply gCall; apply L_call rfl rfl rfl rfl rfl) | (apply gQC; apply Q_call rfl rfl rfl rfl rfl)); (· first | exact eqMachine_c (M := Mb) (A := Ab) (Y := Yg) (Y' := Yw) (by (repeat (first | assumption | apply RG.there | apply RG.app))) (by (repeat (first | assumption | apply RG.there | apply RG.app))) hMb hAb hubb); try rintro _ _ ⟨rfl, rfl⟩) | (apply gL; first | refine L_nil ?_ | refine yS ?_ | refine yX fun _ => ?_ | refine yA fun _ => ?_ | (apply gSt; first | refine sR ?_ | refine sB ?_ | refine s1 ?_ | refine sW ?_ | refine sN ?_) | refine kV ?_ | (apply L_val rfl rfl rfl; (· first | (apply gBin; first | fail | exact v_nebs rfl rfl) | fail )) | ((fail_if_success (refine L_known rfl ?_)); refine yW (fun h => ?_) fun h => ?_)) | (apply gW; first | refine W_seq ?_ | refine W_region ?_ | refine W_ret ?_ | refine W_skip ?_ | refine W_cond1 rfl ?_ | refine W_cond0 rfl ?_ | refine cW (fun h => ?_) fun h => ?_ | refine wQ ?_) | (first | refine seqR.normal ?_ | refine seqR.ret ?_) | (apply gQ; first | refine Q_nil ?_ | refine Q_skip rfl rfl rfl ?_ | refine kQ ?_ | (apply Q_val rfl rfl rfl; (· first | (apply gBin; first | fail | exact v_nebs rfl rfl) | fail )) | ((fail_if_success (refine Q_known rfl ?_)); refine zW (fun h => ?_) fun h => ?_)) | fail)
  refine L_perm (bring2 (Lc := [_, _, _, _]) (G := gHL Mb Yg Ab) (M0 := mHL M X0) (T := T3)) ?_
  apply L_call rfl rfl rfl rfl rfl
  · exact markModule_g hO0 hnw hMl.2 hub (by omega)
  rintro _ _ ⟨rfl, rfl⟩
  refine L_perm (back2 (Lc := [_, _, _, _]) (G := gHL Mb Yg Ab) (M0 := mHL (mkM 1 M X0) X0) (T := T3)) ?_
  dsimp only [List.cons_append, List.nil_append]
  have rw4 : RG (mHL (mkM 1 M X0) X0 ++ T3) Mb Yw Ab := RG.app rw3
  generalize mHL (mkM 1 M X0) X0 ++ T3 = T4 at rw4 ⊢
  have rg4 := rg T4
  repeat' (first | exact absurd rfl h | (exfalso; omega) | first | ((first | (apply gCall; apply L_call rfl rfl rfl rfl rfl) | (apply gQC; apply Q_call rfl rfl rfl rfl rfl)); (· first | exact eqMachine_c (M := Mb) (A := Ab) (Y := Yg) (Y' := Yw) (by (repeat (first | assumption | apply RG.there | apply RG.app))) (by (repeat (first | assumption | apply RG.there | apply RG.app))) hMb hAb hubb); try rintro _ _ ⟨rfl, rfl⟩) | (apply gL; first | refine L_nil ?_ | refine yS ?_ | refine yX fun _ => ?_ | refine yA fun _ => ?_ | (apply gSt; first | refine sR ?_ | refine sB ?_ | refine s1 ?_ | refine sW ?_ | refine sN ?_) | refine kV ?_ | (apply L_val rfl rfl rfl; (· first | (apply gBin; first | fail | exact v_nebs rfl rfl) | fail )) | ((fail_if_success (refine L_known rfl ?_)); refine yW (fun h => ?_) fun h => ?_)) | (apply gW; first | refine W_seq ?_ | refine W_region ?_ | refine W_ret ?_ | refine W_skip ?_ | refine W_cond1 rfl ?_ | refine W_cond0 rfl ?_ | refine cW (fun h => ?_) fun h => ?_ | refine wQ ?_) | (first | refine seqR.normal ?_ | refine seqR.ret ?_) | (apply gQ; first | refine Q_nil ?_ | refine Q_skip rfl rfl rfl ?_ | refine kQ ?_ | (apply Q_val rfl rfl rfl; (· first | (apply gBin; first | fail | exact v_nebs rfl rfl) | fail )) | ((fail_if_success (refine Q_known rfl ?_)); refine zW (fun h => ?_) fun h => ?_)) | fail)
  refine L_perm (List.perm_append_comm_assoc [_, _, _, _] (gHL Mb Yg Ab) T4) ?_
  apply L_call rfl rfl rfl rfl rfl
  · exact markMachine_g hOg hMb hAb hubb (by omega) hnwb
  rintro _ _ ⟨rfl, G5, hK5, rfl⟩
  refine L_perm (List.perm_append_comm_assoc G5 [_, _, _, _] T4) ?_
  dsimp only [List.cons_append, List.nil_append]
  have rk5 : RGK (G5 ++ T4) 1 Mb Yg Ab := RGK.left hK5
  have rw5 : RG (G5 ++ T4) Mb Yw Ab := RG.app rw4
  generalize G5 ++ T4 = T5 at rk5 rw5 ⊢
  have hMMb : Mb.pr.length ≤ 1048576 ∧ Mb.tx.length ≤ 1048576 ∧ Yg.X.aa.length = Mb.pr.length := ⟨hMb.1, hMb.2, hOg.mo.la⟩
  repeat' (first | (apply gCall; apply L_call rfl rfl rfl rfl rfl; (· exact heldMachine_c (M := Mb) (Y := Yg) (A := Ab) (k := 1) (by (repeat (first | assumption | apply RGK.there | apply RGK.app))) hMMb hAb hubb (by omega) hnwb); rintro _ _ ⟨rfl, rfl⟩) | exact absurd rfl h | (exfalso; omega) | first | ((first | (apply gCall; apply L_call rfl rfl rfl rfl rfl) | (apply gQC; apply Q_call rfl rfl rfl rfl rfl)); (· first | exact eqMachine_c (M := Mb) (A := Ab) (Y := Yg) (Y' := Yw) (by (repeat (first | assumption | apply RG.there | apply RG.app))) (by (repeat (first | assumption | apply RG.there | apply RG.app))) hMb hAb hubb); try rintro _ _ ⟨rfl, rfl⟩) | (apply gL; first | refine L_nil ?_ | refine yS ?_ | refine yX fun _ => ?_ | refine yA fun _ => ?_ | (apply gSt; first | refine sR ?_ | refine sB ?_ | refine s1 ?_ | refine sW ?_ | refine sN ?_) | refine kV ?_ | (apply L_val rfl rfl rfl; (· first | (apply gBin; first | fail | exact v_nebs rfl rfl) | fail )) | ((fail_if_success (refine L_known rfl ?_)); refine yW (fun h => ?_) fun h => ?_)) | (apply gW; first | refine W_seq ?_ | refine W_region ?_ | refine W_ret ?_ | refine W_skip ?_ | refine W_cond1 rfl ?_ | refine W_cond0 rfl ?_ | refine cW (fun h => ?_) fun h => ?_ | refine wQ ?_) | (first | refine seqR.normal ?_ | refine seqR.ret ?_) | (apply gQ; first | refine Q_nil ?_ | refine Q_skip rfl rfl rfl ?_ | refine kQ ?_ | (apply Q_val rfl rfl rfl; (· first | (apply gBin; first | fail | exact v_nebs rfl rfl) | fail )) | ((fail_if_success (refine Q_known rfl ?_)); refine zW (fun h => ?_) fun h => ?_)) | fail)
  apply L_call rfl rfl rfl rfl rfl
  · exact hTo _
  rintro _ _ ⟨X4, rfl, hO4, rfl⟩
  refine L_perm (List.perm_append_comm_assoc _ [_, _, _, _] T5) ?_
  dsimp only [List.cons_append, List.nil_append]
  have rm6 : RM (mHL M X4 ++ T5) M X4 := RM.left (RM.of hO4 hbyM)
  have rk6 : RGK (mHL M X4 ++ T5) 1 Mb Yg Ab := RGK.app rk5
  have rw6 : RG (mHL M X4 ++ T5) Mb Yw Ab := RG.app rw5
  generalize mHL M X4 ++ T5 = T6 at rm6 rk6 rw6 ⊢
  repeat' (first | ((first | (apply gCall; apply L_call rfl rfl rfl rfl rfl) | (apply gQC; apply Q_call rfl rfl rfl rfl rfl)); (· first | exact eqMachine_c (M := Mb) (A := Ab) (Y := Yg) (Y' := Yw) (by (repeat (first | assumption | apply RG.there | apply RG.app))) (by (repeat (first | assumption | apply RG.there | apply RG.app))) hMb hAb hubb); try rintro _ _ ⟨rfl, rfl⟩) | (apply gL; first | refine L_nil ?_ | refine yS ?_ | refine yX fun _ => ?_ | refine yA fun _ => ?_ | (apply gSt; first | refine sR ?_ | refine sB ?_ | refine s1 ?_ | refine sW ?_ | refine sN ?_) | refine kV ?_ | (apply L_val rfl rfl rfl; (· first | (apply gBin; first | fail | exact v_nebs rfl rfl) | fail )) | ((fail_if_success (refine L_known rfl ?_)); refine yW (fun h => ?_) fun h => ?_)) | (apply gW; first | refine W_seq ?_ | refine W_region ?_ | refine W_ret ?_ | refine W_skip ?_ | refine W_cond1 rfl ?_ | refine W_cond0 rfl ?_ | refine cW (fun h => ?_) fun h => ?_ | refine wQ ?_) | (first | refine seqR.normal ?_ | refine seqR.ret ?_) | (apply gQ; first | refine Q_nil ?_ | refine Q_skip rfl rfl rfl ?_ | refine kQ ?_ | (apply Q_val rfl rfl rfl; (· first | (apply gBin; first | fail | exact v_nebs rfl rfl) | fail )) | ((fail_if_success (refine Q_known rfl ?_)); refine zW (fun h => ?_) fun h => ?_)) | fail)
  apply L_call rfl rfl rfl rfl rfl
  · exact implBootG hB (by (repeat (first | assumption | apply RM.there | apply RM.app))) hMl hub
  rintro _ _ ⟨Yh, rfl, hOh, rfl⟩
  refine L_perm (List.perm_append_comm_assoc _ [_, _, _, _] T6) ?_
  dsimp only [List.cons_append, List.nil_append]
  have rh7 : RG (gHL Mb Yh Ab ++ T6) Mb Yh Ab := RG.left (RG.of hOh hbyb)
  have rk7 : RGK (gHL Mb Yh Ab ++ T6) 1 Mb Yg Ab := RGK.app rk6
  have rw7 : RG (gHL Mb Yh Ab ++ T6) Mb Yw Ab := RG.app rw6
  generalize gHL Mb Yh Ab ++ T6 = T7 at rh7 rk7 rw7 ⊢
  repeat' (first | (apply gCall; apply L_call rfl rfl rfl rfl rfl; (· first | exact eqMachine_c (M := Mb) (A := Ab) (Y := Yh) (Y' := Yw) (by (repeat (first | assumption | apply RG.there | apply RG.app))) (by (repeat (first | assumption | apply RG.there | apply RG.app))) hMb hAb hubb | exact heldMachine_c (M := Mb) (Y := Yg) (A := Ab) (k := 1) (by (repeat (first | assumption | apply RGK.there | apply RGK.app))) hMMb hAb hubb (by omega) hnwb); rintro _ _ ⟨rfl, rfl⟩) | exact absurd rfl h | (exfalso; omega) | first | ((first | (apply gCall; apply L_call rfl rfl rfl rfl rfl) | (apply gQC; apply Q_call rfl rfl rfl rfl rfl)); (· first | exact eqMachine_c (M := Mb) (A := Ab) (Y := Yg) (Y' := Yw) (by (repeat (first | assumption | apply RG.there | apply RG.app))) (by (repeat (first | assumption | apply RG.there | apply RG.app))) hMb hAb hubb); try rintro _ _ ⟨rfl, rfl⟩) | (apply gL; first | refine L_nil ?_ | refine yS ?_ | refine yX fun _ => ?_ | refine yA fun _ => ?_ | (apply gSt; first | refine sR ?_ | refine sB ?_ | refine s1 ?_ | refine sW ?_ | refine sN ?_) | refine kV ?_ | (apply L_val rfl rfl rfl; (· first | (apply gBin; first | fail | exact v_nebs rfl rfl) | fail )) | ((fail_if_success (refine L_known rfl ?_)); refine yW (fun h => ?_) fun h => ?_)) | (apply gW; first | refine W_seq ?_ | refine W_region ?_ | refine W_ret ?_ | refine W_skip ?_ | refine W_cond1 rfl ?_ | refine W_cond0 rfl ?_ | refine cW (fun h => ?_) fun h => ?_ | refine wQ ?_) | (first | refine seqR.normal ?_ | refine seqR.ret ?_) | (apply gQ; first | refine Q_nil ?_ | refine Q_skip rfl rfl rfl ?_ | refine kQ ?_ | (apply Q_val rfl rfl rfl; (· first | (apply gBin; first | fail | exact v_nebs rfl rfl) | fail )) | ((fail_if_success (refine Q_known rfl ?_)); refine zW (fun h => ?_) fun h => ?_)) | fail)
  exact retR.ret _ _ (ret1 rfl rfl) (by (repeat (first | exact cvNil | exact Cv.refl | exact Cv.app | (refine Cv.take tk_ ?_) | apply Cv.skip))) rfl
end Go.Proofs.YtfmhlieaodbgiaaGreat.Eng
