/- The reference's words on an arena. -/
import Derived.Test.YtepddopgmhdllaaBkS
namespace Go.Proofs.Ytepddopgmhdllaa.Eng
open Go Go.RowKit Go.Proofs.Ytepddopgmhdllaa.Sl Go.Proofs.Ytepddopgmhdllaa.Ar Go.Proofs.Ytepddopgmhdllaa.Base
set_option linter.unusedVariables false
set_option linter.unusedSimpArgs false
set_option maxRecDepth 10000
variable {w0 : World} {H : HL} {C : Cn} {A : Ar}
def Wf (ws : List Int) : Prop := ∀ p, 0 ≤ g ws p ∧ g ws p < 18446744073709551616
theorem l1Read_c {ws : List Int} {sp : List Value} {b c : Nat} {T : TypeId} {p : Int} (hA : At H b (.cells (rowA .u64 ws sp) T (0, 0))) (hw : Wf ws) (h0 : 0 ≤ p) (h1 : p + 1 < (ws.length : Int)) (hm : (ws.length : Int) ≤ 9000) :
    Fn Try.prog w0 126 #[.slice (some ⟨b, 0, none⟩) ws.length c, .int .i64 p] H fun v H' => v = .tuple #[.agg #[.int .i64 (rvT ws p), .int .i64 (rvN ws p)], .bool (rv ws p)] ∧ H' = H := by
  have hp := hw p
  have hq := hw (p + 1)
  refine enter2 Try.func126 rfl rfl Try.ntmps126 rfl ?_
  repeat' (first | (apply gL; first | refine L_nil ?_ | refine yX fun _ => ?_ | refine yA fun _ => ?_ | (apply gSt; first | refine sR ?_ | refine sB ?_ | refine s1 ?_ | refine sW ?_ | refine sN ?_) | (apply gCall; apply L_call rfl rfl rfl rfl rfl; (· first | exact l1In_c _ _ _ | exact l1Kind_c _ | exact specIsRef_c _ _ | exact specValOk_c _ _ | exact specReadHead_c om om | exact specForwarded_c om om); rintro _ _ ⟨rfl, rfl⟩) | refine kV ?_) | (apply gW; first | refine W_seq ?_ | refine W_region ?_ | refine W_ret ?_ | refine W_skip ?_ | refine W_cond1 rfl ?_ | refine W_cond0 rfl ?_ | refine cN (fun h => ?_) fun h => ?_ | refine cP (fun h => ?_) fun h => ?_ | refine cB (fun h => ?_) fun h => ?_ | refine cK (fun h => ?_) fun h => ?_) | (first | refine seqR.normal ?_ | refine seqR.ret ?_) | fail)
  · refine retR.ret _ _ (retCT rfl rfl at_ (by rfl) rfl) cv_ ⟨?_, rfl⟩
    have e : rv ws p = false := by unfold rv; rw [decide_eq_false (by omega)]; rfl
    simp [rvT, rvN, e]
  · apply W_regionA (by kernel_rfl)
    refine kA 0 ?_
    refine kA 1 ?_
    refine kA 2 ?_
    refine kA 3 ?_
    refine kA 4 ?_
    refine kA 5 ?_
    refine kA 6 ?_
    refine kA 7 ?_
    refine kA 8 ?_
    refine kA 9 ?_
    refine kA 10 ?_
    refine kA 11 ?_
    refine A_one (i := 12) (by kernel_rfl) cv_ rfl (O_of_L fun S hS => ?_)
    (apply gL; first | refine L_nil ?_ | refine yX fun _ => ?_ | refine yA fun _ => ?_ | (apply gSt; first | refine sR ?_ | refine sB ?_ | refine s1 ?_ | refine sW ?_ | refine sN ?_) | (apply gCall; apply L_call rfl rfl rfl rfl rfl; (· first | exact l1In_c _ _ _ | exact l1Kind_c _ | exact specIsRef_c _ _ | exact specValOk_c _ _ | exact specReadHead_c om om | exact specForwarded_c om om); rintro _ _ ⟨rfl, rfl⟩) | refine kV ?_)
    refine L_nil (hS _ _ ?_)
    clear hS
    refine A_one (i := 13) (by kernel_rfl) cv_ rfl (O_of_L fun S hS => ?_)
    (apply gL; first | refine L_nil ?_ | refine yX fun _ => ?_ | refine yA fun _ => ?_ | (apply gSt; first | refine sR ?_ | refine sB ?_ | refine s1 ?_ | refine sW ?_ | refine sN ?_) | (apply gCall; apply L_call rfl rfl rfl rfl rfl; (· first | exact l1In_c _ _ _ | exact l1Kind_c _ | exact specIsRef_c _ _ | exact specValOk_c _ _ | exact specReadHead_c om om | exact specForwarded_c om om); rintro _ _ ⟨rfl, rfl⟩) | refine kV ?_)
    refine L_nil (hS _ _ ?_)
    clear hS
    refine A_nil (by kernel_rfl) cv_ ?_
    repeat' (first | (apply gL; first | refine L_nil ?_ | refine yX fun _ => ?_ | refine yA fun _ => ?_ | (apply gSt; first | refine sR ?_ | refine sB ?_ | refine s1 ?_ | refine sW ?_ | refine sN ?_) | (apply gCall; apply L_call rfl rfl rfl rfl rfl; (· first | exact l1In_c _ _ _ | exact l1Kind_c _ | exact specIsRef_c _ _ | exact specValOk_c _ _ | exact specReadHead_c om om | exact specForwarded_c om om); rintro _ _ ⟨rfl, rfl⟩) | refine kV ?_) | (apply gW; first | refine W_seq ?_ | refine W_region ?_ | refine W_ret ?_ | refine W_skip ?_ | refine W_cond1 rfl ?_ | refine W_cond0 rfl ?_ | refine cN (fun h => ?_) fun h => ?_ | refine cP (fun h => ?_) fun h => ?_ | refine cB (fun h => ?_) fun h => ?_ | refine cK (fun h => ?_) fun h => ?_) | (first | refine seqR.normal ?_ | refine seqR.ret ?_) | fail)
    all_goals (refine retR.ret _ _ (retCT rfl rfl at_ (by rfl) rfl) cv_ ⟨?_, rfl⟩)
    all_goals (rename_i h; simp [rvT, rvN, rv_eq, valOk, h])
theorem l2Where_c {p : Int} (hA : At H C.bw (wObj C A)) (hw : Wf A.ws) (h0 : 0 ≤ p) (h1 : p < (A.ws.length : Int)) :
    Fn Try.prog w0 138 #[arV C A, .int .i64 p] H fun v H' => v = .int .i64 (A.where_ p) ∧ H' = H := by
  have hp := hw p
  refine enter2 Try.func138 rfl rfl Try.ntmps138 rfl ?_
  repeat' (first | (apply gL; first | refine L_nil ?_ | refine yX fun _ => ?_ | refine yA fun _ => ?_ | (apply gSt; first | refine sR ?_ | refine sB ?_ | refine s1 ?_ | refine sW ?_ | refine sN ?_) | (apply gCall; apply L_call rfl rfl rfl rfl rfl; (· first | exact l1In_c _ _ _ | exact l1Kind_c _ | exact specIsRef_c _ _ | exact specValOk_c _ _ | exact specReadHead_c om om | exact specForwarded_c om om); rintro _ _ ⟨rfl, rfl⟩) | refine kV ?_) | (apply gW; first | refine W_seq ?_ | refine W_region ?_ | refine W_ret ?_ | refine W_skip ?_ | refine W_cond1 rfl ?_ | refine W_cond0 rfl ?_ | refine cN (fun h => ?_) fun h => ?_ | refine cP (fun h => ?_) fun h => ?_ | refine cB (fun h => ?_) fun h => ?_ | refine cK (fun h => ?_) fun h => ?_) | (first | refine seqR.normal ?_ | refine seqR.ret ?_) | fail)
  all_goals refine retR.ret _ _ (ret1 rfl rfl) cv_ ⟨?_, rfl⟩
  · rename_i h; have e : isFw (g A.ws p) = true := decide_eq_true h
    simp [Ar.where_, Ar.w, e]
  · rename_i h; have e : isFw (g A.ws p) = false := decide_eq_false h
    simp [Ar.where_, Ar.w, e]
theorem l2Look_c {p : Int} (hA : At H C.bw (wObj C A)) (hw : Wf A.ws) (h0 : 0 ≤ p) (h1 : p < (A.ws.length : Int)) :
    Fn Try.prog w0 76 #[arV C A, .int .i64 p] H fun v H' => v = hdV (g A.ws p) ∧ H' = H := by
  have hp := hw p
  refine enter2 Try.func76 rfl rfl Try.ntmps76 rfl ?_
  repeat' (first | (apply gL; first | refine L_nil ?_ | refine yX fun _ => ?_ | refine yA fun _ => ?_ | (apply gSt; first | refine sR ?_ | refine sB ?_ | refine s1 ?_ | refine sW ?_ | refine sN ?_) | (apply gCall; apply L_call rfl rfl rfl rfl rfl; (· first | exact l1In_c _ _ _ | exact l1Kind_c _ | exact specIsRef_c _ _ | exact specValOk_c _ _ | exact specReadHead_c om om | exact specForwarded_c om om); rintro _ _ ⟨rfl, rfl⟩) | refine kV ?_) | (apply gW; first | refine W_seq ?_ | refine W_region ?_ | refine W_ret ?_ | refine W_skip ?_ | refine W_cond1 rfl ?_ | refine W_cond0 rfl ?_ | refine cN (fun h => ?_) fun h => ?_ | refine cP (fun h => ?_) fun h => ?_ | refine cB (fun h => ?_) fun h => ?_ | refine cK (fun h => ?_) fun h => ?_) | (first | refine seqR.normal ?_ | refine seqR.ret ?_) | fail)
  refine retR.ret _ _ (retC rfl rfl at_ (by rfl)) cv_ ⟨?_, rfl⟩
  rfl
theorem l2Word_c {p i : Int} (hA : At H C.bw (wObj C A)) (hw : Wf A.ws) (h0 : 0 ≤ p + i) (h1 : p + i < (A.ws.length : Int)) (hm : (A.ws.length : Int) ≤ 9000) :
    Fn Try.prog w0 136 #[arV C A, .int .i64 p, .int .i64 i] H fun v H' => v = .int .i64 (sg (g A.ws (p + i))) ∧ H' = H := by
  have hp := hw (p + i)
  refine enter3 Try.func136 rfl rfl Try.ntmps136 rfl ?_
  repeat' (first | (apply gL; first | refine L_nil ?_ | refine yX fun _ => ?_ | refine yA fun _ => ?_ | (apply gSt; first | refine sR ?_ | refine sB ?_ | refine s1 ?_ | refine sW ?_ | refine sN ?_) | (apply gCall; apply L_call rfl rfl rfl rfl rfl; (· first | exact l1In_c _ _ _ | exact l1Kind_c _ | exact specIsRef_c _ _ | exact specValOk_c _ _ | exact specReadHead_c om om | exact specForwarded_c om om); rintro _ _ ⟨rfl, rfl⟩) | refine kV ?_) | (apply gW; first | refine W_seq ?_ | refine W_region ?_ | refine W_ret ?_ | refine W_skip ?_ | refine W_cond1 rfl ?_ | refine W_cond0 rfl ?_ | refine cN (fun h => ?_) fun h => ?_ | refine cP (fun h => ?_) fun h => ?_ | refine cB (fun h => ?_) fun h => ?_ | refine cK (fun h => ?_) fun h => ?_) | (first | refine seqR.normal ?_ | refine seqR.ret ?_) | fail)
  all_goals refine retR.ret _ _ (ret1 rfl rfl) cv_ ⟨?_, rfl⟩
  rfl
theorem l2Start_c {half : Int} (hh : half = 0 ∨ half = 1) (hs : 256 ≤ A.semi ∧ A.semi ≤ 4000) :
    Fn Try.prog w0 119 #[arV C A, .int .i64 half] H fun v H' => v = .int .i64 (A.start half) ∧ H' = H := by
  have hm : 0 ≤ half * A.semi ∧ half * A.semi ≤ 4000 := by rcases hh with rfl | rfl <;> omega
  refine enter2 Try.func119 rfl rfl Try.ntmps119 rfl ?_
  repeat' (first | (apply gL; first | refine L_nil ?_ | refine yX fun _ => ?_ | refine yA fun _ => ?_ | (apply gSt; first | refine sR ?_ | refine sB ?_ | refine s1 ?_ | refine sW ?_ | refine sN ?_) | (apply gCall; apply L_call rfl rfl rfl rfl rfl; (· first | exact l1In_c _ _ _ | exact l1Kind_c _ | exact specIsRef_c _ _ | exact specValOk_c _ _ | exact specReadHead_c om om | exact specForwarded_c om om); rintro _ _ ⟨rfl, rfl⟩) | refine kV ?_) | (apply gW; first | refine W_seq ?_ | refine W_region ?_ | refine W_ret ?_ | refine W_skip ?_ | refine W_cond1 rfl ?_ | refine W_cond0 rfl ?_ | refine cN (fun h => ?_) fun h => ?_ | refine cP (fun h => ?_) fun h => ?_ | refine cB (fun h => ?_) fun h => ?_ | refine cK (fun h => ?_) fun h => ?_) | (first | refine seqR.normal ?_ | refine seqR.ret ?_) | fail)
  all_goals refine retR.ret _ _ (ret1 rfl rfl) cv_ ⟨?_, rfl⟩
  rfl
theorem l2End_c (hh : A.to = 0 ∨ A.to = 1) (hs : 256 ≤ A.semi ∧ A.semi ≤ 4000) :
    Fn Try.prog w0 133 #[arV C A] H fun v H' => v = .int .i64 ((A.to + 1) * A.semi) ∧ H' = H := by
  have hm : 0 ≤ (A.to + 1) * A.semi ∧ (A.to + 1) * A.semi ≤ 8000 := by rcases hh with e | e <;> rw [e] <;> omega
  refine enter1 Try.func133 rfl rfl Try.ntmps133 rfl ?_
  repeat' (first | (apply gL; first | refine L_nil ?_ | refine yX fun _ => ?_ | refine yA fun _ => ?_ | (apply gSt; first | refine sR ?_ | refine sB ?_ | refine s1 ?_ | refine sW ?_ | refine sN ?_) | (apply gCall; apply L_call rfl rfl rfl rfl rfl; (· first | exact l1In_c _ _ _ | exact l1Kind_c _ | exact specIsRef_c _ _ | exact specValOk_c _ _ | exact specReadHead_c om om | exact specForwarded_c om om); rintro _ _ ⟨rfl, rfl⟩) | refine kV ?_) | (apply gW; first | refine W_seq ?_ | refine W_region ?_ | refine W_ret ?_ | refine W_skip ?_ | refine W_cond1 rfl ?_ | refine W_cond0 rfl ?_ | refine cN (fun h => ?_) fun h => ?_ | refine cP (fun h => ?_) fun h => ?_ | refine cB (fun h => ?_) fun h => ?_ | refine cK (fun h => ?_) fun h => ?_) | (first | refine seqR.normal ?_ | refine seqR.ret ?_) | fail)
  all_goals refine retR.ret _ _ (ret1 rfl rfl) cv_ ⟨?_, rfl⟩
  rfl
theorem l2Root_c {r : Int} (hr : (A.vs.length : Int) ≤ 1048576) :
    Fn Try.prog w0 56 #[arV C A, .int .i64 r] H fun v H' => v = .bool (inB r 0 (A.vs.length - 1)) ∧ H' = H := by
  refine enter2 Try.func56 rfl rfl Try.ntmps56 rfl ?_
  repeat' (first | (apply gL; first | refine L_nil ?_ | refine yX fun _ => ?_ | refine yA fun _ => ?_ | (apply gSt; first | refine sR ?_ | refine sB ?_ | refine s1 ?_ | refine sW ?_ | refine sN ?_) | (apply gCall; apply L_call rfl rfl rfl rfl rfl; (· first | exact l1In_c _ _ _ | exact l1Kind_c _ | exact specIsRef_c _ _ | exact specValOk_c _ _ | exact specReadHead_c om om | exact specForwarded_c om om); rintro _ _ ⟨rfl, rfl⟩) | refine kV ?_) | (apply gW; first | refine W_seq ?_ | refine W_region ?_ | refine W_ret ?_ | refine W_skip ?_ | refine W_cond1 rfl ?_ | refine W_cond0 rfl ?_ | refine cN (fun h => ?_) fun h => ?_ | refine cP (fun h => ?_) fun h => ?_ | refine cB (fun h => ?_) fun h => ?_ | refine cK (fun h => ?_) fun h => ?_) | (first | refine seqR.normal ?_ | refine seqR.ret ?_) | fail)
  all_goals refine retR.ret _ _ (ret1 rfl rfl) cv_ ⟨?_, rfl⟩
  rfl
end Go.Proofs.Ytepddopgmhdllaa.Eng
