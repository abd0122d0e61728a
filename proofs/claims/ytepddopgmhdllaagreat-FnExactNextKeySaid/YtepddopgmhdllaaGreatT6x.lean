/- The reference's l6Is and l6Value. -/
import Derived.Test.YtepddopgmhdllaaGreatBkT0
namespace Go.Proofs.YtepddopgmhdllaaGreat.Eng
open Go Go.RowKit Go.Proofs.YtepddopgmhdllaaGreat.Sl Go.Proofs.YtepddopgmhdllaaGreat.Ar Go.Proofs.YtepddopgmhdllaaGreat.Base
set_option linter.unusedVariables false
set_option linter.unusedSimpArgs false
set_option maxRecDepth 10000
variable {w0 : World} {H : HL} {C : Cn} {A : Ar} {ba : Nat}
theorem l6Is_c {r : Int} (hR : At H C.br (rObj C A)) (hx : A.vs.length ≤ 1048576) :
    Fn Tryz.prog w0 31 #[arV C A, .int .i64 r] H fun v H' => v = .bool (A.inR r && decide (rT A r = 4)) ∧ H' = H := by
  refine enter2 Tryz.func31 rfl rfl Tryz.ntmps31 rfl ?_
  repeat' (first | (apply gCall; apply L_call rfl rfl rfl rfl rfl; (· first | exact l1Read_c at_ hw om om om | exact l1In_c _ _ _ | exact within_c _ _ _ | exact l2RootB_c om); rintro _ _ ⟨rfl, rfl⟩) | (apply gL; first | refine L_nil ?_ | refine yS ?_ | refine yX fun _ => ?_ | refine yA fun _ => ?_ | (apply gSt; first | refine sR ?_ | refine sB ?_ | refine s1 ?_ | refine sW ?_ | refine sN ?_) | refine kV ?_ | (apply L_val rfl rfl rfl; (· first | (apply gBin; first | fail ) | fail | (apply v_ld rfl; (· exact at_); (· first | exact ld_rowV0 om om | exact ld_rowV1 om om); done))) | ((fail_if_success (refine L_known rfl ?_)); refine yW (fun h => ?_) fun h => ?_)) | (apply gW; first | refine W_seq ?_ | refine W_region ?_ | refine W_ret ?_ | refine W_skip ?_) | (first | refine seqR.normal ?_ | refine seqR.ret ?_) | fail)
  all_goals refine retR.ret _ _ (ret1 rfl rfl) cv_ ⟨?_, rfl⟩
  · rw [show A.inR r = true from decide_eq_true (by assumption), Bool.true_and]
  · rw [show A.inR r = false from decide_eq_false (by assumption), Bool.false_and]
theorem l6Value_c {b i : Int} (hA : At H C.bw (wObj C A)) (hw : Wf A.ws) (hm : A.ws.length ≤ 8000) (hb : 0 ≤ b) (hi : 0 ≤ i) (hp : b + 4 + 4 * i < A.ws.length) :
    Fn Tryz.prog w0 100 #[arV C A, .int .i64 b, .int .i64 i] H fun v H' => v = .agg #[.int .i64 (rvT A.ws (b + 3 + 4 * i)), .int .i64 (rvN A.ws (b + 3 + 4 * i))] ∧ H' = H := by
  refine enter3 Tryz.func100 rfl rfl Tryz.ntmps100 rfl ?_
  repeat' (first | (apply gCall; apply L_call rfl rfl rfl rfl rfl; (· first | exact l1Read_c at_ hw om om om | exact l1In_c _ _ _ | exact within_c _ _ _ | exact l2RootB_c om); rintro _ _ ⟨rfl, rfl⟩) | (apply gL; first | refine L_nil ?_ | refine yS ?_ | refine yX fun _ => ?_ | refine yA fun _ => ?_ | (apply gSt; first | refine sR ?_ | refine sB ?_ | refine s1 ?_ | refine sW ?_ | refine sN ?_) | refine kV ?_ | (apply L_val rfl rfl rfl; (· first | (apply gBin; first | fail ) | fail | (apply v_ld rfl; (· exact at_); (· first | exact ld_rowV0 om om | exact ld_rowV1 om om); done))) | ((fail_if_success (refine L_known rfl ?_)); refine yW (fun h => ?_) fun h => ?_)) | (apply gW; first | refine W_seq ?_ | refine W_region ?_ | refine W_ret ?_ | refine W_skip ?_) | (first | refine seqR.normal ?_ | refine seqR.ret ?_) | fail)
  all_goals (refine retR.ret _ _ (retC rfl rfl at_ (by rfl)) cv_ ⟨?_, rfl⟩)
  all_goals rfl
end Go.Proofs.YtepddopgmhdllaaGreat.Eng
