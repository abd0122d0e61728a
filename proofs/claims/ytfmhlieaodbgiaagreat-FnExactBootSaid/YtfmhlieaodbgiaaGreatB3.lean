/- Modules that may be run: the implementation's libNames, insOk. -/
import Derived.Test.YtfmhlieaodbgiaaGreatB2
namespace Go.Proofs.YtfmhlieaodbgiaaGreat.Eng
open Go Go.RowKit Go.Proofs.YtfmhlieaodbgiaaGreat.Sl Go.Proofs.YtfmhlieaodbgiaaGreat.Ar Go.Proofs.YtfmhlieaodbgiaaGreat.Base
set_option linter.unusedVariables false
set_option linter.unusedSimpArgs false
set_option maxRecDepth 10000
variable {w0 : World} {H : HL} {M : Md} {X : MA} {p : PR} {a : PA} {x : Int × Int}
set_option maxHeartbeats 4000000 in
theorem insOk0_c (h12 : x.1 ≠ 12) (h27 : x.1 ≠ 27) (hp : 0 ≤ p.sl ∧ p.sl ≤ 20) (hl : p.ups.length ≤ 100 ∧ p.code.length ≤ 4000) (hM : M.pr.length ≤ 100 ∧ M.tx.length ≤ 255) :
    Fn Tryz.prog w0 54 #[mdV M X, prV p a, .agg #[.int .i64 x.1, .int .i64 x.2]] H fun v H' => ∃ b, v = .bool b ∧ (b = true ↔ insP M p x) ∧ H' = H := by
  obtain ⟨o, n⟩ := x
  dsimp only at h12 h27
  refine enter3 Tryz.func54 rfl rfl Tryz.ntmps54 rfl ?_
  repeat' (first | exact absurd h h12 | exact absurd h h27 | (exfalso; omega) | first | ((first | (apply gCall; apply L_call rfl rfl rfl rfl rfl) | (apply gQC; apply Q_call rfl rfl rfl rfl rfl)); (· exact within_c _ _ _); try rintro _ _ ⟨rfl, rfl⟩) | (apply gL; first | refine L_nil ?_ | refine yS ?_ | refine yX fun _ => ?_ | refine kV ?_ | ((fail_if_success (refine L_known rfl ?_)); refine yW (fun h => ?_) fun h => ?_)) | (apply gW; first | refine W_seq ?_ | refine W_region ?_ | refine W_ret ?_ | refine W_skip ?_ | refine W_block ?_ | refine W_exit ?_ | refine W_cond1 rfl ?_ | refine W_cond0 rfl ?_ | refine cW (fun h => ?_) fun h => ?_ | refine wQ ?_) | (first | refine seqR.normal ?_ | refine seqR.ret ?_ | refine seqR.exit ?_ | refine blockR.normal ?_ | refine blockR.ret ?_ | refine blockR.here ?_ | refine blockR.exit rfl ?_) | (apply gQ; first | refine Q_nil ?_ | refine Q_skip rfl rfl rfl ?_ | refine kQ ?_ | ((fail_if_success (refine Q_known rfl ?_)); refine zW (fun h => ?_) fun h => ?_)) | fail)
  all_goals (refine retR.ret _ _ (ret1 rfl rfl) cvt_ ⟨_, rfl, ?_, rfl⟩)
  all_goals (unfold insP; dsimp only; (repeat rw [if_neg (by assumption)]))
  all_goals (try rw [if_pos (by assumption)])
  all_goals (first | exact decide_eq_true_iff | (simp only [*, true_or]; done) | (simp only [inB, decide_eq_true_eq, decide_eq_false_iff_not, Bool.false_eq_true, false_iff, true_iff, eq_self] at *; omega) | (simp; done))
end Go.Proofs.YtfmhlieaodbgiaaGreat.Eng
