/- Modules that may be run: the reference's l11InsOk, the implementation's insOk. -/
import Derived.Test.YtfmhlieaodbgiaaGreatB0
import Derived.Test.YtfmhlieaodbgiaaGreatBkS
import Derived.Test.YtfmhlieaodbgiaaGreatBkI0
namespace Go.Proofs.YtfmhlieaodbgiaaGreat.Eng
open Go Go.RowKit Go.Proofs.YtfmhlieaodbgiaaGreat.Sl Go.Proofs.YtfmhlieaodbgiaaGreat.Ar Go.Proofs.YtfmhlieaodbgiaaGreat.Base
set_option linter.unusedVariables false
set_option linter.unusedSimpArgs false
set_option maxRecDepth 10000
/-- an up of a function that p makes is within -/
def upP (p : PR) (u : Bool × Int) : Prop := 0 ≤ u.2 ∧ u.2 ≤ (if u.1 = true then p.sl else (p.ups.length : Int)) - 1
/-- an instruction is right -/
def insP (M : Md) (p : PR) (x : Int × Int) : Prop :=
  if x.1 = 2 then x.2 = 0 ∨ x.2 = 1 else if x.1 = 3 then True else if x.1 = 4 then 0 ≤ x.2 ∧ x.2 ≤ (M.tx.length : Int) - 1 else if x.1 = 5 then 0 ≤ x.2 ∧ x.2 ≤ p.sl - 1 else if x.1 = 6 then 0 ≤ x.2 ∧ x.2 ≤ p.sl - 1 else if x.1 = 8 then 0 ≤ x.2 ∧ x.2 ≤ p.sl - 1 else if x.1 = 9 then 0 ≤ x.2 ∧ x.2 ≤ p.sl - 1 else if x.1 = 11 then 0 ≤ x.2 ∧ x.2 ≤ p.sl - 1 else if x.1 = 7 then 0 ≤ x.2 ∧ x.2 ≤ (p.ups.length : Int) - 1 else if x.1 = 10 then 0 ≤ x.2 ∧ x.2 ≤ (p.ups.length : Int) - 1 else if x.1 = 12 then (0 ≤ x.2 ∧ x.2 ≤ (M.pr.length : Int) - 1) ∧ ∀ q, M.pr[x.2.toNat]? = some q → ∀ u ∈ q.ups, upP p u else if x.1 = 16 then 1 ≤ x.2 ∧ x.2 ≤ 10 else if x.1 = 17 then 1 ≤ x.2 ∧ x.2 ≤ 3 else if x.1 = 18 then 0 ≤ x.2 ∧ x.2 ≤ (p.code.length : Int) - 1 else if x.1 = 19 then 0 ≤ x.2 ∧ x.2 ≤ (p.code.length : Int) - 1 else if x.1 = 20 then 0 ≤ x.2 ∧ x.2 ≤ (p.code.length : Int) - 1 else if x.1 = 21 then 0 ≤ x.2 ∧ x.2 ≤ (p.code.length : Int) - 1 else if x.1 = 23 then 0 ≤ x.2 ∧ x.2 ≤ 40 else if x.1 = 27 then 1 ≤ x.2 ∧ x.2 ≤ 11 else (1 ≤ x.1 ∧ x.1 ≤ 27) ∧ x.2 = 0
variable {w0 : World} {H : HL} {M : Md} {X : MA} {p : PR} {a : PA} {x : Int × Int}
set_option maxHeartbeats 4000000 in
theorem l11InsOk0_c (h12 : x.1 ≠ 12) (hp : 0 ≤ p.sl ∧ p.sl ≤ 20) (hl : p.ups.length ≤ 100 ∧ p.code.length ≤ 4000) (hM : M.pr.length ≤ 100 ∧ M.tx.length ≤ 255) :
    Fn Tryz.prog w0 42 #[mdV M X, prV p a, .agg #[.int .i64 x.1, .int .i64 x.2]] H fun v H' => ∃ b, v = .bool b ∧ (b = true ↔ insP M p x) ∧ H' = H := by
  obtain ⟨o, n⟩ := x
  dsimp only at h12
  refine enter3 Tryz.func42 rfl rfl Tryz.ntmps42 rfl ?_
  repeat' (first | (exfalso; omega) | first | (apply gCall; apply L_call rfl rfl rfl rfl rfl; (· exact l1In_c _ _ _); rintro _ _ ⟨rfl, rfl⟩) | (apply gL; first | refine L_nil ?_ | refine yS ?_ | refine yX fun _ => ?_ | refine kV ?_ | ((fail_if_success (refine L_known rfl ?_)); refine yW (fun h => ?_) fun h => ?_)) | (apply gW; first | refine W_seq ?_ | refine W_region ?_ | refine W_ret ?_ | refine W_skip ?_ | refine W_block ?_ | refine W_exit ?_ | refine W_cond1 rfl ?_ | refine W_cond0 rfl ?_ | refine cW (fun h => ?_) fun h => ?_) | (first | refine seqR.normal ?_ | refine seqR.ret ?_ | refine seqR.exit ?_ | refine blockR.normal ?_ | refine blockR.ret ?_ | refine blockR.here ?_ | refine blockR.exit rfl ?_ | refine loopR.ret ?_ | refine loopR.exit ?_) | fail)
  all_goals (refine retR.ret _ _ (ret1 rfl rfl) cvt_ ⟨_, rfl, ?_, rfl⟩)
  all_goals (unfold insP; dsimp only; (repeat rw [if_neg (by assumption)]))
  all_goals (try rw [if_pos (by assumption)])
  all_goals (first | exact decide_eq_true_iff | (simp only [*, true_or]; done) | (simp only [inB, decide_eq_true_eq, decide_eq_false_iff_not, Bool.false_eq_true, false_iff, true_iff, eq_self] at *; omega) | (simp; done))
end Go.Proofs.YtfmhlieaodbgiaaGreat.Eng
