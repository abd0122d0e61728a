/- Modules that may be run: the implementation's insOk, op 27; both sides at any op. -/
import Derived.Test.YtfmhlieaodbgiaaGreatB3
import Derived.Test.YtfmhlieaodbgiaaGreatB5
import Derived.Test.YtfmhlieaodbgiaaGreatB6
namespace Go.Proofs.YtfmhlieaodbgiaaGreat.Eng
open Go Go.RowKit Go.Proofs.YtfmhlieaodbgiaaGreat.Sl Go.Proofs.YtfmhlieaodbgiaaGreat.Ar Go.Proofs.YtfmhlieaodbgiaaGreat.Base
set_option linter.unusedVariables false
set_option linter.unusedSimpArgs false
set_option maxRecDepth 10000
variable {w0 : World} {H : HL} {M : Md} {X : MA} {p : PR} {a : PA} {x : Int × Int}
theorem insP_27 {n : Int} : insP M p (27, n) ↔ 1 ≤ n ∧ n ≤ 11 := by
  unfold insP; dsimp only
  (repeat rw [if_neg (by decide)])
  rw [if_pos rfl]
set_option maxHeartbeats 4000000 in
theorem insOk27_c {n : Int} (hp : 0 ≤ p.sl ∧ p.sl ≤ 20) (hl : p.ups.length ≤ 100 ∧ p.code.length ≤ 4000) (hM : M.pr.length ≤ 100 ∧ M.tx.length ≤ 255) :
    Fn Tryz.prog w0 54 #[mdV M X, prV p a, .agg #[.int .i64 27, .int .i64 n]] H fun v H' => ∃ b, v = .bool b ∧ (b = true ↔ insP M p (27, n)) ∧ H' = H := by
  refine enter3 Tryz.func54 rfl rfl Tryz.ntmps54 rfl ?_
  repeat' (first | (exfalso; omega) | ((fail_if_success apply gAtR 31); (first | ((first | (apply gCall; apply L_call rfl rfl rfl rfl rfl) | (apply gQC; apply Q_call rfl rfl rfl rfl rfl)); (· exact within_c _ _ _); try rintro _ _ ⟨rfl, rfl⟩) | (apply gL; first | refine L_nil ?_ | refine yS ?_ | refine yX fun _ => ?_ | refine kV ?_ | ((fail_if_success (refine L_known rfl ?_)); refine yW (fun h => ?_) fun h => ?_)) | (apply gW; first | refine W_seq ?_ | refine W_region ?_ | refine W_ret ?_ | refine W_skip ?_ | refine W_block ?_ | refine W_exit ?_ | refine W_cond1 rfl ?_ | refine W_cond0 rfl ?_ | refine cW (fun h => ?_) fun h => ?_ | refine wQ ?_) | (first | refine seqR.normal ?_ | refine seqR.ret ?_ | refine seqR.exit ?_ | refine blockR.normal ?_ | refine blockR.ret ?_ | refine blockR.here ?_ | refine blockR.exit rfl ?_) | (apply gQ; first | refine Q_nil ?_ | refine Q_skip rfl rfl rfl ?_ | refine kQ ?_ | ((fail_if_success (refine Q_known rfl ?_)); refine zW (fun h => ?_) fun h => ?_)) | fail)))
  rename_i b3 b4 b5
  refine W_seq ?_
  apply W_regionA (D := (b5, .cells #[.int .i64 27, .int .i64 n] 80 (0, 0)) :: (b4, .cells #[.int .i64 p.pa, .int .i64 p.sl, .slice (ad a.ub) p.ups.length a.uc, .slice (ad a.cb) p.code.length a.cc] 58 (0, 0)) :: (b3, .cells #[.slice (ad X.pb) M.pr.length X.pc, .slice (ad X.tb) M.tx.length X.tc] 29 (0, 0)) :: H) (by kernel_rfl)
  refine kAt 0 ?_
  refine kAt 1 ?_
  refine A_one (i := 2) (by kernel_rfl) cvt_ rfl (O_of_L fun S hS => ?_)
  apply L_call rfl rfl rfl rfl rfl
  · exact libNames_c
  rintro _ _ ⟨b, cs, rfl, rfl⟩
  refine L_nil (hS _ _ ?_)
  clear hS
  refine kAt 3 ?_
  refine A_one (i := 4) (by kernel_rfl) cvt_ rfl (O_of_L fun S hS => ?_)
  first | (apply gCall; apply L_call rfl rfl rfl rfl rfl; (· exact within_c _ _ _); rintro _ _ ⟨rfl, rfl⟩) | (apply gL; first | refine L_nil ?_ | refine yS ?_ | refine yX fun _ => ?_ | refine kV ?_ | ((fail_if_success (refine L_known rfl ?_)); refine yW (fun h => ?_) fun h => ?_))
  refine L_nil (hS _ _ ?_)
  clear hS
  refine kAt 5 ?_
  refine A_nil (by kernel_rfl) cvt_ ?_
  repeat' (first | first | ((first | (apply gCall; apply L_call rfl rfl rfl rfl rfl) | (apply gQC; apply Q_call rfl rfl rfl rfl rfl)); (· exact within_c _ _ _); try rintro _ _ ⟨rfl, rfl⟩) | (apply gL; first | refine L_nil ?_ | refine yS ?_ | refine yX fun _ => ?_ | refine kV ?_ | ((fail_if_success (refine L_known rfl ?_)); refine yW (fun h => ?_) fun h => ?_)) | (apply gW; first | refine W_seq ?_ | refine W_region ?_ | refine W_ret ?_ | refine W_skip ?_ | refine W_block ?_ | refine W_exit ?_ | refine W_cond1 rfl ?_ | refine W_cond0 rfl ?_ | refine cW (fun h => ?_) fun h => ?_ | refine wQ ?_) | (first | refine seqR.normal ?_ | refine seqR.ret ?_ | refine seqR.exit ?_ | refine blockR.normal ?_ | refine blockR.ret ?_ | refine blockR.here ?_ | refine blockR.exit rfl ?_) | (apply gQ; first | refine Q_nil ?_ | refine Q_skip rfl rfl rfl ?_ | refine kQ ?_ | ((fail_if_success (refine Q_known rfl ?_)); refine zW (fun h => ?_) fun h => ?_)) | fail)
  refine retR.ret _ _ (ret1 rfl rfl) cvt_ ⟨_, rfl, ?_, rfl⟩
  rw [insP_27]
  exact decide_eq_true_iff
theorem insOk_c (hm : RM H M X) (hub : ∀ q ∈ M.pr, q.ups.length ≤ 1048576) (hp : 0 ≤ p.sl ∧ p.sl ≤ 20) (hl : p.ups.length ≤ 100 ∧ p.code.length ≤ 4000) (hM : M.pr.length ≤ 100 ∧ M.tx.length ≤ 255) :
    Fn Tryz.prog w0 54 #[mdV M X, prV p a, .agg #[.int .i64 x.1, .int .i64 x.2]] H fun v H' => ∃ b, v = .bool b ∧ (b = true ↔ insP M p x) ∧ H' = H := by
  by_cases h12 : x.1 = 12
  · obtain ⟨o, n⟩ := x
    dsimp only at h12
    subst h12
    exact insOk12_c hm hub hp hl hM
  · by_cases h27 : x.1 = 27
    · obtain ⟨o, n⟩ := x
      dsimp only at h27
      subst h27
      exact insOk27_c hp hl hM
    · exact insOk0_c h12 h27 hp hl hM
theorem l11InsOk_c (hm : RM H M X) (hub : ∀ q ∈ M.pr, q.ups.length ≤ 1048576) (hp : 0 ≤ p.sl ∧ p.sl ≤ 20) (hl : p.ups.length ≤ 100 ∧ p.code.length ≤ 4000) (hM : M.pr.length ≤ 100 ∧ M.tx.length ≤ 255) :
    Fn Tryz.prog w0 42 #[mdV M X, prV p a, .agg #[.int .i64 x.1, .int .i64 x.2]] H fun v H' => ∃ b, v = .bool b ∧ (b = true ↔ insP M p x) ∧ H' = H := by
  by_cases h12 : x.1 = 12
  · obtain ⟨o, n⟩ := x
    dsimp only at h12
    subst h12
    exact l11InsOk12_c hm hub hp hl hM
  · exact l11InsOk0_c h12 hp hl hM
end Go.Proofs.YtfmhlieaodbgiaaGreat.Eng
