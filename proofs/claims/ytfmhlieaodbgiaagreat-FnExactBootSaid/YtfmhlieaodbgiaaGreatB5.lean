/- Modules that may be run: the implementation's insOk where a function is made, where a name of the library is. -/
import Derived.Test.YtfmhlieaodbgiaaGreatB4
namespace Go.Proofs.YtfmhlieaodbgiaaGreat.Eng
open Go Go.RowKit Go.Proofs.YtfmhlieaodbgiaaGreat.Sl Go.Proofs.YtfmhlieaodbgiaaGreat.Ar Go.Proofs.YtfmhlieaodbgiaaGreat.Base
set_option linter.unusedVariables false
set_option linter.unusedSimpArgs false
set_option maxRecDepth 10000
variable {w0 : World} {H : HL} {M : Md} {X : MA} {p q : PR} {a a' : PA} {x : Int × Int}
theorem RUp.there {pp : Nat × Obj} {bo : Option Nat} {xs : List (Bool × Int)} (h : RUp H bo xs) : RUp (pp :: H) bo xs := by cases bo with | none => exact h | some b => obtain ⟨s, h⟩ := h; exact ⟨s, .there h⟩
instance {u : Bool × Int} : Decidable (upP p u) := by unfold upP; infer_instance
theorem upsOkD_c (hu : RUp H a'.ub q.ups) (hqu : q.ups.length ≤ 1048576) (hp : 0 ≤ p.sl ∧ p.sl ≤ 20) (hl : p.ups.length ≤ 100) :
    Fn Tryz.prog w0 78 #[prV q a', prV p a] H fun v H' => v = .bool (decide (∀ u ∈ q.ups, upP p u)) ∧ H' = H := by
  refine (upsOk_c (w0 := w0) (a := a) hu hqu hp hl).mono ?_
  rintro v H' ⟨b, rfl, hb, rfl⟩
  refine ⟨?_, rfl⟩
  congr 1
  rw [Bool.eq_iff_iff, hb]; simp
set_option maxHeartbeats 4000000 in
theorem insOk12_c {n : Int} (hm : RM H M X) (hub : ∀ q ∈ M.pr, q.ups.length ≤ 1048576) (hp : 0 ≤ p.sl ∧ p.sl ≤ 20) (hl : p.ups.length ≤ 100 ∧ p.code.length ≤ 4000) (hM : M.pr.length ≤ 100 ∧ M.tx.length ≤ 255) :
    Fn Tryz.prog w0 54 #[mdV M X, prV p a, .agg #[.int .i64 12, .int .i64 n]] H fun v H' => ∃ b, v = .bool b ∧ (b = true ↔ insP M p (12, n)) ∧ H' = H := by
  refine enter3 Tryz.func54 rfl rfl Tryz.ntmps54 rfl ?_
  by_cases hn : 0 ≤ n ∧ n ≤ (M.pr.length : Int) - 1
  · obtain ⟨q, eq⟩ : ∃ q, M.pr[n.toNat]? = some q := ⟨M.pr[n.toNat]'(by omega), List.getElem?_eq_getElem _⟩
    have hqu := hub q (List.mem_of_getElem? eq)
    obtain ⟨pb, sp, a', ep, hA, hz, ea, hu, -⟩ := hm.at eq
    have e : mdV M X = .agg #[.slice (some ⟨pb, 0, none⟩) M.pr.length X.pc, .slice (ad X.tb) M.tx.length X.tc] := by unfold mdV; rw [ep]; rfl
    rw [e]
    repeat' (first | exact absurd hn h | (exfalso; omega) | first | ((first | (apply gCall; apply L_call rfl rfl rfl rfl rfl) | (apply gQC; apply Q_call rfl rfl rfl rfl rfl)); (· first | exact within_c _ _ _ | exact upsOkD_c (q := q) (a' := a') (p := p) (a := a) hu.there.there.there hqu hp hl.1); try rintro _ _ ⟨rfl, rfl⟩) | (apply gL; first | refine L_nil ?_ | refine yS ?_ | refine yX fun _ => ?_ | refine kV ?_ | (apply L_val rfl rfl rfl; (· first | (apply gBin; first | fail ) | fail | exact v_ldF prLen rfl at_ hz)) | ((fail_if_success (refine L_known rfl ?_)); refine yW (fun h => ?_) fun h => ?_)) | (apply gW; first | refine W_seq ?_ | refine W_region ?_ | refine W_ret ?_ | refine W_skip ?_ | refine W_block ?_ | refine W_exit ?_ | refine W_cond1 rfl ?_ | refine W_cond0 rfl ?_ | refine cW (fun h => ?_) fun h => ?_ | refine wQ ?_) | (first | refine seqR.normal ?_ | refine seqR.ret ?_ | refine seqR.exit ?_ | refine blockR.normal ?_ | refine blockR.ret ?_ | refine blockR.here ?_ | refine blockR.exit rfl ?_) | (apply gQ; first | refine Q_nil ?_ | refine Q_skip rfl rfl rfl ?_ | refine kQ ?_ | (apply Q_val rfl rfl rfl; (· first | (apply gBin; first | fail ) | fail | exact v_ldF prLen rfl at_ hz)) | ((fail_if_success (refine Q_known rfl ?_)); refine zW (fun h => ?_) fun h => ?_)) | fail)
    refine retR.ret _ _ (ret1 rfl rfl) cvt_ ⟨_, rfl, ?_, rfl⟩
    rw [insP_12, decide_eq_true_iff]
    refine ⟨fun c => ⟨hn, fun q' e' => ?_⟩, fun c => c.2 q eq⟩
    rw [eq] at e'; cases e'; exact c
  · repeat' (first | exact absurd h hn | (exfalso; omega) | first | ((first | (apply gCall; apply L_call rfl rfl rfl rfl rfl) | (apply gQC; apply Q_call rfl rfl rfl rfl rfl)); (· first | exact within_c _ _ _ | exact upsOkD_c (q := q) (a' := a') (p := p) (a := a) hu.there.there.there hqu hp hl.1); try rintro _ _ ⟨rfl, rfl⟩) | (apply gL; first | refine L_nil ?_ | refine yS ?_ | refine yX fun _ => ?_ | refine kV ?_ | (apply L_val rfl rfl rfl; (· first | (apply gBin; first | fail ) | fail | exact v_ldF prLen rfl at_ hz)) | ((fail_if_success (refine L_known rfl ?_)); refine yW (fun h => ?_) fun h => ?_)) | (apply gW; first | refine W_seq ?_ | refine W_region ?_ | refine W_ret ?_ | refine W_skip ?_ | refine W_block ?_ | refine W_exit ?_ | refine W_cond1 rfl ?_ | refine W_cond0 rfl ?_ | refine cW (fun h => ?_) fun h => ?_ | refine wQ ?_) | (first | refine seqR.normal ?_ | refine seqR.ret ?_ | refine seqR.exit ?_ | refine blockR.normal ?_ | refine blockR.ret ?_ | refine blockR.here ?_ | refine blockR.exit rfl ?_) | (apply gQ; first | refine Q_nil ?_ | refine Q_skip rfl rfl rfl ?_ | refine kQ ?_ | (apply Q_val rfl rfl rfl; (· first | (apply gBin; first | fail ) | fail | exact v_ldF prLen rfl at_ hz)) | ((fail_if_success (refine Q_known rfl ?_)); refine zW (fun h => ?_) fun h => ?_)) | fail)
    refine retR.ret _ _ (ret1 rfl rfl) cvt_ ⟨_, rfl, ?_, rfl⟩
    rw [insP_12]
    simp only [Bool.false_eq_true, false_iff]
    exact fun c => hn c.1
end Go.Proofs.YtfmhlieaodbgiaaGreat.Eng
