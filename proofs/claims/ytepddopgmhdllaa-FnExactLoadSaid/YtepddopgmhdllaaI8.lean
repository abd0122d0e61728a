/- The implementation's leads, textOk, coOk. -/
import Derived.Test.YtepddopgmhdllaaI7
import Derived.Test.YtepddopgmhdllaaJ0
namespace Go.Proofs.Ytepddopgmhdllaa.Eng
open Go Go.RowKit Go.Proofs.Ytepddopgmhdllaa.Sl Go.Proofs.Ytepddopgmhdllaa.Ar Go.Proofs.Ytepddopgmhdllaa.Base
set_option linter.unusedVariables false
set_option linter.unusedSimpArgs false
set_option maxRecDepth 10000
variable {w0 : World} {H : HL} {C : Cn} {A : Ar} {ba : Nat}
set_option maxHeartbeats 1000000 in
theorem leads_c {bv bi bs bb : Nat} {m : List Int} {t n p fr : Int} (hV : At H bv (svObj ba bi A.ws.length bs bb)) (hB : At H bi (uObj m)) (hP : At H ba (aObj C A)) (hA : At H C.bw (wObj C A)) (hw : Wf A.ws) (hm : A.ws.length ≤ 8000) (hl : m.length = A.ws.length) (hh : A.to = 0 ∨ A.to = 1) (hs : 256 ≤ A.semi ∧ A.semi ≤ 4000)
    (h0 : kd t ≠ 0 → 0 ≤ n) (hWh : kd t ≠ 0 → n < A.ws.length → g m n ≠ 0 → PlaceP A n ∧ 0 ≤ A.where_ n ∧ A.where_ n < A.ws.length) (hn : g m n = 0 ∨ g m n = 1 ∨ g m n = 2 ∨ g m n = 3)
    (hfr : (p = -1 ∧ fr = 1) ∨ (0 ≤ p ∧ p < A.ws.length ∧ (g m p = 1 ∨ g m p = 2) ∧ fr = A.fromOf m p)) :
    Fn Try.prog w0 154 #[.pointer (some ⟨bv, 0, none⟩), .agg #[.int .i64 t, .int .i64 n], .int .i64 p] H fun v H' => v = .bool (A.leads m t n fr) ∧ H' = H := by
  have hkd : kd t ≠ 0 → isRef t = true := fun h => by unfold isRef; exact decide_eq_true h
  obtain ⟨cy, k1, k0, hfr2⟩ : ∃ cy : Int, (A.cyc = true → cy = 1) ∧ (A.cyc = false → cy = 0) ∧ ((p = -1 ∧ fr = 1) ∨ (0 ≤ p ∧ p < (A.ws.length : Int) ∧ (g m p = 2 ∧ fr = 3 ∨ g m p = 1 ∧ (cy = 1 ∧ A.scan ≤ p ∧ fr = 2 ∨ ¬ (cy = 1 ∧ A.scan ≤ p) ∧ fr = 1)))) := by
    refine ⟨if A.cyc = true then 1 else 0, fun h => if_pos h, fun h => if_neg (by rw [h]; decide), ?_⟩
    rcases hfr with h | ⟨h1, h2, h3, h4⟩
    · exact .inl h
    · refine .inr ⟨h1, h2, ?_⟩
      rw [h4]; unfold Ar.fromOf
      rcases h3 with h3 | h3
      · refine .inr ⟨h3, ?_⟩
        rw [if_neg (show ¬ g m p = 2 by omega)]
        by_cases h5 : A.cyc = true ∧ A.scan ≤ p
        · left; exact ⟨if_pos h5.1, h5.2, if_pos h5⟩
        · right; refine ⟨fun c => ?_, if_neg h5⟩
          cases h6 : A.cyc with
          | true => exact h5 ⟨h6, c.2⟩
          | false => rw [h6] at c; simp at c
      · exact .inl ⟨h3, if_pos h3⟩
  have hlead : kd t ≠ 0 → n < (A.ws.length : Int) → A.leads m t n fr = decide ((g m n = 1 ∧ fr ≠ 3 ∨ (g m n = 2 ∨ g m n = 3) ∧ fr ≠ 1) ∧ rk (g A.ws (A.where_ n)) = kd t) := fun h1 h2 => by
    unfold Ar.leads; rw [if_pos (hkd h1), if_pos (by omega)]; rfl
  refine enter3 Try.func154 rfl rfl Try.ntmps154 rfl ?_
  repeat' (first | (apply gL; first | refine L_nil ?_ | refine yS ?_ | refine yX fun _ => ?_ | (apply gCall; apply L_call rfl rfl rfl rfl rfl; (· first | exact implIsRef_c _ _ | exact place2_c at_ at_ hw hh hs om om (hWh (by assumption) om (by assumption)).1 | exact head_c at_ at_ hw om om | exact kindOf_c _); rintro _ _ ⟨rfl, rfl⟩) | refine kV ?_ | ((fail_if_success (refine L_known rfl ?_)); first | refine yN (fun h => ?_) fun h => ?_ | refine yP (fun h => ?_) fun h => ?_ | refine yB (fun h => ?_) fun h => ?_ | refine yK (fun h => ?_) fun h => ?_)) | (apply gW; first | refine W_seq ?_ | refine W_region ?_ | refine W_ret ?_ | refine W_skip ?_ | refine W_block ?_ | refine W_exit ?_ | refine W_cond1 rfl ?_ | refine W_cond0 rfl ?_ | refine cN (fun h => ?_) fun h => ?_ | refine cP (fun h => ?_) fun h => ?_ | refine cB (fun h => ?_) fun h => ?_ | refine cK (fun h => ?_) fun h => ?_ | refine wQ ?_) | (first | refine seqR.normal ?_ | refine seqR.ret ?_ | refine seqR.exit ?_ | refine blockR.normal ?_ | refine blockR.ret ?_ | refine blockR.here ?_ | refine blockR.exit rfl ?_) | (apply gQ; first | refine Q_nil ?_ | refine Q_skip rfl rfl rfl ?_ | (apply Q_call rfl rfl rfl rfl rfl; (· first | exact implIsRef_c _ _ | exact place2_c at_ at_ hw hh hs om om (hWh (by assumption) om (by assumption)).1 | exact head_c at_ at_ hw om om | exact kindOf_c _)) | refine kQ ?_ | ((fail_if_success (refine Q_known rfl ?_)); first | refine zN (fun h => ?_) fun h => ?_ | refine zP (fun h => ?_) fun h => ?_ | refine zB (fun h => ?_) fun h => ?_ | refine zK (fun h => ?_) fun h => ?_)) | fail)
  · refine retR.ret _ _ (ret1 rfl rfl) cv_ ⟨?_, rfl⟩
    unfold Ar.leads isRef; rw [if_neg (by simpa using h)]
  · refine retR.ret _ _ (ret1 rfl rfl) cv_ ⟨?_, rfl⟩
    unfold Ar.leads; rw [if_pos (hkd (by assumption)), if_neg (by omega)]
  all_goals (
    (try have := k1 (by assumption)); (try have := k0 (by assumption))
    first
      | (exfalso; omega)
      | (refine retR.ret _ _ (ret1 rfl rfl) cv_ ⟨?_, rfl⟩
         rw [hlead (by assumption) (by omega)]
         (first | rfl | exact bx om | exact b0 om | exact b1 om | exact bn om)))
end Go.Proofs.Ytepddopgmhdllaa.Eng
