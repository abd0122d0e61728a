/- The reference's numbers, lead, text's row, coroutine's row, count of entries. -/
import Derived.Test.YtepddopgmhdllaaS4
namespace Go.Proofs.Ytepddopgmhdllaa.Eng
open Go Go.RowKit Go.Proofs.Ytepddopgmhdllaa.Sl Go.Proofs.Ytepddopgmhdllaa.Ar Go.Proofs.Ytepddopgmhdllaa.Base
set_option linter.unusedVariables false
set_option linter.unusedSimpArgs false
set_option maxRecDepth 10000
variable {w0 : World} {H : HL} {C : Cn} {A : Ar}
theorem numbers_cyc (hc : A.cyc = true) : A.numbers = decide ((256 ≤ A.semi ∧ A.semi ≤ 4000) ∧ A.n = 2 * A.semi ∧ (0 ≤ A.to ∧ A.to ≤ 1) ∧ (1 ≤ A.serial ∧ A.serial ≤ 1000000000) ∧ A.vs.length ≤ 24 ∧
  (A.start A.to ≤ A.top ∧ A.top ≤ (A.to + 1) * A.semi) ∧ ((A.start (1 - A.to) ≤ A.old ∧ A.old ≤ (2 - A.to) * A.semi) ∧ (0 ≤ A.copied ∧ A.copied ≤ A.old - A.start (1 - A.to)) ∧
      A.top + A.old - A.start (1 - A.to) - A.copied ≤ (A.to + 1) * A.semi)) := decide_eq_decide.2 (by unfold Ar.numbersP; rw [if_pos hc])
theorem numbers_still (hc : A.cyc = false) : A.numbers = decide ((256 ≤ A.semi ∧ A.semi ≤ 4000) ∧ A.n = 2 * A.semi ∧ (0 ≤ A.to ∧ A.to ≤ 1) ∧ (1 ≤ A.serial ∧ A.serial ≤ 1000000000) ∧ A.vs.length ≤ 24 ∧
  (A.start A.to ≤ A.top ∧ A.top ≤ (A.to + 1) * A.semi) ∧ A.scan = 0 ∧ A.old = 0 ∧ A.copied = 0) := decide_eq_decide.2 (by unfold Ar.numbersP; rw [if_neg (by simp [hc])])
set_option maxHeartbeats 2000000 in
theorem l2Numbers_c (hx : A.vs.length ≤ 1048576) :
    Fn Try.prog w0 91 #[arV C A] H fun v H' => v = .bool A.numbers ∧ H' = H := by
  have hm1 : 0 ≤ A.to ∧ A.to ≤ 1 ∧ 256 ≤ A.semi ∧ A.semi ≤ 4000 → 0 ≤ (2 - A.to) * A.semi ∧ (2 - A.to) * A.semi ≤ 8000 := by
    rintro ⟨h1, h2, h3, h4⟩
    have : A.to = 0 ∨ A.to = 1 := by omega
    rcases this with e | e <;> rw [e] <;> omega
  have hm2 : 0 ≤ A.to ∧ A.to ≤ 1 ∧ 256 ≤ A.semi ∧ A.semi ≤ 4000 → 1 ≤ A.start (1 - A.to) ∧ A.start (1 - A.to) ≤ 8000 := by
    rintro ⟨h1, h2, h3, h4⟩
    have : A.to = 0 ∨ A.to = 1 := by omega
    unfold Ar.start
    rcases this with e | e <;> rw [e] <;> omega
  have hm3 : 0 ≤ A.to ∧ A.to ≤ 1 ∧ 256 ≤ A.semi ∧ A.semi ≤ 4000 → 1 ≤ A.start A.to ∧ (A.to + 1) * A.semi ≤ 8000 := by
    rintro ⟨h1, h2, h3, h4⟩
    have : A.to = 0 ∨ A.to = 1 := by omega
    unfold Ar.start
    rcases this with e | e <;> rw [e] <;> omega
  refine enter1 Try.func91 rfl rfl Try.ntmps91 rfl ?_
  repeat' (first | (apply gL; first | refine L_nil ?_ | refine yS ?_ | refine yX fun _ => ?_ | (apply gCall; apply L_call rfl rfl rfl rfl rfl; (· first | exact l1In_c _ _ _ | exact specIsRef_c _ _ | exact l1Kind_c _ | exact l2Start_c om om | exact l2End_c om om | exact l2Where_c at_ hw om om | exact l2Look_c at_ hw om om | exact l2Word_c at_ hw om om om | exact l1Read_c at_ hw om om om); rintro _ _ ⟨rfl, rfl⟩) | refine kV ?_ | (apply L_val rfl rfl rfl; (· first | (apply gBin; first | fail | exact v_shr rfl rfl om (by show _ ≤ (64 : Int); omega)) | fail )) | ((fail_if_success (refine L_known rfl ?_)); first | refine yN (fun h => ?_) fun h => ?_ | refine yP (fun h => ?_) fun h => ?_ | refine yB (fun h => ?_) fun h => ?_ | refine yK (fun h => ?_) fun h => ?_)) | (apply gW; first | refine W_seq ?_ | refine W_region ?_ | refine W_ret ?_ | refine W_skip ?_ | refine W_block ?_ | refine W_exit ?_ | refine W_cond1 rfl ?_ | refine W_cond0 rfl ?_ | refine cN (fun h => ?_) fun h => ?_ | refine cP (fun h => ?_) fun h => ?_ | refine cB (fun h => ?_) fun h => ?_ | refine cK (fun h => ?_) fun h => ?_ | refine wQ ?_) | (first | refine seqR.normal ?_ | refine seqR.ret ?_ | refine seqR.exit ?_ | refine blockR.normal ?_ | refine blockR.ret ?_ | refine blockR.here ?_ | refine blockR.exit rfl ?_ | refine loopR.ret ?_ | refine loopR.exit ?_) | (apply gQ; first | refine Q_nil ?_ | refine Q_skip rfl rfl rfl ?_ | (apply Q_call rfl rfl rfl rfl rfl; (· first | exact l1In_c _ _ _ | exact specIsRef_c _ _ | exact l1Kind_c _ | exact l2Start_c om om | exact l2End_c om om | exact l2Where_c at_ hw om om | exact l2Look_c at_ hw om om | exact l2Word_c at_ hw om om om | exact l1Read_c at_ hw om om om)) | refine kQ ?_ | (apply Q_val rfl rfl rfl; (· first | (apply gBin; first | fail | exact v_shr rfl rfl om (by show _ ≤ (64 : Int); omega)) | fail )) | ((fail_if_success (refine Q_known rfl ?_)); first | refine zN (fun h => ?_) fun h => ?_ | refine zP (fun h => ?_) fun h => ?_ | refine zB (fun h => ?_) fun h => ?_ | refine zK (fun h => ?_) fun h => ?_)) | fail)
  all_goals refine retR.ret _ _ (ret1 rfl rfl) cv_ ⟨?_, rfl⟩
  all_goals (first | (rw [numbers_cyc (by assumption)]; unfold Ar.n) | (rw [numbers_still (by assumption)]; unfold Ar.n) | unfold Ar.numbers Ar.numbersP Ar.n)
  all_goals (first | rfl | exact bx om | exact b0 om | exact b1 om | exact bn om)
theorem l2Leads_c {bm : Nat} {m : List Int} {t n fr : Int} (hB : At H bm (mObj m)) (hA : At H C.bw (wObj C A)) (hw : Wf A.ws) (hl : m.length = A.ws.length) (hm : A.ws.length ≤ 8000) (hn : kd t ≠ 0 → 0 ≤ n)
    (h3 : kd t ≠ 0 → n < A.ws.length → g m n ≠ 0 → 0 ≤ A.where_ n ∧ A.where_ n < A.ws.length) :
    Fn Try.prog w0 96 #[arV C A, .slice (some ⟨bm, 0, none⟩) A.ws.length A.ws.length, .agg #[.int .i64 t, .int .i64 n], .int .i64 fr] H fun v H' => v = .bool (A.leads m t n fr) ∧ H' = H := by
  refine enter4 Try.func96 rfl rfl Try.ntmps96 rfl ?_
  repeat' (first | (apply gL; first | refine L_nil ?_ | refine yS ?_ | refine yX fun _ => ?_ | (apply gCall; apply L_call rfl rfl rfl rfl rfl; (· first | exact l1In_c _ _ _ | exact specIsRef_c _ _ | exact l1Kind_c _ | exact l2Start_c om om | exact l2End_c om om | exact l2Where_c at_ hw om om | exact l2Look_c at_ hw om om | exact l2Word_c at_ hw om om om | exact l1Read_c at_ hw om om om); rintro _ _ ⟨rfl, rfl⟩) | refine kV ?_ | (apply L_val rfl rfl rfl; (· first | (apply gBin; first | fail | exact v_shr rfl rfl om (by show _ ≤ (64 : Int); omega)) | fail )) | ((fail_if_success (refine L_known rfl ?_)); first | refine yN (fun h => ?_) fun h => ?_ | refine yP (fun h => ?_) fun h => ?_ | refine yB (fun h => ?_) fun h => ?_ | refine yK (fun h => ?_) fun h => ?_)) | (apply gW; first | refine W_seq ?_ | refine W_region ?_ | refine W_ret ?_ | refine W_skip ?_ | refine W_block ?_ | refine W_exit ?_ | refine W_cond1 rfl ?_ | refine W_cond0 rfl ?_ | refine cN (fun h => ?_) fun h => ?_ | refine cP (fun h => ?_) fun h => ?_ | refine cB (fun h => ?_) fun h => ?_ | refine cK (fun h => ?_) fun h => ?_ | refine wQ ?_) | (first | refine seqR.normal ?_ | refine seqR.ret ?_ | refine seqR.exit ?_ | refine blockR.normal ?_ | refine blockR.ret ?_ | refine blockR.here ?_ | refine blockR.exit rfl ?_ | refine loopR.ret ?_ | refine loopR.exit ?_) | (apply gQ; first | refine Q_nil ?_ | refine Q_skip rfl rfl rfl ?_ | (apply Q_call rfl rfl rfl rfl rfl; (· first | exact l1In_c _ _ _ | exact specIsRef_c _ _ | exact l1Kind_c _ | exact l2Start_c om om | exact l2End_c om om | exact l2Where_c at_ hw om om | exact l2Look_c at_ hw om om | exact l2Word_c at_ hw om om om | exact l1Read_c at_ hw om om om)) | refine kQ ?_ | (apply Q_val rfl rfl rfl; (· first | (apply gBin; first | fail | exact v_shr rfl rfl om (by show _ ≤ (64 : Int); omega)) | fail )) | ((fail_if_success (refine Q_known rfl ?_)); first | refine zN (fun h => ?_) fun h => ?_ | refine zP (fun h => ?_) fun h => ?_ | refine zB (fun h => ?_) fun h => ?_ | refine zK (fun h => ?_) fun h => ?_)) | fail)
  all_goals refine retR.ret _ _ (ret1 rfl rfl) cv_ ⟨?_, rfl⟩
  · unfold Ar.leads isRef; rw [if_neg (by simpa using h)]
  · unfold Ar.leads isRef; rw [if_pos (by simpa), if_neg (by omega)]
  all_goals (unfold Ar.leads isRef; rw [if_pos (by simpa), if_pos (by omega)]; unfold Ar.kn; (try unfold Ar.w))
  all_goals (first | rfl | exact bx om | exact b0 om | exact b1 om | exact bn om)
theorem l2StrOk_c {p size : Int} (hA : At H C.bw (wObj C A)) (hw : Wf A.ws) (hm : A.ws.length ≤ 8000) (hp : 0 ≤ p) (hs : 1 ≤ size) (hp2 : p + size < A.ws.length) :
    Fn Try.prog w0 135 #[arV C A, .int .i64 p, .int .i64 size] H fun v H' => v = .bool (A.strOk p size) ∧ H' = H := by
  refine enter3 Try.func135 rfl rfl Try.ntmps135 rfl ?_
  repeat' (first | (apply gL; first | refine L_nil ?_ | refine yS ?_ | refine yX fun _ => ?_ | (apply gCall; apply L_call rfl rfl rfl rfl rfl; (· first | exact l1In_c _ _ _ | exact specIsRef_c _ _ | exact l1Kind_c _ | exact l2Start_c om om | exact l2End_c om om | exact l2Where_c at_ hw om om | exact l2Look_c at_ hw om om | exact l2Word_c at_ hw om om om | exact l1Read_c at_ hw om om om); rintro _ _ ⟨rfl, rfl⟩) | refine kV ?_ | (apply L_val rfl rfl rfl; (· first | (apply gBin; first | fail | exact v_shr rfl rfl om (by show _ ≤ (64 : Int); omega)) | fail )) | ((fail_if_success (refine L_known rfl ?_)); first | refine yN (fun h => ?_) fun h => ?_ | refine yP (fun h => ?_) fun h => ?_ | refine yB (fun h => ?_) fun h => ?_ | refine yK (fun h => ?_) fun h => ?_)) | (apply gW; first | refine W_seq ?_ | refine W_region ?_ | refine W_ret ?_ | refine W_skip ?_ | refine W_block ?_ | refine W_exit ?_ | refine W_cond1 rfl ?_ | refine W_cond0 rfl ?_ | refine cN (fun h => ?_) fun h => ?_ | refine cP (fun h => ?_) fun h => ?_ | refine cB (fun h => ?_) fun h => ?_ | refine cK (fun h => ?_) fun h => ?_ | refine wQ ?_) | (first | refine seqR.normal ?_ | refine seqR.ret ?_ | refine seqR.exit ?_ | refine blockR.normal ?_ | refine blockR.ret ?_ | refine blockR.here ?_ | refine blockR.exit rfl ?_ | refine loopR.ret ?_ | refine loopR.exit ?_) | (apply gQ; first | refine Q_nil ?_ | refine Q_skip rfl rfl rfl ?_ | (apply Q_call rfl rfl rfl rfl rfl; (· first | exact l1In_c _ _ _ | exact specIsRef_c _ _ | exact l1Kind_c _ | exact l2Start_c om om | exact l2End_c om om | exact l2Where_c at_ hw om om | exact l2Look_c at_ hw om om | exact l2Word_c at_ hw om om om | exact l1Read_c at_ hw om om om)) | refine kQ ?_ | (apply Q_val rfl rfl rfl; (· first | (apply gBin; first | fail | exact v_shr rfl rfl om (by show _ ≤ (64 : Int); omega)) | fail )) | ((fail_if_success (refine Q_known rfl ?_)); first | refine zN (fun h => ?_) fun h => ?_ | refine zP (fun h => ?_) fun h => ?_ | refine zB (fun h => ?_) fun h => ?_ | refine zK (fun h => ?_) fun h => ?_)) | fail)
  all_goals refine retR.ret _ _ (ret1 rfl rfl) cv_ ⟨?_, rfl⟩
  all_goals (unfold Ar.strOk Ar.w)
  all_goals (first | rfl | exact bx om | exact b0 om | exact b1 om | exact bn om)
theorem used_step {b n : Int} {f : Nat} {i u : Int} (h : i < n) (hf : n - i < (f : Int)) : ∃ f', f = f' + 1 ∧ A.usedFrom b n f i u = A.usedFrom b n f' (i + 1) (if g A.ws (b + 1 + 4 * i) ≠ 0 then u + 1 else u) := by
  cases f with
  | zero => omega
  | succ f => exact ⟨f, rfl, by rw [Ar.usedFrom, if_pos h]⟩
theorem used_end {b n : Int} {f : Nat} {i u : Int} (h : ¬ i < n) : A.usedFrom b n f i u = u := by
  cases f with
  | zero => rfl
  | succ f => rw [Ar.usedFrom, if_neg h]
theorem l2Used_c {b : Int} (hA : At H C.bw (wObj C A)) (hw : Wf A.ws) (hm : A.ws.length ≤ 8000) (hp : 0 ≤ b) (hp2 : b + rs (g A.ws b) < A.ws.length) :
    Fn Try.prog w0 139 #[arV C A, .int .i64 b] H fun v H' => v = .tuple #[.int .i64 (A.used b), .int .i64 (A.entries b)] ∧ H' = H := by
  have hr := rsR (g A.ws b)
  have he : A.entries b = rs (g A.ws b) / 4 := rfl
  refine enter2 Try.func139 rfl rfl Try.ntmps139 rfl ?_
  repeat' (first | (apply gL; first | refine L_nil ?_ | refine yS ?_ | refine yX fun _ => ?_ | (apply gCall; apply L_call rfl rfl rfl rfl rfl; (· first | exact l1In_c _ _ _ | exact specIsRef_c _ _ | exact l1Kind_c _ | exact l2Start_c om om | exact l2End_c om om | exact l2Where_c at_ hw om om | exact l2Look_c at_ hw om om | exact l2Word_c at_ hw om om om | exact l1Read_c at_ hw om om om); rintro _ _ ⟨rfl, rfl⟩) | refine kV ?_ | (apply L_val rfl rfl rfl; (· first | (apply gBin; first | fail | exact v_shr rfl rfl om (by show _ ≤ (64 : Int); omega)) | fail )) | ((fail_if_success (refine L_known rfl ?_)); first | refine yN (fun h => ?_) fun h => ?_ | refine yP (fun h => ?_) fun h => ?_ | refine yB (fun h => ?_) fun h => ?_ | refine yK (fun h => ?_) fun h => ?_)) | (apply gW; first | refine W_seq ?_ | refine W_region ?_ | refine W_ret ?_ | refine W_skip ?_ | refine W_block ?_ | refine W_exit ?_ | refine W_cond1 rfl ?_ | refine W_cond0 rfl ?_ | refine cN (fun h => ?_) fun h => ?_ | refine cP (fun h => ?_) fun h => ?_ | refine cB (fun h => ?_) fun h => ?_ | refine cK (fun h => ?_) fun h => ?_ | refine wQ ?_) | (first | refine seqR.normal ?_ | refine seqR.ret ?_ | refine seqR.exit ?_ | refine blockR.normal ?_ | refine blockR.ret ?_ | refine blockR.here ?_ | refine blockR.exit rfl ?_ | refine loopR.ret ?_ | refine loopR.exit ?_) | (apply gQ; first | refine Q_nil ?_ | refine Q_skip rfl rfl rfl ?_ | (apply Q_call rfl rfl rfl rfl rfl; (· first | exact l1In_c _ _ _ | exact specIsRef_c _ _ | exact l1Kind_c _ | exact l2Start_c om om | exact l2End_c om om | exact l2Where_c at_ hw om om | exact l2Look_c at_ hw om om | exact l2Word_c at_ hw om om om | exact l1Read_c at_ hw om om om)) | refine kQ ?_ | (apply Q_val rfl rfl rfl; (· first | (apply gBin; first | fail | exact v_shr rfl rfl om (by show _ ≤ (64 : Int); omega)) | fail )) | ((fail_if_success (refine Q_known rfl ?_)); first | refine zN (fun h => ?_) fun h => ?_ | refine zP (fun h => ?_) fun h => ?_ | refine zB (fun h => ?_) fun h => ?_ | refine zK (fun h => ?_) fun h => ?_)) | fail)
  rename_i ba
  apply W_loopX (α := Int × Int) (fun y => [(1, .int .i64 b), (2, .pointer (some ⟨ba, 0, none⟩)), (6, .int .i64 (A.entries b)), (7, .int .i64 y.2), (8, .int .i64 y.1)]) (fun y => (ba, aObj C A) :: H)
      (fun y => (∃ f, A.usedFrom b (A.entries b) f y.1 y.2 = A.used b ∧ A.entries b - y.1 < (f : Int)) ∧ 0 ≤ y.1 ∧ y.1 ≤ A.entries b ∧ 0 ≤ y.2 ∧ y.2 ≤ y.1) (fun y => (A.entries b - y.1).toNat) (0, 0)
  · exact sub_
  · exact cvt_
  · exact ⟨⟨_, rfl, by dsimp only; omega⟩, by dsimp only; omega, by dsimp only; omega, by dsimp only; omega, by dsimp only; omega⟩
  rintro ⟨i, u⟩ ⟨⟨f, hf, hf2⟩, hi, hi2, hu, hu2⟩
  dsimp only at hf hf2 hi hi2 hu hu2 ⊢
  repeat' (first | (apply gL; first | refine L_nil ?_ | refine yS ?_ | refine yX fun _ => ?_ | (apply gCall; apply L_call rfl rfl rfl rfl rfl; (· first | exact l1In_c _ _ _ | exact specIsRef_c _ _ | exact l1Kind_c _ | exact l2Start_c om om | exact l2End_c om om | exact l2Where_c at_ hw om om | exact l2Look_c at_ hw om om | exact l2Word_c at_ hw om om om | exact l1Read_c at_ hw om om om); rintro _ _ ⟨rfl, rfl⟩) | refine kV ?_ | (apply L_val rfl rfl rfl; (· first | (apply gBin; first | fail | exact v_shr rfl rfl om (by show _ ≤ (64 : Int); omega)) | fail )) | ((fail_if_success (refine L_known rfl ?_)); first | refine yN (fun h => ?_) fun h => ?_ | refine yP (fun h => ?_) fun h => ?_ | refine yB (fun h => ?_) fun h => ?_ | refine yK (fun h => ?_) fun h => ?_)) | (apply gW; first | refine W_seq ?_ | refine W_region ?_ | refine W_ret ?_ | refine W_skip ?_ | refine W_block ?_ | refine W_exit ?_ | refine W_cond1 rfl ?_ | refine W_cond0 rfl ?_ | refine cN (fun h => ?_) fun h => ?_ | refine cP (fun h => ?_) fun h => ?_ | refine cB (fun h => ?_) fun h => ?_ | refine cK (fun h => ?_) fun h => ?_ | refine wQ ?_) | (first | refine seqR.normal ?_ | refine seqR.ret ?_ | refine seqR.exit ?_ | refine blockR.normal ?_ | refine blockR.ret ?_ | refine blockR.here ?_ | refine blockR.exit rfl ?_ | refine loopR.ret ?_ | refine loopR.exit ?_) | (apply gQ; first | refine Q_nil ?_ | refine Q_skip rfl rfl rfl ?_ | (apply Q_call rfl rfl rfl rfl rfl; (· first | exact l1In_c _ _ _ | exact specIsRef_c _ _ | exact l1Kind_c _ | exact l2Start_c om om | exact l2End_c om om | exact l2Where_c at_ hw om om | exact l2Look_c at_ hw om om | exact l2Word_c at_ hw om om om | exact l1Read_c at_ hw om om om)) | refine kQ ?_ | (apply Q_val rfl rfl rfl; (· first | (apply gBin; first | fail | exact v_shr rfl rfl om (by show _ ≤ (64 : Int); omega)) | fail )) | ((fail_if_success (refine Q_known rfl ?_)); first | refine zN (fun h => ?_) fun h => ?_ | refine zP (fun h => ?_) fun h => ?_ | refine zB (fun h => ?_) fun h => ?_ | refine zK (fun h => ?_) fun h => ?_)) | fail)
  · obtain ⟨f', rfl, e⟩ := used_step (A := A) (b := b) (u := u) (show i < A.entries b by assumption) hf2
    rw [e, if_pos h] at hf
    apply loopR.mk (_, _)
    · exact sub_
    · exact cvt_
    · exact ⟨⟨f', hf, by dsimp only; omega⟩, by dsimp only; omega, by dsimp only; omega, by dsimp only; omega, by dsimp only; omega⟩
    · dsimp only; omega
  · obtain ⟨f', rfl, e⟩ := used_step (A := A) (b := b) (u := u) (show i < A.entries b by assumption) hf2
    rw [e, if_neg (by omega)] at hf
    apply loopR.mk (_, _)
    · exact sub_
    · exact cvt_
    · exact ⟨⟨f', hf, by dsimp only; omega⟩, by dsimp only; omega, by dsimp only; omega, by dsimp only; omega, by dsimp only; omega⟩
    · dsimp only; omega
  · rw [used_end h] at hf
    refine retR.ret _ _ (ret2 rfl rfl rfl) cv_ ⟨?_, rfl⟩
    rw [hf]
end Go.Proofs.Ytepddopgmhdllaa.Eng
