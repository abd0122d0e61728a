/- The implementation's entry. -/
import Derived.Test.YtgjangoglconiaaI4
namespace Go.Proofs.Ytgjangoglconiaa.Eng
open Go Go.RowKit Go.Proofs.Ytgjangoglconiaa.Sl Go.Proofs.Ytgjangoglconiaa.Ar Go.Proofs.Ytgjangoglconiaa.Base
set_option linter.unusedVariables false
set_option linter.unusedSimpArgs false
set_option maxRecDepth 10000
variable {w0 : World} {H : HL} {C : Cn} {A : Ar} {ba : Nat}
theorem val2_c {p : Int} (hP : At H ba (aObj C A)) (hA : At H C.bw (wObj C A)) (hw : Wf A.ws) (hr : rv A.ws p = true) (h0 : 0 ≤ p) (h1 : p + 1 < (A.ws.length : Int)) (hm : A.ws.length ≤ 8000) :
    Fn Try.prog w0 119 #[.pointer (some ⟨ba, 0, none⟩), .int .i64 p] H fun v H' => v = .agg #[.int .i64 (rvT A.ws p), .int .i64 (rvN A.ws p)] ∧ H' = H := by
  have := val_c (w0 := w0) hP hA hw h0 h1 hm
  have e1 : rvT A.ws p = g A.ws p := by unfold rvT; rw [if_pos hr]
  have e2 : rvN A.ws p = sg (g A.ws (p + 1)) := by unfold rvN; rw [if_pos hr]
  have e3 : sg (g A.ws p) = g A.ws p := by
    have h9 : g A.ws p ≤ 9 := by unfold rv at hr; rw [Bool.and_eq_true] at hr; exact of_decide_eq_true hr.1
    unfold sg; rw [if_pos (by omega)]
  rwa [e1, e2, ← e3]
set_option maxHeartbeats 1000000 in
theorem entry_c {b t x n : Int} (hP : At H ba (aObj C A)) (hA : At H C.bw (wObj C A)) (hw : Wf A.ws) (hm : A.ws.length ≤ 8000) (hh : A.to = 0 ∨ A.to = 1) (hs : 256 ≤ A.semi ∧ A.semi ≤ 4000)
    (hb : 0 ≤ b) (hn : n = rs (g A.ws b) / 4) (hn1 : 1 ≤ n) (hbn : b + 4 * n < A.ws.length)
    (hR : ∀ i : Int, 0 ≤ i → i < n → rv A.ws (b + 1 + 4 * i) = true)
    (hK : ∀ i : Int, 0 ≤ i → i < n → KeyP A (rvT A.ws (b + 1 + 4 * i)) (rvN A.ws (b + 1 + 4 * i)))
    (hQ : ∀ i : Int, 0 ≤ i → i < n → kd (rvT A.ws (b + 1 + 4 * i)) ≠ 0 → PlaceP A (rvN A.ws (b + 1 + 4 * i)))
    (hkt : KeyP A t x) (ht : t ≠ 0) (hv : ValP t x) (h8 : t ≠ 8) (h9 : t ≠ 9) (p1 : kd t ≠ 0 → PlaceP A x) :
    Fn Try.prog w0 126 #[.pointer (some ⟨ba, 0, none⟩), .int .i64 b, .agg #[.int .i64 t, .int .i64 x]] H fun v H' => v = .tuple #[.int .i64 (A.find b n t x).1, .bool (A.find b n t x).2] ∧ H' = H := by
  have hh0 : 0 ≤ A.hash t x := hash_r ht hv
  have hrr := rsR (g A.ws b)
  have hf : A.find b n t x = A.findFrom b n t x n.toNat (A.hash t x % n) := by unfold Ar.find; rw [if_neg (by omega)]
  refine enter3 Try.func126 rfl rfl Try.ntmps126 rfl ?_
  repeat' (first | (apply gL; first | refine L_nil ?_ | refine L_skip rfl rfl rfl ?_ | (refine l_box rfl rfl rfl (fun _ => ?_)) | (refine l_alloc rfl rfl (fun _ => ?_)) | (apply gSt; first | refine sR ?_ | refine sB ?_ | refine s1 ?_ | (apply L_stW rfl rfl rfl rfl rfl rfl rfl; (· exact up_); (· rfl)) | (apply L_stN rfl rfl rfl rfl rfl rfl rfl; (· exact up_); (· first | exact Nat.le_of_ble_eq_true rfl | (simp; omega)))) | (apply gMk; first | (apply L_mkcap rfl rfl rfl rfl rfl rfl; (· omega); (· omega); (· omega); intro _ _) | (apply L_makeI rfl rfl rfl rfl rfl rfl; (· omega); (· omega); intro _) | (apply L_makeB rfl rfl rfl rfl rfl rfl; (· omega); (· omega); intro _) | (apply L_makeV rfl rfl rfl rfl rfl rfl; (· omega); (· omega); intro _)) | (apply gBs; first | (refine L_bs0 rfl rfl rfl rfl (fun _ => ?_)) | (refine L_bs1 rfl rfl rfl rfl rfl rfl rfl (fun _ => ?_))) | (apply gMm; refine L_mkmap rfl rfl rfl rfl (fun _ => ?_)) | (apply gMu; apply L_mapset rfl rfl rfl rfl rfl rfl; (· exact up_)) | (apply gApp; apply L_appI rfl rfl rfl rfl rfl rfl; (· exact at_); (· exact tk_); (· rfl); (· omega); intro _ _) | (apply gCall; apply L_call rfl rfl rfl rfl rfl; (· first | exact head_c at_ at_ hw om om | exact val2_c at_ at_ hw (hR _ om om) om om om | exact ihash_c at_ at_ hw hm hh hs hkt ht hv h8 h9 p1 | exact isame_c at_ at_ hw hm hh hs (hK _ om om) hkt (hQ _ om om) p1); rintro _ _ ⟨rfl, rfl⟩) | refine kV ?_ | ((fail_if_success (refine L_known rfl ?_)); first | (refine L_knowN rfl rfl rfl (fun h => ?_) (fun h => ?_)) | (refine L_knowP rfl rfl rfl (fun h => ?_) (fun h => ?_)) | (refine L_knowB rfl rfl rfl (fun h => ?_) (fun h => ?_)) | (refine L_know rfl rfl rfl (fun h => ?_) (fun h => ?_)))) | (apply gW; first | refine W_seq ?_ | refine W_region ?_ | refine W_ret ?_ | refine W_skip ?_ | refine W_block ?_ | refine W_exit ?_ | refine W_cond1 rfl ?_ | refine W_cond0 rfl ?_ | (refine W_condNP rfl (fun h => ?_) (fun h => ?_)) | (refine W_condP rfl (fun h => ?_) (fun h => ?_)) | (refine W_condN rfl (fun h => ?_) (fun h => ?_)) | (refine W_cond rfl (fun h => ?_) (fun h => ?_)) | (refine W_regionQ rfl (by kernel_rfl) (by kernel_rfl) ?_)) | (first | refine seqR.normal ?_ | refine seqR.ret ?_ | refine seqR.exit ?_ | refine blockR.normal ?_ | refine blockR.ret ?_ | refine blockR.here ?_ | refine blockR.exit rfl ?_ | refine loopR.ret ?_ | refine loopR.exit ?_ | refine midA.ret ?_ | refine midA.exit ?_) | (apply gQ; first | refine Q_nil ?_ | refine Q_skip rfl rfl rfl ?_ | (apply Q_call rfl rfl rfl rfl rfl; (· first | exact head_c at_ at_ hw om om | exact val2_c at_ at_ hw (hR _ om om) om om om | exact ihash_c at_ at_ hw hm hh hs hkt ht hv h8 h9 p1 | exact isame_c at_ at_ hw hm hh hs (hK _ om om) hkt (hQ _ om om) p1)) | refine kQ ?_ | ((fail_if_success (refine Q_known rfl ?_)); first | (refine Q_knowN rfl rfl rfl (fun h => ?_) (fun h => ?_)) | (refine Q_knowP rfl rfl rfl (fun h => ?_) (fun h => ?_)) | (refine Q_knowB rfl rfl rfl (fun h => ?_) (fun h => ?_)) | (refine Q_know rfl rfl rfl (fun h => ?_) (fun h => ?_)))))
  rename_i bx
  apply W_loopX (α := Int × Int) (fun y => [(0, .pointer (some ⟨ba, 0, none⟩)), (1, .int .i64 b), (8, .int .i64 n), (5, .pointer (some ⟨bx, 0, none⟩)), (9, .int .i64 y.2), (21, .int .i64 n), (22, .int .i64 y.1)]) (fun _ => (bx, .cells #[.int .i64 t, .int .i64 x] 63 (0, 0)) :: H)
    (fun y => 0 ≤ y.1 ∧ y.1 ≤ n ∧ 0 ≤ y.2 ∧ y.2 < n ∧ A.find b n t x = A.findFrom b n t x (n - y.1).toNat y.2) (fun y => (n - y.1).toNat) (0, A.hash t x % n)
  · subst hn; exact sub_
  · exact cvt_
  · have := Int.emod_nonneg (A.hash t x) (show n ≠ 0 by omega)
    have := Int.emod_lt_of_pos (A.hash t x) (show 0 < n by omega)
    exact ⟨by dsimp only; omega, by dsimp only; omega, by dsimp only; omega, by dsimp only; omega, by dsimp only; rw [hf]; congr 1; omega⟩
  rintro ⟨s, i⟩ ⟨hj, hj2, hi, hi2, hf2⟩
  dsimp only at hj hj2 hi hi2 hf2 ⊢
  have hstep : s < n → A.find b n t x = if A.keyT b i = 0 then (i, false) else if A.same (A.keyT b i) (A.keyN b i) t x = true then (i, true) else A.findFrom b n t x (n - (s + 1)).toNat ((i + 1) % n) := fun h => by
    rw [hf2, show (n - s).toNat = (n - (s + 1)).toNat + 1 by omega, Ar.findFrom]
  repeat' (first | (apply gL; first | refine L_nil ?_ | refine L_skip rfl rfl rfl ?_ | (refine l_box rfl rfl rfl (fun _ => ?_)) | (refine l_alloc rfl rfl (fun _ => ?_)) | (apply gSt; first | refine sR ?_ | refine sB ?_ | refine s1 ?_ | (apply L_stW rfl rfl rfl rfl rfl rfl rfl; (· exact up_); (· rfl)) | (apply L_stN rfl rfl rfl rfl rfl rfl rfl; (· exact up_); (· first | exact Nat.le_of_ble_eq_true rfl | (simp; omega)))) | (apply gMk; first | (apply L_mkcap rfl rfl rfl rfl rfl rfl; (· omega); (· omega); (· omega); intro _ _) | (apply L_makeI rfl rfl rfl rfl rfl rfl; (· omega); (· omega); intro _) | (apply L_makeB rfl rfl rfl rfl rfl rfl; (· omega); (· omega); intro _) | (apply L_makeV rfl rfl rfl rfl rfl rfl; (· omega); (· omega); intro _)) | (apply gBs; first | (refine L_bs0 rfl rfl rfl rfl (fun _ => ?_)) | (refine L_bs1 rfl rfl rfl rfl rfl rfl rfl (fun _ => ?_))) | (apply gMm; refine L_mkmap rfl rfl rfl rfl (fun _ => ?_)) | (apply gMu; apply L_mapset rfl rfl rfl rfl rfl rfl; (· exact up_)) | (apply gApp; apply L_appI rfl rfl rfl rfl rfl rfl; (· exact at_); (· exact tk_); (· rfl); (· omega); intro _ _) | (apply gCall; apply L_call rfl rfl rfl rfl rfl; (· first | exact head_c at_ at_ hw om om | exact val2_c at_ at_ hw (hR _ om om) om om om | exact ihash_c at_ at_ hw hm hh hs hkt ht hv h8 h9 p1 | exact isame_c at_ at_ hw hm hh hs (hK _ om om) hkt (hQ _ om om) p1); rintro _ _ ⟨rfl, rfl⟩) | refine kV ?_ | ((fail_if_success (refine L_known rfl ?_)); first | (refine L_knowN rfl rfl rfl (fun h => ?_) (fun h => ?_)) | (refine L_knowP rfl rfl rfl (fun h => ?_) (fun h => ?_)) | (refine L_knowB rfl rfl rfl (fun h => ?_) (fun h => ?_)) | (refine L_know rfl rfl rfl (fun h => ?_) (fun h => ?_)))) | (apply gW; first | refine W_seq ?_ | refine W_region ?_ | refine W_ret ?_ | refine W_skip ?_ | refine W_block ?_ | refine W_exit ?_ | refine W_cond1 rfl ?_ | refine W_cond0 rfl ?_ | (refine W_condNP rfl (fun h => ?_) (fun h => ?_)) | (refine W_condP rfl (fun h => ?_) (fun h => ?_)) | (refine W_condN rfl (fun h => ?_) (fun h => ?_)) | (refine W_cond rfl (fun h => ?_) (fun h => ?_)) | (refine W_regionQ rfl (by kernel_rfl) (by kernel_rfl) ?_)) | (first | refine seqR.normal ?_ | refine seqR.ret ?_ | refine seqR.exit ?_ | refine blockR.normal ?_ | refine blockR.ret ?_ | refine blockR.here ?_ | refine blockR.exit rfl ?_ | refine loopR.ret ?_ | refine loopR.exit ?_ | refine midA.ret ?_ | refine midA.exit ?_) | (apply gQ; first | refine Q_nil ?_ | refine Q_skip rfl rfl rfl ?_ | (apply Q_call rfl rfl rfl rfl rfl; (· first | exact head_c at_ at_ hw om om | exact val2_c at_ at_ hw (hR _ om om) om om om | exact ihash_c at_ at_ hw hm hh hs hkt ht hv h8 h9 p1 | exact isame_c at_ at_ hw hm hh hs (hK _ om om) hkt (hQ _ om om) p1)) | refine kQ ?_ | ((fail_if_success (refine Q_known rfl ?_)); first | (refine Q_knowN rfl rfl rfl (fun h => ?_) (fun h => ?_)) | (refine Q_knowP rfl rfl rfl (fun h => ?_) (fun h => ?_)) | (refine Q_knowB rfl rfl rfl (fun h => ?_) (fun h => ?_)) | (refine Q_know rfl rfl rfl (fun h => ?_) (fun h => ?_)))))
  · refine retR.ret _ _ (ret2 rfl rfl rfl) cv_ ⟨?_, rfl⟩
    rw [hstep (by omega), if_pos (show A.keyT b i = 0 from h)]
  · refine retR.ret _ _ (ret2 rfl rfl rfl) cv_ ⟨?_, rfl⟩
    rw [hstep (by omega), if_neg (show ¬ A.keyT b i = 0 by assumption), if_pos (show A.same (A.keyT b i) (A.keyN b i) t x = true from h)]
  · have h2 := Int.emod_nonneg (i + 1) (show n ≠ 0 by omega)
    have h3 := Int.emod_lt_of_pos (i + 1) (show 0 < n by omega)
    have h4 : ¬ A.same (A.keyT b i) (A.keyN b i) t x = true := by
      rw [show A.same (A.keyT b i) (A.keyN b i) t x = false from h]; decide
    rw [if_neg (show ¬ A.keyT b i = 0 by assumption), if_neg h4] at hstep
    apply loopR.mk (s + 1, (i + 1) % n)
    · exact sub_
    · exact cvt_
    · exact ⟨by dsimp only; omega, by dsimp only; omega, by dsimp only; omega, by dsimp only; omega, hstep (by omega)⟩
    · dsimp only; omega
  · refine retR.ret _ _ (ret2 rfl rfl rfl) cv_ ⟨?_, rfl⟩
    rw [hf2, show (n - s).toNat = 0 by omega, Ar.findFrom]
end Go.Proofs.Ytgjangoglconiaa.Eng
