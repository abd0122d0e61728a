/- The reference's serials, coroutine's row, key and value of an entry. -/
import Derived.Test.YtepddopgmhdllaaS5
namespace Go.Proofs.Ytepddopgmhdllaa.Eng
open Go Go.RowKit Go.Proofs.Ytepddopgmhdllaa.Sl Go.Proofs.Ytepddopgmhdllaa.Ar Go.Proofs.Ytepddopgmhdllaa.Base
set_option linter.unusedVariables false
set_option linter.unusedSimpArgs false
set_option maxRecDepth 10000
variable {w0 : World} {H : HL} {C : Cn} {A : Ar}
theorem g_mem {l : List Int} {i : Int} (h0 : 0 ≤ i) (h : i < (l.length : Int)) : g l i ∈ l := by
  have hl : i.toNat < l.length := by omega
  unfold g
  rw [List.getD_eq_getElem?_getD, List.getElem?_eq_getElem hl]
  exact List.getElem_mem hl
theorem g_ex {l : List Int} {s : Int} (h : s ∈ l) : ∃ i : Int, 0 ≤ i ∧ i < (l.length : Int) ∧ g l i = s := by
  obtain ⟨n, hn, e⟩ := List.getElem_of_mem h
  refine ⟨(n : Int), by omega, by omega, ?_⟩
  unfold g
  rw [List.getD_eq_getElem?_getD, Int.toNat_natCast, List.getElem?_eq_getElem hn]
  exact e
theorem sers_step {m had : List Int} {f : Nat} {p : Int} (h : p < (m.length : Int)) (hf : (m.length : Int) - p < (f : Int)) : ∃ f', f = f' + 1 ∧ A.sersFrom m f p had =
    if (g m p = 1 ∨ g m p = 2) ∧ rn (g A.ws p) ≠ 0 then (if rn (g A.ws p) ∈ had then false else A.sersFrom m f' (p + 1) (had ++ [rn (g A.ws p)])) else A.sersFrom m f' (p + 1) had := by
  cases f with
  | zero => omega
  | succ f => exact ⟨f, rfl, by rw [Ar.sersFrom, if_pos h]; rfl⟩
theorem sers_end {m had : List Int} {f : Nat} {p : Int} (h : ¬ p < (m.length : Int)) : A.sersFrom m f p had = true := by
  cases f with
  | zero => rfl
  | succ f => rw [Ar.sersFrom, if_neg h]
set_option maxHeartbeats 2000000 in
theorem l2Serials_c {bm : Nat} {m : List Int} (hB : At H bm (mObj m)) (hA : At H C.bw (wObj C A)) (hw : Wf A.ws) (hl : m.length = A.ws.length) (hm : A.ws.length ≤ 8000) :
    Fn Try.prog w0 93 #[arV C A, .slice (some ⟨bm, 0, none⟩) A.ws.length A.ws.length] H fun v H' => v = .bool (A.sers m) ∧ H' = H := by
  refine enter2 Try.func93 rfl rfl Try.ntmps93 rfl ?_
  repeat' (first | (apply gL; first | refine L_nil ?_ | refine yS ?_ | refine yX fun _ => ?_ | refine yA fun _ => ?_ | (apply gSt; first | refine sR ?_ | refine sB ?_ | refine s1 ?_ | refine sW ?_ | refine sN ?_) | (apply gBs; first | (refine L_bs0 rfl rfl rfl rfl (fun _ => ?_)) | (refine L_bs1 rfl rfl rfl rfl rfl rfl rfl (fun _ => ?_))) | (apply gApp; apply L_appI rfl rfl rfl rfl rfl rfl; (· exact at_); (· exact tk_); (· rfl); (· omega); intro _ _) | (apply gCall; apply L_call rfl rfl rfl rfl rfl; (· first | exact l1In_c _ _ _ | exact l2Where_c at_ hw om om | exact l2Look_c at_ hw om om | exact l2Word_c at_ hw om om om | exact l1Read_c at_ hw om om om); rintro _ _ ⟨rfl, rfl⟩) | refine kV ?_ | ((fail_if_success (refine L_known rfl ?_)); first | refine yN (fun h => ?_) fun h => ?_ | refine yP (fun h => ?_) fun h => ?_ | refine yB (fun h => ?_) fun h => ?_ | refine yK (fun h => ?_) fun h => ?_)) | (apply gW; first | refine W_seq ?_ | refine W_region ?_ | refine W_ret ?_ | refine W_skip ?_ | refine W_block ?_ | refine W_exit ?_ | refine W_cond1 rfl ?_ | refine W_cond0 rfl ?_ | refine cN (fun h => ?_) fun h => ?_ | refine cP (fun h => ?_) fun h => ?_ | refine cB (fun h => ?_) fun h => ?_ | refine cK (fun h => ?_) fun h => ?_ | refine wQ ?_) | (first | refine seqR.normal ?_ | refine seqR.ret ?_ | refine seqR.exit ?_ | refine blockR.normal ?_ | refine blockR.ret ?_ | refine blockR.here ?_ | refine blockR.exit rfl ?_ | refine loopR.ret ?_ | refine loopR.exit ?_ | refine midA.ret ?_ | refine midA.exit ?_) | (apply gQ; first | refine Q_nil ?_ | refine Q_skip rfl rfl rfl ?_ | (apply Q_call rfl rfl rfl rfl rfl; (· first | exact l1In_c _ _ _ | exact l2Where_c at_ hw om om | exact l2Look_c at_ hw om om | exact l2Word_c at_ hw om om om | exact l1Read_c at_ hw om om om)) | refine kQ ?_ | ((fail_if_success (refine Q_known rfl ?_)); first | refine zN (fun h => ?_) fun h => ?_ | refine zP (fun h => ?_) fun h => ?_ | refine zB (fun h => ?_) fun h => ?_ | refine zK (fun h => ?_) fun h => ?_)) | fail)
  rename_i ba _
  apply W_loopX (α := Int × List Int × List Value × Nat) (fun y => [(1, .slice (some ⟨bm, 0, none⟩) A.ws.length A.ws.length), (2, .pointer (some ⟨ba, 0, none⟩)), (5, .slice (some ⟨y.2.2.2, 0, none⟩) y.2.1.length (y.2.1.length + y.2.2.1.length)), (6, .int .i64 y.1)]) (fun y => (y.2.2.2, .cells (rowA .i64 y.2.1 y.2.2.1) 3 (0, 0)) :: (ba, aObj C A) :: H)
      (fun y => (∃ f, A.sersFrom m f y.1 y.2.1 = A.sers m ∧ (m.length : Int) - y.1 < (f : Int)) ∧ 0 ≤ y.1 ∧ y.1 ≤ A.ws.length ∧ (y.2.1.length : Int) ≤ y.1) (fun y => (A.ws.length - y.1).toNat) (0, [], [], _)
  · exact sub_
  · exact cvt_
  · exact ⟨⟨_, rfl, by dsimp only; omega⟩, by dsimp only; omega, by dsimp only; omega, by simp⟩
  rintro ⟨p, had, sp, bh⟩ ⟨⟨f, hf, hf2⟩, hp, hp2, hh⟩
  dsimp only at hf hf2 hp hp2 hh ⊢
  repeat' (fail_if_success apply gAt 5); (first | (apply gL; first | refine L_nil ?_ | refine yS ?_ | refine yX fun _ => ?_ | refine yA fun _ => ?_ | (apply gSt; first | refine sR ?_ | refine sB ?_ | refine s1 ?_ | refine sW ?_ | refine sN ?_) | (apply gBs; first | (refine L_bs0 rfl rfl rfl rfl (fun _ => ?_)) | (refine L_bs1 rfl rfl rfl rfl rfl rfl rfl (fun _ => ?_))) | (apply gApp; apply L_appI rfl rfl rfl rfl rfl rfl; (· exact at_); (· exact tk_); (· rfl); (· omega); intro _ _) | (apply gCall; apply L_call rfl rfl rfl rfl rfl; (· first | exact l1In_c _ _ _ | exact l2Where_c at_ hw om om | exact l2Look_c at_ hw om om | exact l2Word_c at_ hw om om om | exact l1Read_c at_ hw om om om); rintro _ _ ⟨rfl, rfl⟩) | refine kV ?_ | ((fail_if_success (refine L_known rfl ?_)); first | refine yN (fun h => ?_) fun h => ?_ | refine yP (fun h => ?_) fun h => ?_ | refine yB (fun h => ?_) fun h => ?_ | refine yK (fun h => ?_) fun h => ?_)) | (apply gW; first | refine W_seq ?_ | refine W_region ?_ | refine W_ret ?_ | refine W_skip ?_ | refine W_block ?_ | refine W_exit ?_ | refine W_cond1 rfl ?_ | refine W_cond0 rfl ?_ | refine cN (fun h => ?_) fun h => ?_ | refine cP (fun h => ?_) fun h => ?_ | refine cB (fun h => ?_) fun h => ?_ | refine cK (fun h => ?_) fun h => ?_ | refine wQ ?_) | (first | refine seqR.normal ?_ | refine seqR.ret ?_ | refine seqR.exit ?_ | refine blockR.normal ?_ | refine blockR.ret ?_ | refine blockR.here ?_ | refine blockR.exit rfl ?_ | refine loopR.ret ?_ | refine loopR.exit ?_ | refine midA.ret ?_ | refine midA.exit ?_) | (apply gQ; first | refine Q_nil ?_ | refine Q_skip rfl rfl rfl ?_ | (apply Q_call rfl rfl rfl rfl rfl; (· first | exact l1In_c _ _ _ | exact l2Where_c at_ hw om om | exact l2Look_c at_ hw om om | exact l2Word_c at_ hw om om om | exact l1Read_c at_ hw om om om)) | refine kQ ?_ | ((fail_if_success (refine Q_known rfl ?_)); first | refine zN (fun h => ?_) fun h => ?_ | refine zP (fun h => ?_) fun h => ?_ | refine zB (fun h => ?_) fun h => ?_ | refine zK (fun h => ?_) fun h => ?_)) | fail)
  · refine W_midA (α := Unit) (fun y => [(1, .slice (some ⟨bm, 0, none⟩) A.ws.length A.ws.length), (2, .pointer (some ⟨ba, 0, none⟩)), (5, .slice (some ⟨bh, 0, none⟩) had.length (had.length + sp.length)), (6, .int .i64 p)]) (fun y => (bh, .cells (rowA .i64 had sp) 3 (0, 0)) :: (ba, aObj C A) :: H) (fun _ => g m p = 1 ∨ g m p = 2) ?_ ?_
    · repeat' (first | (apply gL; first | refine L_nil ?_ | refine yS ?_ | refine yX fun _ => ?_ | refine yA fun _ => ?_ | (apply gSt; first | refine sR ?_ | refine sB ?_ | refine s1 ?_ | refine sW ?_ | refine sN ?_) | (apply gBs; first | (refine L_bs0 rfl rfl rfl rfl (fun _ => ?_)) | (refine L_bs1 rfl rfl rfl rfl rfl rfl rfl (fun _ => ?_))) | (apply gApp; apply L_appI rfl rfl rfl rfl rfl rfl; (· exact at_); (· exact tk_); (· rfl); (· omega); intro _ _) | (apply gCall; apply L_call rfl rfl rfl rfl rfl; (· first | exact l1In_c _ _ _ | exact l2Where_c at_ hw om om | exact l2Look_c at_ hw om om | exact l2Word_c at_ hw om om om | exact l1Read_c at_ hw om om om); rintro _ _ ⟨rfl, rfl⟩) | refine kV ?_ | ((fail_if_success (refine L_known rfl ?_)); first | refine yN (fun h => ?_) fun h => ?_ | refine yP (fun h => ?_) fun h => ?_ | refine yB (fun h => ?_) fun h => ?_ | refine yK (fun h => ?_) fun h => ?_)) | (apply gW; first | refine W_seq ?_ | refine W_region ?_ | refine W_ret ?_ | refine W_skip ?_ | refine W_block ?_ | refine W_exit ?_ | refine W_cond1 rfl ?_ | refine W_cond0 rfl ?_ | refine cN (fun h => ?_) fun h => ?_ | refine cP (fun h => ?_) fun h => ?_ | refine cB (fun h => ?_) fun h => ?_ | refine cK (fun h => ?_) fun h => ?_ | refine wQ ?_) | (first | refine seqR.normal ?_ | refine seqR.ret ?_ | refine seqR.exit ?_ | refine blockR.normal ?_ | refine blockR.ret ?_ | refine blockR.here ?_ | refine blockR.exit rfl ?_ | refine loopR.ret ?_ | refine loopR.exit ?_ | refine midA.ret ?_ | refine midA.exit ?_) | (apply gQ; first | refine Q_nil ?_ | refine Q_skip rfl rfl rfl ?_ | (apply Q_call rfl rfl rfl rfl rfl; (· first | exact l1In_c _ _ _ | exact l2Where_c at_ hw om om | exact l2Look_c at_ hw om om | exact l2Word_c at_ hw om om om | exact l1Read_c at_ hw om om om)) | refine kQ ?_ | ((fail_if_success (refine Q_known rfl ?_)); first | refine zN (fun h => ?_) fun h => ?_ | refine zP (fun h => ?_) fun h => ?_ | refine zB (fun h => ?_) fun h => ?_ | refine zK (fun h => ?_) fun h => ?_)) | fail)
      · obtain ⟨f', rfl, e⟩ := sers_step (A := A) (had := had) (show p < (m.length : Int) by omega) hf2
        rw [e, if_neg (by omega)] at hf
        apply loopR.mk (p + 1, had, _, _)
        · exact sub_
        · exact cvt_
        · exact ⟨⟨f', hf, by dsimp only; omega⟩, by dsimp only; omega, by dsimp only; omega, by dsimp only; (try simp only [List.length_append, List.length_cons, List.length_nil]); omega⟩
        · dsimp only; omega
      · apply midA.mk ()
        · exact sub_
        · exact cvt_
        · omega
      · apply midA.mk ()
        · exact sub_
        · exact cvt_
        · omega
    rintro _ hM
    obtain ⟨f', rfl, e⟩ := sers_step (A := A) (had := had) (show p < (m.length : Int) by omega) hf2
    repeat' (first | (apply gL; first | refine L_nil ?_ | refine yS ?_ | refine yX fun _ => ?_ | refine yA fun _ => ?_ | (apply gSt; first | refine sR ?_ | refine sB ?_ | refine s1 ?_ | refine sW ?_ | refine sN ?_) | (apply gBs; first | (refine L_bs0 rfl rfl rfl rfl (fun _ => ?_)) | (refine L_bs1 rfl rfl rfl rfl rfl rfl rfl (fun _ => ?_))) | (apply gApp; apply L_appI rfl rfl rfl rfl rfl rfl; (· exact at_); (· exact tk_); (· rfl); (· omega); intro _ _) | (apply gCall; apply L_call rfl rfl rfl rfl rfl; (· first | exact l1In_c _ _ _ | exact l2Where_c at_ hw om om | exact l2Look_c at_ hw om om | exact l2Word_c at_ hw om om om | exact l1Read_c at_ hw om om om); rintro _ _ ⟨rfl, rfl⟩) | refine kV ?_ | ((fail_if_success (refine L_known rfl ?_)); first | refine yN (fun h => ?_) fun h => ?_ | refine yP (fun h => ?_) fun h => ?_ | refine yB (fun h => ?_) fun h => ?_ | refine yK (fun h => ?_) fun h => ?_)) | (apply gW; first | refine W_seq ?_ | refine W_region ?_ | refine W_ret ?_ | refine W_skip ?_ | refine W_block ?_ | refine W_exit ?_ | refine W_cond1 rfl ?_ | refine W_cond0 rfl ?_ | refine cN (fun h => ?_) fun h => ?_ | refine cP (fun h => ?_) fun h => ?_ | refine cB (fun h => ?_) fun h => ?_ | refine cK (fun h => ?_) fun h => ?_ | refine wQ ?_) | (first | refine seqR.normal ?_ | refine seqR.ret ?_ | refine seqR.exit ?_ | refine blockR.normal ?_ | refine blockR.ret ?_ | refine blockR.here ?_ | refine blockR.exit rfl ?_ | refine loopR.ret ?_ | refine loopR.exit ?_ | refine midA.ret ?_ | refine midA.exit ?_) | (apply gQ; first | refine Q_nil ?_ | refine Q_skip rfl rfl rfl ?_ | (apply Q_call rfl rfl rfl rfl rfl; (· first | exact l1In_c _ _ _ | exact l2Where_c at_ hw om om | exact l2Look_c at_ hw om om | exact l2Word_c at_ hw om om om | exact l1Read_c at_ hw om om om)) | refine kQ ?_ | ((fail_if_success (refine Q_known rfl ?_)); first | refine zN (fun h => ?_) fun h => ?_ | refine zP (fun h => ?_) fun h => ?_ | refine zB (fun h => ?_) fun h => ?_ | refine zK (fun h => ?_) fun h => ?_)) | fail)
    · rw [e, if_neg (by omega)] at hf
      apply loopR.mk (p + 1, had, _, _)
      · exact sub_
      · exact cvt_
      · exact ⟨⟨f', hf, by dsimp only; omega⟩, by dsimp only; omega, by dsimp only; omega, by dsimp only; (try simp only [List.length_append, List.length_cons, List.length_nil]); omega⟩
      · dsimp only; omega
    · rename_i hs0 _
      apply W_loopX (α := Int) (fun y => [(1, .slice (some ⟨bm, 0, none⟩) A.ws.length A.ws.length), (2, .pointer (some ⟨ba, 0, none⟩)), (5, .slice (some ⟨bh, 0, none⟩) had.length (had.length + sp.length)), (6, .int .i64 p), (7, .int .i64 (rn (g A.ws p))), (8, .int .i64 y)]) (fun y => (bh, .cells (rowA .i64 had sp) 3 (0, 0)) :: (ba, aObj C A) :: H)
        (fun y => 0 ≤ y ∧ y ≤ had.length ∧ ∀ j, 0 ≤ j → j < y → g had j ≠ rn (g A.ws p)) (fun y => (had.length - y).toNat) 0
      · exact sub_
      · exact cvt_
      · exact ⟨by omega, by omega, fun j h1 h2 => by omega⟩
      rintro i ⟨hi, hi2, hi3⟩
      repeat' (first | (apply gL; first | refine L_nil ?_ | refine yS ?_ | refine yX fun _ => ?_ | refine yA fun _ => ?_ | (apply gSt; first | refine sR ?_ | refine sB ?_ | refine s1 ?_ | refine sW ?_ | refine sN ?_) | (apply gBs; first | (refine L_bs0 rfl rfl rfl rfl (fun _ => ?_)) | (refine L_bs1 rfl rfl rfl rfl rfl rfl rfl (fun _ => ?_))) | (apply gApp; apply L_appI rfl rfl rfl rfl rfl rfl; (· exact at_); (· exact tk_); (· rfl); (· omega); intro _ _) | (apply gCall; apply L_call rfl rfl rfl rfl rfl; (· first | exact l1In_c _ _ _ | exact l2Where_c at_ hw om om | exact l2Look_c at_ hw om om | exact l2Word_c at_ hw om om om | exact l1Read_c at_ hw om om om); rintro _ _ ⟨rfl, rfl⟩) | refine kV ?_ | ((fail_if_success (refine L_known rfl ?_)); first | refine yN (fun h => ?_) fun h => ?_ | refine yP (fun h => ?_) fun h => ?_ | refine yB (fun h => ?_) fun h => ?_ | refine yK (fun h => ?_) fun h => ?_)) | (apply gW; first | refine W_seq ?_ | refine W_region ?_ | refine W_ret ?_ | refine W_skip ?_ | refine W_block ?_ | refine W_exit ?_ | refine W_cond1 rfl ?_ | refine W_cond0 rfl ?_ | refine cN (fun h => ?_) fun h => ?_ | refine cP (fun h => ?_) fun h => ?_ | refine cB (fun h => ?_) fun h => ?_ | refine cK (fun h => ?_) fun h => ?_ | refine wQ ?_) | (first | refine seqR.normal ?_ | refine seqR.ret ?_ | refine seqR.exit ?_ | refine blockR.normal ?_ | refine blockR.ret ?_ | refine blockR.here ?_ | refine blockR.exit rfl ?_ | refine loopR.ret ?_ | refine loopR.exit ?_ | refine midA.ret ?_ | refine midA.exit ?_) | (apply gQ; first | refine Q_nil ?_ | refine Q_skip rfl rfl rfl ?_ | (apply Q_call rfl rfl rfl rfl rfl; (· first | exact l1In_c _ _ _ | exact l2Where_c at_ hw om om | exact l2Look_c at_ hw om om | exact l2Word_c at_ hw om om om | exact l1Read_c at_ hw om om om)) | refine kQ ?_ | ((fail_if_success (refine Q_known rfl ?_)); first | refine zN (fun h => ?_) fun h => ?_ | refine zP (fun h => ?_) fun h => ?_ | refine zB (fun h => ?_) fun h => ?_ | refine zK (fun h => ?_) fun h => ?_)) | fail)
      · rename_i h2
        have hmem : rn (g A.ws p) ∈ had := by rw [← h]; exact g_mem hi (by omega)
        rw [e, if_pos ⟨hM, by omega⟩, if_pos hmem] at hf
        refine retR.ret _ _ (ret1 rfl rfl) cv_ ⟨?_, rfl⟩
        rw [← hf]
      · apply loopR.mk (i + 1)
        · exact sub_
        · exact cvt_
        · exact ⟨by omega, by omega, fun j h1 h2 => by
            by_cases hj : j = i
            · subst hj; exact h
            · exact hi3 j h1 (by omega)⟩
        · (try dsimp only); omega
      · have hmem : ¬ rn (g A.ws p) ∈ had := fun hx => by
          obtain ⟨j, h1, h2, h3⟩ := g_ex hx
          exact hi3 j h1 (by omega) h3
        rw [e, if_pos ⟨hM, by omega⟩, if_neg hmem] at hf
        apply loopR.mk (p + 1, had ++ [rn (g A.ws p)], _, _)
        · exact sub_
        · exact cvt_
        · exact ⟨⟨f', hf, by dsimp only; omega⟩, by dsimp only; omega, by dsimp only; omega, by dsimp only; (try simp only [List.length_append, List.length_cons, List.length_nil]); omega⟩
        · dsimp only; omega
  · rw [sers_end (by omega)] at hf
    refine retR.ret _ _ (ret1 rfl rfl) cv_ ⟨?_, rfl⟩
    rw [← hf]
theorem l6Key_c {b i : Int} (hA : At H C.bw (wObj C A)) (hw : Wf A.ws) (hm : A.ws.length ≤ 8000) (hb : 0 ≤ b) (hi : 0 ≤ i) (hp : b + 2 + 4 * i < A.ws.length) :
    Fn Try.prog w0 140 #[arV C A, .int .i64 b, .int .i64 i] H fun v H' => v = .agg #[.int .i64 (rvT A.ws (b + 1 + 4 * i)), .int .i64 (rvN A.ws (b + 1 + 4 * i))] ∧ H' = H := by
  refine enter3 Try.func140 rfl rfl Try.ntmps140 rfl ?_
  repeat' (first | (apply gL; first | refine L_nil ?_ | refine yS ?_ | refine yX fun _ => ?_ | refine yA fun _ => ?_ | (apply gSt; first | refine sR ?_ | refine sB ?_ | refine s1 ?_ | refine sW ?_ | refine sN ?_) | (apply gBs; first | (refine L_bs0 rfl rfl rfl rfl (fun _ => ?_)) | (refine L_bs1 rfl rfl rfl rfl rfl rfl rfl (fun _ => ?_))) | (apply gApp; apply L_appI rfl rfl rfl rfl rfl rfl; (· exact at_); (· exact tk_); (· rfl); (· omega); intro _ _) | (apply gCall; apply L_call rfl rfl rfl rfl rfl; (· first | exact l1In_c _ _ _ | exact l2Where_c at_ hw om om | exact l2Look_c at_ hw om om | exact l2Word_c at_ hw om om om | exact l1Read_c at_ hw om om om); rintro _ _ ⟨rfl, rfl⟩) | refine kV ?_ | ((fail_if_success (refine L_known rfl ?_)); first | refine yN (fun h => ?_) fun h => ?_ | refine yP (fun h => ?_) fun h => ?_ | refine yB (fun h => ?_) fun h => ?_ | refine yK (fun h => ?_) fun h => ?_)) | (apply gW; first | refine W_seq ?_ | refine W_region ?_ | refine W_ret ?_ | refine W_skip ?_ | refine W_block ?_ | refine W_exit ?_ | refine W_cond1 rfl ?_ | refine W_cond0 rfl ?_ | refine cN (fun h => ?_) fun h => ?_ | refine cP (fun h => ?_) fun h => ?_ | refine cB (fun h => ?_) fun h => ?_ | refine cK (fun h => ?_) fun h => ?_ | refine wQ ?_) | (first | refine seqR.normal ?_ | refine seqR.ret ?_ | refine seqR.exit ?_ | refine blockR.normal ?_ | refine blockR.ret ?_ | refine blockR.here ?_ | refine blockR.exit rfl ?_ | refine loopR.ret ?_ | refine loopR.exit ?_ | refine midA.ret ?_ | refine midA.exit ?_) | (apply gQ; first | refine Q_nil ?_ | refine Q_skip rfl rfl rfl ?_ | (apply Q_call rfl rfl rfl rfl rfl; (· first | exact l1In_c _ _ _ | exact l2Where_c at_ hw om om | exact l2Look_c at_ hw om om | exact l2Word_c at_ hw om om om | exact l1Read_c at_ hw om om om)) | refine kQ ?_ | ((fail_if_success (refine Q_known rfl ?_)); first | refine zN (fun h => ?_) fun h => ?_ | refine zP (fun h => ?_) fun h => ?_ | refine zB (fun h => ?_) fun h => ?_ | refine zK (fun h => ?_) fun h => ?_)) | fail)
  all_goals (refine retR.ret _ _ (retC rfl rfl at_ (by rfl)) cv_ ⟨?_, rfl⟩)
  all_goals rfl
theorem coOk_iff {p : Int} : A.coOk p = true ↔ ((0 ≤ sg (g A.ws (p + 1)) ∧ sg (g A.ws (p + 1)) ≤ 4) ∧ (0 ≤ sg (g A.ws (p + 2)) ∧ sg (g A.ws (p + 2)) ≤ 60) ∧ (0 ≤ sg (g A.ws (p + 3)) ∧ sg (g A.ws (p + 3)) ≤ sg (g A.ws (p + 2))) ∧
    (0 ≤ sg (g A.ws (p + 4)) ∧ sg (g A.ws (p + 4)) ≤ 4095) ∧ (rvT A.ws (p + 5) = 0 ∨ rvT A.ws (p + 5) = 6)) ∧ ∀ i : Int, 0 ≤ i → i < 60 → i < sg (g A.ws (p + 2)) ∨ g A.ws (p + 7 + 2 * i) = 0 := by
  unfold Ar.coOk Ar.w
  simp only [Bool.and_eq_true, decide_eq_true_eq, List.all_eq_true, List.mem_range, Bool.or_eq_true]
  constructor
  · rintro ⟨h1, h2⟩
    refine ⟨h1, fun i hi hi2 => ?_⟩
    have := h2 i.toNat (by omega)
    rwa [Int.toNat_of_nonneg hi] at this
  · rintro ⟨h1, h2⟩
    exact ⟨h1, fun n hn => h2 n (by omega) (by omega)⟩
theorem coOk_f1 {p : Int} (h : ¬ ((0 ≤ sg (g A.ws (p + 1)) ∧ sg (g A.ws (p + 1)) ≤ 4) ∧ (0 ≤ sg (g A.ws (p + 2)) ∧ sg (g A.ws (p + 2)) ≤ 60) ∧ (0 ≤ sg (g A.ws (p + 3)) ∧ sg (g A.ws (p + 3)) ≤ sg (g A.ws (p + 2))) ∧
    (0 ≤ sg (g A.ws (p + 4)) ∧ sg (g A.ws (p + 4)) ≤ 4095) ∧ (rvT A.ws (p + 5) = 0 ∨ rvT A.ws (p + 5) = 6))) : false = A.coOk p := by
  cases e : A.coOk p with
  | false => rfl
  | true => exact absurd (coOk_iff.1 e).1 h
theorem coOk_f2 {p i : Int} (h0 : 0 ≤ i) (h1 : i < 60) (h2 : ¬ i < sg (g A.ws (p + 2))) (h3 : ¬ g A.ws (p + 7 + 2 * i) = 0) : false = A.coOk p := by
  cases e : A.coOk p with
  | false => rfl
  | true => rcases (coOk_iff.1 e).2 i h0 h1 with h | h
            · exact absurd h h2
            · exact absurd h h3
theorem l2CoOk_c {p : Int} (hA : At H C.bw (wObj C A)) (hw : Wf A.ws) (hm : A.ws.length ≤ 8000) (hp : 0 ≤ p) (hp2 : p + 126 < A.ws.length) :
    Fn Try.prog w0 137 #[arV C A, .int .i64 p] H fun v H' => v = .bool (A.coOk p) ∧ H' = H := by
  refine enter2 Try.func137 rfl rfl Try.ntmps137 rfl ?_
  repeat' (fail_if_success apply gAt 5); (first | (apply gL; first | refine L_nil ?_ | refine yS ?_ | refine yX fun _ => ?_ | refine yA fun _ => ?_ | (apply gSt; first | refine sR ?_ | refine sB ?_ | refine s1 ?_ | refine sW ?_ | refine sN ?_) | (apply gBs; first | (refine L_bs0 rfl rfl rfl rfl (fun _ => ?_)) | (refine L_bs1 rfl rfl rfl rfl rfl rfl rfl (fun _ => ?_))) | (apply gApp; apply L_appI rfl rfl rfl rfl rfl rfl; (· exact at_); (· exact tk_); (· rfl); (· omega); intro _ _) | (apply gCall; apply L_call rfl rfl rfl rfl rfl; (· first | exact l1In_c _ _ _ | exact l2Where_c at_ hw om om | exact l2Look_c at_ hw om om | exact l2Word_c at_ hw om om om | exact l1Read_c at_ hw om om om); rintro _ _ ⟨rfl, rfl⟩) | refine kV ?_ | ((fail_if_success (refine L_known rfl ?_)); first | refine yN (fun h => ?_) fun h => ?_ | refine yP (fun h => ?_) fun h => ?_ | refine yB (fun h => ?_) fun h => ?_ | refine yK (fun h => ?_) fun h => ?_)) | (apply gW; first | refine W_seq ?_ | refine W_region ?_ | refine W_ret ?_ | refine W_skip ?_ | refine W_block ?_ | refine W_exit ?_ | refine W_cond1 rfl ?_ | refine W_cond0 rfl ?_ | refine cN (fun h => ?_) fun h => ?_ | refine cP (fun h => ?_) fun h => ?_ | refine cB (fun h => ?_) fun h => ?_ | refine cK (fun h => ?_) fun h => ?_ | refine wQ ?_) | (first | refine seqR.normal ?_ | refine seqR.ret ?_ | refine seqR.exit ?_ | refine blockR.normal ?_ | refine blockR.ret ?_ | refine blockR.here ?_ | refine blockR.exit rfl ?_ | refine loopR.ret ?_ | refine loopR.exit ?_ | refine midA.ret ?_ | refine midA.exit ?_) | (apply gQ; first | refine Q_nil ?_ | refine Q_skip rfl rfl rfl ?_ | (apply Q_call rfl rfl rfl rfl rfl; (· first | exact l1In_c _ _ _ | exact l2Where_c at_ hw om om | exact l2Look_c at_ hw om om | exact l2Word_c at_ hw om om om | exact l1Read_c at_ hw om om om)) | refine kQ ?_ | ((fail_if_success (refine Q_known rfl ?_)); first | refine zN (fun h => ?_) fun h => ?_ | refine zP (fun h => ?_) fun h => ?_ | refine zB (fun h => ?_) fun h => ?_ | refine zK (fun h => ?_) fun h => ?_)) | fail)
  all_goals (try (refine retR.ret _ _ (ret1 rfl rfl) cv_ ⟨?_, rfl⟩; exact congrArg Value.bool (coOk_f1 (by omega))))
  rename_i ba _ _ _ bv
  refine W_midA (α := Unit) (fun y => [(1, .int .i64 p), (2, .pointer (some ⟨ba, 0, none⟩)), (6, .int .i64 (sg (g A.ws (p + 2))))]) (fun y => (ba, aObj C A) :: H) (fun _ => rvT A.ws (p + 5) = 0 ∨ rvT A.ws (p + 5) = 6) ?_ ?_
  · repeat' (first | (apply gL; first | refine L_nil ?_ | refine yS ?_ | refine yX fun _ => ?_ | refine yA fun _ => ?_ | (apply gSt; first | refine sR ?_ | refine sB ?_ | refine s1 ?_ | refine sW ?_ | refine sN ?_) | (apply gBs; first | (refine L_bs0 rfl rfl rfl rfl (fun _ => ?_)) | (refine L_bs1 rfl rfl rfl rfl rfl rfl rfl (fun _ => ?_))) | (apply gApp; apply L_appI rfl rfl rfl rfl rfl rfl; (· exact at_); (· exact tk_); (· rfl); (· omega); intro _ _) | (apply gCall; apply L_call rfl rfl rfl rfl rfl; (· first | exact l1In_c _ _ _ | exact l2Where_c at_ hw om om | exact l2Look_c at_ hw om om | exact l2Word_c at_ hw om om om | exact l1Read_c at_ hw om om om); rintro _ _ ⟨rfl, rfl⟩) | refine kV ?_ | ((fail_if_success (refine L_known rfl ?_)); first | refine yN (fun h => ?_) fun h => ?_ | refine yP (fun h => ?_) fun h => ?_ | refine yB (fun h => ?_) fun h => ?_ | refine yK (fun h => ?_) fun h => ?_)) | (apply gW; first | refine W_seq ?_ | refine W_region ?_ | refine W_ret ?_ | refine W_skip ?_ | refine W_block ?_ | refine W_exit ?_ | refine W_cond1 rfl ?_ | refine W_cond0 rfl ?_ | refine cN (fun h => ?_) fun h => ?_ | refine cP (fun h => ?_) fun h => ?_ | refine cB (fun h => ?_) fun h => ?_ | refine cK (fun h => ?_) fun h => ?_ | refine wQ ?_) | (first | refine seqR.normal ?_ | refine seqR.ret ?_ | refine seqR.exit ?_ | refine blockR.normal ?_ | refine blockR.ret ?_ | refine blockR.here ?_ | refine blockR.exit rfl ?_ | refine loopR.ret ?_ | refine loopR.exit ?_ | refine midA.ret ?_ | refine midA.exit ?_) | (apply gQ; first | refine Q_nil ?_ | refine Q_skip rfl rfl rfl ?_ | (apply Q_call rfl rfl rfl rfl rfl; (· first | exact l1In_c _ _ _ | exact l2Where_c at_ hw om om | exact l2Look_c at_ hw om om | exact l2Word_c at_ hw om om om | exact l1Read_c at_ hw om om om)) | refine kQ ?_ | ((fail_if_success (refine Q_known rfl ?_)); first | refine zN (fun h => ?_) fun h => ?_ | refine zP (fun h => ?_) fun h => ?_ | refine zB (fun h => ?_) fun h => ?_ | refine zK (fun h => ?_) fun h => ?_)) | fail)
    all_goals (try (refine retR.ret _ _ (ret1 rfl rfl) cv_ ⟨?_, rfl⟩; exact congrArg Value.bool (coOk_f1 (by omega))))
    all_goals (apply midA.mk ()
               · exact sub_
               · exact cvt_
               · omega)
  rintro _ hv
  repeat' (first | (apply gL; first | refine L_nil ?_ | refine yS ?_ | refine yX fun _ => ?_ | refine yA fun _ => ?_ | (apply gSt; first | refine sR ?_ | refine sB ?_ | refine s1 ?_ | refine sW ?_ | refine sN ?_) | (apply gBs; first | (refine L_bs0 rfl rfl rfl rfl (fun _ => ?_)) | (refine L_bs1 rfl rfl rfl rfl rfl rfl rfl (fun _ => ?_))) | (apply gApp; apply L_appI rfl rfl rfl rfl rfl rfl; (· exact at_); (· exact tk_); (· rfl); (· omega); intro _ _) | (apply gCall; apply L_call rfl rfl rfl rfl rfl; (· first | exact l1In_c _ _ _ | exact l2Where_c at_ hw om om | exact l2Look_c at_ hw om om | exact l2Word_c at_ hw om om om | exact l1Read_c at_ hw om om om); rintro _ _ ⟨rfl, rfl⟩) | refine kV ?_ | ((fail_if_success (refine L_known rfl ?_)); first | refine yN (fun h => ?_) fun h => ?_ | refine yP (fun h => ?_) fun h => ?_ | refine yB (fun h => ?_) fun h => ?_ | refine yK (fun h => ?_) fun h => ?_)) | (apply gW; first | refine W_seq ?_ | refine W_region ?_ | refine W_ret ?_ | refine W_skip ?_ | refine W_block ?_ | refine W_exit ?_ | refine W_cond1 rfl ?_ | refine W_cond0 rfl ?_ | refine cN (fun h => ?_) fun h => ?_ | refine cP (fun h => ?_) fun h => ?_ | refine cB (fun h => ?_) fun h => ?_ | refine cK (fun h => ?_) fun h => ?_ | refine wQ ?_) | (first | refine seqR.normal ?_ | refine seqR.ret ?_ | refine seqR.exit ?_ | refine blockR.normal ?_ | refine blockR.ret ?_ | refine blockR.here ?_ | refine blockR.exit rfl ?_ | refine loopR.ret ?_ | refine loopR.exit ?_ | refine midA.ret ?_ | refine midA.exit ?_) | (apply gQ; first | refine Q_nil ?_ | refine Q_skip rfl rfl rfl ?_ | (apply Q_call rfl rfl rfl rfl rfl; (· first | exact l1In_c _ _ _ | exact l2Where_c at_ hw om om | exact l2Look_c at_ hw om om | exact l2Word_c at_ hw om om om | exact l1Read_c at_ hw om om om)) | refine kQ ?_ | ((fail_if_success (refine Q_known rfl ?_)); first | refine zN (fun h => ?_) fun h => ?_ | refine zP (fun h => ?_) fun h => ?_ | refine zB (fun h => ?_) fun h => ?_ | refine zK (fun h => ?_) fun h => ?_)) | fail)
  apply W_loopX (α := Int) (fun y => [(1, .int .i64 p), (2, .pointer (some ⟨ba, 0, none⟩)), (11, .int .i64 y)]) (fun y => (ba, aObj C A) :: H)
    (fun y => sg (g A.ws (p + 2)) ≤ y ∧ y ≤ 60 ∧ ∀ j, sg (g A.ws (p + 2)) ≤ j → j < y → g A.ws (p + 7 + 2 * j) = 0) (fun y => (60 - y).toNat) (sg (g A.ws (p + 2)))
  · exact sub_
  · exact cvt_
  · exact ⟨by omega, by omega, fun j h1 h2 => by omega⟩
  rintro i ⟨hi, hi2, hi3⟩
  repeat' (first | (apply gL; first | refine L_nil ?_ | refine yS ?_ | refine yX fun _ => ?_ | refine yA fun _ => ?_ | (apply gSt; first | refine sR ?_ | refine sB ?_ | refine s1 ?_ | refine sW ?_ | refine sN ?_) | (apply gBs; first | (refine L_bs0 rfl rfl rfl rfl (fun _ => ?_)) | (refine L_bs1 rfl rfl rfl rfl rfl rfl rfl (fun _ => ?_))) | (apply gApp; apply L_appI rfl rfl rfl rfl rfl rfl; (· exact at_); (· exact tk_); (· rfl); (· omega); intro _ _) | (apply gCall; apply L_call rfl rfl rfl rfl rfl; (· first | exact l1In_c _ _ _ | exact l2Where_c at_ hw om om | exact l2Look_c at_ hw om om | exact l2Word_c at_ hw om om om | exact l1Read_c at_ hw om om om); rintro _ _ ⟨rfl, rfl⟩) | refine kV ?_ | ((fail_if_success (refine L_known rfl ?_)); first | refine yN (fun h => ?_) fun h => ?_ | refine yP (fun h => ?_) fun h => ?_ | refine yB (fun h => ?_) fun h => ?_ | refine yK (fun h => ?_) fun h => ?_)) | (apply gW; first | refine W_seq ?_ | refine W_region ?_ | refine W_ret ?_ | refine W_skip ?_ | refine W_block ?_ | refine W_exit ?_ | refine W_cond1 rfl ?_ | refine W_cond0 rfl ?_ | refine cN (fun h => ?_) fun h => ?_ | refine cP (fun h => ?_) fun h => ?_ | refine cB (fun h => ?_) fun h => ?_ | refine cK (fun h => ?_) fun h => ?_ | refine wQ ?_) | (first | refine seqR.normal ?_ | refine seqR.ret ?_ | refine seqR.exit ?_ | refine blockR.normal ?_ | refine blockR.ret ?_ | refine blockR.here ?_ | refine blockR.exit rfl ?_ | refine loopR.ret ?_ | refine loopR.exit ?_ | refine midA.ret ?_ | refine midA.exit ?_) | (apply gQ; first | refine Q_nil ?_ | refine Q_skip rfl rfl rfl ?_ | (apply Q_call rfl rfl rfl rfl rfl; (· first | exact l1In_c _ _ _ | exact l2Where_c at_ hw om om | exact l2Look_c at_ hw om om | exact l2Word_c at_ hw om om om | exact l1Read_c at_ hw om om om)) | refine kQ ?_ | ((fail_if_success (refine Q_known rfl ?_)); first | refine zN (fun h => ?_) fun h => ?_ | refine zP (fun h => ?_) fun h => ?_ | refine zB (fun h => ?_) fun h => ?_ | refine zK (fun h => ?_) fun h => ?_)) | fail)
  · refine retR.ret _ _ (ret1 rfl rfl) cv_ ⟨?_, rfl⟩
    exact congrArg Value.bool (coOk_f2 (i := i) (by omega) (by omega) (by omega) h)
  · apply loopR.mk (i + 1)
    · exact sub_
    · exact cvt_
    · exact ⟨by omega, by omega, fun j h1 h2 => by
        by_cases hj : j = i
        · subst hj; exact h
        · exact hi3 j h1 (by omega)⟩
    · (try dsimp only); omega
  · refine retR.ret _ _ (ret1 rfl rfl) cv_ ⟨?_, rfl⟩
    rw [coOk_iff.2 ⟨by omega, fun j h1 h2 => by
      by_cases hj : j < sg (g A.ws (p + 2))
      · exact .inl hj
      · exact .inr (hi3 j (by omega) (by omega))⟩]
end Go.Proofs.Ytepddopgmhdllaa.Eng
