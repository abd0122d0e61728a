/- The reference's hash of a key, and the place of a key in a table. -/
import Derived.Test.YtepddopgmhdllaaS8
namespace Go.Proofs.Ytepddopgmhdllaa.Eng
open Go Go.RowKit Go.Proofs.Ytepddopgmhdllaa.Sl Go.Proofs.Ytepddopgmhdllaa.Ar Go.Proofs.Ytepddopgmhdllaa.Base
set_option linter.unusedVariables false
set_option linter.unusedSimpArgs false
set_option maxRecDepth 10000
variable {w0 : World} {H : HL} {C : Cn} {A : Ar}
theorem hashText_r {l : List Int} (h : ∀ x ∈ l, 0 ≤ x) : 0 ≤ hashText l ∧ hashText l ≤ 1000002 := by
  have key : ∀ (l : List Int) (a : Int), (∀ x ∈ l, 0 ≤ x) → 0 ≤ a ∧ a ≤ 1000002 → 0 ≤ l.foldl (fun h b => (33 * h + b) % 1000003) a ∧ l.foldl (fun h b => (33 * h + b) % 1000003) a ≤ 1000002 := by
    intro l
    induction l with
    | nil => intro a _ h; exact h
    | cons b l ih => intro a hb h; exact ih _ (fun x hx => hb x (List.mem_cons_of_mem _ hx)) (by dsimp only; omega)
  exact key l 5381 h (by omega)
theorem hash_step {l : List Int} {i : Int} (h0 : 0 ≤ i) (h : i < (l.length : Int)) : hashText (l.take (i + 1).toNat) = (33 * hashText (l.take i.toNat) + g l i) % 1000003 := by
  have hl : i.toNat < l.length := by omega
  have e : (i + 1).toNat = i.toNat + 1 := by omega
  rw [e, List.take_succ_eq_append_getElem hl]
  unfold hashText
  rw [List.foldl_append]
  simp only [List.foldl_cons, List.foldl_nil]
  unfold g
  rw [List.getD_eq_getElem?_getD, List.getElem?_eq_getElem hl]; rfl
theorem hash_r {t n : Int} (ht : t ≠ 0) (hv : ValP t n) : 0 ≤ A.hash t n := by
  unfold Ar.hash
  unfold ValP at hv
  split
  · omega
  · split
    · omega
    · split
      · omega
      · split
        · exact (hashText_r (fun x hx => (textB x hx).1)).1
        · unfold Ar.sr rn hn
          split
          · rename_i h; have := (of_decide_eq_true (show decide (HeadP _ _ _) = true from h)).range; unfold hn at this; omega
          · omega
set_option maxHeartbeats 1000000 in
theorem l6Hash_c {t n : Int} (hA : At H C.bw (wObj C A)) (hw : Wf A.ws) (hm : A.ws.length ≤ 8000) (hkt : KeyP A t n) (ht : t ≠ 0) (hv : ValP t n) :
    Fn Try.prog w0 161 #[arV C A, .agg #[.int .i64 t, .int .i64 n]] H fun v H' => v = .int .i64 (A.hash t n) ∧ H' = H := by
  obtain ⟨k1, k2⟩ := hkt
  have hwr : IntKind.u64.wrap n = n % 18446744073709551616 := IntKind.wrap_u64 n
  have hkd : t = 1 ∨ t = 2 ∨ t = 7 ∨ kd t ≠ 0 := by
    by_cases h : kd t ≠ 0
    · exact .inr (.inr (.inr h))
    · have := mt kindOf_ne.2 h; unfold ValP at hv; omega
  have h7 : t = 7 → 1 ≤ n ∧ n ≤ 20 := by intro h; unfold ValP at hv; omega
  refine enter2 Try.func161 rfl rfl Try.ntmps161 rfl ?_
  repeat' (first | (apply gL; first | refine L_nil ?_ | refine yS ?_ | refine yX fun _ => ?_ | refine yA fun _ => ?_ | (apply gSt; first | refine sR ?_ | refine sB ?_ | refine s1 ?_ | refine sW ?_ | refine sN ?_) | (apply gCall; apply L_call rfl rfl rfl rfl rfl; (· first | exact l2Where_c at_ hw om om | exact l2Look_c at_ hw om om | exact l4Text_c at_ hw om (k2 (by assumption)) | exact l6Hash_c at_ hw om hkt (by assumption) (by assumption) | exact l6Key_c at_ hw om om om om | exact l4Same_c at_ hw om (hK _ om om) hkt); rintro _ _ ⟨rfl, rfl⟩) | refine kV ?_ | (apply L_val rfl rfl rfl; (· first | (apply gBin; first | fail ) | fail | exact v_lenz rfl | exact v_sidx rfl rfl hXb om om)) | ((fail_if_success (refine L_known rfl ?_)); first | refine yN (fun h => ?_) fun h => ?_ | refine yP (fun h => ?_) fun h => ?_ | refine yB (fun h => ?_) fun h => ?_ | refine yK (fun h => ?_) fun h => ?_)) | (apply gW; first | refine W_seq ?_ | refine W_region ?_ | refine W_ret ?_ | refine W_skip ?_ | refine W_block ?_ | refine W_exit ?_ | refine W_cond1 rfl ?_ | refine W_cond0 rfl ?_ | refine cN (fun h => ?_) fun h => ?_ | refine cP (fun h => ?_) fun h => ?_ | refine cB (fun h => ?_) fun h => ?_ | refine cK (fun h => ?_) fun h => ?_ | refine wQ ?_) | (first | refine seqR.normal ?_ | refine seqR.ret ?_ | refine seqR.exit ?_ | refine blockR.normal ?_ | refine blockR.ret ?_ | refine blockR.here ?_ | refine blockR.exit rfl ?_ | refine loopR.ret ?_ | refine loopR.exit ?_) | (apply gQ; first | refine Q_nil ?_ | refine Q_skip rfl rfl rfl ?_ | (apply Q_call rfl rfl rfl rfl rfl; (· first | exact l2Where_c at_ hw om om | exact l2Look_c at_ hw om om | exact l4Text_c at_ hw om (k2 (by assumption)) | exact l6Hash_c at_ hw om hkt (by assumption) (by assumption) | exact l6Key_c at_ hw om om om om | exact l4Same_c at_ hw om (hK _ om om) hkt)) | refine kQ ?_ | (apply Q_val rfl rfl rfl; (· first | (apply gBin; first | fail ) | fail | exact v_lenz rfl | exact v_sidx rfl rfl hXb om om)) | ((fail_if_success (refine Q_known rfl ?_)); first | refine zN (fun h => ?_) fun h => ?_ | refine zP (fun h => ?_) fun h => ?_ | refine zB (fun h => ?_) fun h => ?_ | refine zK (fun h => ?_) fun h => ?_)) | fail)
  · refine retR.ret _ _ (ret1 rfl rfl) cv_ ⟨?_, rfl⟩
    unfold Ar.hash; rw [if_pos h]
  · refine retR.ret _ _ (ret1 rfl rfl) cv_ ⟨?_, rfl⟩
    unfold Ar.hash; rw [if_neg (by assumption), if_pos h, hwr]
  · refine retR.ret _ _ (ret1 rfl rfl) cv_ ⟨?_, rfl⟩
    unfold Ar.hash; rw [if_neg (by assumption), if_neg (by assumption), if_pos h]
  · generalize hX : A.text (A.where_ n) = X
    have hXb : Byt X := hX ▸ textB
    have hXl : X.length ≤ 160 := by
      obtain ⟨_, _, h3, h4, _⟩ := k2 h
      have := text_len h3
      rw [hX] at this; omega
    apply W_loopX (α := Int) (fun y => [(5, .string (strOfNums X)), (6, .int .i64 (hashText (X.take y.toNat))), (7, .int .i64 y)]) (fun _ => H)
      (fun y => 0 ≤ y ∧ y ≤ X.length) (fun y => (X.length - y).toNat) 0
    · exact sub_
    · exact cvt_
    · exact ⟨by omega, by omega⟩
    rintro i ⟨hi, hi2⟩
    have hr := hashText_r (l := X.take i.toNat) (fun x hx => (hXb x (List.mem_of_mem_take hx)).1)
    have hgi : i < (X.length : Int) → 0 ≤ g X i ∧ g X i < 256 := fun h => hXb _ (g_mem hi h)
    repeat' (first | (apply gL; first | refine L_nil ?_ | refine yS ?_ | refine yX fun _ => ?_ | refine yA fun _ => ?_ | (apply gSt; first | refine sR ?_ | refine sB ?_ | refine s1 ?_ | refine sW ?_ | refine sN ?_) | (apply gCall; apply L_call rfl rfl rfl rfl rfl; (· first | exact l2Where_c at_ hw om om | exact l2Look_c at_ hw om om | exact l4Text_c at_ hw om (k2 (by assumption)) | exact l6Hash_c at_ hw om hkt (by assumption) (by assumption) | exact l6Key_c at_ hw om om om om | exact l4Same_c at_ hw om (hK _ om om) hkt); rintro _ _ ⟨rfl, rfl⟩) | refine kV ?_ | (apply L_val rfl rfl rfl; (· first | (apply gBin; first | fail ) | fail | exact v_lenz rfl | exact v_sidx rfl rfl hXb om om)) | ((fail_if_success (refine L_known rfl ?_)); first | refine yN (fun h => ?_) fun h => ?_ | refine yP (fun h => ?_) fun h => ?_ | refine yB (fun h => ?_) fun h => ?_ | refine yK (fun h => ?_) fun h => ?_)) | (apply gW; first | refine W_seq ?_ | refine W_region ?_ | refine W_ret ?_ | refine W_skip ?_ | refine W_block ?_ | refine W_exit ?_ | refine W_cond1 rfl ?_ | refine W_cond0 rfl ?_ | refine cN (fun h => ?_) fun h => ?_ | refine cP (fun h => ?_) fun h => ?_ | refine cB (fun h => ?_) fun h => ?_ | refine cK (fun h => ?_) fun h => ?_ | refine wQ ?_) | (first | refine seqR.normal ?_ | refine seqR.ret ?_ | refine seqR.exit ?_ | refine blockR.normal ?_ | refine blockR.ret ?_ | refine blockR.here ?_ | refine blockR.exit rfl ?_ | refine loopR.ret ?_ | refine loopR.exit ?_) | (apply gQ; first | refine Q_nil ?_ | refine Q_skip rfl rfl rfl ?_ | (apply Q_call rfl rfl rfl rfl rfl; (· first | exact l2Where_c at_ hw om om | exact l2Look_c at_ hw om om | exact l4Text_c at_ hw om (k2 (by assumption)) | exact l6Hash_c at_ hw om hkt (by assumption) (by assumption) | exact l6Key_c at_ hw om om om om | exact l4Same_c at_ hw om (hK _ om om) hkt)) | refine kQ ?_ | (apply Q_val rfl rfl rfl; (· first | (apply gBin; first | fail ) | fail | exact v_lenz rfl | exact v_sidx rfl rfl hXb om om)) | ((fail_if_success (refine Q_known rfl ?_)); first | refine zN (fun h => ?_) fun h => ?_ | refine zP (fun h => ?_) fun h => ?_ | refine zB (fun h => ?_) fun h => ?_ | refine zK (fun h => ?_) fun h => ?_)) | fail)
    · apply loopR.mk (i + 1)
      · exact ⟨rfl, by rw [hash_step hi h]; rfl, rfl, trivial⟩
      · exact cvt_
      · exact ⟨by omega, by omega⟩
      · (try dsimp only); omega
    · refine retR.ret _ _ (ret1 rfl rfl) cv_ ⟨?_, rfl⟩
      unfold Ar.hash
      rw [if_neg (by assumption), if_neg (by assumption), if_neg (by assumption), if_pos (by assumption), hX, List.take_of_length_le (by omega)]
  · refine retR.ret _ _ (ret1 rfl rfl) cv_ ⟨?_, rfl⟩
    unfold Ar.hash; rw [if_neg (by assumption), if_neg (by assumption), if_neg (by assumption), if_neg (by assumption)]; rfl
set_option maxHeartbeats 1000000 in
theorem l6Find_c {b n t x : Int} (hA : At H C.bw (wObj C A)) (hw : Wf A.ws) (hm : A.ws.length ≤ 8000) (hb : 0 ≤ b) (hn : 0 ≤ n) (hbn : b + 4 * n < A.ws.length) (hK : ∀ i : Int, 0 ≤ i → i < n → KeyP A (rvT A.ws (b + 1 + 4 * i)) (rvN A.ws (b + 1 + 4 * i))) (hkt : KeyP A t x) (hv : ValP t x) :
    Fn Try.prog w0 141 #[arV C A, .int .i64 b, .int .i64 n, .agg #[.int .i64 t, .int .i64 x]] H fun v H' => v = .tuple #[.int .i64 (A.find b n t x).1, .bool (A.find b n t x).2] ∧ H' = H := by
  have hh : t ≠ 0 → 0 ≤ A.hash t x := fun h => hash_r h hv
  refine enter4 Try.func141 rfl rfl Try.ntmps141 rfl ?_
  repeat' (first | (apply gL; first | refine L_nil ?_ | refine yS ?_ | refine yX fun _ => ?_ | refine yA fun _ => ?_ | (apply gSt; first | refine sR ?_ | refine sB ?_ | refine s1 ?_ | refine sW ?_ | refine sN ?_) | (apply gCall; apply L_call rfl rfl rfl rfl rfl; (· first | exact l2Where_c at_ hw om om | exact l2Look_c at_ hw om om | exact l4Text_c at_ hw om (k2 (by assumption)) | exact l6Hash_c at_ hw om hkt (by assumption) (by assumption) | exact l6Key_c at_ hw om om om om | exact l4Same_c at_ hw om (hK _ om om) hkt); rintro _ _ ⟨rfl, rfl⟩) | refine kV ?_ | (apply L_val rfl rfl rfl; (· first | (apply gBin; first | fail ) | fail | exact v_lenz rfl | exact v_sidx rfl rfl hXb om om)) | ((fail_if_success (refine L_known rfl ?_)); first | refine yN (fun h => ?_) fun h => ?_ | refine yP (fun h => ?_) fun h => ?_ | refine yB (fun h => ?_) fun h => ?_ | refine yK (fun h => ?_) fun h => ?_)) | (apply gW; first | refine W_seq ?_ | refine W_region ?_ | refine W_ret ?_ | refine W_skip ?_ | refine W_block ?_ | refine W_exit ?_ | refine W_cond1 rfl ?_ | refine W_cond0 rfl ?_ | refine cN (fun h => ?_) fun h => ?_ | refine cP (fun h => ?_) fun h => ?_ | refine cB (fun h => ?_) fun h => ?_ | refine cK (fun h => ?_) fun h => ?_ | refine wQ ?_) | (first | refine seqR.normal ?_ | refine seqR.ret ?_ | refine seqR.exit ?_ | refine blockR.normal ?_ | refine blockR.ret ?_ | refine blockR.here ?_ | refine blockR.exit rfl ?_ | refine loopR.ret ?_ | refine loopR.exit ?_) | (apply gQ; first | refine Q_nil ?_ | refine Q_skip rfl rfl rfl ?_ | (apply Q_call rfl rfl rfl rfl rfl; (· first | exact l2Where_c at_ hw om om | exact l2Look_c at_ hw om om | exact l4Text_c at_ hw om (k2 (by assumption)) | exact l6Hash_c at_ hw om hkt (by assumption) (by assumption) | exact l6Key_c at_ hw om om om om | exact l4Same_c at_ hw om (hK _ om om) hkt)) | refine kQ ?_ | (apply Q_val rfl rfl rfl; (· first | (apply gBin; first | fail ) | fail | exact v_lenz rfl | exact v_sidx rfl rfl hXb om om)) | ((fail_if_success (refine Q_known rfl ?_)); first | refine zN (fun h => ?_) fun h => ?_ | refine zP (fun h => ?_) fun h => ?_ | refine zB (fun h => ?_) fun h => ?_ | refine zK (fun h => ?_) fun h => ?_)) | fail)
  · refine retR.ret _ _ (ret2 rfl rfl rfl) cv_ ⟨?_, rfl⟩
    unfold Ar.find; rw [if_pos (.inl h)]
  · refine retR.ret _ _ (ret2 rfl rfl rfl) cv_ ⟨?_, rfl⟩
    unfold Ar.find; rw [if_pos (.inr h)]
  rename_i ba bx _
  have hf : A.find b n t x = A.findFrom b n t x n.toNat (A.hash t x % n) := by unfold Ar.find; rw [if_neg (by omega)]
  apply W_loopX (α := Int × Int) (fun y => [(1, .int .i64 b), (2, .int .i64 n), (4, .pointer (some ⟨ba, 0, none⟩)), (7, .pointer (some ⟨bx, 0, none⟩)), (10, .int .i64 y.2), (11, .int .i64 y.1)]) (fun _ => (bx, .cells #[.int .i64 t, .int .i64 x] 39 (0, 0)) :: (ba, aObj C A) :: H)
    (fun y => 0 ≤ y.1 ∧ y.1 ≤ n ∧ 0 ≤ y.2 ∧ y.2 < n ∧ A.find b n t x = A.findFrom b n t x (n - y.1).toNat y.2) (fun y => (n - y.1).toNat) (0, A.hash t x % n)
  · exact sub_
  · exact cvt_
  · have := Int.emod_nonneg (A.hash t x) (show n ≠ 0 by omega)
    have := Int.emod_lt_of_pos (A.hash t x) (show 0 < n by omega)
    exact ⟨by dsimp only; omega, by dsimp only; omega, by dsimp only; omega, by dsimp only; omega, by dsimp only; rw [hf]; congr 1; omega⟩
  rintro ⟨s, i⟩ ⟨hs, hs2, hi, hi2, hf2⟩
  dsimp only at hs hs2 hi hi2 hf2 ⊢
  have hstep : s < n → A.find b n t x = if A.keyT b i = 0 then (i, false) else if A.same (A.keyT b i) (A.keyN b i) t x = true then (i, true) else A.findFrom b n t x (n - (s + 1)).toNat ((i + 1) % n) := fun h => by
    rw [hf2, show (n - s).toNat = (n - (s + 1)).toNat + 1 by omega, Ar.findFrom]
  repeat' (first | (apply gL; first | refine L_nil ?_ | refine yS ?_ | refine yX fun _ => ?_ | refine yA fun _ => ?_ | (apply gSt; first | refine sR ?_ | refine sB ?_ | refine s1 ?_ | refine sW ?_ | refine sN ?_) | (apply gCall; apply L_call rfl rfl rfl rfl rfl; (· first | exact l2Where_c at_ hw om om | exact l2Look_c at_ hw om om | exact l4Text_c at_ hw om (k2 (by assumption)) | exact l6Hash_c at_ hw om hkt (by assumption) (by assumption) | exact l6Key_c at_ hw om om om om | exact l4Same_c at_ hw om (hK _ om om) hkt); rintro _ _ ⟨rfl, rfl⟩) | refine kV ?_ | (apply L_val rfl rfl rfl; (· first | (apply gBin; first | fail ) | fail | exact v_lenz rfl | exact v_sidx rfl rfl hXb om om)) | ((fail_if_success (refine L_known rfl ?_)); first | refine yN (fun h => ?_) fun h => ?_ | refine yP (fun h => ?_) fun h => ?_ | refine yB (fun h => ?_) fun h => ?_ | refine yK (fun h => ?_) fun h => ?_)) | (apply gW; first | refine W_seq ?_ | refine W_region ?_ | refine W_ret ?_ | refine W_skip ?_ | refine W_block ?_ | refine W_exit ?_ | refine W_cond1 rfl ?_ | refine W_cond0 rfl ?_ | refine cN (fun h => ?_) fun h => ?_ | refine cP (fun h => ?_) fun h => ?_ | refine cB (fun h => ?_) fun h => ?_ | refine cK (fun h => ?_) fun h => ?_ | refine wQ ?_) | (first | refine seqR.normal ?_ | refine seqR.ret ?_ | refine seqR.exit ?_ | refine blockR.normal ?_ | refine blockR.ret ?_ | refine blockR.here ?_ | refine blockR.exit rfl ?_ | refine loopR.ret ?_ | refine loopR.exit ?_) | (apply gQ; first | refine Q_nil ?_ | refine Q_skip rfl rfl rfl ?_ | (apply Q_call rfl rfl rfl rfl rfl; (· first | exact l2Where_c at_ hw om om | exact l2Look_c at_ hw om om | exact l4Text_c at_ hw om (k2 (by assumption)) | exact l6Hash_c at_ hw om hkt (by assumption) (by assumption) | exact l6Key_c at_ hw om om om om | exact l4Same_c at_ hw om (hK _ om om) hkt)) | refine kQ ?_ | (apply Q_val rfl rfl rfl; (· first | (apply gBin; first | fail ) | fail | exact v_lenz rfl | exact v_sidx rfl rfl hXb om om)) | ((fail_if_success (refine Q_known rfl ?_)); first | refine zN (fun h => ?_) fun h => ?_ | refine zP (fun h => ?_) fun h => ?_ | refine zB (fun h => ?_) fun h => ?_ | refine zK (fun h => ?_) fun h => ?_)) | fail)
  · refine retR.ret _ _ (ret2 rfl rfl rfl) cv_ ⟨?_, rfl⟩
    rw [hstep (by omega), if_pos (show A.keyT b i = 0 from h)]
  · refine retR.ret _ _ (ret2 rfl rfl rfl) cv_ ⟨?_, rfl⟩
    rw [hstep (by omega), if_neg (show ¬ A.keyT b i = 0 by assumption), if_pos (show A.same (A.keyT b i) (A.keyN b i) t x = true from h)]
  · have h1 : (i + 1) % n = (i + 1) % n := rfl
    have h2 := Int.emod_nonneg (i + 1) (show n ≠ 0 by omega)
    have h3 := Int.emod_lt_of_pos (i + 1) (show 0 < n by omega)
    have h4 : ¬ A.same (A.keyT b i) (A.keyN b i) t x = true := by
      rw [show A.same (A.keyT b i) (A.keyN b i) t x = false from h]; decide
    rw [if_neg (show ¬ A.keyT b i = 0 by assumption), if_neg h4] at hstep
    apply loopR.mk (s + 1, (i + 1) % n)
    · exact sub_
    · exact cvt_
    · exact ⟨by dsimp only; omega, by dsimp only; omega, by dsimp only; omega, by dsimp only; omega, hstep (by omega)⟩
    · dsimp only; omega
  · refine retR.ret _ _ (ret2 rfl rfl rfl) cv_ ⟨?_, rfl⟩
    rw [hf2, show (n - s).toNat = 0 by omega, Ar.findFrom]
end Go.Proofs.Ytepddopgmhdllaa.Eng
