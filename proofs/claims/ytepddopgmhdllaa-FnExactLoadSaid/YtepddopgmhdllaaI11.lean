/- The implementation's tableOk. -/
import Derived.Test.YtepddopgmhdllaaJ1
namespace Go.Proofs.Ytepddopgmhdllaa.Eng
open Go Go.RowKit Go.Proofs.Ytepddopgmhdllaa.Sl Go.Proofs.Ytepddopgmhdllaa.Ar Go.Proofs.Ytepddopgmhdllaa.Base
set_option linter.unusedVariables false
set_option linter.unusedSimpArgs false
set_option maxRecDepth 10000
variable {w0 : World} {H : HL} {C : Cn} {A : Ar} {ba : Nat}
set_option maxHeartbeats 4000000 in
theorem tableOk_c {bv bi bs bb : Nat} {m kb : List Int} {led : List Bool} {p : Int} (hP : At H ba (aObj C A)) (hA : At H C.bw (wObj C A)) (hw : Wf A.ws) (hm : A.ws.length ≤ 8000) (hh : A.to = 0 ∨ A.to = 1) (hs : 256 ≤ A.semi ∧ A.semi ≤ 4000)
    (hM : MarkP A m) (hO : ObjP A m) (hPl : ∀ n : Int, 0 ≤ n → n < A.ws.length → g m n ≠ 0 → PlaceP A n) (hp : 0 ≤ p) (hp2 : p < A.ws.length) (hi : g m p = 1 ∨ g m p = 2) (hk : rk (g A.ws p) = 2) (hT : A.tabTag p = true) (hl : led.length = A.ws.length) (hL : LedK (A.ws.length : Int) led kb) :
    Fn Try.prog w0 151 #[.pointer (some ⟨bv, 0, none⟩), .int .i64 p] ((bv, svObj ba bi A.ws.length bs bb) :: (bb, sObj kb) :: H) fun v H' => v = .bool (A.tab p led).isSome ∧ ∃ kb', H' = (bv, svObj ba bi A.ws.length bs bb) :: (bb, sObj kb') :: H ∧ ∀ l, A.tab p led = some l → l.length = A.ws.length ∧ LedK (A.ws.length : Int) l kb' := by
  have pre := tab_pre hM hO hp hp2 hi hk
  have pre2 := tab_pre2 hM hO hPl hp hp2 hi hk
  have hT2 : rvT A.ws (p + 2) = 0 ∨ rvT A.ws (p + 2) = 8 := of_decide_eq_true hT hk
  obtain ⟨q1, q2, q3⟩ := pre
  obtain ⟨hrv, q4⟩ := pre2
  have hw1 := hw (p + 1)
  have z1 := sg0 hw1.1 hw1.2
  refine enter2 Try.func151 rfl rfl Try.ntmps151 rfl ?_
  repeat' (fail_if_success apply gAt 5); (first | (apply gL; first | refine L_nil ?_ | refine yS ?_ | refine yA fun _ => ?_ | (apply gSt; first | refine sR ?_ | refine sB ?_ | refine s1 ?_ | refine sW ?_ | refine sN ?_) | (apply gMu; apply L_mapset rfl rfl rfl rfl rfl rfl; (· exact up_)) | (apply gCall; apply L_call rfl rfl rfl rfl rfl; (· first | exact head_c at_ at_ hw om om | exact val2_c at_ at_ hw hrv om om om | exact val2_c at_ at_ hw (hKe _ om om).1 om om om | exact place2_c at_ at_ hw hh hs om om hPN | exact entry_c at_ at_ hw hm hh hs om rfl om om (fun i a b => (hKe i a b).1) (fun i a b => hKy i a b) (fun i a b => (hKe i a b).2.2.2) (hKy _ om om) (by assumption) (rvV _ _) (hKe _ om om).2.1 (hKe _ om om).2.2.1 (hKe _ om om).2.2.2); rintro _ _ ⟨rfl, rfl⟩) | refine kV ?_ | ((fail_if_success (refine L_known rfl ?_)); first | refine yN (fun h => ?_) fun h => ?_ | refine yP (fun h => ?_) fun h => ?_ | refine yB (fun h => ?_) fun h => ?_ | refine yK (fun h => ?_) fun h => ?_)) | (apply gW; first | refine W_seq ?_ | refine W_region ?_ | refine W_ret ?_ | refine W_skip ?_ | refine W_block ?_ | refine W_exit ?_ | refine W_cond1 rfl ?_ | refine W_cond0 rfl ?_ | refine cN (fun h => ?_) fun h => ?_ | refine cP (fun h => ?_) fun h => ?_ | refine cB (fun h => ?_) fun h => ?_ | refine cK (fun h => ?_) fun h => ?_ | refine wQ ?_) | (first | refine seqR.normal ?_ | refine seqR.ret ?_ | refine seqR.exit ?_ | refine blockR.normal ?_ | refine blockR.ret ?_ | refine blockR.here ?_ | refine blockR.exit rfl ?_ | refine loopR.ret ?_ | refine loopR.exit ?_) | (apply gQ; first | refine Q_nil ?_ | refine Q_skip rfl rfl rfl ?_ | (apply Q_call rfl rfl rfl rfl rfl; (· first | exact head_c at_ at_ hw om om | exact val2_c at_ at_ hw hrv om om om | exact val2_c at_ at_ hw (hKe _ om om).1 om om om | exact place2_c at_ at_ hw hh hs om om hPN | exact entry_c at_ at_ hw hm hh hs om rfl om om (fun i a b => (hKe i a b).1) (fun i a b => hKy i a b) (fun i a b => (hKe i a b).2.2.2) (hKy _ om om) (by assumption) (rvV _ _) (hKe _ om om).2.1 (hKe _ om om).2.2.1 (hKe _ om om).2.2.2)) | refine kQ ?_ | ((fail_if_success (refine Q_known rfl ?_)); first | refine zN (fun h => ?_) fun h => ?_ | refine zP (fun h => ?_) fun h => ?_ | refine zB (fun h => ?_) fun h => ?_ | refine zK (fun h => ?_) fun h => ?_)) | fail)
  · have e := tab0 (A := A) (led := led) h
    refine retR.ret _ _ (ret1 rfl rfl) cvt_ ⟨?_, kb, rfl, fun l h' => by rw [e] at h'; split at h' <;> first | (cases h'; exact ⟨hl, hL⟩) | cases h'⟩
    rw [e, isSomeIf]
    exact bx (by omega)
  have h8 : rvT A.ws (p + 2) = 8 := by omega
  obtain ⟨⟨t1, t2⟩, t3, t4⟩ := q2 h8
  have hKy := q3 h8
  obtain ⟨hPN, hn1, hKe⟩ := q4 h8
  clear q2 q3 q4
  have hr := rsR (g A.ws (A.where_ (rvN A.ws (p + 2))))
  repeat' (first | (apply gL; first | refine L_nil ?_ | refine yS ?_ | refine yA fun _ => ?_ | (apply gSt; first | refine sR ?_ | refine sB ?_ | refine s1 ?_ | refine sW ?_ | refine sN ?_) | (apply gMu; apply L_mapset rfl rfl rfl rfl rfl rfl; (· exact up_)) | (apply gCall; apply L_call rfl rfl rfl rfl rfl; (· first | exact head_c at_ at_ hw om om | exact val2_c at_ at_ hw hrv om om om | exact val2_c at_ at_ hw (hKe _ om om).1 om om om | exact place2_c at_ at_ hw hh hs om om hPN | exact entry_c at_ at_ hw hm hh hs om rfl om om (fun i a b => (hKe i a b).1) (fun i a b => hKy i a b) (fun i a b => (hKe i a b).2.2.2) (hKy _ om om) (by assumption) (rvV _ _) (hKe _ om om).2.1 (hKe _ om om).2.2.1 (hKe _ om om).2.2.2); rintro _ _ ⟨rfl, rfl⟩) | refine kV ?_ | ((fail_if_success (refine L_known rfl ?_)); first | refine yN (fun h => ?_) fun h => ?_ | refine yP (fun h => ?_) fun h => ?_ | refine yB (fun h => ?_) fun h => ?_ | refine yK (fun h => ?_) fun h => ?_)) | (apply gW; first | refine W_seq ?_ | refine W_region ?_ | refine W_ret ?_ | refine W_skip ?_ | refine W_block ?_ | refine W_exit ?_ | refine W_cond1 rfl ?_ | refine W_cond0 rfl ?_ | refine cN (fun h => ?_) fun h => ?_ | refine cP (fun h => ?_) fun h => ?_ | refine cB (fun h => ?_) fun h => ?_ | refine cK (fun h => ?_) fun h => ?_ | refine wQ ?_) | (first | refine seqR.normal ?_ | refine seqR.ret ?_ | refine seqR.exit ?_ | refine blockR.normal ?_ | refine blockR.ret ?_ | refine blockR.here ?_ | refine blockR.exit rfl ?_ | refine loopR.ret ?_ | refine loopR.exit ?_) | (apply gQ; first | refine Q_nil ?_ | refine Q_skip rfl rfl rfl ?_ | (apply Q_call rfl rfl rfl rfl rfl; (· first | exact head_c at_ at_ hw om om | exact val2_c at_ at_ hw hrv om om om | exact val2_c at_ at_ hw (hKe _ om om).1 om om om | exact place2_c at_ at_ hw hh hs om om hPN | exact entry_c at_ at_ hw hm hh hs om rfl om om (fun i a b => (hKe i a b).1) (fun i a b => hKy i a b) (fun i a b => (hKe i a b).2.2.2) (hKy _ om om) (by assumption) (rvV _ _) (hKe _ om om).2.1 (hKe _ om om).2.2.1 (hKe _ om om).2.2.2)) | refine kQ ?_ | ((fail_if_success (refine Q_known rfl ?_)); first | refine zN (fun h => ?_) fun h => ?_ | refine zP (fun h => ?_) fun h => ?_ | refine zB (fun h => ?_) fun h => ?_ | refine zK (fun h => ?_) fun h => ?_)) | fail)
  all_goals (generalize hG : A.where_ (rvN A.ws (p + 2)) = b at *)
  · have hld : led.getD b.toNat false = true := (hL b t3 (by have := (rsR (g A.ws b)).1; omega)).2 h
    have e := tabL hG h8 hld
    exact retR.ret _ _ (ret1 rfl rfl) cvt_ ⟨by rw [e]; rfl, kb, rfl, fun l h' => by rw [e] at h'; cases h'⟩
  have he : A.entries b = rs (g A.ws b) / 4 := rfl
  have hld : led.getD b.toNat false = false := by
    cases e : led.getD b.toNat false with
    | false => rfl
    | true => exact absurd ((hL b t3 (by omega)).1 e) h
  have e := tabE hG h8 hld
  have hl2 : (led.set b.toNat true).length = A.ws.length := by simp [hl]
  have hL2 : LedK (A.ws.length : Int) (led.set b.toNat true) (putS kb b) := by
    have := led_set (led := led) (ks := kb) (k := b) (by rw [hl]; exact hL) t3 (by omega)
    rwa [hl] at this
  have hu := used_r (A := A) (b := b) (by omega)
  apply W_loopX (α := Int × Int) (fun y => [(0, .pointer (some ⟨bv, 0, none⟩)), (1, .int .i64 p), (5, .int .u64 (g A.ws (p + 1))), (7, .int .i64 b), (8, .int .i64 y.2), (9, .int .i64 (A.entries b)), (62, .int .i64 (A.entries b)), (63, .int .i64 y.1)]) (fun _ => (bv, svObj ba bi A.ws.length bs bb) :: (bb, sObj (putS kb b)) :: H)
    (fun y => (0 ≤ y.1 ∧ y.1 ≤ A.entries b ∧ 0 ≤ y.2 ∧ y.2 ≤ y.1) ∧ (∃ f, A.usedFrom b (A.entries b) f y.1 y.2 = A.used b ∧ A.entries b - y.1 < (f : Int)) ∧ ∀ j, 0 ≤ j → j < y.1 → rvT A.ws (b + 1 + 4 * j) = 0 ∨ A.find b (A.entries b) (rvT A.ws (b + 1 + 4 * j)) (rvN A.ws (b + 1 + 4 * j)) = (j, true)) (fun y => (A.entries b - y.1).toNat) (0, 0)
  · exact sub_
  · exact cvt_
  · exact ⟨⟨by dsimp only; omega, by dsimp only; omega, by dsimp only; omega, by dsimp only; omega⟩, ⟨_, rfl, by dsimp only; omega⟩, fun j h1 h2 => by dsimp only at h2; omega⟩
  rintro ⟨i, u⟩ ⟨⟨hi1, hi2, hu1, hu2⟩, ⟨f, hf, hf2⟩, hi3⟩
  dsimp only at hi1 hi2 hu1 hu2 hf hf2 hi3 ⊢
  have hTg : i < A.entries b → rvT A.ws (b + 1 + 4 * i) = g A.ws (b + 1 + 4 * i) := fun h => by unfold rvT; rw [if_pos (hKe i hi1 h).1]
  repeat' (first | (apply gL; first | refine L_nil ?_ | refine yS ?_ | refine yA fun _ => ?_ | (apply gSt; first | refine sR ?_ | refine sB ?_ | refine s1 ?_ | refine sW ?_ | refine sN ?_) | (apply gMu; apply L_mapset rfl rfl rfl rfl rfl rfl; (· exact up_)) | (apply gCall; apply L_call rfl rfl rfl rfl rfl; (· first | exact head_c at_ at_ hw om om | exact val2_c at_ at_ hw hrv om om om | exact val2_c at_ at_ hw (hKe _ om om).1 om om om | exact place2_c at_ at_ hw hh hs om om hPN | exact entry_c at_ at_ hw hm hh hs om rfl om om (fun i a b => (hKe i a b).1) (fun i a b => hKy i a b) (fun i a b => (hKe i a b).2.2.2) (hKy _ om om) (by assumption) (rvV _ _) (hKe _ om om).2.1 (hKe _ om om).2.2.1 (hKe _ om om).2.2.2); rintro _ _ ⟨rfl, rfl⟩) | refine kV ?_ | ((fail_if_success (refine L_known rfl ?_)); first | refine yN (fun h => ?_) fun h => ?_ | refine yP (fun h => ?_) fun h => ?_ | refine yB (fun h => ?_) fun h => ?_ | refine yK (fun h => ?_) fun h => ?_)) | (apply gW; first | refine W_seq ?_ | refine W_region ?_ | refine W_ret ?_ | refine W_skip ?_ | refine W_block ?_ | refine W_exit ?_ | refine W_cond1 rfl ?_ | refine W_cond0 rfl ?_ | refine cN (fun h => ?_) fun h => ?_ | refine cP (fun h => ?_) fun h => ?_ | refine cB (fun h => ?_) fun h => ?_ | refine cK (fun h => ?_) fun h => ?_ | refine wQ ?_) | (first | refine seqR.normal ?_ | refine seqR.ret ?_ | refine seqR.exit ?_ | refine blockR.normal ?_ | refine blockR.ret ?_ | refine blockR.here ?_ | refine blockR.exit rfl ?_ | refine loopR.ret ?_ | refine loopR.exit ?_) | (apply gQ; first | refine Q_nil ?_ | refine Q_skip rfl rfl rfl ?_ | (apply Q_call rfl rfl rfl rfl rfl; (· first | exact head_c at_ at_ hw om om | exact val2_c at_ at_ hw hrv om om om | exact val2_c at_ at_ hw (hKe _ om om).1 om om om | exact place2_c at_ at_ hw hh hs om om hPN | exact entry_c at_ at_ hw hm hh hs om rfl om om (fun i a b => (hKe i a b).1) (fun i a b => hKy i a b) (fun i a b => (hKe i a b).2.2.2) (hKy _ om om) (by assumption) (rvV _ _) (hKe _ om om).2.1 (hKe _ om om).2.2.1 (hKe _ om om).2.2.2)) | refine kQ ?_ | ((fail_if_success (refine Q_known rfl ?_)); first | refine zN (fun h => ?_) fun h => ?_ | refine zP (fun h => ?_) fun h => ?_ | refine zB (fun h => ?_) fun h => ?_ | refine zK (fun h => ?_) fun h => ?_)) | fail)
  · obtain ⟨f', rfl, e2⟩ := used_step (A := A) (u := u) (show i < A.entries b by assumption) hf2
    rw [e2, if_neg (by rw [← hTg (by assumption)]; omega)] at hf
    apply loopR.mk (i + 1, u)
    · exact sub_
    · exact cvt_
    · exact ⟨⟨by dsimp only; omega, by dsimp only; omega, by dsimp only; omega, by dsimp only; omega⟩, ⟨f', hf, by dsimp only; omega⟩, fun j h1 h2 => by
        by_cases hj : j = i
        · subst hj; exact .inl h
        · exact hi3 j h1 (by dsimp only at h2; omega)⟩
    · dsimp only; omega
  · refine retR.ret _ _ (ret1 rfl rfl) cvt_ ⟨?_, _, rfl, fun l h' => by rw [e] at h'; split at h' <;> first | (cases h'; exact ⟨hl2, hL2⟩) | cases h'⟩
    rw [e, if_neg (fun c => by
      rcases keysOk_iff.1 c.1 i hi1 (by assumption) with c1 | c1
      · exact absurd c1 (by assumption)
      · exact h (congrArg Prod.fst c1))]; rfl
  · obtain ⟨f', rfl, e2⟩ := used_step (A := A) (u := u) (show i < A.entries b by assumption) hf2
    rw [e2, if_pos (by rw [← hTg (by assumption)]; assumption)] at hf
    apply loopR.mk (i + 1, u + 1)
    · exact sub_
    · exact cvt_
    · exact ⟨⟨by dsimp only; omega, by dsimp only; omega, by dsimp only; omega, by dsimp only; omega⟩, ⟨f', hf, by dsimp only; omega⟩, fun j h1 h2 => by
        by_cases hj : j = i
        · subst hj; exact .inr (find_true h hi1 (by assumption))
        · exact hi3 j h1 (by dsimp only at h2; omega)⟩
    · dsimp only; omega
  · rw [used_end (by assumption)] at hf
    have hk := keysOk_iff.2 (fun j h1 h2 => hi3 j h1 (by omega))
    have s1 := sgs hw1.1 (by omega)
    refine retR.ret _ _ (ret1 rfl rfl) cvt_ ⟨?_, _, rfl, fun l h' => by rw [e] at h'; split at h' <;> first | (cases h'; exact ⟨hl2, hL2⟩) | cases h'⟩
    rw [e, isSomeIf]
    exact bx ⟨fun h9 => ⟨hk, by omega, by omega⟩, fun h9 => by omega⟩
  · rw [used_end (by assumption)] at hf
    refine retR.ret _ _ (ret1 rfl rfl) cvt_ ⟨?_, _, rfl, fun l h' => by rw [e] at h'; split at h' <;> first | (cases h'; exact ⟨hl2, hL2⟩) | cases h'⟩
    rw [e, if_neg (fun c => by
      have c2 := c.2.1
      have : g A.ws (p + 1) = sg (g A.ws (p + 1)) := by
        unfold sg at c2 ⊢; split at c2 <;> (first | omega | (rw [if_pos (by omega)]))
      omega)]; rfl
end Go.Proofs.Ytepddopgmhdllaa.Eng
