/- The reference's table. -/
import Derived.Test.YtepddopgmhdllaaS9
namespace Go.Proofs.Ytepddopgmhdllaa.Eng
open Go Go.RowKit Go.Proofs.Ytepddopgmhdllaa.Sl Go.Proofs.Ytepddopgmhdllaa.Ar Go.Proofs.Ytepddopgmhdllaa.Base
set_option linter.unusedVariables false
set_option linter.unusedSimpArgs false
set_option maxRecDepth 10000
variable {w0 : World} {H : HL} {C : Cn} {A : Ar}
theorem rvV (ws : List Int) (p : Int) : ValP (rvT ws p) (rvN ws p) := by
  unfold rvT rvN
  cases e : rv ws p with
  | false => simp [ValP]
  | true =>
    rw [if_pos rfl, if_pos rfl]
    rw [rv_eq] at e
    exact of_decide_eq_true (show decide (ValP _ _) = true from e)
theorem usedR {b n : Int} : ∀ (f : Nat) (i u : Int), i ≤ n → u ≤ A.usedFrom b n f i u ∧ A.usedFrom b n f i u ≤ u + (n - i) := by
  intro f
  induction f with
  | zero => intro i u h; unfold Ar.usedFrom; omega
  | succ f ih =>
    intro i u h
    unfold Ar.usedFrom
    split
    · have h1 := ih (i + 1) (u + 1) (by omega)
      have h2 := ih (i + 1) u (by omega)
      split <;> omega
    · omega
theorem used_r {b : Int} (h : 0 ≤ A.entries b) : 0 ≤ A.used b ∧ A.used b ≤ A.entries b := by
  have := usedR (A := A) (b := b) (n := A.entries b) ((A.entries b).toNat + 1) 0 0 h
  unfold Ar.used; omega
theorem keysOk_iff {b : Int} : A.keysOk b = true ↔ ∀ i : Int, 0 ≤ i → i < A.entries b → rvT A.ws (b + 1 + 4 * i) = 0 ∨ A.find b (A.entries b) (rvT A.ws (b + 1 + 4 * i)) (rvN A.ws (b + 1 + 4 * i)) = (i, true) := by
  unfold Ar.keysOk Ar.keyT Ar.keyN
  simp only [List.all_eq_true, List.mem_range, Bool.or_eq_true, decide_eq_true_eq]
  constructor
  · intro h i hi hi2
    have := h i.toNat (by omega)
    rwa [Int.toNat_of_nonneg hi] at this
  · intro h n hn
    exact h n (by omega) (by omega)
theorem tab0 {p : Int} {led : List Bool} (h : rvT A.ws (p + 2) = 0) : A.tab p led = if sg (g A.ws (p + 1)) = 0 then some led else none := by unfold Ar.tab; rw [if_pos h]
theorem tabN {p : Int} {led : List Bool} (h : ¬ rvT A.ws (p + 2) = 0) (h8 : ¬ rvT A.ws (p + 2) = 8) : A.tab p led = none := by unfold Ar.tab; rw [if_neg h, if_pos h8]
theorem tabL {p b : Int} {led : List Bool} (hb : A.where_ (rvN A.ws (p + 2)) = b) (h8 : rvT A.ws (p + 2) = 8) (hl : led.getD b.toNat false = true) : A.tab p led = none := by
  unfold Ar.tab Ar.blkOf; rw [if_neg (by omega), if_neg (by omega), hb, if_pos hl]
theorem tabE {p b : Int} {led : List Bool} (hb : A.where_ (rvN A.ws (p + 2)) = b) (h8 : rvT A.ws (p + 2) = 8) (hl : led.getD b.toNat false = false) :
    A.tab p led = if A.keysOk b = true ∧ sg (g A.ws (p + 1)) = A.used b ∧ 4 * sg (g A.ws (p + 1)) ≤ 3 * A.entries b then some (led.set b.toNat true) else none := by
  unfold Ar.tab Ar.blkOf; rw [if_neg (by omega), if_neg (by omega), hb, if_neg (by rw [hl]; decide)]
set_option maxHeartbeats 4000000 in
theorem l2TabOk_c {bl : Nat} {led : List Bool} {p : Int} (hA : At H C.bw (wObj C A)) (hw : Wf A.ws) (hm : A.ws.length ≤ 8000) (hl : led.length = A.ws.length) (hp : 0 ≤ p) (hp2 : p + 3 < A.ws.length)
    (hT : rvT A.ws (p + 2) = 8 → (0 ≤ rvN A.ws (p + 2) ∧ rvN A.ws (p + 2) < A.ws.length) ∧ 0 ≤ A.where_ (rvN A.ws (p + 2)) ∧ A.where_ (rvN A.ws (p + 2)) + rs (g A.ws (A.where_ (rvN A.ws (p + 2)))) < A.ws.length)
    (hK : rvT A.ws (p + 2) = 8 → ∀ i : Int, 0 ≤ i → i < A.entries (A.where_ (rvN A.ws (p + 2))) → KeyP A (rvT A.ws (A.where_ (rvN A.ws (p + 2)) + 1 + 4 * i)) (rvN A.ws (A.where_ (rvN A.ws (p + 2)) + 1 + 4 * i))) :
    Fn Try.prog w0 95 #[arV C A, .int .i64 p, .slice (some ⟨bl, 0, none⟩) A.ws.length A.ws.length] ((bl, bObj led) :: H) fun v H' => v = .bool (A.tab p led).isSome ∧ ∃ led', H' = (bl, bObj led') :: H ∧ led'.length = A.ws.length ∧ ∀ l, A.tab p led = some l → led' = l := by
  refine enter3 Try.func95 rfl rfl Try.ntmps95 rfl ?_
  repeat' (fail_if_success apply gAtR 7); (first | (apply gL; first | refine L_nil ?_ | refine yS ?_ | refine yX fun _ => ?_ | refine yA fun _ => ?_ | (apply gSt; first | refine sR ?_ | refine sB ?_ | refine s1 ?_ | refine sW ?_ | refine sN ?_) | (apply gCall; apply L_call rfl rfl rfl rfl rfl; (· first | exact l2Where_c at_ hw om om | exact l2Word_c at_ hw om om om | exact l1Read_c at_ hw om om om | exact l6Key_c at_ hw om om om om | exact l2Used_c at_ hw om om om | exact l6Find_c at_ hw om om om om hKe (hKe _ om om) (rvV _ _)); rintro _ _ ⟨rfl, rfl⟩) | refine kV ?_ | ((fail_if_success (refine L_known rfl ?_)); first | refine yN (fun h => ?_) fun h => ?_ | refine yP (fun h => ?_) fun h => ?_ | refine yB (fun h => ?_) fun h => ?_ | refine yK (fun h => ?_) fun h => ?_)) | (apply gW; first | refine W_seq ?_ | refine W_region ?_ | refine W_ret ?_ | refine W_skip ?_ | refine W_block ?_ | refine W_exit ?_ | refine W_cond1 rfl ?_ | refine W_cond0 rfl ?_ | refine cN (fun h => ?_) fun h => ?_ | refine cP (fun h => ?_) fun h => ?_ | refine cB (fun h => ?_) fun h => ?_ | refine cK (fun h => ?_) fun h => ?_) | (first | refine seqR.normal ?_ | refine seqR.ret ?_ | refine seqR.exit ?_ | refine blockR.normal ?_ | refine blockR.ret ?_ | refine blockR.here ?_ | refine blockR.exit rfl ?_ | refine loopR.ret ?_ | refine loopR.exit ?_) | fail)
  · have e := tab0 (A := A) (led := led) h
    refine retR.ret _ _ (ret1 rfl rfl) cvt_ ⟨?_, led, rfl, hl, fun l h' => by rw [e] at h'; split at h' <;> first | cases h'; rfl | cases h'⟩
    rw [e, isSomeIf]
  · have e := tabN (A := A) (led := led) (by assumption) h
    exact retR.ret _ _ (ret1 rfl rfl) cvt_ ⟨by rw [e]; rfl, led, rfl, hl, fun l h' => by rw [e] at h'; cases h'⟩
  have h8 := h
  obtain ⟨hT1, hT2, hT3⟩ := hT h
  have hKe := hK h
  clear hT hK
  rename_i ba bx _
  repeat' (fail_if_success apply gAt 8); (first | (apply gL; first | refine L_nil ?_ | refine yS ?_ | refine yX fun _ => ?_ | refine yA fun _ => ?_ | (apply gSt; first | refine sR ?_ | refine sB ?_ | refine s1 ?_ | refine sW ?_ | refine sN ?_) | (apply gCall; apply L_call rfl rfl rfl rfl rfl; (· first | exact l2Where_c at_ hw om om | exact l2Word_c at_ hw om om om | exact l1Read_c at_ hw om om om | exact l6Key_c at_ hw om om om om | exact l2Used_c at_ hw om om om | exact l6Find_c at_ hw om om om om hKe (hKe _ om om) (rvV _ _)); rintro _ _ ⟨rfl, rfl⟩) | refine kV ?_ | ((fail_if_success (refine L_known rfl ?_)); first | refine yN (fun h => ?_) fun h => ?_ | refine yP (fun h => ?_) fun h => ?_ | refine yB (fun h => ?_) fun h => ?_ | refine yK (fun h => ?_) fun h => ?_)) | (apply gW; first | refine W_seq ?_ | refine W_region ?_ | refine W_ret ?_ | refine W_skip ?_ | refine W_block ?_ | refine W_exit ?_ | refine W_cond1 rfl ?_ | refine W_cond0 rfl ?_ | refine cN (fun h => ?_) fun h => ?_ | refine cP (fun h => ?_) fun h => ?_ | refine cB (fun h => ?_) fun h => ?_ | refine cK (fun h => ?_) fun h => ?_) | (first | refine seqR.normal ?_ | refine seqR.ret ?_ | refine seqR.exit ?_ | refine blockR.normal ?_ | refine blockR.ret ?_ | refine blockR.here ?_ | refine blockR.exit rfl ?_ | refine loopR.ret ?_ | refine loopR.exit ?_) | fail)
  generalize hG : A.where_ (rvN A.ws (p + 2)) = b at *
  have hr := rsR (g A.ws b)
  have he : A.entries b = rs (g A.ws b) / 4 := rfl
  have hu := used_r (A := A) (b := b) (by omega)
  repeat' (first | (apply gL; first | refine L_nil ?_ | refine yS ?_ | refine yX fun _ => ?_ | refine yA fun _ => ?_ | (apply gSt; first | refine sR ?_ | refine sB ?_ | refine s1 ?_ | refine sW ?_ | refine sN ?_) | (apply gCall; apply L_call rfl rfl rfl rfl rfl; (· first | exact l2Where_c at_ hw om om | exact l2Word_c at_ hw om om om | exact l1Read_c at_ hw om om om | exact l6Key_c at_ hw om om om om | exact l2Used_c at_ hw om om om | exact l6Find_c at_ hw om om om om hKe (hKe _ om om) (rvV _ _)); rintro _ _ ⟨rfl, rfl⟩) | refine kV ?_ | ((fail_if_success (refine L_known rfl ?_)); first | refine yN (fun h => ?_) fun h => ?_ | refine yP (fun h => ?_) fun h => ?_ | refine yB (fun h => ?_) fun h => ?_ | refine yK (fun h => ?_) fun h => ?_)) | (apply gW; first | refine W_seq ?_ | refine W_region ?_ | refine W_ret ?_ | refine W_skip ?_ | refine W_block ?_ | refine W_exit ?_ | refine W_cond1 rfl ?_ | refine W_cond0 rfl ?_ | refine cN (fun h => ?_) fun h => ?_ | refine cP (fun h => ?_) fun h => ?_ | refine cB (fun h => ?_) fun h => ?_ | refine cK (fun h => ?_) fun h => ?_) | (first | refine seqR.normal ?_ | refine seqR.ret ?_ | refine seqR.exit ?_ | refine blockR.normal ?_ | refine blockR.ret ?_ | refine blockR.here ?_ | refine blockR.exit rfl ?_ | refine loopR.ret ?_ | refine loopR.exit ?_) | fail)
  · have e := tabL hG h8 h
    exact retR.ret _ _ (ret1 rfl rfl) cvt_ ⟨by rw [e]; rfl, led, rfl, hl, fun l h' => by rw [e] at h'; cases h'⟩
  have e := tabE hG h8 h
  have hl2 : (led.set b.toNat true).length = A.ws.length := by simp [hl]
  apply W_loopX (α := Int) (fun y => [(3, .pointer (some ⟨ba, 0, none⟩)), (9, .int .i64 (sg (g A.ws (p + 1)))), (10, .int .i64 b), (11, .int .i64 (A.used b)), (12, .int .i64 (A.entries b)), (13, .int .i64 y)]) (fun _ => (ba, aObj C A) :: (bl, bObj (led.set b.toNat true)) :: H)
    (fun y => 0 ≤ y ∧ y ≤ A.entries b ∧ ∀ j, 0 ≤ j → j < y → rvT A.ws (b + 1 + 4 * j) = 0 ∨ A.find b (A.entries b) (rvT A.ws (b + 1 + 4 * j)) (rvN A.ws (b + 1 + 4 * j)) = (j, true)) (fun y => (A.entries b - y).toNat) 0
  · exact sub_
  · exact cvt_
  · exact ⟨by omega, by omega, fun j h1 h2 => by omega⟩
  rintro i ⟨hi, hi2, hi3⟩
  repeat' (first | (apply gL; first | refine L_nil ?_ | refine yS ?_ | refine yX fun _ => ?_ | refine yA fun _ => ?_ | (apply gSt; first | refine sR ?_ | refine sB ?_ | refine s1 ?_ | refine sW ?_ | refine sN ?_) | (apply gCall; apply L_call rfl rfl rfl rfl rfl; (· first | exact l2Where_c at_ hw om om | exact l2Word_c at_ hw om om om | exact l1Read_c at_ hw om om om | exact l6Key_c at_ hw om om om om | exact l2Used_c at_ hw om om om | exact l6Find_c at_ hw om om om om hKe (hKe _ om om) (rvV _ _)); rintro _ _ ⟨rfl, rfl⟩) | refine kV ?_ | ((fail_if_success (refine L_known rfl ?_)); first | refine yN (fun h => ?_) fun h => ?_ | refine yP (fun h => ?_) fun h => ?_ | refine yB (fun h => ?_) fun h => ?_ | refine yK (fun h => ?_) fun h => ?_)) | (apply gW; first | refine W_seq ?_ | refine W_region ?_ | refine W_ret ?_ | refine W_skip ?_ | refine W_block ?_ | refine W_exit ?_ | refine W_cond1 rfl ?_ | refine W_cond0 rfl ?_ | refine cN (fun h => ?_) fun h => ?_ | refine cP (fun h => ?_) fun h => ?_ | refine cB (fun h => ?_) fun h => ?_ | refine cK (fun h => ?_) fun h => ?_) | (first | refine seqR.normal ?_ | refine seqR.ret ?_ | refine seqR.exit ?_ | refine blockR.normal ?_ | refine blockR.ret ?_ | refine blockR.here ?_ | refine blockR.exit rfl ?_ | refine loopR.ret ?_ | refine loopR.exit ?_) | fail)
  · refine retR.ret _ _ (ret1 rfl rfl) cvt_ ⟨?_, led.set b.toNat true, rfl, hl2, fun l h' => by rw [e] at h'; split at h' <;> first | cases h'; rfl | cases h'⟩
    rw [e, if_neg (fun c => by
      have := keysOk_iff.1 c.1 i hi (by assumption)
      rcases this with c1 | c1
      · exact absurd c1 (by assumption)
      · rw [c1] at h; cases h)]; rfl
  · refine retR.ret _ _ (ret1 rfl rfl) cvt_ ⟨?_, led.set b.toNat true, rfl, hl2, fun l h' => by rw [e] at h'; split at h' <;> first | cases h'; rfl | cases h'⟩
    rw [e, if_neg (fun c => by
      have := keysOk_iff.1 c.1 i hi (by assumption)
      rcases this with c1 | c1
      · exact absurd c1 (by assumption)
      · rw [c1] at h; exact h rfl)]; rfl
  · apply loopR.mk (i + 1)
    · exact sub_
    · exact cvt_
    · exact ⟨by omega, by omega, fun j h1 h2 => by
        by_cases hj : j = i
        · subst hj; exact .inr (Prod.ext h (by assumption))
        · exact hi3 j h1 (by omega)⟩
    · (try dsimp only); omega
  · apply loopR.mk (i + 1)
    · exact sub_
    · exact cvt_
    · exact ⟨by omega, by omega, fun j h1 h2 => by
        by_cases hj : j = i
        · subst hj; exact .inl h
        · exact hi3 j h1 (by omega)⟩
    · (try dsimp only); omega
  · have hk := keysOk_iff.2 (fun j h1 h2 => hi3 j h1 (by omega))
    refine retR.ret _ _ (ret1 rfl rfl) cvt_ ⟨?_, led.set b.toNat true, rfl, hl2, fun l h' => by rw [e] at h'; split at h' <;> first | cases h'; rfl | cases h'⟩
    rw [e, isSomeIf]
    exact congrArg Value.bool (decide_eq_decide.2 ⟨fun h9 => ⟨hk, h, h9⟩, fun h9 => h9.2.2⟩)
  · refine retR.ret _ _ (ret1 rfl rfl) cvt_ ⟨?_, led.set b.toNat true, rfl, hl2, fun l h' => by rw [e] at h'; split at h' <;> first | cases h'; rfl | cases h'⟩
    rw [e, if_neg (fun c => h c.2.1)]; rfl
end Go.Proofs.Ytepddopgmhdllaa.Eng
