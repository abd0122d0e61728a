/- The reference's table. -/
import Derived.Test.YtfhihnonafklbaaBkS7
namespace Go.Proofs.Ytfhihnonafklbaa.Eng
open Go Go.RowKit Go.Proofs.Ytfhihnonafklbaa.Sl Go.Proofs.Ytfhihnonafklbaa.Ar Go.Proofs.Ytfhihnonafklbaa.Base
set_option linter.unusedVariables false
set_option linter.unusedSimpArgs false
set_option maxRecDepth 10000
variable {w0 : World} {H : HL} {C : Cn} {A : Ar}
theorem rvV (ws : List Int) (p : Int) : ValP (rvT ws p) (rvN ws p) := by
  unfold rvT rvN
  cases e : rv ws p with
  | false => simp [ValP]
  | true =>
    rw [if_pos rfl, if_pos rfl]
    rw [rv_eq] at e
    exact of_decide_eq_true (show decide (ValP _ _) = true from e)
theorem usedR {b n : Int} : ∀ (f : Nat) (i u : Int), i ≤ n → u ≤ A.usedFrom b n f i u ∧ A.usedFrom b n f i u ≤ u + (n - i) := by
  intro f
  induction f with
  | zero => intro i u h; unfold Ar.usedFrom; omega
  | succ f ih =>
    intro i u h
    unfold Ar.usedFrom
    split
    · have h1 := ih (i + 1) (u + 1) (by omega)
      have h2 := ih (i + 1) u (by omega)
      split <;> omega
    · omega
theorem used_r {b : Int} (h : 0 ≤ A.entries b) : 0 ≤ A.used b ∧ A.used b ≤ A.entries b := by
  have := usedR (A := A) (b := b) (n := A.entries b) ((A.entries b).toNat + 1) 0 0 h
  unfold Ar.used; omega
theorem keysOk_iff {b : Int} : A.keysOk b = true ↔ ∀ i : Int, 0 ≤ i → i < A.entries b → rvT A.ws (b + 1 + 4 * i) = 0 ∨ A.find b (A.entries b) (rvT A.ws (b + 1 + 4 * i)) (rvN A.ws (b + 1 + 4 * i)) = (i, true) := by
  unfold Ar.keysOk Ar.keyT Ar.keyN
  simp only [List.all_eq_true, List.mem_range, Bool.or_eq_true, decide_eq_true_eq]
  constructor
  · intro h i hi hi2
    have := h i.toNat (by omega)
    rwa [Int.toNat_of_nonneg hi] at this
  · intro h n hn
    exact h n (by omega) (by omega)
theorem tab0 {p : Int} {led : List Bool} (h : rvT A.ws (p + 2) = 0) : A.tab p led = if sg (g A.ws (p + 1)) = 0 then some led else none := by unfold Ar.tab; rw [if_pos h]
theorem tabN {p : Int} {led : List Bool} (h : ¬ rvT A.ws (p + 2) = 0) (h8 : ¬ rvT A.ws (p + 2) = 8) : A.tab p led = none := by unfold Ar.tab; rw [if_neg h, if_pos h8]
theorem tabL {p b : Int} {led : List Bool} (hb : A.where_ (rvN A.ws (p + 2)) = b) (h8 : rvT A.ws (p + 2) = 8) (hl : led.getD b.toNat false = true) : A.tab p led = none := by
  unfold Ar.tab Ar.blkOf; rw [if_neg (by omega), if_neg (by omega), hb, if_pos hl]
theorem tabE {p b : Int} {led : List Bool} (hb : A.where_ (rvN A.ws (p + 2)) = b) (h8 : rvT A.ws (p + 2) = 8) (hl : led.getD b.toNat false = false) :
    A.tab p led = if A.keysOk b = true ∧ sg (g A.ws (p + 1)) = A.used b ∧ 4 * sg (g A.ws (p + 1)) ≤ 3 * A.entries b then some (led.set b.toNat true) else none := by
  unfold Ar.tab Ar.blkOf; rw [if_neg (by omega), if_neg (by omega), hb, if_neg (by rw [hl]; decide)]
set_option maxHeartbeats 4000000 in
theorem l2TabOk_c {bl : Nat} {led : List Bool} {p : Int} (hA : At H C.bw (wObj C A)) (hw : Wf A.ws) (hm : A.ws.length ≤ 8000) (hl : led.length = A.ws.length) (hp : 0 ≤ p) (hp2 : p + 3 < A.ws.length)
    (hT : rvT A.ws (p + 2) = 8 → (0 ≤ rvN A.ws (p + 2) ∧ rvN A.ws (p + 2) < A.ws.length) ∧ 0 ≤ A.where_ (rvN A.ws (p + 2)) ∧ A.where_ (rvN A.ws (p + 2)) + rs (g A.ws (A.where_ (rvN A.ws (p + 2)))) < A.ws.length)
    (hK : rvT A.ws (p + 2) = 8 → ∀ i : Int, 0 ≤ i → i < A.entries (A.where_ (rvN A.ws (p + 2))) → KeyP A (rvT A.ws (A.where_ (rvN A.ws (p + 2)) + 1 + 4 * i)) (rvN A.ws (A.where_ (rvN A.ws (p + 2)) + 1 + 4 * i))) :
    Fn Try.prog w0 35 #[arV C A, .int .i64 p, .slice (some ⟨bl, 0, none⟩) A.ws.length A.ws.length] ((bl, bObj led) :: H) fun v H' => v = .bool (A.tab p led).isSome ∧ ∃ led', H' = (bl, bObj led') :: H ∧ led'.length = A.ws.length ∧ ∀ l, A.tab p led = some l → led' = l := by
  refine enter3 Try.func35 rfl rfl Try.ntmps35 rfl ?_
  repeat' (fail_if_success apply gAtR 7); (first | (apply gCall; apply L_call rfl rfl rfl rfl rfl; (· first | exact l2Where_c at_ hw om om | exact l2Word_c at_ hw om om om | exact l1Read_c at_ hw om om om | exact l6Key_c at_ hw om om om om | exact l2Used_c at_ hw om om om | exact l6Find_c at_ hw om om om om hKe (hKe _ om om) (rvV _ _)); rintro _ _ ⟨rfl, rfl⟩) | (apply gL; first | refine L_nil ?_ | refine yS ?_ | refine yX fun _ => ?_ | refine yA fun _ => ?_ | (apply gSt; first | refine sR ?_ | refine sB ?_ | refine s1 ?_ | refine sW ?_ | refine sN ?_) | refine kV ?_ | ((fail_if_success (refine L_known rfl ?_)); refine yW (fun h => ?_) fun h => ?_)) | (apply gW; first | refine W_seq ?_ | refine W_region ?_ | refine W_ret ?_ | refine W_skip ?_ | refine W_block ?_ | refine W_exit ?_ | refine W_cond1 rfl ?_ | refine W_cond0 rfl ?_ | refine cW (fun h => ?_) fun h => ?_) | (first | refine seqR.normal ?_ | refine seqR.ret ?_ | refine seqR.exit ?_ | refine blockR.normal ?_ | refine blockR.ret ?_ | refine blockR.here ?_ | refine blockR.exit rfl ?_ | refine loopR.ret ?_ | refine loopR.exit ?_) | fail)
  · have e := tab0 (A := A) (led := led) h
    refine retR.ret _ _ (ret1 rfl rfl) cvt_ ⟨?_, led, rfl, hl, fun l h' => by rw [e] at h'; split at h' <;> first | cases h'; rfl | cases h'⟩
    rw [e, isSomeIf]
  · have e := tabN (A := A) (led := led) (by assumption) h
    exact retR.ret _ _ (ret1 rfl rfl) cvt_ ⟨by rw [e]; rfl, led, rfl, hl, fun l h' => by rw [e] at h'; cases h'⟩
  have h8 := h
  obtain ⟨hT1, hT2, hT3⟩ := hT h
  have hKe := hK h
  clear hT hK
  rename_i ba bx _
  repeat' (fail_if_success apply gAt 8); (first | (apply gCall; apply L_call rfl rfl rfl rfl rfl; (· first | exact l2Where_c at_ hw om om | exact l2Word_c at_ hw om om om | exact l1Read_c at_ hw om om om | exact l6Key_c at_ hw om om om om | exact l2Used_c at_ hw om om om | exact l6Find_c at_ hw om om om om hKe (hKe _ om om) (rvV _ _)); rintro _ _ ⟨rfl, rfl⟩) | (apply gL; first | refine L_nil ?_ | refine yS ?_ | refine yX fun _ => ?_ | refine yA fun _ => ?_ | (apply gSt; first | refine sR ?_ | refine sB ?_ | refine s1 ?_ | refine sW ?_ | refine sN ?_) | refine kV ?_ | ((fail_if_success (refine L_known rfl ?_)); refine yW (fun h => ?_) fun h => ?_)) | (apply gW; first | refine W_seq ?_ | refine W_region ?_ | refine W_ret ?_ | refine W_skip ?_ | refine W_block ?_ | refine W_exit ?_ | refine W_cond1 rfl ?_ | refine W_cond0 rfl ?_ | refine cW (fun h => ?_) fun h => ?_) | (first | refine seqR.normal ?_ | refine seqR.ret ?_ | refine seqR.exit ?_ | refine blockR.normal ?_ | refine blockR.ret ?_ | refine blockR.here ?_ | refine blockR.exit rfl ?_ | refine loopR.ret ?_ | refine loopR.exit ?_) | fail)
  generalize hG : A.where_ (rvN A.ws (p + 2)) = b at *
  have hr := rsR (g A.ws b)
  have he : A.entries b = rs (g A.ws b) / 4 := rfl
  have hu := used_r (A := A) (b := b) (by omega)
  repeat' (first | (apply gCall; apply L_call rfl rfl rfl rfl rfl; (· first | exact l2Where_c at_ hw om om | exact l2Word_c at_ hw om om om | exact l1Read_c at_ hw om om om | exact l6Key_c at_ hw om om om om | exact l2Used_c at_ hw om om om | exact l6Find_c at_ hw om om om om hKe (hKe _ om om) (rvV _ _)); rintro _ _ ⟨rfl, rfl⟩) | (apply gL; first | refine L_nil ?_ | refine yS ?_ | refine yX fun _ => ?_ | refine yA fun _ => ?_ | (apply gSt; first | refine sR ?_ | refine sB ?_ | refine s1 ?_ | refine sW ?_ | refine sN ?_) | refine kV ?_ | ((fail_if_success (refine L_known rfl ?_)); refine yW (fun h => ?_) fun h => ?_)) | (apply gW; first | refine W_seq ?_ | refine W_region ?_ | refine W_ret ?_ | refine W_skip ?_ | refine W_block ?_ | refine W_exit ?_ | refine W_cond1 rfl ?_ | refine W_cond0 rfl ?_ | refine cW (fun h => ?_) fun h => ?_) | (first | refine seqR.normal ?_ | refine seqR.ret ?_ | refine seqR.exit ?_ | refine blockR.normal ?_ | refine blockR.ret ?_ | refine blockR.here ?_ | refine blockR.exit rfl ?_ | refine loopR.ret ?_ | refine loopR.exit ?_) | fail)
  · have e := tabL hG h8 h
    exact retR.ret _ _ (ret1 rfl rfl) cvt_ ⟨by rw [e]; rfl, led, rfl, hl, fun l h' => by rw [e] at h'; cases h'⟩
  have e := tabE hG h8 h
  have hl2 : (led.set b.toNat true).length = A.ws.length := by simp [hl]
  apply W_loopX (α := Int) (fun y => [(3, .pointer (some ⟨ba, 0, none⟩)), (9, .int .i64 (sg (g A.ws (p + 1)))), (10, .int .i64 b), (11, .int .i64 (A.used b)), (12, .int .i64 (A.entries b)), (13, .int .i64 y)]) (fun _ => (ba, aObj C A) :: (bl, bObj (led.set b.toNat true)) :: H)
    (fun y => 0 ≤ y ∧ y ≤ A.entries b ∧ ∀ j, 0 ≤ j → j < y → rvT A.ws (b + 1 + 4 * j) = 0 ∨ A.find b (A.entries b) (rvT A.ws (b + 1 + 4 * j)) (rvN A.ws (b + 1 + 4 * j)) = (j, true)) (fun y => (A.entries b - y).toNat) 0
  · exact sub_
  · exact cvt_
  · exact ⟨by omega, by omega, fun j h1 h2 => by omega⟩
  rintro i ⟨hi, hi2, hi3⟩
  repeat' (first | (apply gCall; apply L_call rfl rfl rfl rfl rfl; (· first | exact l2Where_c at_ hw om om | exact l2Word_c at_ hw om om om | exact l1Read_c at_ hw om om om | exact l6Key_c at_ hw om om om om | exact l2Used_c at_ hw om om om | exact l6Find_c at_ hw om om om om hKe (hKe _ om om) (rvV _ _)); rintro _ _ ⟨rfl, rfl⟩) | (apply gL; first | refine L_nil ?_ | refine yS ?_ | refine yX fun _ => ?_ | refine yA fun _ => ?_ | (apply gSt; first | refine sR ?_ | refine sB ?_ | refine s1 ?_ | refine sW ?_ | refine sN ?_) | refine kV ?_ | ((fail_if_success (refine L_known rfl ?_)); refine yW (fun h => ?_) fun h => ?_)) | (apply gW; first | refine W_seq ?_ | refine W_region ?_ | refine W_ret ?_ | refine W_skip ?_ | refine W_block ?_ | refine W_exit ?_ | refine W_cond1 rfl ?_ | refine W_cond0 rfl ?_ | refine cW (fun h => ?_) fun h => ?_) | (first | refine seqR.normal ?_ | refine seqR.ret ?_ | refine seqR.exit ?_ | refine blockR.normal ?_ | refine blockR.ret ?_ | refine blockR.here ?_ | refine blockR.exit rfl ?_ | refine loopR.ret ?_ | refine loopR.exit ?_) | fail)
  · refine retR.ret _ _ (ret1 rfl rfl) cvt_ ⟨?_, led.set b.toNat true, rfl, hl2, fun l h' => by rw [e] at h'; split at h' <;> first | cases h'; rfl | cases h'⟩
    rw [e, if_neg (fun c => by
      have := keysOk_iff.1 c.1 i hi (by assumption)
      rcases this with c1 | c1
      · exact absurd c1 (by assumption)
      · rw [c1] at h; cases h)]; rfl
  · refine retR.ret _ _ (ret1 rfl rfl) cvt_ ⟨?_, led.set b.toNat true, rfl, hl2, fun l h' => by rw [e] at h'; split at h' <;> first | cases h'; rfl | cases h'⟩
    rw [e, if_neg (fun c => by
      have := keysOk_iff.1 c.1 i hi (by assumption)
      rcases this with c1 | c1
      · exact absurd c1 (by assumption)
      · rw [c1] at h; exact h rfl)]; rfl
  · apply loopR.mk (i + 1)
    · exact sub_
    · exact cvt_
    · exact ⟨by omega, by omega, fun j h1 h2 => by
        by_cases hj : j = i
        · subst hj; exact .inr (Prod.ext h (by assumption))
        · exact hi3 j h1 (by omega)⟩
    · (try dsimp only); omega
  · apply loopR.mk (i + 1)
    · exact sub_
    · exact cvt_
    · exact ⟨by omega, by omega, fun j h1 h2 => by
        by_cases hj : j = i
        · subst hj; exact .inl h
        · exact hi3 j h1 (by omega)⟩
    · (try dsimp only); omega
  · have hk := keysOk_iff.2 (fun j h1 h2 => hi3 j h1 (by omega))
    refine retR.ret _ _ (ret1 rfl rfl) cvt_ ⟨?_, led.set b.toNat true, rfl, hl2, fun l h' => by rw [e] at h'; split at h' <;> first | cases h'; rfl | cases h'⟩
    rw [e, isSomeIf]
    exact congrArg Value.bool (decide_eq_decide.2 ⟨fun h9 => ⟨hk, h, h9⟩, fun h9 => h9.2.2⟩)
  · refine retR.ret _ _ (ret1 rfl rfl) cvt_ ⟨?_, led.set b.toNat true, rfl, hl2, fun l h' => by rw [e] at h'; split at h' <;> first | cases h'; rfl | cases h'⟩
    rw [e, if_neg (fun c => h c.2.1)]; rfl
end Go.Proofs.Ytfhihnonafklbaa.Eng
namespace Go.Proofs.Ytfhihnonafklbaa.Eng
open Go Go.RowKit Go.Proofs.Ytfhihnonafklbaa.Sl Go.Proofs.Ytfhihnonafklbaa.Ar Go.Proofs.Ytfhihnonafklbaa.Base
set_option linter.unusedVariables false
set_option linter.unusedSimpArgs false
variable {A : Ar}
theorem g_range {m : List Int} {q : Int} (h : g m q ≠ 0) (h0 : 0 ≤ q) : q < (m.length : Int) := by
  rcases Int.lt_or_le q (m.length : Int) with h1 | h1
  · exact h1
  · exact absurd (by unfold g; rw [List.getD_eq_getElem?_getD, List.getElem?_eq_none (by omega)]; rfl) h
/-- what a mark says -/
structure MI (A : Ar) (m : List Int) : Prop where
  len : m.length = A.ws.length
  of : ∀ q : Int, 0 ≤ q → g m q = 0 ∨ g m q = 1 ∨ g m q = 2 ∨ g m q = 3
  one : ∀ q : Int, 0 ≤ q → g m q = 1 → A.start A.to ≤ q ∧ q < A.top ∧ hOk (g A.ws q) = true ∧ q + hs (g A.ws q) + 1 ≤ A.top
  two : ∀ q : Int, 0 ≤ q → g m q = 2 → A.start (1 - A.to) ≤ q ∧ q < A.old ∧ hOk (g A.ws q) = true ∧ q + hs (g A.ws q) + 1 ≤ A.old
  three : ∀ q : Int, 0 ≤ q → g m q = 3 → A.start (1 - A.to) ≤ q ∧ q < A.old ∧ isFw (g A.ws q) = true ∧ g m (fw (g A.ws q)) = 1
theorem hsR (w : Int) (h : hOk w = true) : 1 ≤ hs w ∧ hs w ≤ 256 := by have := rsR' h; omega
theorem zeros_g (q : Int) : g A.zeros q = 0 := by
  unfold g Ar.zeros
  rw [List.getD_eq_getElem?_getD, List.getElem?_replicate]
  split <;> rfl
theorem tile1_inv : ∀ (f : Nat) (p : Int) (m m' : List Int), MI A m → (∀ q : Int, 0 ≤ q → g m q ≠ 2 ∧ g m q ≠ 3) → 0 ≤ p → A.start A.to ≤ p → A.tile1 f p m = some m' → MI A m' ∧ ∀ q : Int, 0 ≤ q → g m' q ≠ 2 ∧ g m' q ≠ 3 := by
  intro f
  induction f with
  | zero => intro p m m' _ _ _ _ h; cases h
  | succ f ih =>
    intro p m m' hm h23 hp0 hp h
    rw [Ar.tile1] at h
    split at h
    · cases h; exact ⟨hm, h23⟩
    split at h
    · rename_i hc
      obtain ⟨h1, h2, h3⟩ := hc
      have hb := hsR _ h1
      have hset : ∀ q : Int, 0 ≤ q → g (m.set p.toNat 1) q = if q = p then (if p < (m.length : Int) then 1 else g m q) else g m q := by
        intro q hq
        by_cases hpl : p < (m.length : Int)
        · rw [g_set hp0 hpl hq, if_pos hpl]
        · rw [List.set_eq_of_length_le (by omega), if_neg hpl]; split <;> rfl
      refine ih _ _ _ ⟨by simp [hm.len], fun q hq => ?_, fun q hq e => ?_, fun q hq e => ?_, fun q hq e => ?_⟩ (fun q hq => ?_) (by omega) (by omega) h
      · rw [hset q hq]; split
        · split
          · exact .inr (.inl rfl)
          · exact hm.of q hq
        · exact hm.of q hq
      · rw [hset q hq] at e; split at e
        · rename_i e2; subst e2; exact ⟨hp, by omega, h1, h2⟩
        · exact hm.one q hq e
      · rw [hset q hq] at e; split at e
        · split at e
          · omega
          · exact absurd e (h23 q hq).1
        · exact absurd e (h23 q hq).1
      · rw [hset q hq] at e; split at e
        · split at e
          · omega
          · exact absurd e (h23 q hq).2
        · exact absurd e (h23 q hq).2
      · rw [hset q hq]; split
        · split
          · omega
          · exact h23 q hq
        · exact h23 q hq
    · cases h
theorem tile2_inv (hd : ∀ q r : Int, A.start A.to ≤ q → q < A.top → A.start (1 - A.to) ≤ r → r < A.old → q ≠ r) : ∀ (f : Nat) (p : Int) (m m' : List Int) (led : List Bool) (s s' : Int), MI A m → 0 ≤ p → A.start (1 - A.to) ≤ p → A.tile2 f p m led s = some (m', s') → MI A m' := by
  intro f
  induction f with
  | zero => intro p m m' led s s' _ _ _ h; cases h
  | succ f ih =>
    intro p m m' led s s' hm hp0 hp h
    have hset : ∀ v q : Int, 0 ≤ q → g (m.set p.toNat v) q = if q = p then (if p < (m.length : Int) then v else g m q) else g m q := by
      intro v q hq
      by_cases hpl : p < (m.length : Int)
      · rw [g_set hp0 hpl hq, if_pos hpl]
      · rw [List.set_eq_of_length_le (by omega), if_neg hpl]; split <;> rfl
    rw [Ar.tile2] at h
    split at h
    · cases h; exact hm
    have key : ∀ v : Int, (v = 2 ∨ v = 3) → p < A.old → (v = 2 → hOk (g A.ws p) = true ∧ p + hs (g A.ws p) + 1 ≤ A.old) → (v = 3 → isFw (g A.ws p) = true ∧ g m (fw (g A.ws p)) = 1) → MI A (m.set p.toNat v) := by
      intro v hv hpo hv2 hv3
      have hne : ∀ r : Int, 0 ≤ r → g m r = 1 → r ≠ p := fun r hr e => hd r p (hm.one r hr e).1 (hm.one r hr e).2.1 hp hpo
      have hfr := fun w => (fwR w).1
      refine ⟨by simp [hm.len], fun q hq => ?_, fun q hq e => ?_, fun q hq e => ?_, fun q hq e => ?_⟩
      · rw [hset v q hq]; split
        · split
          · rcases hv with e | e <;> omega
          · exact hm.of q hq
        · exact hm.of q hq
      · rw [hset v q hq] at e; split at e
        · split at e
          · omega
          · exact hm.one q hq e
        · exact hm.one q hq e
      · rw [hset v q hq] at e; split at e
        · rename_i e2; split at e
          · subst e2; exact ⟨hp, hpo, (hv2 e).1, (hv2 e).2⟩
          · exact hm.two q hq e
        · exact hm.two q hq e
      · rw [hset v q hq] at e; split at e
        · rename_i e2; split at e
          · subst e2
            have h3 := hv3 e
            refine ⟨hp, hpo, h3.1, ?_⟩
            rw [hset v _ (hfr _), if_neg (hne _ (hfr _) h3.2)]; exact h3.2
          · have h3 := hm.three q hq e
            refine ⟨h3.1, h3.2.1, h3.2.2.1, ?_⟩
            rw [hset v _ (hfr _), if_neg (hne _ (hfr _) h3.2.2.2)]; exact h3.2.2.2
        · have h3 := hm.three q hq e
          refine ⟨h3.1, h3.2.1, h3.2.2.1, ?_⟩
          rw [hset v _ (hfr _), if_neg (hne _ (hfr _) h3.2.2.2)]; exact h3.2.2.2
    split at h
    · rename_i h1
      have hb := hsR _ h1
      split at h
      · rename_i h2
        exact ih _ _ _ _ _ _ (key 2 (.inl rfl) (by omega) (fun _ => ⟨h1, h2.2⟩) (fun e => by omega)) (by omega) (by omega) h
      · cases h
    · split at h
      · rename_i h1 h2
        have hb := rsR (g A.ws (fw (g A.ws p)))
        have h5 : p + rs (g A.ws (fw (g A.ws p))) + 1 ≤ A.old := h2.2.2.2.2
        exact ih _ _ _ _ _ _ (key 3 (.inr rfl) (by omega) (fun e => by omega) (fun _ => ⟨h2.1, h2.2.2.1⟩)) (by unfold Ar.sz Ar.w; omega) (by unfold Ar.sz Ar.w; omega) h
      · cases h
theorem hOk_fw {w : Int} (h : hOk w = true) : isFw w = false := by
  have := (of_decide_eq_true (show decide (HeadP _ _ _) = true from h)).range
  unfold hn at this
  exact decide_eq_false (by omega)
theorem markP_of (hn : A.numbersP) {m : List Int} (h : A.marks = some m) : MarkP A m := by
  obtain ⟨f1, f2, f3, f4, f5, f6, f7, f8, f9⟩ := numF hn
  have hz : MI A A.zeros := ⟨by simp [Ar.zeros], fun q _ => .inl (zeros_g q), fun q _ e => (by rw [zeros_g] at e; omega), fun q _ e => (by rw [zeros_g] at e; omega), fun q _ e => (by rw [zeros_g] at e; omega)⟩
  have hMI : MI A m ∧ ((∃ q : Int, 0 ≤ q ∧ (g m q = 2 ∨ g m q = 3)) → A.cyc = true) := by
    unfold Ar.marks at h
    split at h
    · cases h
    rename_i m1 e1
    have h1 := tile1_inv _ _ _ _ hz (fun q _ => by rw [zeros_g]; omega) (by omega) (Int.le_refl _) e1
    split at h
    · cases h
      exact ⟨h1.1, fun ⟨q, hq, e⟩ => by have := h1.2 q hq; omega⟩
    · rename_i hc
      have hc : A.cyc = true := by simpa using hc
      have f10 := f5 hc
      split at h
      · cases h
      rename_i m2 s2 e2
      split at h
      · cases h
        refine ⟨tile2_inv (fun q r a b c d => ?_) _ _ _ _ _ _ _ h1.1 (by omega) (Int.le_refl _) e2, fun _ => hc⟩
        have ho : A.old ≤ (2 - A.to) * A.semi := by
          have := hn.2.2.2.2.2.2; rw [if_pos hc] at this; exact this.1.2
        have ht := hn.2.2.2.2.2.1.2
        unfold Ar.start at a c
        rcases f7 with e | e <;> rw [e] at a c ho ht <;> omega
      · cases h
  obtain ⟨hI, h23⟩ := hMI
  have hok : ∀ p : Int, 0 ≤ p → (g m p = 1 ∨ g m p = 2) → 1 ≤ p ∧ hOk (g A.ws p) = true ∧ p + hs (g A.ws p) < A.ws.length := by
    rintro p hp (e | e)
    · have := hI.one p hp e; exact ⟨by omega, this.2.2.1, by omega⟩
    · have := hI.two p hp e
      have := f5 (h23 ⟨p, hp, .inl e⟩)
      exact ⟨by omega, by simp_all, by omega⟩
  refine ⟨hI.len, fun p hp _ h => hok p hp h, fun p hp hl h0 => ?_⟩
  rcases hI.of p hp with e | e | e | e
  · exact absurd e h0
  · have := hok p hp (.inl e)
    have e2 : A.where_ p = p := by unfold Ar.where_; rw [if_neg (by rw [hOk_fw this.2.1]; decide)]
    rw [e2]; exact ⟨hp, hl, .inl e⟩
  · have := hok p hp (.inr e)
    have e2 : A.where_ p = p := by unfold Ar.where_; rw [if_neg (by rw [hOk_fw this.2.1]; decide)]
    rw [e2]; exact ⟨hp, hl, .inr e⟩
  · have h3 := hI.three p hp e
    have e2 : A.where_ p = fw (g A.ws p) := by unfold Ar.where_; rw [if_pos h3.2.2.1]
    have hf := fwR (g A.ws p)
    rw [e2]
    exact ⟨hf.1, by rw [← hI.len]; exact g_range (by omega) hf.1, .inl h3.2.2.2⟩
end Go.Proofs.Ytfhihnonafklbaa.Eng
namespace Go.Proofs.Ytfhihnonafklbaa.Eng
open Go Go.RowKit Go.Proofs.Ytfhihnonafklbaa.Sl Go.Proofs.Ytfhihnonafklbaa.Ar Go.Proofs.Ytfhihnonafklbaa.Base
set_option linter.unusedVariables false
set_option linter.unusedSimpArgs false
variable {A : Ar}
def ObjP (A : Ar) (m : List Int) : Prop := ∀ p : Int, 0 ≤ p → p < A.ws.length → (g m p = 1 ∨ g m p = 2) → A.object m p = true
theorem isM_iff {m : List Int} {p : Int} : Ar.isM m p = true ↔ (g m p = 1 ∨ g m p = 2) := decide_eq_true_iff
theorem objs_iff {m : List Int} (hl : m.length = A.ws.length) : A.objsFrom m (m.length + 1) 0 = true ↔ ObjP A m := by
  have key : ∀ (f : Nat) (p : Int), (m.length : Int) - p < (f : Int) → 0 ≤ p → (A.objsFrom m f p = true ↔ ∀ q : Int, p ≤ q → q < (m.length : Int) → (g m q = 1 ∨ g m q = 2) → A.object m q = true) := by
    intro f
    induction f with
    | zero => intro p h h0; exact ⟨fun _ q h1 h2 => by omega, fun _ => rfl⟩
    | succ f ih =>
      intro p h h0
      rw [Ar.objsFrom]
      split
      · rename_i hp
        split
        · rename_i hc
          refine ⟨fun e => by (cases e), fun e => ?_⟩
          have := e p (Int.le_refl _) hp (isM_iff.1 hc.1)
          rw [this] at hc; cases hc.2
        · rename_i hc
          rw [ih (p + 1) (by omega) (by omega)]
          constructor
          · intro e q h1 h2 h3
            by_cases hq : q = p
            · subst hq
              cases e2 : A.object m q with
              | true => rfl
              | false => exact absurd ⟨isM_iff.2 h3, e2⟩ hc
            · exact e q (by omega) h2 h3
          · exact fun e q h1 h2 h3 => e q (by omega) h2 h3
      · exact ⟨fun _ q h1 h2 => by omega, fun _ => rfl⟩
  have := key (m.length + 1) 0 (by omega) (by omega)
  rw [this]
  unfold ObjP
  rw [hl]
theorem obj_slot {m : List Int} {p q : Int} (h : A.object m p = true) (hq : q ∈ slots (rk (g A.ws p)) (rs (g A.ws p))) : A.slotOk m (rk (g A.ws p)) (A.fromOf m p) (p + q) = true := by
  unfold Ar.object Ar.kn Ar.sz Ar.w at h
  rw [Bool.and_eq_true, List.all_eq_true] at h
  exact h.1 q hq
theorem leads_of {m : List Int} {t n fr : Int} (h : A.leads m t n fr = true) (hk : kd t ≠ 0) : n < (m.length : Int) ∧ g m n ≠ 0 ∧ rk (g A.ws (A.where_ n)) = kd t := by
  unfold Ar.leads isRef at h
  rw [if_pos (by simpa using hk)] at h
  split at h
  · rename_i h1
    have h2 := of_decide_eq_true h
    exact ⟨h1, by omega, h2.2⟩
  · cases h
theorem keyP_of {m : List Int} (hM : MarkP A m) (hO : ObjP A m) {k fr q : Int} (h : A.slotOk m k fr q = true) : KeyP A (rvT A.ws q) (rvN A.ws q) := by
  obtain ⟨h1, h2, -⟩ := slotOk_iff.1 h
  have hr := rvP A.ws q
  refine ⟨fun hk => ?_, fun h3 => ?_⟩
  · have hl := leads_of h2 hk
    rw [hM.len] at hl
    have hw := hM.wh _ (hr.2 hk) hl.1 hl.2.1
    exact ⟨hr.2 hk, hl.1, hw.1, hw.2.1⟩
  · have hk : kd (rvT A.ws q) ≠ 0 := by rw [h3]; decide
    have hl := leads_of h2 hk
    rw [hM.len] at hl
    have hw := hM.wh _ (hr.2 hk) hl.1 hl.2.1
    have ho := hO _ hw.1 hw.2.1 hw.2.2
    have hok := hM.ok _ hw.1 hw.2.1 hw.2.2
    have hs := rsR' hok.2.1
    have e1 : rk (g A.ws (A.where_ (rvN A.ws q))) = 1 := by rw [hl.2.2, h3]; rfl
    unfold Ar.object Ar.kn Ar.sz Ar.w at ho
    rw [Bool.and_eq_true, if_pos e1] at ho
    have hst := of_decide_eq_true (show decide _ = true from ho.2)
    simp only [Ar.w] at hst
    exact ⟨hw.1, by omega, by omega, by omega, by omega⟩
theorem slots_mem {f : Nat} {i s q : Int} (h : i ≤ q) (h2 : (q - i) % 2 = 0) (h3 : q + 1 ≤ s) (hf : q - i < 2 * (f : Int)) : q ∈ slotsFrom f i s := by
  induction f generalizing i with
  | zero => omega
  | succ f ih =>
    rw [slotsFrom, if_pos (by omega)]
    by_cases e : q = i
    · subst e; exact List.mem_cons_self
    · exact List.mem_cons_of_mem _ (ih (by omega) (by omega) (by omega))
/-- what a table needs of the arena, to be looked at -/
theorem tab_pre {m : List Int} (hM : MarkP A m) (hO : ObjP A m) {p : Int} (hp : 0 ≤ p) (hp2 : p < A.ws.length) (hi : g m p = 1 ∨ g m p = 2) (hk : rk (g A.ws p) = 2) :
    p + 3 < A.ws.length ∧
    (rvT A.ws (p + 2) = 8 → (0 ≤ rvN A.ws (p + 2) ∧ rvN A.ws (p + 2) < A.ws.length) ∧ 0 ≤ A.where_ (rvN A.ws (p + 2)) ∧ A.where_ (rvN A.ws (p + 2)) + rs (g A.ws (A.where_ (rvN A.ws (p + 2)))) < A.ws.length) ∧
    (rvT A.ws (p + 2) = 8 → ∀ i : Int, 0 ≤ i → i < A.entries (A.where_ (rvN A.ws (p + 2))) → KeyP A (rvT A.ws (A.where_ (rvN A.ws (p + 2)) + 1 + 4 * i)) (rvN A.ws (A.where_ (rvN A.ws (p + 2)) + 1 + 4 * i))) := by
  have hok := hM.ok p hp hp2 hi
  have hs := rsR' hok.2.1
  have hz : ∀ q : Int, hOk (g A.ws q) = true → SizeP (rk (g A.ws q)) (rs (g A.ws q)) := fun q h => by
    have hr := rsR' h
    rw [hr.2.2.1, hr.2.2.2.1]; exact (of_decide_eq_true (show decide (HeadP _ _ _) = true from h)).1
  have hz1 := hz p hok.2.1
  have h3 : rs (g A.ws p) = 3 := by unfold SizeP at hz1; omega
  have hsl : A.slotOk m (rk (g A.ws p)) (A.fromOf m p) (p + 2) = true := obj_slot (hO p hp hp2 hi) (by
    rw [hk, h3]
    exact slots_mem (by simp [from_]) (by simp [from_]) (by omega) (by simp [from_]))
  have hb : rvT A.ws (p + 2) = 8 → (0 ≤ rvN A.ws (p + 2) ∧ rvN A.ws (p + 2) < A.ws.length) ∧ 0 ≤ A.where_ (rvN A.ws (p + 2)) ∧ A.where_ (rvN A.ws (p + 2)) < A.ws.length ∧ (g m (A.where_ (rvN A.ws (p + 2))) = 1 ∨ g m (A.where_ (rvN A.ws (p + 2))) = 2) ∧ rk (g A.ws (A.where_ (rvN A.ws (p + 2)))) = 3 := by
    intro h8
    have hkd : kd (rvT A.ws (p + 2)) ≠ 0 := by rw [h8]; decide
    have hl := leads_of (slotOk_iff.1 hsl).2.1 hkd
    rw [hM.len] at hl
    have h0 := (rvP A.ws (p + 2)).2 hkd
    have hw := hM.wh _ h0 hl.1 hl.2.1
    exact ⟨⟨h0, hl.1⟩, hw.1, hw.2.1, hw.2.2, by rw [hl.2.2, h8]; rfl⟩
  refine ⟨by omega, fun h8 => ?_, fun h8 i hi1 hi2 => ?_⟩
  · obtain ⟨h1, h2, h4, h5, h6⟩ := hb h8
    have h7 := hM.ok _ h2 h4 h5
    have h9 := rsR' h7.2.1
    exact ⟨h1, h2, by omega⟩
  · obtain ⟨h1, h2, h4, h5, h6⟩ := hb h8
    have h7 := hM.ok _ h2 h4 h5
    have hz2 := hz _ h7.2.1
    have he : A.entries (A.where_ (rvN A.ws (p + 2))) = rs (g A.ws (A.where_ (rvN A.ws (p + 2)))) / 4 := rfl
    have := obj_slot (q := 1 + 4 * i) (hO _ h2 h4 h5) (by
      rw [h6]
      have : from_ 3 (rs (g A.ws (A.where_ (rvN A.ws (p + 2))))) = 1 := by simp [from_]
      have hr := rsR' h7.2.1
      exact slots_mem (by omega) (by omega) (by omega) (by omega))
    have e : A.where_ (rvN A.ws (p + 2)) + 1 + 4 * i = A.where_ (rvN A.ws (p + 2)) + (1 + 4 * i) := by omega
    rw [e]
    exact keyP_of hM hO this
end Go.Proofs.Ytfhihnonafklbaa.Eng
namespace Go.Proofs.Ytfhihnonafklbaa.Eng
open Go Go.RowKit Go.Proofs.Ytfhihnonafklbaa.Sl Go.Proofs.Ytfhihnonafklbaa.Ar Go.Proofs.Ytfhihnonafklbaa.Base
set_option linter.unusedVariables false
set_option linter.unusedSimpArgs false
set_option maxRecDepth 10000
variable {w0 : World} {H : HL} {C : Cn} {A : Ar}
theorem roots_iff {m : List Int} : A.rootsOk m = true ↔ ∀ i : Int, 0 ≤ i → i < (A.vs.length : Int) → valOk (A.vs.getD i.toNat (0, 0)).1 (A.vs.getD i.toNat (0, 0)).2 = true ∧ ¬ (A.vs.getD i.toNat (0, 0)).1 = 8 ∧ A.leads m (A.vs.getD i.toNat (0, 0)).1 (A.vs.getD i.toNat (0, 0)).2 1 = true := by
  unfold Ar.rootsOk
  simp only [List.all_eq_true, Bool.and_eq_true, Bool.not_eq_true', decide_eq_false_iff_not, and_assoc]
  constructor
  · intro h i hi hi2
    have hl : i.toNat < A.vs.length := by omega
    have := h (A.vs[i.toNat]) (List.getElem_mem hl)
    rw [List.getD_eq_getElem?_getD, List.getElem?_eq_getElem hl]; exact this
  · intro h v hv
    obtain ⟨n, hn, rfl⟩ := List.getElem_of_mem hv
    have := h (n : Int) (by omega) (by omega)
    rw [Int.toNat_natCast, List.getD_eq_getElem?_getD, List.getElem?_eq_getElem hn] at this; exact this
theorem tabs_step {m : List Int} {led : List Bool} {f : Nat} {p : Int} (h : p < (m.length : Int)) (hf : (m.length : Int) - p < (f : Int)) : ∃ f', f = f' + 1 ∧ A.tabsFrom m f p led =
    if Ar.isM m p = true ∧ rk (g A.ws p) = 2 then (match A.tab p led with | none => false | some led' => A.tabsFrom m f' (p + 1) led') else A.tabsFrom m f' (p + 1) led := by
  cases f with
  | zero => omega
  | succ f => exact ⟨f, rfl, by rw [Ar.tabsFrom, if_pos h]; rfl⟩
theorem tabs_end {m : List Int} {led : List Bool} {f : Nat} {p : Int} (h : ¬ p < (m.length : Int)) : A.tabsFrom m f p led = true := by
  cases f with
  | zero => rfl
  | succ f => rw [Ar.tabsFrom, if_neg h]
theorem valP_n {t n : Int} (h : ValP t n) (hk : kd t ≠ 0) : 0 ≤ n := by
  have := kindOf_ne.1 hk
  unfold ValP at h; omega
set_option maxHeartbeats 4000000 in
theorem specArenaOk_c (hA : At H C.bw (wObj C A)) (hR : At H C.br (rObj C A)) (hw : Wf A.ws) (hx : A.vs.length ≤ 1048576) :
    Fn Try.prog w0 15 #[arV C A] H fun v H' => v = .bool A.ok ∧ H' = H := by
  refine enter1 Try.func15 rfl rfl Try.ntmps15 rfl ?_
  repeat' (first | (apply gCall; apply L_call rfl rfl rfl rfl rfl; (· first | exact specValOk_c _ _ | exact l2Numbers_c om | exact l2Look_c at_ hw om om | exact l2Serials_c at_ at_ hw hM.len om | exact l2Object_c at_ at_ hw om hM om om om | exact l2Leads_c at_ at_ hw hM.len om (hV (by assumption)) (fun h1 h2 h3 => ⟨(hM.wh _ (hV (by assumption) h1) h2 h3).1, (hM.wh _ (hV (by assumption) h1) h2 h3).2.1⟩)); rintro _ _ ⟨rfl, rfl⟩) | (apply gL; first | refine L_nil ?_ | refine yS ?_ | refine yX fun _ => ?_ | refine yA fun _ => ?_ | (apply gSt; first | refine sR ?_ | refine sB ?_ | refine s1 ?_ | refine sW ?_ | refine sN ?_) | (apply gMk; first | (apply L_mkcap rfl rfl rfl rfl rfl rfl; (· omega); (· omega); (· omega); intro _ _) | (apply L_makeI rfl rfl rfl rfl rfl rfl; (· omega); (· omega); intro _) | (apply L_makeB rfl rfl rfl rfl rfl rfl; (· omega); (· omega); intro _) | (apply L_makeV rfl rfl rfl rfl rfl rfl; (· omega); (· omega); intro _)) | refine kV ?_ | ((fail_if_success (refine L_known rfl ?_)); refine yW (fun h => ?_) fun h => ?_)) | (apply gW; first | refine W_seq ?_ | refine W_region ?_ | refine W_ret ?_ | refine W_skip ?_ | refine W_block ?_ | refine W_exit ?_ | refine W_cond1 rfl ?_ | refine W_cond0 rfl ?_ | refine cW (fun h => ?_) fun h => ?_) | (first | refine seqR.normal ?_ | refine seqR.ret ?_ | refine seqR.exit ?_ | refine blockR.normal ?_ | refine blockR.ret ?_ | refine blockR.here ?_ | refine blockR.exit rfl ?_ | refine loopR.ret ?_ | refine loopR.exit ?_ | refine midA.ret ?_ | refine midA.exit ?_) | fail)
  · refine retR.ret _ _ (ret1 rfl rfl) cv_ ⟨?_, rfl⟩
    unfold Ar.ok; rw [show A.numbers = false from decide_eq_false h]; rfl
  have hnum := h
  obtain ⟨f1, f2, f3, f4, f5, ⟨f6, hm⟩, f7, f8, f9⟩ := numF hnum
  rename_i ba
  have hok0 : A.numbers = true := decide_eq_true h
  repeat' (first | (apply gCall; apply L_call rfl rfl rfl rfl rfl; (· first | exact specValOk_c _ _ | exact l2Numbers_c om | exact l2Look_c at_ hw om om | exact l2Serials_c at_ at_ hw hM.len om | exact l2Object_c at_ at_ hw om hM om om om | exact l2Leads_c at_ at_ hw hM.len om (hV (by assumption)) (fun h1 h2 h3 => ⟨(hM.wh _ (hV (by assumption) h1) h2 h3).1, (hM.wh _ (hV (by assumption) h1) h2 h3).2.1⟩)); rintro _ _ ⟨rfl, rfl⟩) | (apply gL; first | refine L_nil ?_ | refine yS ?_ | refine yX fun _ => ?_ | refine yA fun _ => ?_ | (apply gSt; first | refine sR ?_ | refine sB ?_ | refine s1 ?_ | refine sW ?_ | refine sN ?_) | (apply gMk; first | (apply L_mkcap rfl rfl rfl rfl rfl rfl; (· omega); (· omega); (· omega); intro _ _) | (apply L_makeI rfl rfl rfl rfl rfl rfl; (· omega); (· omega); intro _) | (apply L_makeB rfl rfl rfl rfl rfl rfl; (· omega); (· omega); intro _) | (apply L_makeV rfl rfl rfl rfl rfl rfl; (· omega); (· omega); intro _)) | refine kV ?_ | ((fail_if_success (refine L_known rfl ?_)); refine yW (fun h => ?_) fun h => ?_)) | (apply gW; first | refine W_seq ?_ | refine W_region ?_ | refine W_ret ?_ | refine W_skip ?_ | refine W_block ?_ | refine W_exit ?_ | refine W_cond1 rfl ?_ | refine W_cond0 rfl ?_ | refine cW (fun h => ?_) fun h => ?_) | (first | refine seqR.normal ?_ | refine seqR.ret ?_ | refine seqR.exit ?_ | refine blockR.normal ?_ | refine blockR.ret ?_ | refine blockR.here ?_ | refine blockR.exit rfl ?_ | refine loopR.ret ?_ | refine loopR.exit ?_ | refine midA.ret ?_ | refine midA.exit ?_) | fail)
  rename_i bm
  apply L_call rfl rfl rfl rfl rfl
  · exact l2Tile_c at_ hw hnum
  rintro _ _ ⟨rfl, m, rfl, hml, hme⟩
  cases hmk : A.marks with
  | none =>
    simp only [Option.isSome_none]
    repeat' (first | (apply gCall; apply L_call rfl rfl rfl rfl rfl; (· first | exact specValOk_c _ _ | exact l2Numbers_c om | exact l2Look_c at_ hw om om | exact l2Serials_c at_ at_ hw hM.len om | exact l2Object_c at_ at_ hw om hM om om om | exact l2Leads_c at_ at_ hw hM.len om (hV (by assumption)) (fun h1 h2 h3 => ⟨(hM.wh _ (hV (by assumption) h1) h2 h3).1, (hM.wh _ (hV (by assumption) h1) h2 h3).2.1⟩)); rintro _ _ ⟨rfl, rfl⟩) | (apply gL; first | refine L_nil ?_ | refine yS ?_ | refine yX fun _ => ?_ | refine yA fun _ => ?_ | (apply gSt; first | refine sR ?_ | refine sB ?_ | refine s1 ?_ | refine sW ?_ | refine sN ?_) | (apply gMk; first | (apply L_mkcap rfl rfl rfl rfl rfl rfl; (· omega); (· omega); (· omega); intro _ _) | (apply L_makeI rfl rfl rfl rfl rfl rfl; (· omega); (· omega); intro _) | (apply L_makeB rfl rfl rfl rfl rfl rfl; (· omega); (· omega); intro _) | (apply L_makeV rfl rfl rfl rfl rfl rfl; (· omega); (· omega); intro _)) | refine kV ?_ | ((fail_if_success (refine L_known rfl ?_)); refine yW (fun h => ?_) fun h => ?_)) | (apply gW; first | refine W_seq ?_ | refine W_region ?_ | refine W_ret ?_ | refine W_skip ?_ | refine W_block ?_ | refine W_exit ?_ | refine W_cond1 rfl ?_ | refine W_cond0 rfl ?_ | refine cW (fun h => ?_) fun h => ?_) | (first | refine seqR.normal ?_ | refine seqR.ret ?_ | refine seqR.exit ?_ | refine blockR.normal ?_ | refine blockR.ret ?_ | refine blockR.here ?_ | refine blockR.exit rfl ?_ | refine loopR.ret ?_ | refine loopR.exit ?_ | refine midA.ret ?_ | refine midA.exit ?_) | fail)
    refine retR.ret _ _ (ret1 rfl rfl) cv_ ⟨?_, rfl⟩
    unfold Ar.ok; rw [hmk, Bool.and_false]
  | some m' =>
  simp only [Option.isSome_some]
  have e := hme _ hmk
  subst e
  have hM := markP_of hnum hmk
  have hokm : A.ok = (A.sers m && A.objsFrom m (m.length + 1) 0 && A.tabsFrom m (m.length + 1) 0 A.falses && A.rootsOk m) := by unfold Ar.ok; rw [hmk, hok0, Bool.true_and]
  clear hme hmk
  have hV : ∀ {t n : Int}, ValP t n → kd t ≠ 0 → 0 ≤ n := fun h1 h2 => valP_n h1 h2
  repeat' (fail_if_success apply gAt 6); (first | (apply gCall; apply L_call rfl rfl rfl rfl rfl; (· first | exact specValOk_c _ _ | exact l2Numbers_c om | exact l2Look_c at_ hw om om | exact l2Serials_c at_ at_ hw hM.len om | exact l2Object_c at_ at_ hw om hM om om om | exact l2Leads_c at_ at_ hw hM.len om (hV (by assumption)) (fun h1 h2 h3 => ⟨(hM.wh _ (hV (by assumption) h1) h2 h3).1, (hM.wh _ (hV (by assumption) h1) h2 h3).2.1⟩)); rintro _ _ ⟨rfl, rfl⟩) | (apply gL; first | refine L_nil ?_ | refine yS ?_ | refine yX fun _ => ?_ | refine yA fun _ => ?_ | (apply gSt; first | refine sR ?_ | refine sB ?_ | refine s1 ?_ | refine sW ?_ | refine sN ?_) | (apply gMk; first | (apply L_mkcap rfl rfl rfl rfl rfl rfl; (· omega); (· omega); (· omega); intro _ _) | (apply L_makeI rfl rfl rfl rfl rfl rfl; (· omega); (· omega); intro _) | (apply L_makeB rfl rfl rfl rfl rfl rfl; (· omega); (· omega); intro _) | (apply L_makeV rfl rfl rfl rfl rfl rfl; (· omega); (· omega); intro _)) | refine kV ?_ | ((fail_if_success (refine L_known rfl ?_)); refine yW (fun h => ?_) fun h => ?_)) | (apply gW; first | refine W_seq ?_ | refine W_region ?_ | refine W_ret ?_ | refine W_skip ?_ | refine W_block ?_ | refine W_exit ?_ | refine W_cond1 rfl ?_ | refine W_cond0 rfl ?_ | refine cW (fun h => ?_) fun h => ?_) | (first | refine seqR.normal ?_ | refine seqR.ret ?_ | refine seqR.exit ?_ | refine blockR.normal ?_ | refine blockR.ret ?_ | refine blockR.here ?_ | refine blockR.exit rfl ?_ | refine loopR.ret ?_ | refine loopR.exit ?_ | refine midA.ret ?_ | refine midA.exit ?_) | fail)
  · refine retR.ret _ _ (ret1 rfl rfl) cv_ ⟨?_, rfl⟩
    rw [hokm, h]; rfl
  rw [h, Bool.true_and] at hokm
  refine W_midA (α := Unit) (fun _ => [(1, .pointer (some ⟨ba, 0, none⟩)), (3, .slice (some ⟨bm, 0, none⟩) A.ws.length A.ws.length)]) (fun _ => (ba, aObj C A) :: (bm, mObj m) :: H) (fun _ => ObjP A m) ?_ ?_
  · repeat' (first | (apply gCall; apply L_call rfl rfl rfl rfl rfl; (· first | exact specValOk_c _ _ | exact l2Numbers_c om | exact l2Look_c at_ hw om om | exact l2Serials_c at_ at_ hw hM.len om | exact l2Object_c at_ at_ hw om hM om om om | exact l2Leads_c at_ at_ hw hM.len om (hV (by assumption)) (fun h1 h2 h3 => ⟨(hM.wh _ (hV (by assumption) h1) h2 h3).1, (hM.wh _ (hV (by assumption) h1) h2 h3).2.1⟩)); rintro _ _ ⟨rfl, rfl⟩) | (apply gL; first | refine L_nil ?_ | refine yS ?_ | refine yX fun _ => ?_ | refine yA fun _ => ?_ | (apply gSt; first | refine sR ?_ | refine sB ?_ | refine s1 ?_ | refine sW ?_ | refine sN ?_) | (apply gMk; first | (apply L_mkcap rfl rfl rfl rfl rfl rfl; (· omega); (· omega); (· omega); intro _ _) | (apply L_makeI rfl rfl rfl rfl rfl rfl; (· omega); (· omega); intro _) | (apply L_makeB rfl rfl rfl rfl rfl rfl; (· omega); (· omega); intro _) | (apply L_makeV rfl rfl rfl rfl rfl rfl; (· omega); (· omega); intro _)) | refine kV ?_ | ((fail_if_success (refine L_known rfl ?_)); refine yW (fun h => ?_) fun h => ?_)) | (apply gW; first | refine W_seq ?_ | refine W_region ?_ | refine W_ret ?_ | refine W_skip ?_ | refine W_block ?_ | refine W_exit ?_ | refine W_cond1 rfl ?_ | refine W_cond0 rfl ?_ | refine cW (fun h => ?_) fun h => ?_) | (first | refine seqR.normal ?_ | refine seqR.ret ?_ | refine seqR.exit ?_ | refine blockR.normal ?_ | refine blockR.ret ?_ | refine blockR.here ?_ | refine blockR.exit rfl ?_ | refine loopR.ret ?_ | refine loopR.exit ?_ | refine midA.ret ?_ | refine midA.exit ?_) | fail)
    apply W_loopX (α := Int) (fun y => [(1, .pointer (some ⟨ba, 0, none⟩)), (3, .slice (some ⟨bm, 0, none⟩) A.ws.length A.ws.length), (4, .int .i64 y)]) (fun _ => (ba, aObj C A) :: (bm, mObj m) :: H)
      (fun y => 0 ≤ y ∧ y ≤ A.ws.length ∧ ∀ q : Int, 0 ≤ q → q < y → (g m q = 1 ∨ g m q = 2) → A.object m q = true) (fun y => (A.ws.length - y).toNat) 0
    · exact sub_
    · exact cvt_
    · exact ⟨by omega, by omega, fun j h1 h2 => by omega⟩
    rintro p ⟨hp, hp2, hp3⟩
    have hfalse : p < A.ws.length → (g m p = 1 ∨ g m p = 2) → A.object m p = false → false = A.ok := fun h1 h2 h3 => by
      cases e : A.objsFrom m (m.length + 1) 0 with
      | false => rw [hokm, e]; rfl
      | true => have := (objs_iff hM.len).1 e p hp h1 h2; rw [h3] at this; cases this
    repeat' (first | (apply gCall; apply L_call rfl rfl rfl rfl rfl; (· first | exact specValOk_c _ _ | exact l2Numbers_c om | exact l2Look_c at_ hw om om | exact l2Serials_c at_ at_ hw hM.len om | exact l2Object_c at_ at_ hw om hM om om om | exact l2Leads_c at_ at_ hw hM.len om (hV (by assumption)) (fun h1 h2 h3 => ⟨(hM.wh _ (hV (by assumption) h1) h2 h3).1, (hM.wh _ (hV (by assumption) h1) h2 h3).2.1⟩)); rintro _ _ ⟨rfl, rfl⟩) | (apply gL; first | refine L_nil ?_ | refine yS ?_ | refine yX fun _ => ?_ | refine yA fun _ => ?_ | (apply gSt; first | refine sR ?_ | refine sB ?_ | refine s1 ?_ | refine sW ?_ | refine sN ?_) | (apply gMk; first | (apply L_mkcap rfl rfl rfl rfl rfl rfl; (· omega); (· omega); (· omega); intro _ _) | (apply L_makeI rfl rfl rfl rfl rfl rfl; (· omega); (· omega); intro _) | (apply L_makeB rfl rfl rfl rfl rfl rfl; (· omega); (· omega); intro _) | (apply L_makeV rfl rfl rfl rfl rfl rfl; (· omega); (· omega); intro _)) | refine kV ?_ | ((fail_if_success (refine L_known rfl ?_)); refine yW (fun h => ?_) fun h => ?_)) | (apply gW; first | refine W_seq ?_ | refine W_region ?_ | refine W_ret ?_ | refine W_skip ?_ | refine W_block ?_ | refine W_exit ?_ | refine W_cond1 rfl ?_ | refine W_cond0 rfl ?_ | refine cW (fun h => ?_) fun h => ?_) | (first | refine seqR.normal ?_ | refine seqR.ret ?_ | refine seqR.exit ?_ | refine blockR.normal ?_ | refine blockR.ret ?_ | refine blockR.here ?_ | refine blockR.exit rfl ?_ | refine loopR.ret ?_ | refine loopR.exit ?_ | refine midA.ret ?_ | refine midA.exit ?_) | fail)
    all_goals (first
      | (refine retR.ret _ _ (ret1 rfl rfl) cv_ ⟨?_, rfl⟩
         exact congrArg Value.bool (hfalse (by omega) (by omega) h))
      | (apply loopR.mk (p + 1)
         · exact sub_
         · exact cvt_
         · exact ⟨by omega, by omega, fun j h1 h2 h3 => by
             by_cases hj : j = p
             · subst hj; first | exact h | omega
             · exact hp3 j h1 (by omega) h3⟩
         · (try dsimp only); omega)
      | (apply midA.mk ()
         · exact sub_
         · exact cvt_
         · exact fun j h1 h2 h3 => hp3 j h1 (by omega) h3))
  rintro _ hO
  rw [(objs_iff hM.len).2 hO, Bool.true_and] at hokm
  repeat' (fail_if_success apply gAt 12); (first | (apply gCall; apply L_call rfl rfl rfl rfl rfl; (· first | exact specValOk_c _ _ | exact l2Numbers_c om | exact l2Look_c at_ hw om om | exact l2Serials_c at_ at_ hw hM.len om | exact l2Object_c at_ at_ hw om hM om om om | exact l2Leads_c at_ at_ hw hM.len om (hV (by assumption)) (fun h1 h2 h3 => ⟨(hM.wh _ (hV (by assumption) h1) h2 h3).1, (hM.wh _ (hV (by assumption) h1) h2 h3).2.1⟩)); rintro _ _ ⟨rfl, rfl⟩) | (apply gL; first | refine L_nil ?_ | refine yS ?_ | refine yX fun _ => ?_ | refine yA fun _ => ?_ | (apply gSt; first | refine sR ?_ | refine sB ?_ | refine s1 ?_ | refine sW ?_ | refine sN ?_) | (apply gMk; first | (apply L_mkcap rfl rfl rfl rfl rfl rfl; (· omega); (· omega); (· omega); intro _ _) | (apply L_makeI rfl rfl rfl rfl rfl rfl; (· omega); (· omega); intro _) | (apply L_makeB rfl rfl rfl rfl rfl rfl; (· omega); (· omega); intro _) | (apply L_makeV rfl rfl rfl rfl rfl rfl; (· omega); (· omega); intro _)) | refine kV ?_ | ((fail_if_success (refine L_known rfl ?_)); refine yW (fun h => ?_) fun h => ?_)) | (apply gW; first | refine W_seq ?_ | refine W_region ?_ | refine W_ret ?_ | refine W_skip ?_ | refine W_block ?_ | refine W_exit ?_ | refine W_cond1 rfl ?_ | refine W_cond0 rfl ?_ | refine cW (fun h => ?_) fun h => ?_) | (first | refine seqR.normal ?_ | refine seqR.ret ?_ | refine seqR.exit ?_ | refine blockR.normal ?_ | refine blockR.ret ?_ | refine blockR.here ?_ | refine blockR.exit rfl ?_ | refine loopR.ret ?_ | refine loopR.exit ?_ | refine midA.ret ?_ | refine midA.exit ?_) | fail)
  rename_i bl
  have hfl : A.falses.length = A.ws.length := by simp [Ar.falses]
  refine W_midA (α := Unit) (fun _ => [(1, .pointer (some ⟨ba, 0, none⟩)), (3, .slice (some ⟨bm, 0, none⟩) A.ws.length A.ws.length)]) (fun _ => (ba, aObj C A) :: (bm, mObj m) :: H) (fun _ => A.tabsFrom m (m.length + 1) 0 A.falses = true) ?_ ?_
  · repeat' (first | (apply gCall; apply L_call rfl rfl rfl rfl rfl; (· first | exact specValOk_c _ _ | exact l2Numbers_c om | exact l2Look_c at_ hw om om | exact l2Serials_c at_ at_ hw hM.len om | exact l2Object_c at_ at_ hw om hM om om om | exact l2Leads_c at_ at_ hw hM.len om (hV (by assumption)) (fun h1 h2 h3 => ⟨(hM.wh _ (hV (by assumption) h1) h2 h3).1, (hM.wh _ (hV (by assumption) h1) h2 h3).2.1⟩)); rintro _ _ ⟨rfl, rfl⟩) | (apply gL; first | refine L_nil ?_ | refine yS ?_ | refine yX fun _ => ?_ | refine yA fun _ => ?_ | (apply gSt; first | refine sR ?_ | refine sB ?_ | refine s1 ?_ | refine sW ?_ | refine sN ?_) | (apply gMk; first | (apply L_mkcap rfl rfl rfl rfl rfl rfl; (· omega); (· omega); (· omega); intro _ _) | (apply L_makeI rfl rfl rfl rfl rfl rfl; (· omega); (· omega); intro _) | (apply L_makeB rfl rfl rfl rfl rfl rfl; (· omega); (· omega); intro _) | (apply L_makeV rfl rfl rfl rfl rfl rfl; (· omega); (· omega); intro _)) | refine kV ?_ | ((fail_if_success (refine L_known rfl ?_)); refine yW (fun h => ?_) fun h => ?_)) | (apply gW; first | refine W_seq ?_ | refine W_region ?_ | refine W_ret ?_ | refine W_skip ?_ | refine W_block ?_ | refine W_exit ?_ | refine W_cond1 rfl ?_ | refine W_cond0 rfl ?_ | refine cW (fun h => ?_) fun h => ?_) | (first | refine seqR.normal ?_ | refine seqR.ret ?_ | refine seqR.exit ?_ | refine blockR.normal ?_ | refine blockR.ret ?_ | refine blockR.here ?_ | refine blockR.exit rfl ?_ | refine loopR.ret ?_ | refine loopR.exit ?_ | refine midA.ret ?_ | refine midA.exit ?_) | fail)
    apply W_loopX (α := Int × List Bool) (fun y => [(1, .pointer (some ⟨ba, 0, none⟩)), (3, .slice (some ⟨bm, 0, none⟩) A.ws.length A.ws.length), (5, .slice (some ⟨bl, 0, none⟩) A.ws.length A.ws.length), (6, .int .i64 y.1)]) (fun y => (bl, bObj y.2) :: (ba, aObj C A) :: (bm, mObj m) :: H)
      (fun y => 0 ≤ y.1 ∧ y.1 ≤ A.ws.length ∧ y.2.length = A.ws.length ∧ ∃ f, A.tabsFrom m f y.1 y.2 = A.tabsFrom m (m.length + 1) 0 A.falses ∧ (m.length : Int) - y.1 < (f : Int)) (fun y => (A.ws.length - y.1).toNat) (0, A.falses)
    · exact sub_
    · exact cvt_
    · exact ⟨by dsimp only; omega, by dsimp only; omega, hfl, _, rfl, by dsimp only; omega⟩
    rintro ⟨p, led⟩ ⟨hp, hp2, hl, f, hf, hf2⟩
    dsimp only at hp hp2 hl hf hf2 ⊢
    have hlen := hM.len
    repeat' (first | (apply gCall; apply L_call rfl rfl rfl rfl rfl; (· first | exact specValOk_c _ _ | exact l2Numbers_c om | exact l2Look_c at_ hw om om | exact l2Serials_c at_ at_ hw hM.len om | exact l2Object_c at_ at_ hw om hM om om om | exact l2Leads_c at_ at_ hw hM.len om (hV (by assumption)) (fun h1 h2 h3 => ⟨(hM.wh _ (hV (by assumption) h1) h2 h3).1, (hM.wh _ (hV (by assumption) h1) h2 h3).2.1⟩)); rintro _ _ ⟨rfl, rfl⟩) | (apply gL; first | refine L_nil ?_ | refine yS ?_ | refine yX fun _ => ?_ | refine yA fun _ => ?_ | (apply gSt; first | refine sR ?_ | refine sB ?_ | refine s1 ?_ | refine sW ?_ | refine sN ?_) | (apply gMk; first | (apply L_mkcap rfl rfl rfl rfl rfl rfl; (· omega); (· omega); (· omega); intro _ _) | (apply L_makeI rfl rfl rfl rfl rfl rfl; (· omega); (· omega); intro _) | (apply L_makeB rfl rfl rfl rfl rfl rfl; (· omega); (· omega); intro _) | (apply L_makeV rfl rfl rfl rfl rfl rfl; (· omega); (· omega); intro _)) | refine kV ?_ | ((fail_if_success (refine L_known rfl ?_)); refine yW (fun h => ?_) fun h => ?_)) | (apply gW; first | refine W_seq ?_ | refine W_region ?_ | refine W_ret ?_ | refine W_skip ?_ | refine W_block ?_ | refine W_exit ?_ | refine W_cond1 rfl ?_ | refine W_cond0 rfl ?_ | refine cW (fun h => ?_) fun h => ?_) | (first | refine seqR.normal ?_ | refine seqR.ret ?_ | refine seqR.exit ?_ | refine blockR.normal ?_ | refine blockR.ret ?_ | refine blockR.here ?_ | refine blockR.exit rfl ?_ | refine loopR.ret ?_ | refine loopR.exit ?_ | refine midA.ret ?_ | refine midA.exit ?_) | fail)
    all_goals (first
      | (obtain ⟨f', rfl, e⟩ := tabs_step (A := A) (led := led) (show p < (m.length : Int) by omega) hf2
         rw [e, if_neg (fun c => by have := isM_iff.1 c.1; omega)] at hf
         apply loopR.mk (p + 1, led)
         · exact sub_
         · exact cvt_
         · exact ⟨by dsimp only; omega, by dsimp only; omega, hl, f', hf, by dsimp only; omega⟩
         · dsimp only; omega)
      | (rw [tabs_end (by omega)] at hf
         apply midA.mk ()
         · exact sub_
         · exact cvt_
         · exact hf.symm)
      | skip)
    all_goals (
      have pre := tab_pre hM hO hp (by omega) (by omega) h
      apply L_call rfl rfl rfl rfl rfl
      · exact l2TabOk_c at_ hw (by omega) hl hp pre.1 pre.2.1 pre.2.2
      rintro _ _ ⟨rfl, led', rfl, hl', he⟩
      obtain ⟨f', rfl, e⟩ := tabs_step (A := A) (led := led) (show p < (m.length : Int) by omega) hf2
      rw [e, if_pos ⟨isM_iff.2 (by omega), h⟩] at hf
      cases htb : A.tab p led with
      | none =>
        rw [htb] at hf
        simp only [Option.isSome_none]
        repeat' (first | (apply gCall; apply L_call rfl rfl rfl rfl rfl; (· first | exact specValOk_c _ _ | exact l2Numbers_c om | exact l2Look_c at_ hw om om | exact l2Serials_c at_ at_ hw hM.len om | exact l2Object_c at_ at_ hw om hM om om om | exact l2Leads_c at_ at_ hw hM.len om (hV (by assumption)) (fun h1 h2 h3 => ⟨(hM.wh _ (hV (by assumption) h1) h2 h3).1, (hM.wh _ (hV (by assumption) h1) h2 h3).2.1⟩)); rintro _ _ ⟨rfl, rfl⟩) | (apply gL; first | refine L_nil ?_ | refine yS ?_ | refine yX fun _ => ?_ | refine yA fun _ => ?_ | (apply gSt; first | refine sR ?_ | refine sB ?_ | refine s1 ?_ | refine sW ?_ | refine sN ?_) | (apply gMk; first | (apply L_mkcap rfl rfl rfl rfl rfl rfl; (· omega); (· omega); (· omega); intro _ _) | (apply L_makeI rfl rfl rfl rfl rfl rfl; (· omega); (· omega); intro _) | (apply L_makeB rfl rfl rfl rfl rfl rfl; (· omega); (· omega); intro _) | (apply L_makeV rfl rfl rfl rfl rfl rfl; (· omega); (· omega); intro _)) | refine kV ?_ | ((fail_if_success (refine L_known rfl ?_)); refine yW (fun h => ?_) fun h => ?_)) | (apply gW; first | refine W_seq ?_ | refine W_region ?_ | refine W_ret ?_ | refine W_skip ?_ | refine W_block ?_ | refine W_exit ?_ | refine W_cond1 rfl ?_ | refine W_cond0 rfl ?_ | refine cW (fun h => ?_) fun h => ?_) | (first | refine seqR.normal ?_ | refine seqR.ret ?_ | refine seqR.exit ?_ | refine blockR.normal ?_ | refine blockR.ret ?_ | refine blockR.here ?_ | refine blockR.exit rfl ?_ | refine loopR.ret ?_ | refine loopR.exit ?_ | refine midA.ret ?_ | refine midA.exit ?_) | fail)
        refine retR.ret _ _ (ret1 rfl rfl) cv_ ⟨?_, rfl⟩
        rw [hokm, ← hf]; rfl
      | some l' =>
        have e3 := he l' htb
        subst e3
        rw [htb] at hf
        simp only [Option.isSome_some]
        repeat' (first | (apply gCall; apply L_call rfl rfl rfl rfl rfl; (· first | exact specValOk_c _ _ | exact l2Numbers_c om | exact l2Look_c at_ hw om om | exact l2Serials_c at_ at_ hw hM.len om | exact l2Object_c at_ at_ hw om hM om om om | exact l2Leads_c at_ at_ hw hM.len om (hV (by assumption)) (fun h1 h2 h3 => ⟨(hM.wh _ (hV (by assumption) h1) h2 h3).1, (hM.wh _ (hV (by assumption) h1) h2 h3).2.1⟩)); rintro _ _ ⟨rfl, rfl⟩) | (apply gL; first | refine L_nil ?_ | refine yS ?_ | refine yX fun _ => ?_ | refine yA fun _ => ?_ | (apply gSt; first | refine sR ?_ | refine sB ?_ | refine s1 ?_ | refine sW ?_ | refine sN ?_) | (apply gMk; first | (apply L_mkcap rfl rfl rfl rfl rfl rfl; (· omega); (· omega); (· omega); intro _ _) | (apply L_makeI rfl rfl rfl rfl rfl rfl; (· omega); (· omega); intro _) | (apply L_makeB rfl rfl rfl rfl rfl rfl; (· omega); (· omega); intro _) | (apply L_makeV rfl rfl rfl rfl rfl rfl; (· omega); (· omega); intro _)) | refine kV ?_ | ((fail_if_success (refine L_known rfl ?_)); refine yW (fun h => ?_) fun h => ?_)) | (apply gW; first | refine W_seq ?_ | refine W_region ?_ | refine W_ret ?_ | refine W_skip ?_ | refine W_block ?_ | refine W_exit ?_ | refine W_cond1 rfl ?_ | refine W_cond0 rfl ?_ | refine cW (fun h => ?_) fun h => ?_) | (first | refine seqR.normal ?_ | refine seqR.ret ?_ | refine seqR.exit ?_ | refine blockR.normal ?_ | refine blockR.ret ?_ | refine blockR.here ?_ | refine blockR.exit rfl ?_ | refine loopR.ret ?_ | refine loopR.exit ?_ | refine midA.ret ?_ | refine midA.exit ?_) | fail)
        apply loopR.mk (p + 1, led')
        · exact sub_
        · exact cvt_
        · exact ⟨by dsimp only; omega, by dsimp only; omega, hl', f', hf, by dsimp only; omega⟩
        · dsimp only; omega)
  rintro _ hT
  rw [hT, Bool.true_and] at hokm
  repeat' (first | (apply gCall; apply L_call rfl rfl rfl rfl rfl; (· first | exact specValOk_c _ _ | exact l2Numbers_c om | exact l2Look_c at_ hw om om | exact l2Serials_c at_ at_ hw hM.len om | exact l2Object_c at_ at_ hw om hM om om om | exact l2Leads_c at_ at_ hw hM.len om (hV (by assumption)) (fun h1 h2 h3 => ⟨(hM.wh _ (hV (by assumption) h1) h2 h3).1, (hM.wh _ (hV (by assumption) h1) h2 h3).2.1⟩)); rintro _ _ ⟨rfl, rfl⟩) | (apply gL; first | refine L_nil ?_ | refine yS ?_ | refine yX fun _ => ?_ | refine yA fun _ => ?_ | (apply gSt; first | refine sR ?_ | refine sB ?_ | refine s1 ?_ | refine sW ?_ | refine sN ?_) | (apply gMk; first | (apply L_mkcap rfl rfl rfl rfl rfl rfl; (· omega); (· omega); (· omega); intro _ _) | (apply L_makeI rfl rfl rfl rfl rfl rfl; (· omega); (· omega); intro _) | (apply L_makeB rfl rfl rfl rfl rfl rfl; (· omega); (· omega); intro _) | (apply L_makeV rfl rfl rfl rfl rfl rfl; (· omega); (· omega); intro _)) | refine kV ?_ | ((fail_if_success (refine L_known rfl ?_)); refine yW (fun h => ?_) fun h => ?_)) | (apply gW; first | refine W_seq ?_ | refine W_region ?_ | refine W_ret ?_ | refine W_skip ?_ | refine W_block ?_ | refine W_exit ?_ | refine W_cond1 rfl ?_ | refine W_cond0 rfl ?_ | refine cW (fun h => ?_) fun h => ?_) | (first | refine seqR.normal ?_ | refine seqR.ret ?_ | refine seqR.exit ?_ | refine blockR.normal ?_ | refine blockR.ret ?_ | refine blockR.here ?_ | refine blockR.exit rfl ?_ | refine loopR.ret ?_ | refine loopR.exit ?_ | refine midA.ret ?_ | refine midA.exit ?_) | fail)
  apply W_loopX (α := Int) (fun y => [(1, .pointer (some ⟨ba, 0, none⟩)), (3, .slice (some ⟨bm, 0, none⟩) A.ws.length A.ws.length), (7, .int .i64 y)]) (fun _ => (ba, aObj C A) :: (bm, mObj m) :: H)
      (fun y => 0 ≤ y ∧ y ≤ A.vs.length ∧ ∀ i : Int, 0 ≤ i → i < y → valOk (A.vs.getD i.toNat (0, 0)).1 (A.vs.getD i.toNat (0, 0)).2 = true ∧ ¬ (A.vs.getD i.toNat (0, 0)).1 = 8 ∧ A.leads m (A.vs.getD i.toNat (0, 0)).1 (A.vs.getD i.toNat (0, 0)).2 1 = true) (fun y => (A.vs.length - y).toNat) 0
  · exact sub_
  · exact cvt_
  · exact ⟨by omega, by omega, fun j h1 h2 => by omega⟩
  rintro i ⟨hi, hi2, hi3⟩
  have hfalse : i < A.vs.length → ¬ (valOk (A.vs.getD i.toNat (0, 0)).1 (A.vs.getD i.toNat (0, 0)).2 = true ∧ ¬ (A.vs.getD i.toNat (0, 0)).1 = 8 ∧ A.leads m (A.vs.getD i.toNat (0, 0)).1 (A.vs.getD i.toNat (0, 0)).2 1 = true) → false = A.ok := fun h1 h2 => by
    rw [hokm]
    cases e : A.rootsOk m with
    | false => rfl
    | true => exact absurd (roots_iff.1 e i hi h1) h2
  repeat' (first | (apply gCall; apply L_call rfl rfl rfl rfl rfl; (· first | exact specValOk_c _ _ | exact l2Numbers_c om | exact l2Look_c at_ hw om om | exact l2Serials_c at_ at_ hw hM.len om | exact l2Object_c at_ at_ hw om hM om om om | exact l2Leads_c at_ at_ hw hM.len om (hV (by assumption)) (fun h1 h2 h3 => ⟨(hM.wh _ (hV (by assumption) h1) h2 h3).1, (hM.wh _ (hV (by assumption) h1) h2 h3).2.1⟩)); rintro _ _ ⟨rfl, rfl⟩) | (apply gL; first | refine L_nil ?_ | refine yS ?_ | refine yX fun _ => ?_ | refine yA fun _ => ?_ | (apply gSt; first | refine sR ?_ | refine sB ?_ | refine s1 ?_ | refine sW ?_ | refine sN ?_) | (apply gMk; first | (apply L_mkcap rfl rfl rfl rfl rfl rfl; (· omega); (· omega); (· omega); intro _ _) | (apply L_makeI rfl rfl rfl rfl rfl rfl; (· omega); (· omega); intro _) | (apply L_makeB rfl rfl rfl rfl rfl rfl; (· omega); (· omega); intro _) | (apply L_makeV rfl rfl rfl rfl rfl rfl; (· omega); (· omega); intro _)) | refine kV ?_ | ((fail_if_success (refine L_known rfl ?_)); refine yW (fun h => ?_) fun h => ?_)) | (apply gW; first | refine W_seq ?_ | refine W_region ?_ | refine W_ret ?_ | refine W_skip ?_ | refine W_block ?_ | refine W_exit ?_ | refine W_cond1 rfl ?_ | refine W_cond0 rfl ?_ | refine cW (fun h => ?_) fun h => ?_) | (first | refine seqR.normal ?_ | refine seqR.ret ?_ | refine seqR.exit ?_ | refine blockR.normal ?_ | refine blockR.ret ?_ | refine blockR.here ?_ | refine blockR.exit rfl ?_ | refine loopR.ret ?_ | refine loopR.exit ?_ | refine midA.ret ?_ | refine midA.exit ?_) | fail)
  · refine retR.ret _ _ (ret1 rfl rfl) cv_ ⟨?_, rfl⟩
    exact congrArg Value.bool (hfalse (by assumption) (fun c => h (of_decide_eq_true c.1)))
  · refine retR.ret _ _ (ret1 rfl rfl) cv_ ⟨?_, rfl⟩
    exact congrArg Value.bool (hfalse (by assumption) (fun c => c.2.1 h))
  · refine retR.ret _ _ (ret1 rfl rfl) cv_ ⟨?_, rfl⟩
    exact congrArg Value.bool (hfalse (by assumption) (fun c => by rw [c.2.2] at h; cases h))
  · apply loopR.mk (i + 1)
    · exact sub_
    · exact cvt_
    · exact ⟨by omega, by omega, fun j h1 h2 => by
        by_cases hj : j = i
        · subst hj; exact ⟨decide_eq_true (by assumption), by assumption, h⟩
        · exact hi3 j h1 (by omega)⟩
    · (try dsimp only); omega
  · refine retR.ret _ _ (ret1 rfl rfl) cv_ ⟨?_, rfl⟩
    rw [hokm, roots_iff.2 (fun j h1 h2 => hi3 j h1 (by omega))]
end Go.Proofs.Ytfhihnonafklbaa.Eng
