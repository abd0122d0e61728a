/- Plain: what the marks say of an arena, and what its objects say of its tables. -/
import Derived.Test.YtepddopgmhdllaaS10
namespace Go.Proofs.Ytepddopgmhdllaa.Eng
open Go Go.RowKit Go.Proofs.Ytepddopgmhdllaa.Sl Go.Proofs.Ytepddopgmhdllaa.Ar Go.Proofs.Ytepddopgmhdllaa.Base
set_option linter.unusedVariables false
set_option linter.unusedSimpArgs false
variable {A : Ar}
theorem g_range {m : List Int} {q : Int} (h : g m q ≠ 0) (h0 : 0 ≤ q) : q < (m.length : Int) := by
  rcases Int.lt_or_le q (m.length : Int) with h1 | h1
  · exact h1
  · exact absurd (by unfold g; rw [List.getD_eq_getElem?_getD, List.getElem?_eq_none (by omega)]; rfl) h
/-- what a mark says -/
structure MI (A : Ar) (m : List Int) : Prop where
  len : m.length = A.ws.length
  of : ∀ q : Int, 0 ≤ q → g m q = 0 ∨ g m q = 1 ∨ g m q = 2 ∨ g m q = 3
  one : ∀ q : Int, 0 ≤ q → g m q = 1 → A.start A.to ≤ q ∧ q < A.top ∧ hOk (g A.ws q) = true ∧ q + hs (g A.ws q) + 1 ≤ A.top
  two : ∀ q : Int, 0 ≤ q → g m q = 2 → A.start (1 - A.to) ≤ q ∧ q < A.old ∧ hOk (g A.ws q) = true ∧ q + hs (g A.ws q) + 1 ≤ A.old
  three : ∀ q : Int, 0 ≤ q → g m q = 3 → A.start (1 - A.to) ≤ q ∧ q < A.old ∧ isFw (g A.ws q) = true ∧ g m (fw (g A.ws q)) = 1
theorem hsR (w : Int) (h : hOk w = true) : 1 ≤ hs w ∧ hs w ≤ 256 := by have := rsR' h; omega
theorem zeros_g (q : Int) : g A.zeros q = 0 := by
  unfold g Ar.zeros
  rw [List.getD_eq_getElem?_getD, List.getElem?_replicate]
  split <;> rfl
theorem tile1_inv : ∀ (f : Nat) (p : Int) (m m' : List Int), MI A m → (∀ q : Int, 0 ≤ q → g m q ≠ 2 ∧ g m q ≠ 3) → 0 ≤ p → A.start A.to ≤ p → A.tile1 f p m = some m' → MI A m' ∧ ∀ q : Int, 0 ≤ q → g m' q ≠ 2 ∧ g m' q ≠ 3 := by
  intro f
  induction f with
  | zero => intro p m m' _ _ _ _ h; cases h
  | succ f ih =>
    intro p m m' hm h23 hp0 hp h
    rw [Ar.tile1] at h
    split at h
    · cases h; exact ⟨hm, h23⟩
    split at h
    · rename_i hc
      obtain ⟨h1, h2, h3⟩ := hc
      have hb := hsR _ h1
      have hset : ∀ q : Int, 0 ≤ q → g (m.set p.toNat 1) q = if q = p then (if p < (m.length : Int) then 1 else g m q) else g m q := by
        intro q hq
        by_cases hpl : p < (m.length : Int)
        · rw [g_set hp0 hpl hq, if_pos hpl]
        · rw [List.set_eq_of_length_le (by omega), if_neg hpl]; split <;> rfl
      refine ih _ _ _ ⟨by simp [hm.len], fun q hq => ?_, fun q hq e => ?_, fun q hq e => ?_, fun q hq e => ?_⟩ (fun q hq => ?_) (by omega) (by omega) h
      · rw [hset q hq]; split
        · split
          · exact .inr (.inl rfl)
          · exact hm.of q hq
        · exact hm.of q hq
      · rw [hset q hq] at e; split at e
        · rename_i e2; subst e2; exact ⟨hp, by omega, h1, h2⟩
        · exact hm.one q hq e
      · rw [hset q hq] at e; split at e
        · split at e
          · omega
          · exact absurd e (h23 q hq).1
        · exact absurd e (h23 q hq).1
      · rw [hset q hq] at e; split at e
        · split at e
          · omega
          · exact absurd e (h23 q hq).2
        · exact absurd e (h23 q hq).2
      · rw [hset q hq]; split
        · split
          · omega
          · exact h23 q hq
        · exact h23 q hq
    · cases h
theorem tile2_inv (hd : ∀ q r : Int, A.start A.to ≤ q → q < A.top → A.start (1 - A.to) ≤ r → r < A.old → q ≠ r) : ∀ (f : Nat) (p : Int) (m m' : List Int) (led : List Bool) (s s' : Int), MI A m → 0 ≤ p → A.start (1 - A.to) ≤ p → A.tile2 f p m led s = some (m', s') → MI A m' := by
  intro f
  induction f with
  | zero => intro p m m' led s s' _ _ _ h; cases h
  | succ f ih =>
    intro p m m' led s s' hm hp0 hp h
    have hset : ∀ v q : Int, 0 ≤ q → g (m.set p.toNat v) q = if q = p then (if p < (m.length : Int) then v else g m q) else g m q := by
      intro v q hq
      by_cases hpl : p < (m.length : Int)
      · rw [g_set hp0 hpl hq, if_pos hpl]
      · rw [List.set_eq_of_length_le (by omega), if_neg hpl]; split <;> rfl
    rw [Ar.tile2] at h
    split at h
    · cases h; exact hm
    have key : ∀ v : Int, (v = 2 ∨ v = 3) → p < A.old → (v = 2 → hOk (g A.ws p) = true ∧ p + hs (g A.ws p) + 1 ≤ A.old) → (v = 3 → isFw (g A.ws p) = true ∧ g m (fw (g A.ws p)) = 1) → MI A (m.set p.toNat v) := by
      intro v hv hpo hv2 hv3
      have hne : ∀ r : Int, 0 ≤ r → g m r = 1 → r ≠ p := fun r hr e => hd r p (hm.one r hr e).1 (hm.one r hr e).2.1 hp hpo
      have hfr := fun w => (fwR w).1
      refine ⟨by simp [hm.len], fun q hq => ?_, fun q hq e => ?_, fun q hq e => ?_, fun q hq e => ?_⟩
      · rw [hset v q hq]; split
        · split
          · rcases hv with e | e <;> omega
          · exact hm.of q hq
        · exact hm.of q hq
      · rw [hset v q hq] at e; split at e
        · split at e
          · omega
          · exact hm.one q hq e
        · exact hm.one q hq e
      · rw [hset v q hq] at e; split at e
        · rename_i e2; split at e
          · subst e2; exact ⟨hp, hpo, (hv2 e).1, (hv2 e).2⟩
          · exact hm.two q hq e
        · exact hm.two q hq e
      · rw [hset v q hq] at e; split at e
        · rename_i e2; split at e
          · subst e2
            have h3 := hv3 e
            refine ⟨hp, hpo, h3.1, ?_⟩
            rw [hset v _ (hfr _), if_neg (hne _ (hfr _) h3.2)]; exact h3.2
          · have h3 := hm.three q hq e
            refine ⟨h3.1, h3.2.1, h3.2.2.1, ?_⟩
            rw [hset v _ (hfr _), if_neg (hne _ (hfr _) h3.2.2.2)]; exact h3.2.2.2
        · have h3 := hm.three q hq e
          refine ⟨h3.1, h3.2.1, h3.2.2.1, ?_⟩
          rw [hset v _ (hfr _), if_neg (hne _ (hfr _) h3.2.2.2)]; exact h3.2.2.2
    split at h
    · rename_i h1
      have hb := hsR _ h1
      split at h
      · rename_i h2
        exact ih _ _ _ _ _ _ (key 2 (.inl rfl) (by omega) (fun _ => ⟨h1, h2.2⟩) (fun e => by omega)) (by omega) (by omega) h
      · cases h
    · split at h
      · rename_i h1 h2
        have hb := rsR (g A.ws (fw (g A.ws p)))
        have h5 : p + rs (g A.ws (fw (g A.ws p))) + 1 ≤ A.old := h2.2.2.2.2
        exact ih _ _ _ _ _ _ (key 3 (.inr rfl) (by omega) (fun e => by omega) (fun _ => ⟨h2.1, h2.2.2.1⟩)) (by unfold Ar.sz Ar.w; omega) (by unfold Ar.sz Ar.w; omega) h
      · cases h
theorem hOk_fw {w : Int} (h : hOk w = true) : isFw w = false := by
  have := (of_decide_eq_true (show decide (HeadP _ _ _) = true from h)).range
  unfold hn at this
  exact decide_eq_false (by omega)
theorem markP_of (hn : A.numbersP) {m : List Int} (h : A.marks = some m) : MarkP A m := by
  obtain ⟨f1, f2, f3, f4, f5, f6, f7, f8, f9⟩ := numF hn
  have hz : MI A A.zeros := ⟨by simp [Ar.zeros], fun q _ => .inl (zeros_g q), fun q _ e => (by rw [zeros_g] at e; omega), fun q _ e => (by rw [zeros_g] at e; omega), fun q _ e => (by rw [zeros_g] at e; omega)⟩
  have hMI : MI A m ∧ ((∃ q : Int, 0 ≤ q ∧ (g m q = 2 ∨ g m q = 3)) → A.cyc = true) := by
    unfold Ar.marks at h
    split at h
    · cases h
    rename_i m1 e1
    have h1 := tile1_inv _ _ _ _ hz (fun q _ => by rw [zeros_g]; omega) (by omega) (Int.le_refl _) e1
    split at h
    · cases h
      exact ⟨h1.1, fun ⟨q, hq, e⟩ => by have := h1.2 q hq; omega⟩
    · rename_i hc
      have hc : A.cyc = true := by simpa using hc
      have f10 := f5 hc
      split at h
      · cases h
      rename_i m2 s2 e2
      split at h
      · cases h
        refine ⟨tile2_inv (fun q r a b c d => ?_) _ _ _ _ _ _ _ h1.1 (by omega) (Int.le_refl _) e2, fun _ => hc⟩
        have ho : A.old ≤ (2 - A.to) * A.semi := by
          have := hn.2.2.2.2.2.2; rw [if_pos hc] at this; exact this.1.2
        have ht := hn.2.2.2.2.2.1.2
        unfold Ar.start at a c
        rcases f7 with e | e <;> rw [e] at a c ho ht <;> omega
      · cases h
  obtain ⟨hI, h23⟩ := hMI
  have hok : ∀ p : Int, 0 ≤ p → (g m p = 1 ∨ g m p = 2) → 1 ≤ p ∧ hOk (g A.ws p) = true ∧ p + hs (g A.ws p) < A.ws.length := by
    rintro p hp (e | e)
    · have := hI.one p hp e; exact ⟨by omega, this.2.2.1, by omega⟩
    · have := hI.two p hp e
      have := f5 (h23 ⟨p, hp, .inl e⟩)
      exact ⟨by omega, by simp_all, by omega⟩
  refine ⟨hI.len, fun p hp _ h => hok p hp h, fun p hp hl h0 => ?_⟩
  rcases hI.of p hp with e | e | e | e
  · exact absurd e h0
  · have := hok p hp (.inl e)
    have e2 : A.where_ p = p := by unfold Ar.where_; rw [if_neg (by rw [hOk_fw this.2.1]; decide)]
    rw [e2]; exact ⟨hp, hl, .inl e⟩
  · have := hok p hp (.inr e)
    have e2 : A.where_ p = p := by unfold Ar.where_; rw [if_neg (by rw [hOk_fw this.2.1]; decide)]
    rw [e2]; exact ⟨hp, hl, .inr e⟩
  · have h3 := hI.three p hp e
    have e2 : A.where_ p = fw (g A.ws p) := by unfold Ar.where_; rw [if_pos h3.2.2.1]
    have hf := fwR (g A.ws p)
    rw [e2]
    exact ⟨hf.1, by rw [← hI.len]; exact g_range (by omega) hf.1, .inl h3.2.2.2⟩
end Go.Proofs.Ytepddopgmhdllaa.Eng
