/- Plain: what is known of a table of a right arena. -/
import Derived.Test.YtepddopgmhdllaaJ3
namespace Go.Proofs.Ytepddopgmhdllaa.Eng
open Go Go.RowKit Go.Proofs.Ytepddopgmhdllaa.Sl Go.Proofs.Ytepddopgmhdllaa.Ar Go.Proofs.Ytepddopgmhdllaa.Base
set_option linter.unusedVariables false
set_option linter.unusedSimpArgs false
variable {A : Ar} {m : List Int}
theorem tabs_t : ∀ (f : Nat) (p : Int) (led : List Bool) (q : Int), (m.length : Int) - p < (f : Int) → p ≤ q → q < (m.length : Int) → (g m q = 1 ∨ g m q = 2) → rk (g A.ws q) = 2 → A.tabsFrom m f p led = true → ∃ l l', A.tab q l = some l' := by
  intro f
  induction f with
  | zero => intro p led q h1 h2 h3; omega
  | succ f ih =>
    intro p led q h1 h2 h3 h4 h5 h6
    rw [Ar.tabsFrom, if_pos (by omega)] at h6
    by_cases e : p = q
    · subst e
      rw [if_pos ⟨isM_iff.2 h4, h5⟩] at h6
      cases e2 : A.tab p led with
      | none => rw [e2] at h6; cases h6
      | some l => exact ⟨led, l, e2⟩
    · split at h6
      · cases e2 : A.tab p led with
        | none => rw [e2] at h6; cases h6
        | some l => rw [e2] at h6; exact ih _ _ q (by omega) (by omega) h3 h4 h5 h6
      · exact ih _ _ q (by omega) (by omega) h3 h4 h5 h6
/-- what is known of a block's entries -/
structure BlkP (A : Ar) (b : Int) : Prop where
  b0 : 0 ≤ b
  b1 : b + rs (g A.ws b) < (A.ws.length : Int)
  n1 : 1 ≤ rs (g A.ws b) / 4
  key : ∀ i : Int, 0 ≤ i → i < rs (g A.ws b) / 4 → KeyP A (rvT A.ws (b + 1 + 4 * i)) (rvN A.ws (b + 1 + 4 * i))
  rvk : ∀ i : Int, 0 ≤ i → i < rs (g A.ws b) / 4 → rv A.ws (b + 1 + 4 * i) = true
  ne8 : ∀ i : Int, 0 ≤ i → i < rs (g A.ws b) / 4 → rvT A.ws (b + 1 + 4 * i) ≠ 8 ∧ rvT A.ws (b + 1 + 4 * i) ≠ 9
  pl : ∀ i : Int, 0 ≤ i → i < rs (g A.ws b) / 4 → kd (rvT A.ws (b + 1 + 4 * i)) ≠ 0 → PlaceP A (rvN A.ws (b + 1 + 4 * i))
  rvv : ∀ i : Int, 0 ≤ i → i < rs (g A.ws b) / 4 → rv A.ws (b + 3 + 4 * i) = true
  ok : A.keysOk b = true
theorem OkP.tab (h : OkP A m) {p : Int} (h0 : 0 ≤ p) (h1 : p < A.ws.length) (hi : g m p = 1 ∨ g m p = 2) (hk : rk (g A.ws p) = 2) :
    p + 3 < A.ws.length ∧ rv A.ws (p + 2) = true ∧ ((rvT A.ws (p + 2) = 0 ∧ sg (g A.ws (p + 1)) = 0) ∨
      (rvT A.ws (p + 2) = 8 ∧ (0 ≤ rvN A.ws (p + 2) ∧ rvN A.ws (p + 2) < A.ws.length) ∧ PlaceP A (rvN A.ws (p + 2)) ∧ BlkP A (A.where_ (rvN A.ws (p + 2))))) := by
  obtain ⟨p1, p2, p3⟩ := tab_pre h.MP h.ob h0 h1 hi hk
  obtain ⟨q1, q2⟩ := tab_pre2 h.MP h.ob h.pl h0 h1 hi hk
  have hc := h.con
  unfold Ar.content at hc
  simp only [Bool.and_eq_true] at hc
  obtain ⟨l, l', ht⟩ := tabs_t _ 0 _ p (by omega) h0 (by rw [h.MP.len]; exact h1) hi hk hc.1.2
  refine ⟨p1, q1, ?_⟩
  by_cases e0 : rvT A.ws (p + 2) = 0
  · left
    rw [tab0 e0] at ht
    split at ht
    · exact ⟨e0, by assumption⟩
    · cases ht
  · by_cases e8 : rvT A.ws (p + 2) = 8
    · right
      obtain ⟨a1, a2, a3⟩ := p2 e8
      obtain ⟨b1, b2, b3⟩ := q2 e8
      refine ⟨e8, a1, b1, a2, a3, b2, p3 e8, fun i c d => (b3 i c d).1, fun i c d => ⟨(b3 i c d).2.1, (b3 i c d).2.2.1⟩, fun i c d => (b3 i c d).2.2.2, fun i c d => ?_, ?_⟩
      · have hkd : kd (rvT A.ws (p + 2)) ≠ 0 := by rw [e8]; decide
        have hs := rsR' (h.MP.ok p h0 h1 hi).2.1
        have hz : ∀ q : Int, hOk (g A.ws q) = true → SizeP (rk (g A.ws q)) (rs (g A.ws q)) := fun q h => by
          have hr := rsR' h
          rw [hr.2.2.1, hr.2.2.2.1]; exact (of_decide_eq_true (show decide (HeadP _ _ _) = true from h)).1
        have hz1 := hz p (h.MP.ok p h0 h1 hi).2.1
        have h3 : rs (g A.ws p) = 3 := by unfold SizeP at hz1; omega
        have hsl : A.slotOk m (rk (g A.ws p)) (A.fromOf m p) (p + 2) = true := obj_slot (h.ob p h0 h1 hi) (by
          rw [hk, h3]
          exact slots_mem (by simp [from_]) (by simp [from_]) (by omega) (by simp [from_]))
        have hl := leads_of (slotOk_iff.1 hsl).2.1 hkd
        rw [h.MP.len] at hl
        have hw := h.MP.wh _ a1.1 hl.1 hl.2.1
        have h6 : rk (g A.ws (A.where_ (rvN A.ws (p + 2)))) = 3 := by rw [hl.2.2, e8]; rfl
        have h7 := h.MP.ok _ hw.1 hw.2.1 hw.2.2
        have hz2 := hz _ h7.2.1
        have := obj_slot (q := 3 + 4 * i) (h.ob _ hw.1 hw.2.1 hw.2.2) (by
          rw [h6]
          have : from_ 3 (rs (g A.ws (A.where_ (rvN A.ws (p + 2))))) = 1 := by simp [from_]
          have hr := rsR' h7.2.1
          exact slots_mem (by omega) (by omega) (by unfold SizeP at hz2; omega) (by omega))
        have e : A.where_ (rvN A.ws (p + 2)) + 3 + 4 * i = A.where_ (rvN A.ws (p + 2)) + (3 + 4 * i) := by omega
        rw [e]
        exact (slotOk_iff.1 this).1
      · cases hl : l.getD (A.where_ (rvN A.ws (p + 2))).toNat false with
        | true => rw [tabL rfl e8 hl] at ht; cases ht
        | false =>
          rw [tabE rfl e8 hl] at ht
          split at ht
          · rename_i c; exact c.1
          · cases ht
    · rw [tabN e0 e8] at ht; cases ht
/-- a Root that is a table -/
theorem OkP.rootTab (h : OkP A m) {i : Int} (h0 : 0 ≤ i) (h1 : i < (A.vs.length : Int)) (h4 : rT A i = 4) : (0 ≤ rN A i ∧ rN A i < (A.ws.length : Int)) ∧ rN A i + 3 < A.ws.length ∧ rv A.ws (rN A i + 2) = true ∧ ((rvT A.ws (rN A i + 2) = 0 ∧ sg (g A.ws (rN A i + 1)) = 0) ∨
      (rvT A.ws (rN A i + 2) = 8 ∧ (0 ≤ rvN A.ws (rN A i + 2) ∧ rvN A.ws (rN A i + 2) < A.ws.length) ∧ PlaceP A (rvN A.ws (rN A i + 2)) ∧ BlkP A (A.where_ (rvN A.ws (rN A i + 2))))) := by
  obtain ⟨a, b, c, d, e, -⟩ := h.root h0 h1 (by rw [h4]; decide)
  have := h.tab a b (.inl c) (by rw [e, h4]; rfl)
  exact ⟨⟨a, b⟩, this⟩
end Go.Proofs.Ytepddopgmhdllaa.Eng
