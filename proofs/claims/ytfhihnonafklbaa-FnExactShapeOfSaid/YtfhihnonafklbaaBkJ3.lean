/- Plain: what is known of a right arena. -/
import Derived.Test.YtfhihnonafklbaaJ2
namespace Go.Proofs.Ytfhihnonafklbaa.Eng
open Go Go.RowKit Go.Proofs.Ytfhihnonafklbaa.Sl Go.Proofs.Ytfhihnonafklbaa.Ar Go.Proofs.Ytfhihnonafklbaa.Base
set_option linter.unusedVariables false
set_option linter.unusedSimpArgs false
variable {A : Ar}
abbrev rT (A : Ar) (i : Int) : Int := (A.vs.getD i.toNat (0, 0)).1
abbrev rN (A : Ar) (i : Int) : Int := (A.vs.getD i.toNat (0, 0)).2
/-- what is known of a right arena -/
structure OkP (A : Ar) (m : List Int) : Prop where
  num : A.numbersP
  mks : A.marks = some m
  MP : MarkP A m
  ob : ObjP A m
  mi : MI A m
  mi2 : (∃ q : Int, 0 ≤ q ∧ (g m q = 2 ∨ g m q = 3)) → A.cyc = true
  pl : ∀ n : Int, 0 ≤ n → n < A.ws.length → g m n ≠ 0 → PlaceP A n
  con : Ar.content A m = true
  rt : ∀ i : Int, 0 ≤ i → i < (A.vs.length : Int) → ValP (rT A i) (rN A i) ∧ rT A i ≠ 8 ∧ A.leads m (rT A i) (rN A i) 1 = true
theorem okP_of (h : A.ok = true) : ∃ m, OkP A m := by
  obtain ⟨hn, m, hm, hs, hc⟩ := ok_parts h
  have hI := MI_of hn hm
  have hM := markP_of hn hm
  unfold Ar.content at hc
  simp only [Bool.and_eq_true] at hc
  refine ⟨m, hn, hm, hM, (objs_iff hM.len).1 hc.1.1, hI.1, hI.2, fun n h0 h1 h2 => placeP_of hn hI.1 (fun d => oldP hn (hI.2 d)) h0 h2, by unfold Ar.content; rw [hc.1.1, hc.1.2, hc.2]; rfl, fun i h0 h1 => ?_⟩
  have := rootsAll.1 hc.2 i h0 h1
  unfold Ar.rootOk at this
  simp only [Bool.and_eq_true, Bool.not_eq_true', decide_eq_false_iff_not] at this
  exact ⟨of_decide_eq_true (show decide _ = true from this.1.1), this.1.2, this.2⟩
variable {m : List Int}
theorem OkP.lens (h : OkP A m) : (512 ≤ A.ws.length ∧ A.ws.length ≤ 8000) ∧ (A.to = 0 ∨ A.to = 1) ∧ (256 ≤ A.semi ∧ A.semi ≤ 4000) ∧ A.vs.length ≤ 24 := by
  have := numF h.num
  exact ⟨this.2.2.2.2.2.1, this.2.2.2.2.2.2.1, this.2.2.2.2.2.2.2, h.num.2.2.2.2.1⟩
/-- a Root that is a reference leads to an object of the half in use -/
theorem OkP.root (h : OkP A m) {i : Int} (h0 : 0 ≤ i) (h1 : i < (A.vs.length : Int)) (hk : kd (rT A i) ≠ 0) :
    0 ≤ rN A i ∧ rN A i < (A.ws.length : Int) ∧ g m (rN A i) = 1 ∧ A.where_ (rN A i) = rN A i ∧ rk (g A.ws (rN A i)) = kd (rT A i) ∧ hOk (g A.ws (rN A i)) = true ∧ rN A i + hs (g A.ws (rN A i)) < (A.ws.length : Int) ∧ PlaceP A (rN A i) ∧ A.object m (rN A i) = true := by
  obtain ⟨hv, h8, hl⟩ := h.rt i h0 h1
  have hn0 := valP_n hv hk
  unfold Ar.leads isRef at hl
  rw [if_pos (by simpa using hk)] at hl
  split at hl
  · rename_i hlt
    have hl := of_decide_eq_true hl
    rw [h.MP.len] at hlt
    have h1' : g m (rN A i) = 1 := by omega
    have hok := h.MP.ok _ hn0 hlt (.inl h1')
    have hw : A.where_ (rN A i) = rN A i := by unfold Ar.where_; rw [if_neg (by rw [hOk_fw hok.2.1]; decide)]
    refine ⟨hn0, hlt, h1', hw, ?_, hok.2.1, hok.2.2, h.pl _ hn0 hlt (by omega), h.ob _ hn0 hlt (.inl h1')⟩
    have := hl.2
    rw [hw] at this; exact this
  · cases hl
theorem kd3 : kd 3 = 1 := rfl
theorem OkP.rootKey (h : OkP A m) {i : Int} (h0 : 0 ≤ i) (h1 : i < (A.vs.length : Int)) : KeyP A (rT A i) (rN A i) := by
  refine ⟨fun hk => ?_, fun h3 => ?_⟩
  · obtain ⟨a, b, c, d, -⟩ := h.root h0 h1 hk
    exact ⟨a, b, by rw [d]; exact a, by rw [d]; exact b⟩
  · have hk : kd (rT A i) ≠ 0 := by rw [h3]; decide
    obtain ⟨a, b, c, d, e, f, k, l, ho⟩ := h.root h0 h1 hk
    have hr := rsR' f
    have e1 : rk (g A.ws (rN A i)) = 1 := by rw [e, h3]; rfl
    unfold Ar.object Ar.kn Ar.sz Ar.w at ho
    rw [Bool.and_eq_true, if_pos e1] at ho
    have hst := of_decide_eq_true (show decide _ = true from ho.2)
    simp only [Ar.w] at hst
    rw [d]
    exact ⟨a, by omega, by omega, by omega, by omega⟩
theorem OkP.rootPl (h : OkP A m) {i : Int} (h0 : 0 ≤ i) (h1 : i < (A.vs.length : Int)) (hk : kd (rT A i) ≠ 0) : PlaceP A (rN A i) := (h.root h0 h1 hk).2.2.2.2.2.2.2.1
end Go.Proofs.Ytfhihnonafklbaa.Eng
namespace Go.Proofs.Ytfhihnonafklbaa.Eng
open Go Go.RowKit Go.Proofs.Ytfhihnonafklbaa.Sl Go.Proofs.Ytfhihnonafklbaa.Ar Go.Proofs.Ytfhihnonafklbaa.Base
set_option linter.unusedVariables false
set_option linter.unusedSimpArgs false
variable {A : Ar} {m : List Int}
theorem tabs_t : ∀ (f : Nat) (p : Int) (led : List Bool) (q : Int), (m.length : Int) - p < (f : Int) → p ≤ q → q < (m.length : Int) → (g m q = 1 ∨ g m q = 2) → rk (g A.ws q) = 2 → A.tabsFrom m f p led = true → ∃ l l', A.tab q l = some l' := by
  intro f
  induction f with
  | zero => intro p led q h1 h2 h3; omega
  | succ f ih =>
    intro p led q h1 h2 h3 h4 h5 h6
    rw [Ar.tabsFrom, if_pos (by omega)] at h6
    by_cases e : p = q
    · subst e
      rw [if_pos ⟨isM_iff.2 h4, h5⟩] at h6
      cases e2 : A.tab p led with
      | none => rw [e2] at h6; cases h6
      | some l => exact ⟨led, l, e2⟩
    · split at h6
      · cases e2 : A.tab p led with
        | none => rw [e2] at h6; cases h6
        | some l => rw [e2] at h6; exact ih _ _ q (by omega) (by omega) h3 h4 h5 h6
      · exact ih _ _ q (by omega) (by omega) h3 h4 h5 h6
/-- what is known of a block's entries -/
structure BlkP (A : Ar) (b : Int) : Prop where
  b0 : 0 ≤ b
  b1 : b + rs (g A.ws b) < (A.ws.length : Int)
  n1 : 1 ≤ rs (g A.ws b) / 4
  key : ∀ i : Int, 0 ≤ i → i < rs (g A.ws b) / 4 → KeyP A (rvT A.ws (b + 1 + 4 * i)) (rvN A.ws (b + 1 + 4 * i))
  rvk : ∀ i : Int, 0 ≤ i → i < rs (g A.ws b) / 4 → rv A.ws (b + 1 + 4 * i) = true
  ne8 : ∀ i : Int, 0 ≤ i → i < rs (g A.ws b) / 4 → rvT A.ws (b + 1 + 4 * i) ≠ 8 ∧ rvT A.ws (b + 1 + 4 * i) ≠ 9
  pl : ∀ i : Int, 0 ≤ i → i < rs (g A.ws b) / 4 → kd (rvT A.ws (b + 1 + 4 * i)) ≠ 0 → PlaceP A (rvN A.ws (b + 1 + 4 * i))
  rvv : ∀ i : Int, 0 ≤ i → i < rs (g A.ws b) / 4 → rv A.ws (b + 3 + 4 * i) = true
  ok : A.keysOk b = true
theorem OkP.tab (h : OkP A m) {p : Int} (h0 : 0 ≤ p) (h1 : p < A.ws.length) (hi : g m p = 1 ∨ g m p = 2) (hk : rk (g A.ws p) = 2) :
    p + 3 < A.ws.length ∧ rv A.ws (p + 2) = true ∧ ((rvT A.ws (p + 2) = 0 ∧ sg (g A.ws (p + 1)) = 0) ∨
      (rvT A.ws (p + 2) = 8 ∧ (0 ≤ rvN A.ws (p + 2) ∧ rvN A.ws (p + 2) < A.ws.length) ∧ PlaceP A (rvN A.ws (p + 2)) ∧ BlkP A (A.where_ (rvN A.ws (p + 2))))) := by
  obtain ⟨p1, p2, p3⟩ := tab_pre h.MP h.ob h0 h1 hi hk
  obtain ⟨q1, q2⟩ := tab_pre2 h.MP h.ob h.pl h0 h1 hi hk
  have hc := h.con
  unfold Ar.content at hc
  simp only [Bool.and_eq_true] at hc
  obtain ⟨l, l', ht⟩ := tabs_t _ 0 _ p (by omega) h0 (by rw [h.MP.len]; exact h1) hi hk hc.1.2
  refine ⟨p1, q1, ?_⟩
  by_cases e0 : rvT A.ws (p + 2) = 0
  · left
    rw [tab0 e0] at ht
    split at ht
    · exact ⟨e0, by assumption⟩
    · cases ht
  · by_cases e8 : rvT A.ws (p + 2) = 8
    · right
      obtain ⟨a1, a2, a3⟩ := p2 e8
      obtain ⟨b1, b2, b3⟩ := q2 e8
      refine ⟨e8, a1, b1, a2, a3, b2, p3 e8, fun i c d => (b3 i c d).1, fun i c d => ⟨(b3 i c d).2.1, (b3 i c d).2.2.1⟩, fun i c d => (b3 i c d).2.2.2, fun i c d => ?_, ?_⟩
      · have hkd : kd (rvT A.ws (p + 2)) ≠ 0 := by rw [e8]; decide
        have hs := rsR' (h.MP.ok p h0 h1 hi).2.1
        have hz : ∀ q : Int, hOk (g A.ws q) = true → SizeP (rk (g A.ws q)) (rs (g A.ws q)) := fun q h => by
          have hr := rsR' h
          rw [hr.2.2.1, hr.2.2.2.1]; exact (of_decide_eq_true (show decide (HeadP _ _ _) = true from h)).1
        have hz1 := hz p (h.MP.ok p h0 h1 hi).2.1
        have h3 : rs (g A.ws p) = 3 := by unfold SizeP at hz1; omega
        have hsl : A.slotOk m (rk (g A.ws p)) (A.fromOf m p) (p + 2) = true := obj_slot (h.ob p h0 h1 hi) (by
          rw [hk, h3]
          exact slots_mem (by simp [from_]) (by simp [from_]) (by omega) (by simp [from_]))
        have hl := leads_of (slotOk_iff.1 hsl).2.1 hkd
        rw [h.MP.len] at hl
        have hw := h.MP.wh _ a1.1 hl.1 hl.2.1
        have h6 : rk (g A.ws (A.where_ (rvN A.ws (p + 2)))) = 3 := by rw [hl.2.2, e8]; rfl
        have h7 := h.MP.ok _ hw.1 hw.2.1 hw.2.2
        have hz2 := hz _ h7.2.1
        have := obj_slot (q := 3 + 4 * i) (h.ob _ hw.1 hw.2.1 hw.2.2) (by
          rw [h6]
          have : from_ 3 (rs (g A.ws (A.where_ (rvN A.ws (p + 2))))) = 1 := by simp [from_]
          have hr := rsR' h7.2.1
          exact slots_mem (by omega) (by omega) (by unfold SizeP at hz2; omega) (by omega))
        have e : A.where_ (rvN A.ws (p + 2)) + 3 + 4 * i = A.where_ (rvN A.ws (p + 2)) + (3 + 4 * i) := by omega
        rw [e]
        exact (slotOk_iff.1 this).1
      · cases hl : l.getD (A.where_ (rvN A.ws (p + 2))).toNat false with
        | true => rw [tabL rfl e8 hl] at ht; cases ht
        | false =>
          rw [tabE rfl e8 hl] at ht
          split at ht
          · rename_i c; exact c.1
          · cases ht
    · rw [tabN e0 e8] at ht; cases ht
/-- a Root that is a table -/
theorem OkP.rootTab (h : OkP A m) {i : Int} (h0 : 0 ≤ i) (h1 : i < (A.vs.length : Int)) (h4 : rT A i = 4) : (0 ≤ rN A i ∧ rN A i < (A.ws.length : Int)) ∧ rN A i + 3 < A.ws.length ∧ rv A.ws (rN A i + 2) = true ∧ ((rvT A.ws (rN A i + 2) = 0 ∧ sg (g A.ws (rN A i + 1)) = 0) ∨
      (rvT A.ws (rN A i + 2) = 8 ∧ (0 ≤ rvN A.ws (rN A i + 2) ∧ rvN A.ws (rN A i + 2) < A.ws.length) ∧ PlaceP A (rvN A.ws (rN A i + 2)) ∧ BlkP A (A.where_ (rvN A.ws (rN A i + 2))))) := by
  obtain ⟨a, b, c, d, e, -⟩ := h.root h0 h1 (by rw [h4]; decide)
  have := h.tab a b (.inl c) (by rw [e, h4]; rfl)
  exact ⟨⟨a, b⟩, this⟩
end Go.Proofs.Ytfhihnonafklbaa.Eng
