/- Plain: what an arena's objects say of its tables and keys. -/
import Derived.Test.YtepddopgmhdllaaS11
namespace Go.Proofs.Ytepddopgmhdllaa.Eng
open Go Go.RowKit Go.Proofs.Ytepddopgmhdllaa.Sl Go.Proofs.Ytepddopgmhdllaa.Ar Go.Proofs.Ytepddopgmhdllaa.Base
set_option linter.unusedVariables false
set_option linter.unusedSimpArgs false
variable {A : Ar}
def ObjP (A : Ar) (m : List Int) : Prop := ∀ p : Int, 0 ≤ p → p < A.ws.length → (g m p = 1 ∨ g m p = 2) → A.object m p = true
theorem isM_iff {m : List Int} {p : Int} : Ar.isM m p = true ↔ (g m p = 1 ∨ g m p = 2) := decide_eq_true_iff
theorem objs_iff {m : List Int} (hl : m.length = A.ws.length) : A.objsFrom m (m.length + 1) 0 = true ↔ ObjP A m := by
  have key : ∀ (f : Nat) (p : Int), (m.length : Int) - p < (f : Int) → 0 ≤ p → (A.objsFrom m f p = true ↔ ∀ q : Int, p ≤ q → q < (m.length : Int) → (g m q = 1 ∨ g m q = 2) → A.object m q = true) := by
    intro f
    induction f with
    | zero => intro p h h0; exact ⟨fun _ q h1 h2 => by omega, fun _ => rfl⟩
    | succ f ih =>
      intro p h h0
      rw [Ar.objsFrom]
      split
      · rename_i hp
        split
        · rename_i hc
          refine ⟨fun e => by (cases e), fun e => ?_⟩
          have := e p (Int.le_refl _) hp (isM_iff.1 hc.1)
          rw [this] at hc; cases hc.2
        · rename_i hc
          rw [ih (p + 1) (by omega) (by omega)]
          constructor
          · intro e q h1 h2 h3
            by_cases hq : q = p
            · subst hq
              cases e2 : A.object m q with
              | true => rfl
              | false => exact absurd ⟨isM_iff.2 h3, e2⟩ hc
            · exact e q (by omega) h2 h3
          · exact fun e q h1 h2 h3 => e q (by omega) h2 h3
      · exact ⟨fun _ q h1 h2 => by omega, fun _ => rfl⟩
  have := key (m.length + 1) 0 (by omega) (by omega)
  rw [this]
  unfold ObjP
  rw [hl]
theorem obj_slot {m : List Int} {p q : Int} (h : A.object m p = true) (hq : q ∈ slots (rk (g A.ws p)) (rs (g A.ws p))) : A.slotOk m (rk (g A.ws p)) (A.fromOf m p) (p + q) = true := by
  unfold Ar.object Ar.kn Ar.sz Ar.w at h
  rw [Bool.and_eq_true, List.all_eq_true] at h
  exact h.1 q hq
theorem leads_of {m : List Int} {t n fr : Int} (h : A.leads m t n fr = true) (hk : kd t ≠ 0) : n < (m.length : Int) ∧ g m n ≠ 0 ∧ rk (g A.ws (A.where_ n)) = kd t := by
  unfold Ar.leads isRef at h
  rw [if_pos (by simpa using hk)] at h
  split at h
  · rename_i h1
    have h2 := of_decide_eq_true h
    exact ⟨h1, by omega, h2.2⟩
  · cases h
theorem keyP_of {m : List Int} (hM : MarkP A m) (hO : ObjP A m) {k fr q : Int} (h : A.slotOk m k fr q = true) : KeyP A (rvT A.ws q) (rvN A.ws q) := by
  obtain ⟨h1, h2, -⟩ := slotOk_iff.1 h
  have hr := rvP A.ws q
  refine ⟨fun hk => ?_, fun h3 => ?_⟩
  · have hl := leads_of h2 hk
    rw [hM.len] at hl
    have hw := hM.wh _ (hr.2 hk) hl.1 hl.2.1
    exact ⟨hr.2 hk, hl.1, hw.1, hw.2.1⟩
  · have hk : kd (rvT A.ws q) ≠ 0 := by rw [h3]; decide
    have hl := leads_of h2 hk
    rw [hM.len] at hl
    have hw := hM.wh _ (hr.2 hk) hl.1 hl.2.1
    have ho := hO _ hw.1 hw.2.1 hw.2.2
    have hok := hM.ok _ hw.1 hw.2.1 hw.2.2
    have hs := rsR' hok.2.1
    have e1 : rk (g A.ws (A.where_ (rvN A.ws q))) = 1 := by rw [hl.2.2, h3]; rfl
    unfold Ar.object Ar.kn Ar.sz Ar.w at ho
    rw [Bool.and_eq_true, if_pos e1] at ho
    have hst := of_decide_eq_true (show decide _ = true from ho.2)
    simp only [Ar.w] at hst
    exact ⟨hw.1, by omega, by omega, by omega, by omega⟩
theorem slots_mem {f : Nat} {i s q : Int} (h : i ≤ q) (h2 : (q - i) % 2 = 0) (h3 : q + 1 ≤ s) (hf : q - i < 2 * (f : Int)) : q ∈ slotsFrom f i s := by
  induction f generalizing i with
  | zero => omega
  | succ f ih =>
    rw [slotsFrom, if_pos (by omega)]
    by_cases e : q = i
    · subst e; exact List.mem_cons_self
    · exact List.mem_cons_of_mem _ (ih (by omega) (by omega) (by omega))
/-- what a table needs of the arena, to be looked at -/
theorem tab_pre {m : List Int} (hM : MarkP A m) (hO : ObjP A m) {p : Int} (hp : 0 ≤ p) (hp2 : p < A.ws.length) (hi : g m p = 1 ∨ g m p = 2) (hk : rk (g A.ws p) = 2) :
    p + 3 < A.ws.length ∧
    (rvT A.ws (p + 2) = 8 → (0 ≤ rvN A.ws (p + 2) ∧ rvN A.ws (p + 2) < A.ws.length) ∧ 0 ≤ A.where_ (rvN A.ws (p + 2)) ∧ A.where_ (rvN A.ws (p + 2)) + rs (g A.ws (A.where_ (rvN A.ws (p + 2)))) < A.ws.length) ∧
    (rvT A.ws (p + 2) = 8 → ∀ i : Int, 0 ≤ i → i < A.entries (A.where_ (rvN A.ws (p + 2))) → KeyP A (rvT A.ws (A.where_ (rvN A.ws (p + 2)) + 1 + 4 * i)) (rvN A.ws (A.where_ (rvN A.ws (p + 2)) + 1 + 4 * i))) := by
  have hok := hM.ok p hp hp2 hi
  have hs := rsR' hok.2.1
  have hz : ∀ q : Int, hOk (g A.ws q) = true → SizeP (rk (g A.ws q)) (rs (g A.ws q)) := fun q h => by
    have hr := rsR' h
    rw [hr.2.2.1, hr.2.2.2.1]; exact (of_decide_eq_true (show decide (HeadP _ _ _) = true from h)).1
  have hz1 := hz p hok.2.1
  have h3 : rs (g A.ws p) = 3 := by unfold SizeP at hz1; omega
  have hsl : A.slotOk m (rk (g A.ws p)) (A.fromOf m p) (p + 2) = true := obj_slot (hO p hp hp2 hi) (by
    rw [hk, h3]
    exact slots_mem (by simp [from_]) (by simp [from_]) (by omega) (by simp [from_]))
  have hb : rvT A.ws (p + 2) = 8 → (0 ≤ rvN A.ws (p + 2) ∧ rvN A.ws (p + 2) < A.ws.length) ∧ 0 ≤ A.where_ (rvN A.ws (p + 2)) ∧ A.where_ (rvN A.ws (p + 2)) < A.ws.length ∧ (g m (A.where_ (rvN A.ws (p + 2))) = 1 ∨ g m (A.where_ (rvN A.ws (p + 2))) = 2) ∧ rk (g A.ws (A.where_ (rvN A.ws (p + 2)))) = 3 := by
    intro h8
    have hkd : kd (rvT A.ws (p + 2)) ≠ 0 := by rw [h8]; decide
    have hl := leads_of (slotOk_iff.1 hsl).2.1 hkd
    rw [hM.len] at hl
    have h0 := (rvP A.ws (p + 2)).2 hkd
    have hw := hM.wh _ h0 hl.1 hl.2.1
    exact ⟨⟨h0, hl.1⟩, hw.1, hw.2.1, hw.2.2, by rw [hl.2.2, h8]; rfl⟩
  refine ⟨by omega, fun h8 => ?_, fun h8 i hi1 hi2 => ?_⟩
  · obtain ⟨h1, h2, h4, h5, h6⟩ := hb h8
    have h7 := hM.ok _ h2 h4 h5
    have h9 := rsR' h7.2.1
    exact ⟨h1, h2, by omega⟩
  · obtain ⟨h1, h2, h4, h5, h6⟩ := hb h8
    have h7 := hM.ok _ h2 h4 h5
    have hz2 := hz _ h7.2.1
    have he : A.entries (A.where_ (rvN A.ws (p + 2))) = rs (g A.ws (A.where_ (rvN A.ws (p + 2)))) / 4 := rfl
    have := obj_slot (q := 1 + 4 * i) (hO _ h2 h4 h5) (by
      rw [h6]
      have : from_ 3 (rs (g A.ws (A.where_ (rvN A.ws (p + 2))))) = 1 := by simp [from_]
      have hr := rsR' h7.2.1
      exact slots_mem (by omega) (by omega) (by omega) (by omega))
    have e : A.where_ (rvN A.ws (p + 2)) + 1 + 4 * i = A.where_ (rvN A.ws (p + 2)) + (1 + 4 * i) := by omega
    rw [e]
    exact keyP_of hM hO this
end Go.Proofs.Ytepddopgmhdllaa.Eng
