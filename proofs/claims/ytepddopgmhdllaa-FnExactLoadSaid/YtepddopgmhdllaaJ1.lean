/- Plain: what a right arena's objects say of its tables, for the implementation. -/
import Derived.Test.YtepddopgmhdllaaI10
namespace Go.Proofs.Ytepddopgmhdllaa.Eng
open Go Go.RowKit Go.Proofs.Ytepddopgmhdllaa.Sl Go.Proofs.Ytepddopgmhdllaa.Ar Go.Proofs.Ytepddopgmhdllaa.Base
set_option linter.unusedVariables false
set_option linter.unusedSimpArgs false
variable {A : Ar}
theorem findFrom_true {b n t x : Int} : ∀ (k : Nat) (i : Int), (A.findFrom b n t x k i).2 = true ∨ (A.findFrom b n t x k i).1 = -1 ∨ A.keyT b (A.findFrom b n t x k i).1 = 0 := by
  intro k
  induction k with
  | zero => intro i; exact .inr (.inl rfl)
  | succ k ih =>
    intro i
    rw [Ar.findFrom]
    split
    · rename_i h; exact .inr (.inr h)
    · split
      · exact .inl rfl
      · exact ih _
theorem find_true {b n t x i : Int} (h : (A.find b n t x).1 = i) (h0 : 0 ≤ i) (hk : rvT A.ws (b + 1 + 4 * i) ≠ 0) : A.find b n t x = (i, true) := by
  have : (A.find b n t x).2 = true ∨ (A.find b n t x).1 = -1 ∨ A.keyT b (A.find b n t x).1 = 0 := by
    unfold Ar.find; split
    · exact .inr (.inl rfl)
    · exact findFrom_true _ _
  rcases this with e | e | e
  · exact Prod.ext h e
  · omega
  · rw [h] at e; exact absurd e hk
theorem tab_pre2 {m : List Int} (hM : MarkP A m) (hO : ObjP A m) (hPl : ∀ n : Int, 0 ≤ n → n < A.ws.length → g m n ≠ 0 → PlaceP A n) {p : Int} (hp : 0 ≤ p) (hp2 : p < A.ws.length) (hi : g m p = 1 ∨ g m p = 2) (hk : rk (g A.ws p) = 2) :
    rv A.ws (p + 2) = true ∧
    (rvT A.ws (p + 2) = 8 → PlaceP A (rvN A.ws (p + 2)) ∧ 1 ≤ A.entries (A.where_ (rvN A.ws (p + 2))) ∧
      ∀ i : Int, 0 ≤ i → i < A.entries (A.where_ (rvN A.ws (p + 2))) → rv A.ws (A.where_ (rvN A.ws (p + 2)) + 1 + 4 * i) = true ∧ rvT A.ws (A.where_ (rvN A.ws (p + 2)) + 1 + 4 * i) ≠ 8 ∧ rvT A.ws (A.where_ (rvN A.ws (p + 2)) + 1 + 4 * i) ≠ 9 ∧
        (kd (rvT A.ws (A.where_ (rvN A.ws (p + 2)) + 1 + 4 * i)) ≠ 0 → PlaceP A (rvN A.ws (A.where_ (rvN A.ws (p + 2)) + 1 + 4 * i)))) := by
  have hok := hM.ok p hp hp2 hi
  have hs := rsR' hok.2.1
  have hz : ∀ q : Int, hOk (g A.ws q) = true → SizeP (rk (g A.ws q)) (rs (g A.ws q)) := fun q h => by
    have hr := rsR' h
    rw [hr.2.2.1, hr.2.2.2.1]; exact (of_decide_eq_true (show decide (HeadP _ _ _) = true from h)).1
  have hz1 := hz p hok.2.1
  have h3 : rs (g A.ws p) = 3 := by unfold SizeP at hz1; omega
  have hsl : A.slotOk m (rk (g A.ws p)) (A.fromOf m p) (p + 2) = true := obj_slot (hO p hp hp2 hi) (by
    rw [hk, h3]
    exact slots_mem (by simp [from_]) (by simp [from_]) (by omega) (by simp [from_]))
  have hplc : ∀ {k fr q : Int}, A.slotOk m k fr q = true → kd (rvT A.ws q) ≠ 0 → PlaceP A (rvN A.ws q) := by
    intro k fr q h hkd
    have hl := leads_of (slotOk_iff.1 h).2.1 hkd
    rw [hM.len] at hl
    exact hPl _ ((rvP A.ws q).2 hkd) hl.1 hl.2.1
  refine ⟨(slotOk_iff.1 hsl).1, fun h8 => ?_⟩
  have hkd : kd (rvT A.ws (p + 2)) ≠ 0 := by rw [h8]; decide
  have hl := leads_of (slotOk_iff.1 hsl).2.1 hkd
  rw [hM.len] at hl
  have h0 := (rvP A.ws (p + 2)).2 hkd
  have hw := hM.wh _ h0 hl.1 hl.2.1
  have h6 : rk (g A.ws (A.where_ (rvN A.ws (p + 2)))) = 3 := by rw [hl.2.2, h8]; rfl
  have h7 := hM.ok _ hw.1 hw.2.1 hw.2.2
  have hz2 := hz _ h7.2.1
  have he : A.entries (A.where_ (rvN A.ws (p + 2))) = rs (g A.ws (A.where_ (rvN A.ws (p + 2)))) / 4 := rfl
  refine ⟨hplc hsl hkd, by unfold SizeP at hz2; omega, fun i hi1 hi2 => ?_⟩
  have := obj_slot (q := 1 + 4 * i) (hO _ hw.1 hw.2.1 hw.2.2) (by
    rw [h6]
    have : from_ 3 (rs (g A.ws (A.where_ (rvN A.ws (p + 2))))) = 1 := by simp [from_]
    have hr := rsR' h7.2.1
    exact slots_mem (by omega) (by omega) (by omega) (by omega))
  have e : A.where_ (rvN A.ws (p + 2)) + 1 + 4 * i = A.where_ (rvN A.ws (p + 2)) + (1 + 4 * i) := by omega
  rw [e]
  have c := slotOk_iff.1 this
  exact ⟨c.1, fun d => c.2.2.1 ⟨d, by omega⟩, fun d => c.2.2.2.1 ⟨d, h6⟩, hplc this⟩
/-- where the implementation finds an object -/
theorem placeP_of (hn : A.numbersP) {m : List Int} (hI : MI A m) (ho : (∃ q : Int, 0 ≤ q ∧ (g m q = 2 ∨ g m q = 3)) → A.old ≤ (2 - A.to) * A.semi) {n : Int} (h0 : 0 ≤ n) (hm : g m n ≠ 0) : PlaceP A n := by
  have hh := (numF hn).2.2.2.2.2.2.1
  have ht := hn.2.2.2.2.2.1.2
  unfold PlaceP inB
  have hnf : hOk (g A.ws n) = true → A.where_ n = n := fun h => by unfold Ar.where_; rw [if_neg (by rw [hOk_fw h]; decide)]
  rcases hI.of n h0 with e | e | e | e
  · exact absurd e hm
  · have := hI.one n h0 e
    rw [hnf this.2.2.1]; split <;> rfl
  · have := hI.two n h0 e
    rw [hnf this.2.2.1]; split <;> rfl
  · have h3 := hI.three n h0 e
    have ho2 := ho ⟨n, h0, .inr e⟩
    rw [if_pos]
    refine decide_eq_true ⟨h3.1, ?_⟩
    have : (1 - A.to + 1) * A.semi = (2 - A.to) * A.semi := by congr 1; omega
    omega
end Go.Proofs.Ytepddopgmhdllaa.Eng
