/- Plain: the border of a table. -/
import Derived.Test.YtgjangoglconiaaJ4
import Derived.Test.YtgjangoglconiaaT0
namespace Go.Proofs.Ytgjangoglconiaa.Ar
/-- the first number behind k that has no value, looked for in f steps -/
def Ar.bord (A : Ar) (b n : Int) : Nat → Int → Int
  | 0, k => k
  | f + 1, k => if (A.find b n 2 (k + 1)).2 = false ∨ rvT A.ws (b + 3 + 4 * (A.find b n 2 (k + 1)).1) = 0 then k else A.bord b n f (k + 1)
def Ar.capR (A : Ar) (r : Int) : Int × Int := if A.ok = true ∧ A.inR r = true ∧ (A.vs.getD r.toNat (0, 0)).1 = 4 ∧ rvT A.ws ((A.vs.getD r.toNat (0, 0)).2 + 2) ≠ 0 then (rs (g A.ws (A.where_ (rvN A.ws ((A.vs.getD r.toNat (0, 0)).2 + 2)))) / 4, sg (g A.ws ((A.vs.getD r.toNat (0, 0)).2 + 1))) else (0, 0)
def Ar.bordT (A : Ar) (p : Int) : Int := if rvT A.ws (p + 2) = 0 then 0 else A.bord (A.where_ (rvN A.ws (p + 2))) (rs (g A.ws (A.where_ (rvN A.ws (p + 2)))) / 4) 3000 0
def Ar.bordR (A : Ar) (r : Int) : Int := if A.ok = true ∧ A.inR r = true ∧ (A.vs.getD r.toNat (0, 0)).1 = 4 then A.bordT (A.vs.getD r.toNat (0, 0)).2 else -1
end Go.Proofs.Ytgjangoglconiaa.Ar
namespace Go.Proofs.Ytgjangoglconiaa.Eng
open Go Go.RowKit Go.Proofs.Ytgjangoglconiaa.Sl Go.Proofs.Ytgjangoglconiaa.Ar Go.Proofs.Ytgjangoglconiaa.Base
set_option linter.unusedVariables false
set_option linter.unusedSimpArgs false
variable {A : Ar} {m : List Int}
theorem pig : ∀ (n k : Nat) (f : Nat → Nat), (∀ j, j < k → f j < n) → (∀ i j, i < k → j < k → f i = f j → i = j) → k ≤ n := by
  intro n
  induction n with
  | zero =>
    intro k f h _
    cases k with
    | zero => omega
    | succ k => have := h 0 (by omega); omega
  | succ n ih =>
    intro k f h hi
    cases k with
    | zero => omega
    | succ k =>
      have := ih k (fun j => if f j = n then f k else f j) (fun j hj => by
        have h1 := h j (by omega)
        have h2 := h k (by omega)
        split
        · rename_i e
          have : f k ≠ n := fun e2 => by have := hi j k (by omega) (by omega) (by omega); omega
          omega
        · omega) (fun i j hi1 hj1 e => by
        split at e
        · split at e
          · exact hi i j (by omega) (by omega) (by omega)
          · have := hi k j (by omega) (by omega) e; omega
        · split at e
          · have := hi i k (by omega) (by omega) e; omega
          · exact hi i j (by omega) (by omega) e)
      omega
theorem findFrom_key {b n t x : Int} (hn : 0 < n) : ∀ (k : Nat) (i : Int), 0 ≤ i → i < n → (A.findFrom b n t x k i).2 = true → (0 ≤ (A.findFrom b n t x k i).1 ∧ (A.findFrom b n t x k i).1 < n) ∧ A.same (A.keyT b (A.findFrom b n t x k i).1) (A.keyN b (A.findFrom b n t x k i).1) t x = true := by
  intro k
  induction k with
  | zero => intro i h0 h1 h; cases h
  | succ k ih =>
    intro i h0 h1 h
    rw [Ar.findFrom] at h ⊢
    split
    · rename_i e; rw [if_pos e] at h; cases h
    · rename_i e
      rw [if_neg e] at h
      split
      · rename_i e2; exact ⟨⟨h0, h1⟩, e2⟩
      · rename_i e2
        rw [if_neg e2] at h
        exact ih _ (Int.emod_nonneg _ (by omega)) (Int.emod_lt_of_pos _ hn) h
theorem find_key {b n x : Int} (hn : 0 < n) (hx : 0 ≤ A.hash 2 x) (h : (A.find b n 2 x).2 = true) : (0 ≤ (A.find b n 2 x).1 ∧ (A.find b n 2 x).1 < n) ∧ rvT A.ws (b + 1 + 4 * (A.find b n 2 x).1) = 2 ∧ rvN A.ws (b + 1 + 4 * (A.find b n 2 x).1) = x := by
  unfold Ar.find at h ⊢
  rw [if_neg (by omega)] at h ⊢
  obtain ⟨h1, h2⟩ := findFrom_key hn _ _ (Int.emod_nonneg _ (by omega)) (Int.emod_lt_of_pos _ hn) h
  refine ⟨h1, ?_⟩
  generalize hi : (A.findFrom b n 2 x n.toNat (A.hash 2 x % n)).1 = i at *
  unfold Ar.same Ar.keyT Ar.keyN at h2
  split at h2
  · rename_i e
    refine ⟨e, ?_⟩
    rw [e, if_neg (by decide)] at h2
    exact of_decide_eq_true h2
  · cases h2
/-- the keys from 1 to k are in the block -/
def Has (A : Ar) (b n k : Int) : Prop := ∀ j : Int, 1 ≤ j → j ≤ k → ∃ i : Int, 0 ≤ i ∧ i < n ∧ rvT A.ws (b + 1 + 4 * i) = 2 ∧ rvN A.ws (b + 1 + 4 * i) = j
theorem has_le {b n k : Int} (h : Has A b n k) (hk : 0 ≤ k) (hn : 0 ≤ n) : k ≤ n := by
  have key : ∀ j : Nat, j < k.toNat → ∃ i : Nat, i < n.toNat ∧ rvN A.ws (b + 1 + 4 * (i : Int)) = (j : Int) + 1 := fun j hj => by
    obtain ⟨i, h0, h1, h2, h3⟩ := h ((j : Int) + 1) (by omega) (by omega)
    exact ⟨i.toNat, by omega, by rw [Int.toNat_of_nonneg h0]; exact h3⟩
  have := pig n.toNat k.toNat (fun j => if hj : j < k.toNat then Classical.choose (key j hj) else 0) (fun j hj => by
    rw [dif_pos hj]; exact (Classical.choose_spec (key j hj)).1) (fun i j hi hj e => by
    rw [dif_pos hi, dif_pos hj] at e
    have h1 := (Classical.choose_spec (key i hi)).2
    have h2 := (Classical.choose_spec (key j hj)).2
    rw [e] at h1
    omega)
  omega
theorem has_step {b n k : Int} (h : Has A b n k) (hn : 0 < n) (hx : 0 ≤ A.hash 2 (k + 1)) (hf : (A.find b n 2 (k + 1)).2 = true) : Has A b n (k + 1) := by
  intro j h1 h2
  by_cases e : j = k + 1
  · subst e
    obtain ⟨a, c, d⟩ := find_key hn hx hf
    exact ⟨_, a.1, a.2, c, d⟩
  · exact h j h1 (by omega)
theorem bord_step {b n k : Int} {f : Nat} (hf : 0 < f) : A.bord b n f k = if (A.find b n 2 (k + 1)).2 = false ∨ rvT A.ws (b + 3 + 4 * (A.find b n 2 (k + 1)).1) = 0 then k else A.bord b n (f - 1) (k + 1) := by
  cases f with
  | zero => omega
  | succ f => rw [Ar.bord]; rfl
theorem hash2 {x : Int} : 0 ≤ A.hash 2 x := by unfold Ar.hash; rw [if_neg (by decide), if_pos rfl]; omega
theorem valP2 {x : Int} : ValP 2 x := by unfold ValP; omega
theorem keyP2 {x : Int} : KeyP A 2 x := ⟨fun h => absurd rfl h, fun h => by omega⟩
end Go.Proofs.Ytgjangoglconiaa.Eng
