/- Plain: what NextKey hands back. -/
import Derived.Test.YtepddopgmhdllaaGreatY4
namespace Go.Proofs.YtepddopgmhdllaaGreat.Ar
/-- has an entry of a block a key and a value? -/
def Ar.alv (A : Ar) (b i : Int) : Bool := decide (rvT A.ws (b + 1 + 4 * i) ≠ 0 ∧ rvT A.ws (b + 3 + 4 * i) ≠ 0)
/-- the first such entry, from i on -/
def Ar.alvFrom (A : Ar) (b : Int) : Nat → Int → Int
  | 0, i => i
  | f + 1, i => if A.alv b i = true then i else A.alvFrom b f (i + 1)
/-- the entry, loaded -/
def Ar.nxtE (A : Ar) (b j : Int) : Ar × (Int × Int) × (Int × Int) :=
  ((A.ld (b + (1 + 4 * j))).ld (b + (3 + 4 * j)), (rvT A.ws (b + (1 + 4 * j)), A.ldN (b + (1 + 4 * j))), (rvT (A.ld (b + (1 + 4 * j))).ws (b + (3 + 4 * j)), (A.ld (b + (1 + 4 * j))).ldN (b + (3 + 4 * j))))
def Ar.nxtK (A : Ar) (b n i : Int) : Ar × (Int × Int) × (Int × Int) :=
  if A.alvFrom b (n - i).toNat i < n then A.nxtE b (A.alvFrom b (n - i).toNat i) else (A, (0, 0), (0, 0))
/-- where a table's block lies, once it is opened; how many entries it has -/
def Ar.bkO (A : Ar) (p : Int) : Int := if rvT A.ws (p + 2) = 0 then 0 else A.ldN (p + 2)
def Ar.bnO (A : Ar) (p : Int) : Int := if rvT A.ws (p + 2) = 0 then 0 else rs (g (A.ld (p + 2)).ws (A.ldN (p + 2))) / 4
/-- the key behind a key; nothing, if the key is none of the table's -/
def Ar.nextK (A : Ar) (p t x : Int) : Option (Ar × (Int × Int) × (Int × Int)) :=
  if t = 0 then some ((A.ld (p + 2)).nxtK (A.bkO p) (A.bnO p) 0)
  else if ((A.ld (p + 2)).find (A.bkO p) (A.bnO p) t x).2 = true then some ((A.ld (p + 2)).nxtK (A.bkO p) (A.bnO p) (((A.ld (p + 2)).find (A.bkO p) (A.bnO p) t x).1 + 1))
  else none
def Ar.nextA (A : Ar) (p t x s u : Int) : Option Ar :=
  match A.nextK p t x with
  | some (B, v, w) => some { B with vs := (A.vs.set s.toNat v).set u.toNat w }
  | none => none
def Ar.nextR (A : Ar) (r k s u : Int) : Ar × Bool :=
  if A.ok = true ∧ A.inR r = true ∧ A.inR k = true ∧ A.inR s = true ∧ A.inR u = true ∧ (A.vs.getD r.toNat (0, 0)).1 = 4 ∧ s ≠ u then
    match A.nextA (A.vs.getD r.toNat (0, 0)).2 (A.vs.getD k.toNat (0, 0)).1 (A.vs.getD k.toNat (0, 0)).2 s u with
    | some B => (B, true)
    | none => (A, false)
  else (A, false)
end Go.Proofs.YtepddopgmhdllaaGreat.Ar
namespace Go.Proofs.YtepddopgmhdllaaGreat.Eng
open Go Go.RowKit Go.Proofs.YtepddopgmhdllaaGreat.Sl Go.Proofs.YtepddopgmhdllaaGreat.Ar Go.Proofs.YtepddopgmhdllaaGreat.Base
set_option linter.unusedVariables false
set_option linter.unusedSimpArgs false
variable {A B : Ar} {m : List Int}
theorem alvFrom_next {b n i : Int} (h : i < n) : A.alvFrom b (n - i).toNat i = if A.alv b i = true then i else A.alvFrom b (n - (i + 1)).toNat (i + 1) := by
  rw [show (n - i).toNat = (n - (i + 1)).toNat + 1 by omega, Ar.alvFrom]
theorem alvFrom_end {b n i : Int} (h : ¬ i < n) : A.alvFrom b (n - i).toNat i = i := by
  rw [show (n - i).toNat = 0 by omega, Ar.alvFrom]
theorem nxtK_next {b n i : Int} (h : i < n) (hn : ¬ A.alv b i = true) : A.nxtK b n i = A.nxtK b n (i + 1) := by
  unfold Ar.nxtK; rw [alvFrom_next h, if_neg hn]
theorem nxtK_hit {b n i : Int} (h : i < n) (hn : A.alv b i = true) : A.nxtK b n i = A.nxtE b i := by
  unfold Ar.nxtK; rw [alvFrom_next h, if_pos hn, if_pos h]
theorem nxtK_end {b n i : Int} (h : ¬ i < n) : A.nxtK b n i = (A, (0, 0), (0, 0)) := by
  unfold Ar.nxtK; rw [alvFrom_end h, if_neg h]
theorem nxtE_same {b j : Int} : (A.nxtE b j).1.scan = A.scan ∧ (A.nxtE b j).1.vs = A.vs ∧ (A.nxtE b j).1.ws.length = A.ws.length := by
  unfold Ar.nxtE
  exact ⟨ld_scan.trans ld_scan, (ld_len _).2.trans (ld_len _).2, (ld_len _).1.trans (ld_len _).1⟩
theorem nxtK_same {b n i : Int} : (A.nxtK b n i).1.scan = A.scan ∧ (A.nxtK b n i).1.vs = A.vs ∧ (A.nxtK b n i).1.ws.length = A.ws.length := by
  unfold Ar.nxtK
  split
  · exact nxtE_same
  · exact ⟨rfl, rfl, rfl⟩
theorem nextK_same {p t x : Int} {R : Ar × (Int × Int) × (Int × Int)} (h : A.nextK p t x = some R) : R.1.scan = A.scan ∧ R.1.vs = A.vs ∧ R.1.ws.length = A.ws.length := by
  have key : ∀ b n i : Int, ((A.ld (p + 2)).nxtK b n i).1.scan = A.scan ∧ ((A.ld (p + 2)).nxtK b n i).1.vs = A.vs ∧ ((A.ld (p + 2)).nxtK b n i).1.ws.length = A.ws.length := fun b n i => by
    obtain ⟨a, c, d⟩ := nxtK_same (A := A.ld (p + 2)) (b := b) (n := n) (i := i)
    exact ⟨a.trans ld_scan, c.trans (ld_len _).2, d.trans (ld_len _).1⟩
  unfold Ar.nextK at h
  split at h
  · cases h; exact key _ _ _
  · split at h
    · cases h; exact key _ _ _
    · cases h
theorem nextR_len {x0 x1 x2 x3 : Int} : (A.nextR x0 x1 x2 x3).1.ws.length = A.ws.length ∧ (A.nextR x0 x1 x2 x3).1.vs.length = A.vs.length := by
  unfold Ar.nextR
  split
  · unfold Ar.nextA
    cases e : A.nextK (A.vs.getD x0.toNat (0, 0)).2 (A.vs.getD x1.toNat (0, 0)).1 (A.vs.getD x1.toNat (0, 0)).2 with
    | none => exact ⟨rfl, rfl⟩
    | some R =>
      obtain ⟨B, v, w⟩ := R
      refine ⟨(nextK_same e).2.2, ?_⟩
      show (List.set (List.set _ _ _) _ _).length = _
      rw [List.length_set, List.length_set]
  · exact ⟨rfl, rfl⟩
theorem set_twice {vs : List (Int × Int)} {i j : Nat} (h : i ≠ j) (a b c d : Int × Int) : (((vs.set i a).set j b).set i c).set j d = (vs.set i c).set j d := by
  rw [List.set_comm _ _ (Ne.symm h) (l := vs.set i a), List.set_set, List.set_set]
/-- what is known of a table's block, once it is opened -/
structure OpO (A : Ar) (p : Int) (mB : List Int) : Prop where
  b0 : 0 ≤ A.bkO p
  n0 : 0 ≤ A.bnO p
  ln : A.bkO p + 4 * A.bnO p < ((A.ld (p + 2)).ws.length : Int)
  bk : 0 < A.bnO p → BkP (A.ld (p + 2)) mB (A.bkO p) ∧ A.bnO p = rs (g (A.ld (p + 2)).ws (A.bkO p)) / 4 ∧ rvT A.ws (p + 2) = 8
  ky : ∀ i : Int, 0 ≤ i → i < A.bnO p → KeyP (A.ld (p + 2)) (rvT (A.ld (p + 2)).ws (A.bkO p + 1 + 4 * i)) (rvN (A.ld (p + 2)).ws (A.bkO p + 1 + 4 * i))
  nil : rvT A.ws (p + 2) = 0 → A.bnO p = 0
theorem OpO.of {p : Int} {mB : List Int} (hl : (A.ld (p + 2)).ws.length = A.ws.length) (hpos : 0 < (A.ws.length : Int)) (s5 : rvT A.ws (p + 2) = 0 ∨ rvT A.ws (p + 2) = 8 ∧ BkP (A.ld (p + 2)) mB (A.ldN (p + 2)) ∧ rvN (A.ld (p + 2)).ws (p + 2) = A.ldN (p + 2)) : OpO A p mB := by
  rcases s5 with e | ⟨e, hb, eN⟩
  · have e1 : A.bkO p = 0 := by unfold Ar.bkO; rw [if_pos e]
    have e2 : A.bnO p = 0 := by unfold Ar.bnO; rw [if_pos e]
    refine ⟨by omega, by omega, by rw [e1, e2, hl]; omega, fun c => by omega, fun i a b => by omega, fun _ => e2⟩
  · have hne : ¬ rvT A.ws (p + 2) = 0 := by omega
    have e1 : A.bkO p = A.ldN (p + 2) := by unfold Ar.bkO; rw [if_neg hne]
    have e2 : A.bnO p = rs (g (A.ld (p + 2)).ws (A.ldN (p + 2))) / 4 := by unfold Ar.bnO; rw [if_neg hne]
    have hn1 := hb.n1
    have b0 := hb.b0
    have bl := hb.ln
    exact ⟨by rw [e1]; exact b0, by omega, by rw [e1, e2]; exact bl, fun _ => ⟨by rw [e1]; exact hb, by rw [e1]; exact e2, e⟩, fun i a b => by rw [e1]; exact (hb.ky i a (by omega)).1, fun c => absurd c hne⟩
end Go.Proofs.YtepddopgmhdllaaGreat.Eng
