/- Plain: a table's block is opened; what GetKey hands back. -/
import Derived.Test.YtepddopgmhdllaaGreatY0
import Derived.Test.YtepddopgmhdllaaGreatBkS10
import Derived.Test.YtepddopgmhdllaaGreatQ2
namespace Go.Proofs.YtepddopgmhdllaaGreat.Ar
/-- a key's value, loaded: the arena then, and the value -/
def Ar.getK (A : Ar) (p t n : Int) : Ar × Int × Int :=
  if rvT A.ws (p + 2) = 0 then (A.ld (p + 2), 0, 0)
  else if ((A.ld (p + 2)).find (A.ldN (p + 2)) (rs (g (A.ld (p + 2)).ws (A.ldN (p + 2))) / 4) t n).2 = true then ((A.ld (p + 2)).ld (A.ldN (p + 2) + (3 + 4 * ((A.ld (p + 2)).find (A.ldN (p + 2)) (rs (g (A.ld (p + 2)).ws (A.ldN (p + 2))) / 4) t n).1)), rvT (A.ld (p + 2)).ws (A.ldN (p + 2) + (3 + 4 * ((A.ld (p + 2)).find (A.ldN (p + 2)) (rs (g (A.ld (p + 2)).ws (A.ldN (p + 2))) / 4) t n).1)), (A.ld (p + 2)).ldN (A.ldN (p + 2) + (3 + 4 * ((A.ld (p + 2)).find (A.ldN (p + 2)) (rs (g (A.ld (p + 2)).ws (A.ldN (p + 2))) / 4) t n).1)))
  else (A.ld (p + 2), 0, 0)
def Ar.getA (A : Ar) (p t n s : Int) : Ar := { (A.getK p t n).1 with vs := A.vs.set s.toNat (A.getK p t n).2 }
def Ar.getR (A : Ar) (r k s : Int) : Ar × Bool :=
  if A.ok = true ∧ A.inR r = true ∧ A.inR k = true ∧ A.inR s = true ∧ (A.vs.getD r.toNat (0, 0)).1 = 4 ∧ (A.vs.getD k.toNat (0, 0)).1 ≠ 9 then
    (A.getA (A.vs.getD r.toNat (0, 0)).2 (A.vs.getD k.toNat (0, 0)).1 (A.vs.getD k.toNat (0, 0)).2 s, true)
  else (A, false)
end Go.Proofs.YtepddopgmhdllaaGreat.Ar
namespace Go.Proofs.YtepddopgmhdllaaGreat.Eng
open Go Go.RowKit Go.Proofs.YtepddopgmhdllaaGreat.Sl Go.Proofs.YtepddopgmhdllaaGreat.Ar Go.Proofs.YtepddopgmhdllaaGreat.Base
set_option linter.unusedVariables false
set_option linter.unusedSimpArgs false
variable {A : Ar} {m : List Int}
/-- a block of the half in use -/
structure BkP (B : Ar) (m : List Int) (b : Int) : Prop where
  b0 : 0 ≤ b
  b1 : g m b = 1
  kd : hk (g B.ws b) = 3
  n1 : 4 ≤ rs (g B.ws b) / 4 ∧ rs (g B.ws b) / 4 ≤ 64
  ln : b + 4 * (rs (g B.ws b) / 4) < (B.ws.length : Int)
  ks : ∀ i : Int, 0 ≤ i → i < rs (g B.ws b) / 4 → 1 + 4 * i ∈ slots (hk (g B.ws b)) (hs (g B.ws b)) ∧ 3 + 4 * i ∈ slots (hk (g B.ws b)) (hs (g B.ws b))
  rv : ∀ i : Int, 0 ≤ i → i < rs (g B.ws b) / 4 → rv B.ws (b + 1 + 4 * i) = true ∧ rv B.ws (b + 3 + 4 * i) = true
  ky : ∀ i : Int, 0 ≤ i → i < rs (g B.ws b) / 4 → KeyP B (rvT B.ws (b + 1 + 4 * i)) (rvN B.ws (b + 1 + 4 * i)) ∧ (Ar.kd (rvT B.ws (b + 1 + 4 * i)) ≠ 0 → PlaceP B (rvN B.ws (b + 1 + 4 * i)))
  n9 : ∀ i : Int, 0 ≤ i → i < rs (g B.ws b) / 4 → rvT B.ws (b + 1 + 4 * i) ≠ 9 ∧ rvT B.ws (b + 1 + 4 * i) ≠ 8 ∧ rvT B.ws (b + 3 + 4 * i) ≠ 9 ∧ rvT B.ws (b + 3 + 4 * i) ≠ 8
theorem SI.bk (h : SI A m) {b : Int} (h0 : 0 ≤ b) (h1 : g m b = 1) (h3 : hk (g A.ws b) = 3) : BkP A m b := by
  obtain ⟨o1, o2, o3, o4⟩ := h.one b h0 h1
  have hv := h.hv
  have hse := h.se
  have hln := h.ln
  have hrm := h.rm
  have hS0 := S2_0 A.ws m A.ws.length
  have hz : SizeP (hk (g A.ws b)) (hs (g A.ws b)) := (of_decide_eq_true (show decide (HeadP _ _ _) = true from o2)).1
  have hr := (rsR' o2).2.2.1
  rw [h3] at hz
  have hsz : hs (g A.ws b) = 16 ∨ hs (g A.ws b) = 32 ∨ hs (g A.ws b) = 64 ∨ hs (g A.ws b) = 128 ∨ hs (g A.ws b) = 256 := by unfold SizeP at hz; omega
  have hks : ∀ i : Int, 0 ≤ i → i < rs (g A.ws b) / 4 → 1 + 4 * i ∈ slots (hk (g A.ws b)) (hs (g A.ws b)) ∧ 3 + 4 * i ∈ slots (hk (g A.ws b)) (hs (g A.ws b)) := fun i i0 i1 => by
    have hf : from_ 3 (hs (g A.ws b)) = 1 := by simp [from_]
    rw [h3]
    unfold slots
    rw [hf]
    exact ⟨slots_mem (by omega) (by omega) (by omega) (by omega), slots_mem (by omega) (by omega) (by omega) (by omega)⟩
  have e1 : ∀ i : Int, b + 1 + 4 * i = b + (1 + 4 * i) := fun i => by omega
  have e3 : ∀ i : Int, b + 3 + 4 * i = b + (3 + 4 * i) := fun i => by omega
  refine ⟨h0, h1, h3, by omega, by omega, hks, fun i i0 i1 => ?_, fun i i0 i1 => ?_, fun i i0 i1 => ?_⟩
  · rw [e1, e3]; exact ⟨(h.slo b _ h0 (.inl h1) (hks i i0 i1).1).1, (h.slo b _ h0 (.inl h1) (hks i i0 i1).2).1⟩
  · rw [e1]; exact h.slotKey h0 h1 (hks i i0 i1).1
  · have a := (h.slk b _ h0 (.inl h1) (hks i i0 i1).1).1
    have c := (h.slk b _ h0 (.inl h1) (hks i i0 i1).2).1
    rw [h3] at a c
    rw [e1, e3]
    unfold SlT at a c
    omega
/-- a table is opened -/
theorem SI.open_ (h : SI A m) {p : Int} (h0 : 0 ≤ p) (h1 : g m p = 1) (h2 : hk (g A.ws p) = 2) : ∃ mB, LdP A m p 2 (A.ld (p + 2)) mB ∧ (p + 2 + 1 < (A.ws.length : Int)) ∧ rv A.ws (p + 2) = true ∧ FP A (rvT A.ws (p + 2)) (rvN A.ws (p + 2)) ∧ g (A.fwd (rvT A.ws (p + 2)) (rvN A.ws (p + 2))).1.ws (p + 2) = g A.ws (p + 2) ∧ (rvT A.ws (p + 2) = 0 ∨ rvT A.ws (p + 2) = 8 ∧ BkP (A.ld (p + 2)) mB (A.ldN (p + 2)) ∧ rvN (A.ld (p + 2)).ws (p + 2) = A.ldN (p + 2)) := by
  obtain ⟨o1, o2, o3, o4⟩ := h.one p h0 h1
  have hz : SizeP (hk (g A.ws p)) (hs (g A.ws p)) := (of_decide_eq_true (show decide (HeadP _ _ _) = true from o2)).1
  have h3 : hs (g A.ws p) = 3 := by rw [h2] at hz; unfold SizeP at hz; omega
  have hq : 2 ∈ slots (hk (g A.ws p)) (hs (g A.ws p)) := by rw [h2, h3]; decide
  obtain ⟨mB, hL⟩ := h.ld h0 h1 hq
  obtain ⟨s1, s2, s3, s4⟩ := h.slot h0 h1 hq
  refine ⟨mB, hL, s1.2, s2, s3, s4, ?_⟩
  have hsl := (h.slk p 2 h0 (.inl h1) hq).1
  rw [h2] at hsl
  by_cases e : rvT A.ws (p + 2) = 0
  · exact .inl e
  · have e8 : rvT A.ws (p + 2) = 8 := by unfold SlT at hsl; omega
    obtain ⟨a, b, c, d⟩ := hL.rn (by rw [e8]; decide)
    exact .inr ⟨e8, hL.si.bk a b (by rw [c, e8]; decide), d⟩
theorem findFrom_in {b n t x : Int} (hn : 0 < n) : ∀ (f : Nat) (i : Int), 0 ≤ i → i < n → (A.findFrom b n t x f i).2 = true → 0 ≤ (A.findFrom b n t x f i).1 ∧ (A.findFrom b n t x f i).1 < n := by
  intro f
  induction f with
  | zero => intro i h0 h1 h; cases h
  | succ f ih =>
    intro i h0 h1 h
    rw [Ar.findFrom] at h ⊢
    split at h
    · cases h
    · rename_i c
      rw [if_neg c]
      split at h
      · rename_i d; rw [if_pos d]; exact ⟨h0, h1⟩
      · rename_i d; rw [if_neg d]
        exact ih _ (Int.emod_nonneg _ (by omega)) (Int.emod_lt_of_pos _ hn) h
theorem find_in {b n t x : Int} (hn : 0 < n) (h : (A.find b n t x).2 = true) : 0 ≤ (A.find b n t x).1 ∧ (A.find b n t x).1 < n := by
  unfold Ar.find at h ⊢
  split at h
  · cases h
  · rename_i c
    rw [if_neg c]
    exact findFrom_in hn _ _ (Int.emod_nonneg _ (by omega)) (Int.emod_lt_of_pos _ hn) h
end Go.Proofs.YtepddopgmhdllaaGreat.Eng
