/- Plain: what Flip, Finish, Collect, CopyStep, Load hand back. -/
import Derived.Test.YtepddopgmhdllaaGreatBkP
import Derived.Test.YtepddopgmhdllaaGreatBkQ
import Derived.Test.YtepddopgmhdllaaGreatBkT0
namespace Go.Proofs.YtepddopgmhdllaaGreat.Ar
open Go.Proofs.YtepddopgmhdllaaGreat.Base
def Ar.flipR (A : Ar) : Ar × Bool := if A.ok = true ∧ A.cyc = false then (A.flip, true) else (A, false)
def Ar.finR (A : Ar) : Ar × Int := if A.ok = true then A.fin else (A, 0)
def Ar.colR (A : Ar) : Ar × Bool := if A.ok = true then (A.col, true) else (A, false)
def Ar.stepR (A : Ar) (n : Int) : Ar × Int := if A.ok = true ∧ 1 ≤ n then Ar.stp 8001 A.over 0 n else (A, 0)
def Ar.slotsOf (A : Ar) (p : Int) : List Int := slots (rk (g A.ws p)) (rs (g A.ws p))
def Ar.loadR (A : Ar) (r sl s : Int) : Ar × Bool :=
  if A.ok = true ∧ A.inR r = true ∧ A.inR s = true ∧ kd (A.vs.getD r.toNat (0, 0)).1 ≠ 0 ∧ (A.vs.getD r.toNat (0, 0)).1 ≠ 4 ∧ 0 ≤ sl ∧ sl ≤ ((A.slotsOf (A.vs.getD r.toNat (0, 0)).2).length : Int) - 1 then
    ({ A.ld ((A.vs.getD r.toNat (0, 0)).2 + g (A.slotsOf (A.vs.getD r.toNat (0, 0)).2) sl) with vs := A.vs.set s.toNat (rvT A.ws ((A.vs.getD r.toNat (0, 0)).2 + g (A.slotsOf (A.vs.getD r.toNat (0, 0)).2) sl), A.ldN ((A.vs.getD r.toNat (0, 0)).2 + g (A.slotsOf (A.vs.getD r.toNat (0, 0)).2) sl)) }, true)
  else (A, false)
end Go.Proofs.YtepddopgmhdllaaGreat.Ar
namespace Go.Proofs.YtepddopgmhdllaaGreat.Eng
open Go Go.RowKit Go.Proofs.YtepddopgmhdllaaGreat.Sl Go.Proofs.YtepddopgmhdllaaGreat.Ar Go.Proofs.YtepddopgmhdllaaGreat.Base
set_option linter.unusedVariables false
set_option linter.unusedSimpArgs false
set_option maxRecDepth 10000
variable {A : Ar} {m : List Int}
theorem ld_len (a : Int) : (A.ld a).ws.length = A.ws.length ∧ (A.ld a).vs = A.vs := by
  unfold Ar.ld
  split
  · refine ⟨?_, (fwd_same _ _).2.2.2.2.2.2⟩
    show (List.set _ _ _).length = _
    rw [List.length_set, fwd_len]
  · exact ⟨rfl, rfl⟩
/-- a slot of an object of the half in use may be loaded -/
theorem SI.slot (h : SI A m) {p q : Int} (hp : 0 ≤ p) (h1 : g m p = 1) (hq : q ∈ slots (hk (g A.ws p)) (hs (g A.ws p))) :
    (1 ≤ q ∧ p + q + 1 < (A.ws.length : Int)) ∧ rv A.ws (p + q) = true ∧ FP A (rvT A.ws (p + q)) (rvN A.ws (p + q)) ∧ g (A.fwd (rvT A.ws (p + q)) (rvN A.ws (p + q))).1.ws (p + q) = g A.ws (p + q) := by
  obtain ⟨o1, o2, o3, o4⟩ := h.one p hp h1
  have hqr := slotsR o2 hq
  have hv := h.hv
  have hse := h.se
  have hln := h.ln
  have hrm := h.rm
  have hS0 := S2_0 A.ws m A.ws.length
  obtain ⟨s1, s2⟩ := h.slo p q hp (.inl h1) hq
  have hr : isRef (rvT A.ws (p + q)) = true → 0 ≤ rvN A.ws (p + q) ∧ g m (rvN A.ws (p + q)) ≠ 0 := fun c => ⟨(s2 c).1, (s2 c).2.1⟩
  refine ⟨⟨hqr.1, by omega⟩, s1, h.fp hr, ?_⟩
  cases hc : A.cyc with
  | true =>
    obtain ⟨m', -, kp, -, -⟩ := h.fwd (fun x d => by have := d hc; have := SI.lt h hc; omega) hr
    exact kp.kw p q hp h1 (by omega) (by omega)
  | false =>
    have e : A.fwd (rvT A.ws (p + q)) (rvN A.ws (p + q)) = (A, rvN A.ws (p + q)) := by
      unfold Ar.fwd
      by_cases c : isRef (rvT A.ws (p + q)) = true
      · obtain ⟨a, b, d⟩ := s2 c
        rw [if_neg (by rw [h.inTo1 a (d h1 (fun e => by rw [hc] at e; cases e))]; simp)]
      · rw [if_neg (fun d => c d.1)]
    rw [e]
theorem ld_scan {a : Int} : (A.ld a).scan = A.scan := by
  unfold Ar.ld
  split
  · exact (fwd_same _ _).2.2.2.1
  · rfl
theorem loadR_len {x0 x1 x2 : Int} : (A.loadR x0 x1 x2).1.ws.length = A.ws.length ∧ (A.loadR x0 x1 x2).1.vs.length = A.vs.length := by
  unfold Ar.loadR; split
  · exact ⟨(ld_len _).1, List.length_set⟩
  · exact ⟨rfl, rfl⟩
end Go.Proofs.YtepddopgmhdllaaGreat.Eng
