/- Plain: tables and functions that are made. -/
import Derived.Test.YtepddopgmhdllaaBkT
namespace Go.Proofs.Ytepddopgmhdllaa.Ar
open Go.Proofs.Ytepddopgmhdllaa.Base
/-- a table that is made -/
def Ar.tabR (A : Ar) (s : Int) : Ar × Int :=
  if (A.ask 2 3).2.2 = 0 then ({ (A.ask 2 3).1 with vs := (A.ask 2 3).1.vs.set s.toNat (4, (A.ask 2 3).2.1) }, 0) else ((A.ask 2 3).1, (A.ask 2 3).2.2)
/-- a function with one box -/
def Ar.fun1R (A : Ar) (pr c s : Int) : Ar × Int :=
  if (A.ask 4 3).2.2 = 0 then
    ({ ({ (A.ask 4 3).1 with ws := (A.ask 4 3).1.ws.set ((A.ask 4 3).2.1 + 1).toNat (w64 pr) } : Ar).putV ((A.ask 4 3).2.1 + 2) ((A.ask 4 3).1.vs.getD c.toNat (0, 0)).1 ((A.ask 4 3).1.vs.getD c.toNat (0, 0)).2 with vs := (A.ask 4 3).1.vs.set s.toNat (5, (A.ask 4 3).2.1) }, 0)
  else ((A.ask 4 3).1, (A.ask 4 3).2.2)
end Go.Proofs.Ytepddopgmhdllaa.Ar
namespace Go.Proofs.Ytepddopgmhdllaa.Eng
open Go Go.RowKit Go.Proofs.Ytepddopgmhdllaa.Sl Go.Proofs.Ytepddopgmhdllaa.Ar Go.Proofs.Ytepddopgmhdllaa.Base
set_option linter.unusedVariables false
set_option linter.unusedSimpArgs false
variable {A B : Ar} {m mB : List Int}
/-- a new object that a Root is let be -/
theorem SI.rootNew (hB : SI B mB) (xB : TX B mB) (tB : Still B mB) {k s t i : Int} {ws : List Int} (fB : s + 1 ≤ B.fr) (hsr : 1 ≤ B.serial) (hN : NewP B mB k s ws) (ht : kd t = k) (h8 : t ≠ 8) (h0 : 0 ≤ i) (h1 : i < (B.vs.length : Int)) :
    ∃ m', SI { B.with k s ws with vs := B.vs.set i.toNat (t, B.top) } m' ∧ TX { B.with k s ws with vs := B.vs.set i.toNat (t, B.top) } m' ∧ ({ B.with k s ws with vs := B.vs.set i.toNat (t, B.top) } : Ar).fr = B.fr - (s + 1) ∧ (∀ q : Int, 0 ≤ q → g m' q = if q = B.top then 1 else g mB q) ∧ 1 ≤ B.top ∧ g mB B.top ≠ 1 := by
  obtain ⟨room1, room2, room3, room4⟩ := hB.room (n := s + 1) (by omega)
  have hr := hN.hh.range
  obtain ⟨p1, p2, p3, p4⟩ := hWord_parts hN.hh
  have hd := hN.hd
  obtain ⟨m', h', x', st', gm⟩ := hB.new xB tB fB hsr hN
  have htop : g m' B.top = 1 := by rw [gm _ (by omega), if_pos rfl]
  have hk0 : kindOf t ≠ 0 := by have : kd t ≠ 0 := by omega
                                exact this
  have htt := kindOf_ne.1 hk0
  have hset := h'.setR x' (i := i) (t := t) (n := B.top) h0 (by show i < (B.vs.length : Int); exact h1) (by unfold ValP; omega) h8 (fun _ => ⟨by omega, htop, by
    show hk (g ws B.top) = kd t
    rw [hd, p1, ht]⟩)
  refine ⟨m', hset.1, hset.2, ?_, gm, room4, hB.top_free.1⟩
  unfold Ar.fr Ar.with; dsimp only; omega
theorem slots23 : slots 2 3 = [2] := by decide
theorem slots43 : slots 4 3 = [2] := by decide
/-- a table is made -/
theorem SI.newTab (h : SI A m) (x : TX A m) (hsr : 1 ≤ A.serial ∧ A.serial ≤ 1000000000) {s : Int} (hf : 4 ≤ A.fr) (hs0 : 0 ≤ s) (hs1 : s < (A.vs.length : Int)) :
    ∃ B mB A' m', A.tabR s = (A', 0) ∧ SI B mB ∧ RR A B ∧ SI A' m' ∧ TX A' m' ∧ A'.ws.length = A.ws.length ∧ A'.vs = B.vs.set s.toNat (4, B.top) ∧ A.fr - 4 ≤ A'.fr ∧ A'.serial = A.serial + 1 ∧ g A'.ws B.top = hWord 2 3 A.serial := by
  obtain ⟨B, mB, ea, hB, xB, tB, rr, lB, fB, fAB, sB⟩ := h.make x (k := 2) (s := 3) hf
  have yb : BornP 2 := by decide
  have bn : B.born 2 = A.serial := by unfold Ar.born; rw [if_pos yb, sB]
  have hh : HeadP 2 3 (B.born 2) := by rw [bn]; exact ⟨by unfold SizeP; omega, .inl ⟨yb, hsr.1, hsr.2⟩⟩
  have hv := hB.hv
  have hse := hB.se
  have hln := hB.ln
  obtain ⟨room1, room2, room3, room4⟩ := hB.room (n := 4) (by omega)
  have rl := rr.vl
  have gw : ∀ q : Int, 0 ≤ q → g (zeroW (B.ws.set B.top.toNat (hWord 2 3 (B.born 2))) (B.top + 1) 3) q = if B.top + 1 ≤ q ∧ q < B.top + 1 + 3 then 0 else if q = B.top then hWord 2 3 (B.born 2) else g B.ws q := fun q hq => by
    rw [g_zeroW hq]
    split
    · rfl
    · rw [g_set (by omega) (by omega) hq]
  have hwr : 0 ≤ hWord 2 3 (B.born 2) ∧ hWord 2 3 (B.born 2) < 18446744073709551616 := by have := hh.range; unfold hWord; omega
  have hNP : NewP B mB 2 3 (zeroW (B.ws.set B.top.toNat (hWord 2 3 (B.born 2))) (B.top + 1) 3) := by
    refine ⟨hh, by rw [length_zeroW, List.length_set], fun j => ?_, fun q hq c => ?_, ?_, fun q hq => ?_, fun c => by omega, ?_⟩
    · rw [g_toNat, gw _ (by omega)]
      split
      · omega
      · split
        · exact hwr
        · exact hB.wf _
    · rw [gw q hq, if_neg (by omega), if_neg (by omega)]
    · rw [gw _ (by omega), if_neg (by omega), if_pos rfl]
    · rw [slots23] at hq
      have hq2 : q = 2 := by simpa using hq
      subst hq2
      have g1 : g (zeroW (B.ws.set B.top.toNat (hWord 2 3 (B.born 2))) (B.top + 1) 3) (B.top + 2) = 0 := by rw [gw _ (by omega), if_pos (by omega)]
      have g2 : g (zeroW (B.ws.set B.top.toNat (hWord 2 3 (B.born 2))) (B.top + 1) 3) (B.top + 2 + 1) = 0 := by rw [gw _ (by omega), if_pos (by omega)]
      have rv1 : rv (zeroW (B.ws.set B.top.toNat (hWord 2 3 (B.born 2))) (B.top + 1) 3) (B.top + 2) = true := by rw [rv_eq, g1, g2]; decide
      have rT1 : rvT (zeroW (B.ws.set B.top.toNat (hWord 2 3 (B.born 2))) (B.top + 1) 3) (B.top + 2) = 0 := by unfold rvT; rw [if_pos rv1, g1]
      rw [rv1, rT1]
      exact ⟨rfl, by unfold SlT; omega, fun c => absurd c (by decide)⟩
    · have e2 : hk (hWord 2 3 (B.born 2)) = 2 := (hWord_parts hh).1
      exact ⟨by rw [e2]; omega, fun c => by omega, fun _ => ⟨by rw [gw _ (by omega), if_pos (by omega)], by rw [gw _ (by omega), if_pos (by omega)]⟩, fun c => by omega⟩
  obtain ⟨m', h', x', f', -, -, -⟩ := hB.rootNew xB tB (t := 4) (i := s) fB (by omega) hNP (by decide) (by decide) hs0 (by omega)
  refine ⟨B, mB, _, m', ?_, hB, rr, h', x', ?_, rfl, by omega, ?_, ?_⟩
  · unfold Ar.tabR
    rw [ea]
    dsimp only
    rw [if_pos rfl]; rfl
  · show (zeroW _ _ _).length = _
    rw [length_zeroW, List.length_set, lB]
  · show (if BornP 2 then B.serial + 1 else B.serial) = A.serial + 1
    rw [if_pos yb, sB]
  · show g (zeroW (B.ws.set B.top.toNat (hWord 2 3 (B.born 2))) (B.top + 1) 3) B.top = _
    rw [gw _ (by omega), if_neg (by omega), if_pos rfl, bn]
/-- a function with one box is made -/
theorem SI.newFun1 (h : SI A m) (x : TX A m) (hsr : 1 ≤ A.serial ∧ A.serial ≤ 1000000000) {pr c s : Int} (hp : 0 ≤ pr ∧ pr ≤ 255) (hf : 4 ≤ A.fr) (hc0 : 0 ≤ c) (hc1 : c < (A.vs.length : Int)) (hc9 : rT A c = 9) (hs0 : 0 ≤ s) (hs1 : s < (A.vs.length : Int)) :
    ∃ B mB A' m', A.fun1R pr c s = (A', 0) ∧ SI B mB ∧ RR A B ∧ SI A' m' ∧ TX A' m' ∧ A'.ws.length = A.ws.length ∧ A'.vs = B.vs.set s.toNat (5, B.top) ∧ A.fr - 4 ≤ A'.fr ∧ A'.serial = A.serial + 1 ∧ g A'.ws B.top = hWord 4 3 A.serial := by
  obtain ⟨B, mB, ea, hB, xB, tB, rr, lB, fB, fAB, sB⟩ := h.make x (k := 4) (s := 3) hf
  have yb : BornP 4 := by decide
  have bn : B.born 4 = A.serial := by unfold Ar.born; rw [if_pos yb, sB]
  have hh : HeadP 4 3 (B.born 4) := by rw [bn]; exact ⟨by unfold SizeP; omega, .inl ⟨yb, hsr.1, hsr.2⟩⟩
  have hv := hB.hv
  have hse := hB.se
  have hln := hB.ln
  obtain ⟨room1, room2, room3, room4⟩ := hB.room (n := 4) (by omega)
  have rl := rr.vl
  have t9 : (B.vs.getD c.toNat (0, 0)).1 = 9 := (rr.tg c hc0 hc1).trans hc9
  have hrt := hB.rts c hc0 (by omega) (by show isRef (B.vs.getD c.toNat (0, 0)).1 = true; rw [t9]; decide)
  have hrk := (hB.rtk c hc0 (by omega)).1 (by show isRef (B.vs.getD c.toNat (0, 0)).1 = true; rw [t9]; decide)
  dsimp only [rN, rT] at hrt hrk
  rw [t9] at hrk
  have hr1 := hrt.2.2 (by omega)
  have hlt := GI.lt hB hrt.1 hrt.2.1
  generalize hn : (B.vs.getD c.toNat (0, 0)).2 = n at *
  have ew : B.where_ n = n := by unfold Ar.where_; rw [if_neg (by show ¬ isFw (g B.ws n) = true; rw [hOk_fw (hB.one n hrt.1 hr1).2.1]; decide)]
  rw [ew] at hrk
  have w9 : w64 9 = 9 := by decide
  have wp : w64 pr = pr := by unfold w64; omega
  have wn : w64 n = n := by unfold w64; omega
  have sn : sg n = n := by unfold sg; rw [if_pos (by omega)]
  have hsl : (zeroW (B.ws.set B.top.toNat (hWord 4 3 (B.born 4))) (B.top + 1) 3).length = B.ws.length := by rw [length_zeroW, List.length_set]
  have gw : ∀ q : Int, 0 ≤ q → g ((((zeroW (B.ws.set B.top.toNat (hWord 4 3 (B.born 4))) (B.top + 1) 3).set (B.top + 1).toNat (w64 pr)).set (B.top + 2).toNat (w64 9)).set (B.top + 2 + 1).toNat (w64 n)) q = if q = B.top + 3 then n else if q = B.top + 2 then 9 else if q = B.top + 1 then pr else if q = B.top then hWord 4 3 (B.born 4) else g B.ws q := fun q hq => by
    rw [g_set (by omega) (by rw [List.length_set, List.length_set, hsl]; omega) hq, wn, show B.top + 2 + 1 = B.top + 3 by omega]
    split
    · rfl
    · rw [g_set (by omega) (by rw [List.length_set, hsl]; omega) hq, w9]
      split
      · rfl
      · rw [g_set (by omega) (by rw [hsl]; omega) hq, wp]
        split
        · rfl
        · rw [g_zeroW hq, if_neg (by omega), g_set (by omega) (by omega) hq]
  have hwl : ((((zeroW (B.ws.set B.top.toNat (hWord 4 3 (B.born 4))) (B.top + 1) 3).set (B.top + 1).toNat (w64 pr)).set (B.top + 2).toNat (w64 9)).set (B.top + 2 + 1).toNat (w64 n)).length = B.ws.length := by rw [List.length_set, List.length_set, List.length_set, hsl]
  have hwr : 0 ≤ hWord 4 3 (B.born 4) ∧ hWord 4 3 (B.born 4) < 18446744073709551616 := by have := hh.range; unfold hWord; omega
  have ec : A.fun1R pr c s = ({ B.with 4 3 ((((zeroW (B.ws.set B.top.toNat (hWord 4 3 (B.born 4))) (B.top + 1) 3).set (B.top + 1).toNat (w64 pr)).set (B.top + 2).toNat (w64 9)).set (B.top + 2 + 1).toNat (w64 n)) with vs := B.vs.set s.toNat (5, B.top) }, 0) := by
    unfold Ar.fun1R
    rw [ea]
    dsimp only
    rw [if_pos rfl]
    show (({ ({ B.mkO 4 3 with ws := (B.mkO 4 3).ws.set (B.top + 1).toNat (w64 pr) } : Ar).putV (B.top + 2) (B.vs.getD c.toNat (0, 0)).1 (B.vs.getD c.toNat (0, 0)).2 with vs := B.vs.set s.toNat (5, B.top) } : Ar), (0 : Int)) = _
    rw [t9, hn]; rfl
  generalize ((((zeroW (B.ws.set B.top.toNat (hWord 4 3 (B.born 4))) (B.top + 1) 3).set (B.top + 1).toNat (w64 pr)).set (B.top + 2).toNat (w64 9)).set (B.top + 2 + 1).toNat (w64 n)) = ws at *
  have g2 : g ws (B.top + 2) = 9 := by rw [gw _ (by omega), if_neg (by omega), if_pos rfl]
  have g3 : g ws (B.top + 2 + 1) = n := by rw [gw _ (by omega), if_pos (by omega)]
  have rv1 : rv ws (B.top + 2) = true := by rw [rv_eq, g2, g3, sn]; exact decide_eq_true (by unfold ValP; omega)
  have rT1 : rvT ws (B.top + 2) = 9 := by unfold rvT; rw [if_pos rv1, g2]
  have rN1 : rvN ws (B.top + 2) = n := by unfold rvN; rw [if_pos rv1, g3, sn]
  have hNP : NewP B mB 4 3 ws := by
    refine ⟨hh, hwl, fun j => ?_, fun q hq c => ?_, ?_, fun q hq => ?_, fun c => by omega, ?_⟩
    · rw [g_toNat, gw _ (by omega)]
      split
      · omega
      · split
        · omega
        · split
          · omega
          · split
            · exact hwr
            · exact hB.wf _
    · rw [gw q hq, if_neg (by omega), if_neg (by omega), if_neg (by omega), if_neg (by omega)]
    · rw [gw _ (by omega), if_neg (by omega), if_neg (by omega), if_neg (by omega), if_pos rfl]
    · rw [slots43] at hq
      have hq2 : q = 2 := by simpa using hq
      subst hq2
      rw [rv1, rT1, rN1]
      exact ⟨rfl, by unfold SlT; omega, fun _ => ⟨hrt.1, hr1, hrk⟩⟩
    · have e4 : hk (hWord 4 3 (B.born 4)) = 4 := (hWord_parts hh).1
      refine ⟨by rw [e4]; omega, fun c => by omega, fun c => by omega, fun _ => ?_⟩
      rw [gw _ (by omega), if_neg (by omega), if_neg (by omega), if_pos rfl]
      unfold sg; rw [if_pos (by omega)]; exact hp
  obtain ⟨m', h', x', f', -, -, -⟩ := hB.rootNew xB tB (t := 5) (i := s) fB (by omega) hNP (by decide) (by decide) hs0 (by omega)
  refine ⟨B, mB, _, m', ec, hB, rr, h', x', ?_, rfl, by omega, ?_, ?_⟩
  · show ws.length = _
    rw [hwl, lB]
  · show (if BornP 4 then B.serial + 1 else B.serial) = A.serial + 1
    rw [if_pos yb, sB]
  · show g ws B.top = _
    rw [gw _ (by omega), if_neg (by omega), if_neg (by omega), if_neg (by omega), if_pos rfl, bn]
end Go.Proofs.Ytepddopgmhdllaa.Eng
