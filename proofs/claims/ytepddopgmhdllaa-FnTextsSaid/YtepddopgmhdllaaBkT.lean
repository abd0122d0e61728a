/- Plain: an object is made: what is known of the arena behind it. -/
import Derived.Test.YtepddopgmhdllaaBkR
import Derived.Test.YtepddopgmhdllaaQ2
namespace Go.Proofs.Ytepddopgmhdllaa.Ar
open Go.Proofs.Ytepddopgmhdllaa.Base
/-- a new arena -/
def fresh (s n : Int) : Ar := { ws := List.replicate (2 * s).toNat 0, semi := s, to := 0, top := 1, cyc := false, scan := 0, old := 0, copied := 0, serial := 1, vs := List.replicate n.toNat (0, 0) }
/-- a box that is made -/
def Ar.cellR (A : Ar) (r s : Int) : Ar × Int :=
  if (A.ask 5 2).2.2 = 0 then ({ (A.ask 5 2).1.putV ((A.ask 5 2).2.1 + 1) ((A.ask 5 2).1.vs.getD r.toNat (0, 0)).1 ((A.ask 5 2).1.vs.getD r.toNat (0, 0)).2 with vs := (A.ask 5 2).1.vs.set s.toNat (9, (A.ask 5 2).2.1) }, 0)
  else ((A.ask 5 2).1, (A.ask 5 2).2.2)
end Go.Proofs.Ytepddopgmhdllaa.Ar
namespace Go.Proofs.Ytepddopgmhdllaa.Eng
open Go Go.RowKit Go.Proofs.Ytepddopgmhdllaa.Sl Go.Proofs.Ytepddopgmhdllaa.Ar Go.Proofs.Ytepddopgmhdllaa.Base
set_option linter.unusedVariables false
set_option linter.unusedSimpArgs false
variable {A B : Ar} {m : List Int}
theorem g_rep (n : Nat) (q : Int) : g (List.replicate n 0) q = 0 := by
  unfold g; rw [List.getD_eq_getElem?_getD, List.getElem?_replicate]; split <;> rfl
theorem v_rep (n : Nat) (i : Nat) : (List.replicate n ((0 : Int), (0 : Int))).getD i (0, 0) = (0, 0) := by
  rw [List.getD_eq_getElem?_getD, List.getElem?_replicate]; split <;> rfl
theorem fresh_ok {s n : Int} (hs : 256 ≤ s ∧ s ≤ 4000) (hn : 0 ≤ n ∧ n ≤ 24) : ∃ m, SI (fresh s n) m ∧ TX (fresh s n) m ∧ Still (fresh s n) m := by
  have gz : ∀ q : Int, g (List.replicate (2 * s).toNat 0) q = 0 := g_rep _
  have cf : ¬ (fresh s n).cyc = true := by show ¬ false = true; decide
  have hS : S2 (fresh s n).ws (List.replicate (2 * s).toNat 0) (fresh s n).ws.length = 0 := S2_none (fun q _ => by rw [gz]; decide) _
  have hl : ((fresh s n).ws.length : Int) = 2 * s := by show ((List.replicate (2 * s).toNat (0 : Int)).length : Int) = _; simp; omega
  have vz : ∀ i : Int, (fresh s n).vs.getD i.toNat (0, 0) = (0, 0) := fun i => v_rep _ _
  refine ⟨List.replicate (2 * s).toNat 0, ⟨fun p => by have := gz p; show 0 ≤ g (List.replicate (2 * s).toNat 0) p ∧ g (List.replicate (2 * s).toNat 0) p < 18446744073709551616; omega, hl, hs, .inl rfl, by show _ = (List.replicate (2 * s).toNat (0 : Int)).length; rfl, fun q _ => .inl (gz q), by show 0 * s + 1 ≤ 1; omega, fun q _ e => by rw [gz] at e; omega, fun q _ e => by rw [gz] at e; omega, fun q _ e => by rw [gz] at e; omega, fun p q _ _ e => by rw [gz, gz] at e; omega, fun p q _ e => by rw [gz] at e; omega, fun i _ _ hr => ?_, ?_, ?_, fun c => absurd c cf, Int.le_refl _, fun c => absurd c cf, fun p q _ e => by rw [gz] at e; omega, fun i _ _ => ?_, fun p _ e => by rw [gz] at e; omega⟩,
    ⟨.inl (by show 0 * s + 1 = 1; omega), fun _ => ⟨rfl, rfl, rfl⟩, fun c => absurd c cf, Int.le_refl _, fun c => absurd c cf, fun c => absurd c cf, fun c => absurd c cf, fun c => absurd c cf, fun p q _ _ e => by rw [gz] at e; omega, fun p _ e => by rw [gz] at e; omega, fun p q _ _ _ e => by rw [gz] at e; omega, fun p q _ e => by rw [gz] at e; omega, fun p _ e => by rw [gz] at e; omega, fun c => absurd c cf⟩, fun _ q _ => by rw [gz]; decide⟩
  · exfalso
    dsimp only [rT] at hr
    rw [vz] at hr
    exact absurd hr (by decide)
  · rw [hS]; show (1 : Int) + 0 ≤ (0 + 1) * s; omega
  · rw [hS]; show (0 : Int) ≤ 0 ∧ (0 : Int) + 0 ≤ 8000; omega
  · dsimp only [rT, rN]
    rw [vz]
    exact ⟨fun c => absurd c (by decide), by show ValP 0 0; unfold ValP; omega, by decide⟩
theorem SI.ask1X (h : SI A m) (x : TX A m) : ∃ m', SI A.ask1 m' ∧ TX A.ask1 m' ∧ RR A A.ask1 := by
  unfold Ar.ask1
  split
  · exact h.stpX x 8001 2
  · rename_i hc
    have hc : A.cyc = false := by simpa using hc
    split
    · obtain ⟨m1, h1, x1, r1⟩ := h.flipX x hc
      obtain ⟨m2, h2, x2, r2⟩ := h1.stpX x1 8001 2
      exact ⟨m2, h2, x2, r1.trans r2⟩
    · exact ⟨m, h, x, RR.refl⟩
theorem SI.ask2X (h : SI A m) (x : TX A m) (n : Int) : ∃ m', SI (A.ask2 n) m' ∧ TX (A.ask2 n) m' ∧ RR A (A.ask2 n) := by
  obtain ⟨m1, h1, x1, r1⟩ := h.ask1X x
  unfold Ar.ask2
  split
  · obtain ⟨m2, h2, x2, r2, -⟩ := h1.colX x1
    exact ⟨m2, h2, x2, r1.trans r2⟩
  · exact ⟨m1, h1, x1, r1⟩
theorem SI.fr_le (h : SI A m) : A.fr ≤ A.semi - 1 := by
  have hv := h.hv
  have htp := h.tp
  have hS := S2_0 A.ws m A.ws.length
  unfold Ar.fr
  split
  · rename_i c
    have := h.cq c
    have := h.cp
    omega
  · omega
/-- a place is asked for where there is room -/
theorem SI.make (h : SI A m) (x : TX A m) {k s : Int} (hf : s + 1 ≤ A.fr) : ∃ B mB, A.ask k s = (B.mkO k s, B.top, 0) ∧ SI B mB ∧ TX B mB ∧ Still B mB ∧ RR A B ∧ B.ws.length = A.ws.length ∧ s + 1 ≤ B.fr ∧ A.fr ≤ B.fr ∧ B.serial = A.serial := by
  have hle := h.fr_le
  obtain ⟨m1, h1, x1, r1⟩ := h.ask2X x (s + 1)
  obtain ⟨m2, h2, x2, t2, -⟩ := norm_ok h1 x1
  obtain ⟨_, -, l1, -⟩ := h.ask2 (s + 1)
  have hfr := h.fr_ask2 (s + 1)
  exact ⟨A.ask2 (s + 1), m2, h.ask_done (by omega) hf, h2, x2, t2, r1, l1, by omega, hfr, r1.sr⟩
/-- a box is made -/
theorem SI.newCell (h : SI A m) (x : TX A m) (hsr : 1 ≤ A.serial) {r s : Int} (hf : 3 ≤ A.fr) (hr0 : 0 ≤ r) (hr1 : r < (A.vs.length : Int)) (hs0 : 0 ≤ s) (hs1 : s < (A.vs.length : Int)) (hn : ∀ i : Int, 0 ≤ i → i < (A.vs.length : Int) → isRef (rT A i) ≠ true → -9223372036854775808 ≤ rN A i ∧ rN A i ≤ 9223372036854775807) :
    ∃ B mB A' m', A.cellR r s = (A', 0) ∧ SI B mB ∧ RR A B ∧ SI A' m' ∧ TX A' m' ∧ A'.ws.length = A.ws.length ∧ A'.vs = B.vs.set s.toNat (9, B.top) ∧ A.fr - 3 ≤ A'.fr ∧ A'.serial = A.serial ∧ 1 ≤ B.top ∧ g mB B.top ≠ 1 ∧ g A'.ws (B.top + 1) = (B.vs.getD r.toNat (0, 0)).1 ∧ g A'.ws (B.top + 2) = w64 (B.vs.getD r.toNat (0, 0)).2 ∧ g A'.ws B.top = hWord 5 2 0 ∧
      (∀ q : Int, 0 ≤ q → g m' q = if q = B.top then 1 else g mB q) ∧ ∀ q j : Int, 0 ≤ q → g mB q = 1 → 0 ≤ j → j ≤ hs (g B.ws q) → g A'.ws (q + j) = g B.ws (q + j) := by
  obtain ⟨B, mB, ea, hB, xB, tB, rr, lB, fB, fAB, sB⟩ := h.make x (k := 5) (s := 2) hf
  have nb : ¬ BornP 5 := by decide
  have bn : B.born 5 = 0 := by unfold Ar.born; rw [if_neg nb]
  have hh : HeadP 5 2 (B.born 5) := by rw [bn]; decide
  have hv := hB.hv
  have hse := hB.se
  have hln := hB.ln
  obtain ⟨room1, room2, room3, room4⟩ := hB.room (n := 3) (by omega)
  have tf := hB.top_free
  have rl := rr.vl
  obtain ⟨k1, k2, k3⟩ := hB.rtk r hr0 (by omega)
  have krt := hB.rts r hr0 (by omega)
  dsimp only [rT, rN] at k1 k2 k3 krt
  have hn64 : -9223372036854775808 ≤ (B.vs.getD r.toNat (0, 0)).2 ∧ (B.vs.getD r.toNat (0, 0)).2 ≤ 9223372036854775807 := by
    by_cases c : isRef (rT A r) = true
    · have c' : isRef (rT B r) = true := by rw [rr.tg r hr0 hr1]; exact c
      have := krt c'
      have := GI.lt hB (n := (B.vs.getD r.toNat (0, 0)).2) this.1 this.2.1
      omega
    · have := rr.nr r hr0 hr1 c
      have := hn r hr0 hr1 c
      show -9223372036854775808 ≤ rN B r ∧ rN B r ≤ 9223372036854775807
      omega
  generalize hT : (B.vs.getD r.toNat (0, 0)).1 = t at *
  generalize hN : (B.vs.getD r.toNat (0, 0)).2 = n at *
  have et := valTag k2
  have hsl : (zeroW (B.ws.set B.top.toNat (hWord 5 2 (B.born 5))) (B.top + 1) 2).length = B.ws.length := by rw [length_zeroW, List.length_set]
  have gw : ∀ q : Int, 0 ≤ q → g (((zeroW (B.ws.set B.top.toNat (hWord 5 2 (B.born 5))) (B.top + 1) 2).set (B.top + 1).toNat (w64 t)).set (B.top + 1 + 1).toNat (w64 n)) q = if q = B.top + 2 then w64 n else if q = B.top + 1 then t else if q = B.top then hWord 5 2 0 else g B.ws q := fun q hq => by
    rw [g_set (by omega) (by rw [List.length_set, hsl]; omega) hq, show B.top + 1 + 1 = B.top + 2 by omega]
    split
    · rfl
    · rw [g_set (by omega) (by rw [hsl]; omega) hq, et]
      split
      · rfl
      · rw [g_zeroW hq, if_neg (by omega), g_set (by omega) (by omega) hq, bn]
  have hwl : (((zeroW (B.ws.set B.top.toNat (hWord 5 2 (B.born 5))) (B.top + 1) 2).set (B.top + 1).toNat (w64 t)).set (B.top + 1 + 1).toNat (w64 n)).length = B.ws.length := by rw [List.length_set, List.length_set, hsl]
  have ec : A.cellR r s = ({ B.with 5 2 (((zeroW (B.ws.set B.top.toNat (hWord 5 2 (B.born 5))) (B.top + 1) 2).set (B.top + 1).toNat (w64 t)).set (B.top + 1 + 1).toNat (w64 n)) with vs := B.vs.set s.toNat (9, B.top) }, 0) := by
    unfold Ar.cellR
    rw [ea]
    dsimp only
    rw [if_pos rfl]
    show (({ (B.mkO 5 2).putV (B.top + 1) ((B.vs.getD r.toNat (0, 0)).1) ((B.vs.getD r.toNat (0, 0)).2) with vs := B.vs.set s.toNat (9, B.top) } : Ar), (0 : Int)) = _
    rw [hT, hN]; rfl
  generalize hws : (((zeroW (B.ws.set B.top.toNat (hWord 5 2 (B.born 5))) (B.top + 1) 2).set (B.top + 1).toNat (w64 t)).set (B.top + 1 + 1).toNat (w64 n)) = ws at *
  have g1 : g ws (B.top + 1) = t := by rw [gw _ (by omega), if_neg (by omega), if_pos rfl]
  have g2 : g ws (B.top + 1 + 1) = w64 n := by rw [gw _ (by omega), if_pos (by omega)]
  have rv1 : rv ws (B.top + 1) = true := by rw [rv_eq, g1, g2, sgW hn64]; exact decide_eq_true k2
  have rT1 : rvT ws (B.top + 1) = t := by unfold rvT; rw [if_pos rv1, g1]
  have rN1 : rvN ws (B.top + 1) = n := by unfold rvN; rw [if_pos rv1, g2, sgW hn64]
  have w64r := w64_r n
  have htl := valLe k2
  have hNP : NewP B mB 5 2 ws := by
    refine ⟨hh, hwl, fun j => ?_, fun q hq c => ?_, ?_, fun q hq => ?_, fun c => by omega, ?_⟩
    · rw [g_toNat, gw _ (by omega)]
      split
      · exact w64r
      · split
        · omega
        · split
          · unfold hWord; omega
          · exact hB.wf _
    · rw [gw q hq, if_neg (by omega), if_neg (by omega), if_neg (by omega)]
    · rw [gw _ (by omega), if_neg (by omega), if_neg (by omega), if_pos rfl, bn]
    · have := slots5 hq
      subst this
      rw [rv1, rT1, rN1]
      refine ⟨rfl, by unfold SlT; omega, fun hrf => ?_⟩
      obtain ⟨y1, y2, y3⟩ := krt hrf
      have y4 := y3 (by omega)
      have ew : B.where_ n = n := by unfold Ar.where_; rw [if_neg (by show ¬ isFw (g B.ws n) = true; rw [hOk_fw (hB.one n y1 y4).2.1]; decide)]
      refine ⟨y1, y4, ?_⟩
      have := k1 hrf
      rw [ew] at this; exact this
    · rw [bn]
      have e5 : hk (hWord 5 2 0) = 5 := by decide
      exact ⟨by rw [e5]; omega, by rw [e5]; omega, by rw [e5]; omega, by rw [e5]; omega⟩
  obtain ⟨m', h', x', st', gm⟩ := hB.new xB tB (k := 5) (s := 2) (ws := ws) fB (by omega) hNP
  have htop : g m' B.top = 1 := by rw [gm _ (by omega), if_pos rfl]
  have hset := h'.setR x' (i := s) (t := 9) (n := B.top) hs0 (by show s < (B.vs.length : Int); omega) (by unfold ValP; omega) (by decide) (fun _ => ⟨by omega, htop, by
    show hk (g ws B.top) = kd 9
    rw [gw _ (by omega), if_neg (by omega), if_neg (by omega), if_pos rfl]; decide⟩)
  refine ⟨B, mB, _, m', ec, hB, rr, hset.1, hset.2, hwl.trans lB, rfl, ?_, ?_, room4, tf.1, by rw [hT]; exact g1, by rw [hN, show B.top + 2 = B.top + 1 + 1 by omega]; exact g2, ?_, gm, fun q j hq e hj hj2 => ?_⟩
  · show A.fr - 3 ≤ (B.with 5 2 ws).fr
    have : (B.with 5 2 ws).fr = B.fr - 3 := by unfold Ar.fr Ar.with; dsimp only; omega
    omega
  · show (if BornP 5 then B.serial + 1 else B.serial) = A.serial
    rw [if_neg nb, sB]
  · show g ws B.top = _
    rw [gw _ (by omega), if_neg (by omega), if_neg (by omega), if_pos rfl]
  · have := hB.one q hq e
    show g ws (q + j) = _
    rw [gw _ (by omega), if_neg (by omega), if_neg (by omega), if_neg (by omega)]
end Go.Proofs.Ytepddopgmhdllaa.Eng
namespace Go.Proofs.Ytepddopgmhdllaa.Eng
open Go Go.RowKit Go.Proofs.Ytepddopgmhdllaa.Sl Go.Proofs.Ytepddopgmhdllaa.Ar Go.Proofs.Ytepddopgmhdllaa.Base
set_option linter.unusedVariables false
set_option linter.unusedSimpArgs false
variable {A B : Ar} {m : List Int}
theorem stp_len (h : SI A m) (n : Int) : (Ar.stp 8001 A.over 0 n).1.ws.length = A.ws.length := by
  obtain ⟨o1, o2, o3, o4, o5⟩ := over_same (A := A)
  obtain ⟨m', h1, h2, h3, h4, -⟩ := stp_all 8001 A.over m 0 n h.over (fun c => by obtain ⟨a, b⟩ := over_ne c; rw [a]; exact b)
  rw [h4, o3]
theorem box_vs {l : List (Int × Int)} {s : Int} {v : Int × Int} {i : Int} (h0 : 0 ≤ s) (h1 : s < (l.length : Int)) (hi : 0 ≤ i) : (l.set s.toNat v).getD i.toNat (0, 0) = if i = s then v else l.getD i.toNat (0, 0) := getD_set2 h0 h1 hi
end Go.Proofs.Ytepddopgmhdllaa.Eng
