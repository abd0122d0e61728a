/- Plain: an object is made: what is known of the arena behind it. -/
import Derived.Test.YtepddopgmhdllaaBkR
import Derived.Test.YtepddopgmhdllaaQ2
import Derived.Test.YtepddopgmhdllaaBkT0
import Derived.Test.YtepddopgmhdllaaBkH
namespace Go.Proofs.Ytepddopgmhdllaa.Ar
open Go.Proofs.Ytepddopgmhdllaa.Base
/-- a new arena -/
def fresh (s n : Int) : Ar := { ws := List.replicate (2 * s).toNat 0, semi := s, to := 0, top := 1, cyc := false, scan := 0, old := 0, copied := 0, serial := 1, vs := List.replicate n.toNat (0, 0) }
/-- a box that is made -/
def Ar.cellR (A : Ar) (r s : Int) : Ar × Int :=
  if (A.ask 5 2).2.2 = 0 then ({ (A.ask 5 2).1.putV ((A.ask 5 2).2.1 + 1) ((A.ask 5 2).1.vs.getD r.toNat (0, 0)).1 ((A.ask 5 2).1.vs.getD r.toNat (0, 0)).2 with vs := (A.ask 5 2).1.vs.set s.toNat (9, (A.ask 5 2).2.1) }, 0)
  else ((A.ask 5 2).1, (A.ask 5 2).2.2)
end Go.Proofs.Ytepddopgmhdllaa.Ar
namespace Go.Proofs.Ytepddopgmhdllaa.Eng
open Go Go.RowKit Go.Proofs.Ytepddopgmhdllaa.Sl Go.Proofs.Ytepddopgmhdllaa.Ar Go.Proofs.Ytepddopgmhdllaa.Base
set_option linter.unusedVariables false
set_option linter.unusedSimpArgs false
variable {A B : Ar} {m : List Int}
theorem g_rep (n : Nat) (q : Int) : g (List.replicate n 0) q = 0 := by
  unfold g; rw [List.getD_eq_getElem?_getD, List.getElem?_replicate]; split <;> rfl
theorem v_rep (n : Nat) (i : Nat) : (List.replicate n ((0 : Int), (0 : Int))).getD i (0, 0) = (0, 0) := by
  rw [List.getD_eq_getElem?_getD, List.getElem?_replicate]; split <;> rfl
theorem fresh_ok {s n : Int} (hs : 256 ≤ s ∧ s ≤ 4000) (hn : 0 ≤ n ∧ n ≤ 24) : ∃ m, SI (fresh s n) m ∧ TX (fresh s n) m ∧ Still (fresh s n) m := by
  have gz : ∀ q : Int, g (List.replicate (2 * s).toNat 0) q = 0 := g_rep _
  have cf : ¬ (fresh s n).cyc = true := by show ¬ false = true; decide
  have hS : S2 (fresh s n).ws (List.replicate (2 * s).toNat 0) (fresh s n).ws.length = 0 := S2_none (fun q _ => by rw [gz]; decide) _
  have hl : ((fresh s n).ws.length : Int) = 2 * s := by show ((List.replicate (2 * s).toNat (0 : Int)).length : Int) = _; simp; omega
  have vz : ∀ i : Int, (fresh s n).vs.getD i.toNat (0, 0) = (0, 0) := fun i => v_rep _ _
  refine ⟨List.replicate (2 * s).toNat 0, ⟨fun p => by have := gz p; show 0 ≤ g (List.replicate (2 * s).toNat 0) p ∧ g (List.replicate (2 * s).toNat 0) p < 18446744073709551616; omega, hl, hs, .inl rfl, by show _ = (List.replicate (2 * s).toNat (0 : Int)).length; rfl, fun q _ => .inl (gz q), by show 0 * s + 1 ≤ 1; omega, fun q _ e => by rw [gz] at e; omega, fun q _ e => by rw [gz] at e; omega, fun q _ e => by rw [gz] at e; omega, fun p q _ _ e => by rw [gz, gz] at e; omega, fun p q _ e => by rw [gz] at e; omega, fun i _ _ hr => ?_, ?_, ?_, fun c => absurd c cf, Int.le_refl _, fun c => absurd c cf, fun p q _ e => by rw [gz] at e; omega, fun i _ _ => ?_, fun p _ e => by rw [gz] at e; omega⟩,
    ⟨.inl (by show 0 * s + 1 = 1; omega), fun _ => ⟨rfl, rfl, rfl⟩, fun c => absurd c cf, Int.le_refl _, fun c => absurd c cf, fun c => absurd c cf, fun c => absurd c cf, fun c => absurd c cf, fun p q _ _ e => by rw [gz] at e; omega, fun p _ e => by rw [gz] at e; omega, fun p q _ _ _ e => by rw [gz] at e; omega, fun p q _ e => by rw [gz] at e; omega, fun p _ e => by rw [gz] at e; omega, fun c => absurd c cf⟩, fun _ q _ => by rw [gz]; decide⟩
  · exfalso
    dsimp only [rT] at hr
    rw [vz] at hr
    exact absurd hr (by decide)
  · rw [hS]; show (1 : Int) + 0 ≤ (0 + 1) * s; omega
  · rw [hS]; show (0 : Int) ≤ 0 ∧ (0 : Int) + 0 ≤ 8000; omega
  · dsimp only [rT, rN]
    rw [vz]
    exact ⟨fun c => absurd c (by decide), by show ValP 0 0; unfold ValP; omega, by decide⟩
theorem SI.ask1X (h : SI A m) (x : TX A m) : ∃ m', SI A.ask1 m' ∧ TX A.ask1 m' ∧ RR A A.ask1 := by
  unfold Ar.ask1
  split
  · exact h.stpX x 8001 2
  · rename_i hc
    have hc : A.cyc = false := by simpa using hc
    split
    · obtain ⟨m1, h1, x1, r1⟩ := h.flipX x hc
      obtain ⟨m2, h2, x2, r2⟩ := h1.stpX x1 8001 2
      exact ⟨m2, h2, x2, r1.trans r2⟩
    · exact ⟨m, h, x, RR.refl⟩
theorem SI.ask2X (h : SI A m) (x : TX A m) (n : Int) : ∃ m', SI (A.ask2 n) m' ∧ TX (A.ask2 n) m' ∧ RR A (A.ask2 n) := by
  obtain ⟨m1, h1, x1, r1⟩ := h.ask1X x
  unfold Ar.ask2
  split
  · obtain ⟨m2, h2, x2, r2, -⟩ := h1.colX x1
    exact ⟨m2, h2, x2, r1.trans r2⟩
  · exact ⟨m1, h1, x1, r1⟩
theorem SI.fr_le (h : SI A m) : A.fr ≤ A.semi - 1 := by
  have hv := h.hv
  have htp := h.tp
  have hS := S2_0 A.ws m A.ws.length
  unfold Ar.fr
  split
  · rename_i c
    have := h.cq c
    have := h.cp
    omega
  · omega
/-- a place is asked for where there is room -/
theorem SI.make (h : SI A m) (x : TX A m) {k s : Int} (hf : s + 1 ≤ A.fr) : ∃ B mB, A.ask k s = (B.mkO k s, B.top, 0) ∧ SI B mB ∧ TX B mB ∧ Still B mB ∧ RR A B ∧ B.ws.length = A.ws.length ∧ s + 1 ≤ B.fr ∧ A.fr ≤ B.fr ∧ B.serial = A.serial := by
  have hle := h.fr_le
  obtain ⟨m1, h1, x1, r1⟩ := h.ask2X x (s + 1)
  obtain ⟨m2, h2, x2, t2, -⟩ := norm_ok h1 x1
  obtain ⟨_, -, l1, -⟩ := h.ask2 (s + 1)
  have hfr := h.fr_ask2 (s + 1)
  exact ⟨A.ask2 (s + 1), m2, h.ask_done (by omega) hf, h2, x2, t2, r1, l1, by omega, hfr, r1.sr⟩
/-- a box is made -/
theorem SI.newCell (h : SI A m) (x : TX A m) (hsr : 1 ≤ A.serial) {r s : Int} (hf : 3 ≤ A.fr) (hr0 : 0 ≤ r) (hr1 : r < (A.vs.length : Int)) (hs0 : 0 ≤ s) (hs1 : s < (A.vs.length : Int)) (hn : ∀ i : Int, 0 ≤ i → i < (A.vs.length : Int) → isRef (rT A i) ≠ true → -9223372036854775808 ≤ rN A i ∧ rN A i ≤ 9223372036854775807) :
    ∃ B mB A' m', A.cellR r s = (A', 0) ∧ SI B mB ∧ RR A B ∧ SI A' m' ∧ TX A' m' ∧ A'.ws.length = A.ws.length ∧ A'.vs = B.vs.set s.toNat (9, B.top) ∧ A.fr - 3 ≤ A'.fr ∧ A'.serial = A.serial ∧ 1 ≤ B.top ∧ g mB B.top ≠ 1 ∧ g A'.ws (B.top + 1) = (B.vs.getD r.toNat (0, 0)).1 ∧ g A'.ws (B.top + 2) = w64 (B.vs.getD r.toNat (0, 0)).2 ∧ g A'.ws B.top = hWord 5 2 0 ∧
      (∀ q : Int, 0 ≤ q → g m' q = if q = B.top then 1 else g mB q) ∧ ∀ q j : Int, 0 ≤ q → g mB q = 1 → 0 ≤ j → j ≤ hs (g B.ws q) → g A'.ws (q + j) = g B.ws (q + j) := by
  obtain ⟨B, mB, ea, hB, xB, tB, rr, lB, fB, fAB, sB⟩ := h.make x (k := 5) (s := 2) hf
  have nb : ¬ BornP 5 := by decide
  have bn : B.born 5 = 0 := by unfold Ar.born; rw [if_neg nb]
  have hh : HeadP 5 2 (B.born 5) := by rw [bn]; decide
  have hv := hB.hv
  have hse := hB.se
  have hln := hB.ln
  obtain ⟨room1, room2, room3, room4⟩ := hB.room (n := 3) (by omega)
  have tf := hB.top_free
  have rl := rr.vl
  obtain ⟨k1, k2, k3⟩ := hB.rtk r hr0 (by omega)
  have krt := hB.rts r hr0 (by omega)
  dsimp only [rT, rN] at k1 k2 k3 krt
  have hn64 : -9223372036854775808 ≤ (B.vs.getD r.toNat (0, 0)).2 ∧ (B.vs.getD r.toNat (0, 0)).2 ≤ 9223372036854775807 := by
    by_cases c : isRef (rT A r) = true
    · have c' : isRef (rT B r) = true := by rw [rr.tg r hr0 hr1]; exact c
      have := krt c'
      have := GI.lt hB (n := (B.vs.getD r.toNat (0, 0)).2) this.1 this.2.1
      omega
    · have := rr.nr r hr0 hr1 c
      have := hn r hr0 hr1 c
      show -9223372036854775808 ≤ rN B r ∧ rN B r ≤ 9223372036854775807
      omega
  generalize hT : (B.vs.getD r.toNat (0, 0)).1 = t at *
  generalize hN : (B.vs.getD r.toNat (0, 0)).2 = n at *
  have et := valTag k2
  have hsl : (zeroW (B.ws.set B.top.toNat (hWord 5 2 (B.born 5))) (B.top + 1) 2).length = B.ws.length := by rw [length_zeroW, List.length_set]
  have gw : ∀ q : Int, 0 ≤ q → g (((zeroW (B.ws.set B.top.toNat (hWord 5 2 (B.born 5))) (B.top + 1) 2).set (B.top + 1).toNat (w64 t)).set (B.top + 1 + 1).toNat (w64 n)) q = if q = B.top + 2 then w64 n else if q = B.top + 1 then t else if q = B.top then hWord 5 2 0 else g B.ws q := fun q hq => by
    rw [g_set (by omega) (by rw [List.length_set, hsl]; omega) hq, show B.top + 1 + 1 = B.top + 2 by omega]
    split
    · rfl
    · rw [g_set (by omega) (by rw [hsl]; omega) hq, et]
      split
      · rfl
      · rw [g_zeroW hq, if_neg (by omega), g_set (by omega) (by omega) hq, bn]
  have hwl : (((zeroW (B.ws.set B.top.toNat (hWord 5 2 (B.born 5))) (B.top + 1) 2).set (B.top + 1).toNat (w64 t)).set (B.top + 1 + 1).toNat (w64 n)).length = B.ws.length := by rw [List.length_set, List.length_set, hsl]
  have ec : A.cellR r s = ({ B.with 5 2 (((zeroW (B.ws.set B.top.toNat (hWord 5 2 (B.born 5))) (B.top + 1) 2).set (B.top + 1).toNat (w64 t)).set (B.top + 1 + 1).toNat (w64 n)) with vs := B.vs.set s.toNat (9, B.top) }, 0) := by
    unfold Ar.cellR
    rw [ea]
    dsimp only
    rw [if_pos rfl]
    show (({ (B.mkO 5 2).putV (B.top + 1) ((B.vs.getD r.toNat (0, 0)).1) ((B.vs.getD r.toNat (0, 0)).2) with vs := B.vs.set s.toNat (9, B.top) } : Ar), (0 : Int)) = _
    rw [hT, hN]; rfl
  generalize hws : (((zeroW (B.ws.set B.top.toNat (hWord 5 2 (B.born 5))) (B.top + 1) 2).set (B.top + 1).toNat (w64 t)).set (B.top + 1 + 1).toNat (w64 n)) = ws at *
  have g1 : g ws (B.top + 1) = t := by rw [gw _ (by omega), if_neg (by omega), if_pos rfl]
  have g2 : g ws (B.top + 1 + 1) = w64 n := by rw [gw _ (by omega), if_pos (by omega)]
  have rv1 : rv ws (B.top + 1) = true := by rw [rv_eq, g1, g2, sgW hn64]; exact decide_eq_true k2
  have rT1 : rvT ws (B.top + 1) = t := by unfold rvT; rw [if_pos rv1, g1]
  have rN1 : rvN ws (B.top + 1) = n := by unfold rvN; rw [if_pos rv1, g2, sgW hn64]
  have w64r := w64_r n
  have htl := valLe k2
  have hNP : NewP B mB 5 2 ws := by
    refine ⟨hh, hwl, fun j => ?_, fun q hq c => ?_, ?_, fun q hq => ?_, fun c => by omega, ?_⟩
    · rw [g_toNat, gw _ (by omega)]
      split
      · exact w64r
      · split
        · omega
        · split
          · unfold hWord; omega
          · exact hB.wf _
    · rw [gw q hq, if_neg (by omega), if_neg (by omega), if_neg (by omega)]
    · rw [gw _ (by omega), if_neg (by omega), if_neg (by omega), if_pos rfl, bn]
    · have := slots5 hq
      subst this
      rw [rv1, rT1, rN1]
      refine ⟨rfl, by unfold SlT; omega, fun hrf => ?_⟩
      obtain ⟨y1, y2, y3⟩ := krt hrf
      have y4 := y3 (by omega)
      have ew : B.where_ n = n := by unfold Ar.where_; rw [if_neg (by show ¬ isFw (g B.ws n) = true; rw [hOk_fw (hB.one n y1 y4).2.1]; decide)]
      refine ⟨y1, y4, ?_⟩
      have := k1 hrf
      rw [ew] at this; exact this
    · rw [bn]
      have e5 : hk (hWord 5 2 0) = 5 := by decide
      exact ⟨by rw [e5]; omega, by rw [e5]; omega, by rw [e5]; omega, by rw [e5]; omega⟩
  obtain ⟨m', h', x', st', gm⟩ := hB.new xB tB (k := 5) (s := 2) (ws := ws) fB (by omega) hNP
  have htop : g m' B.top = 1 := by rw [gm _ (by omega), if_pos rfl]
  have hset := h'.setR x' (i := s) (t := 9) (n := B.top) hs0 (by show s < (B.vs.length : Int); omega) (by unfold ValP; omega) (by decide) (fun _ => ⟨by omega, htop, by
    show hk (g ws B.top) = kd 9
    rw [gw _ (by omega), if_neg (by omega), if_neg (by omega), if_pos rfl]; decide⟩)
  refine ⟨B, mB, _, m', ec, hB, rr, hset.1, hset.2, hwl.trans lB, rfl, ?_, ?_, room4, tf.1, by rw [hT]; exact g1, by rw [hN, show B.top + 2 = B.top + 1 + 1 by omega]; exact g2, ?_, gm, fun q j hq e hj hj2 => ?_⟩
  · show A.fr - 3 ≤ (B.with 5 2 ws).fr
    have : (B.with 5 2 ws).fr = B.fr - 3 := by unfold Ar.fr Ar.with; dsimp only; omega
    omega
  · show (if BornP 5 then B.serial + 1 else B.serial) = A.serial
    rw [if_neg nb, sB]
  · show g ws B.top = _
    rw [gw _ (by omega), if_neg (by omega), if_neg (by omega), if_pos rfl]
  · have := hB.one q hq e
    show g ws (q + j) = _
    rw [gw _ (by omega), if_neg (by omega), if_neg (by omega), if_neg (by omega)]
end Go.Proofs.Ytepddopgmhdllaa.Eng
namespace Go.Proofs.Ytepddopgmhdllaa.Eng
open Go Go.RowKit Go.Proofs.Ytepddopgmhdllaa.Sl Go.Proofs.Ytepddopgmhdllaa.Ar Go.Proofs.Ytepddopgmhdllaa.Base
set_option linter.unusedVariables false
set_option linter.unusedSimpArgs false
variable {A B : Ar} {m : List Int} {x : Int}
/-- a box at p that holds a number -/
def BxAt (A : Ar) (p x : Int) : Prop := g A.ws (p + 1) = 2 ∧ g A.ws (p + 2) = x
structure BoxI (A : Ar) (x : Int) : Prop where
  mS : ∃ m, SI A m ∧ TX A m
  sr : A.serial = 1
  vl : A.vs.length = 5
  ln : A.ws.length = 600
  t1 : rT A 1 = 9
  t2 : rT A 2 = 9
  ne : rN A 1 ≠ rN A 2
  c1 : BxAt A (rN A 1) x
  c2 : BxAt A (rN A 2) x
theorem BoxI.ok (h : BoxI A x) : A.ok = true := by
  obtain ⟨m, hS, hX⟩ := h.mS
  exact ok_of hS hX (by rw [h.sr]; omega) (by rw [h.vl]; omega)
/-- a Root that is a box -/
theorem SI.box (h : SI A m) {i : Int} (h0 : 0 ≤ i) (h1 : i < (A.vs.length : Int)) (ht : rT A i = 9) : 0 ≤ rN A i ∧ g m (rN A i) = 1 ∧ hk (g A.ws (rN A i)) = 5 ∧ hs (g A.ws (rN A i)) = 2 ∧ hOk (g A.ws (rN A i)) = true ∧ A.where_ (rN A i) = rN A i := by
  have hr : isRef (rT A i) = true := by rw [ht]; decide
  obtain ⟨a, b, c⟩ := h.rts i h0 h1 hr
  have d := c h1
  have ok := (h.one _ a d).2.1
  have ew : A.where_ (rN A i) = rN A i := by unfold Ar.where_; rw [if_neg (by show ¬ isFw (g A.ws (rN A i)) = true; rw [hOk_fw ok]; decide)]
  have e := (h.rtk i h0 h1).1 hr
  rw [ew, ht] at e
  have e5 : hk (g A.ws (rN A i)) = 5 := e
  have hz : SizeP (hk (g A.ws (rN A i))) (hs (g A.ws (rN A i))) := (of_decide_eq_true (show decide (HeadP _ _ _) = true from ok)).1
  exact ⟨a, d, e5, by unfold SizeP at hz; omega, ok, ew⟩
theorem boxPure {p : Int} (h5 : hk (g A.ws p) = 5) (h2 : hs (g A.ws p) = 2) (hc : g A.ws (p + 1) = 2) : Pure A p := by
  intro q hq
  rw [h5, h2] at hq
  have := slots5 hq
  subst this
  have : rvT A.ws (p + 1) = 2 ∨ rvT A.ws (p + 1) = 0 := by
    unfold rvT; split
    · exact .inl hc
    · exact .inr rfl
  rcases this with e | e <;> rw [e] <;> decide
theorem BoxI.rr (h : BoxI A x) (hm : SI A m) (hB : ∃ m', SI B m' ∧ TX B m') (r : RR A B) (hl : B.ws.length = A.ws.length) : BoxI B x := by
  have hvl := h.vl
  have key : ∀ i : Int, 0 ≤ i → i < 5 → rT A i = 9 → BxAt A (rN A i) x → BxAt B (rN B i) x := fun i h0 h1 ht hc => by
    obtain ⟨a, b, c, d, e, f⟩ := hm.box h0 (by omega) ht
    have hr : isRef (rT A i) = true := by rw [ht]; decide
    obtain ⟨-, w⟩ := r.cn i h0 (by omega) hr (boxPure c d hc.1)
    exact ⟨(w 1 (by omega) (by omega)).trans hc.1, (w 2 (by omega) (by omega)).trans hc.2⟩
  have r1 : isRef (rT A 1) = true := by rw [h.t1]; decide
  have r2 : isRef (rT A 2) = true := by rw [h.t2]; decide
  refine ⟨hB, r.sr.trans h.sr, r.vl.trans h.vl, hl.trans h.ln, (r.tg 1 (by omega) (by omega)).trans h.t1, (r.tg 2 (by omega) (by omega)).trans h.t2, fun e => h.ne (r.ij 1 2 (by omega) (by omega) (by omega) (by omega) r1 r2 e), key 1 (by omega) (by omega) h.t1 h.c1, key 2 (by omega) (by omega) h.t2 h.c2⟩
theorem BoxI.flipR (h : BoxI A x) : BoxI A.flipR.1 x := by
  unfold Ar.flipR
  split
  · rename_i c
    obtain ⟨m, hS, hX⟩ := h.mS
    obtain ⟨m', h1, x1, r1⟩ := hS.flipX hX c.2
    obtain ⟨_, -, l1, -⟩ := hS.flip c.2
    exact h.rr hS ⟨m', h1, x1⟩ r1 l1
  · exact h
theorem stp_len (h : SI A m) (n : Int) : (Ar.stp 8001 A.over 0 n).1.ws.length = A.ws.length := by
  obtain ⟨o1, o2, o3, o4, o5⟩ := over_same (A := A)
  obtain ⟨m', h1, h2, h3, h4, -⟩ := stp_all 8001 A.over m 0 n h.over (fun c => by obtain ⟨a, b⟩ := over_ne c; rw [a]; exact b)
  rw [h4, o3]
theorem BoxI.stepR (h : BoxI A x) (n : Int) : BoxI (A.stepR n).1 x := by
  unfold Ar.stepR
  split
  · obtain ⟨m, hS, hX⟩ := h.mS
    obtain ⟨m', h1, x1, r1⟩ := hS.stpX hX 8001 n
    exact h.rr hS ⟨m', h1, x1⟩ r1 (stp_len hS n)
  · exact h
theorem BoxI.colR (h : BoxI A x) : BoxI A.colR.1 x := by
  unfold Ar.colR
  split
  · obtain ⟨m, hS, hX⟩ := h.mS
    obtain ⟨m', h1, x1, r1, -⟩ := hS.colX hX
    obtain ⟨_, -, l1, -⟩ := hS.col
    exact h.rr hS ⟨m', h1, x1⟩ r1 l1
  · exact h
theorem getD_rep5 (i : Nat) : (List.replicate 5 ((0 : Int), (0 : Int))).getD i (0, 0) = (0, 0) := v_rep 5 i
/-- the arena in which a Root is a number -/
def box1 (x : Int) : Ar := { fresh 300 5 with vs := (List.replicate 5 (0, 0)).set 0 (2, x) }
theorem box1_ok (x : Int) : (∃ m, SI (box1 x) m ∧ TX (box1 x) m) ∧ (fresh 300 5).setRootR 0 2 x = (box1 x, true) := by
  obtain ⟨m, h, hx, hst⟩ := fresh_ok (s := 300) (n := 5) (by omega) (by omega)
  have hset := h.setR hx (i := 0) (t := 2) (n := x) (by omega) (by show (0 : Int) < ((List.replicate 5 ((0 : Int), (0 : Int))).length : Int); simp) (by unfold ValP; omega) (by decide) (fun c => absurd c (by decide))
  refine ⟨⟨m, hset⟩, ?_⟩
  unfold Ar.setRootR
  rw [if_pos ⟨ok_of h hx (by show (1 : Int) ≤ 1 ∧ (1 : Int) ≤ 1000000000; omega) (by show (List.replicate 5 ((0 : Int), (0 : Int))).length ≤ 24; simp), by decide, decide_eq_true (by unfold ValP; omega), by decide⟩]
  rfl
theorem box_vs {l : List (Int × Int)} {s : Int} {v : Int × Int} {i : Int} (h0 : 0 ≤ s) (h1 : s < (l.length : Int)) (hi : 0 ≤ i) : (l.set s.toNat v).getD i.toNat (0, 0) = if i = s then v else l.getD i.toNat (0, 0) := getD_set2 h0 h1 hi
/-- two boxes are made -/
theorem box3_ok (hx : 0 ≤ x ∧ x ≤ 255) : ∃ A2 A3, (box1 x).cellR 0 1 = (A2, 0) ∧ A2.cellR 0 2 = (A3, 0) ∧ (A2.ok = true ∧ A2.vs.length = 5 ∧ A2.ws.length = 600 ∧ (∃ m, SI A2 m ∧ TX A2 m) ∧ A2.serial = 1 ∧ 3 ≤ A2.fr) ∧ BoxI A3 x ∧ rT A3 0 = 2 := by
  obtain ⟨⟨m0, h0, x0⟩, -⟩ := box1_ok x
  have v5 : (box1 x).vs.length = 5 := by show ((List.replicate 5 ((0 : Int), (0 : Int))).set 0 (2, x)).length = 5; simp
  have f0 : (box1 x).fr = 299 := by
    have : (box1 x).fr = (0 + 1) * 300 - 1 - 0 := rfl
    rw [this]; rfl
  have gv : ∀ i : Int, 0 ≤ i → (box1 x).vs.getD i.toNat (0, 0) = if i = 0 then (2, x) else (0, 0) := fun i hi => by
    have := box_vs (l := List.replicate 5 ((0 : Int), (0 : Int))) (s := 0) (v := (2, x)) (i := i) (by omega) (by simp) hi
    rw [v_rep] at this
    exact this
  obtain ⟨B, mB, A2, m2, e2, hB, rr, h2, x2, l2, v2, f2, s2, b1, b2, c1, c2, c3, gm, ww⟩ := h0.newCell x0 (by show (1 : Int) ≤ 1; omega) (r := 0) (s := 1) (by omega) (by omega) (by omega) (by omega) (by omega) (fun i a b _ => by
    dsimp only [rN]
    rw [gv i a]; split <;> dsimp only <;> omega)
  have vB : B.vs.length = 5 := rr.vl.trans v5
  have v25 : A2.vs.length = 5 := by rw [v2, List.length_set]; exact vB
  have tB0 : (B.vs.getD (0 : Int).toNat (0, 0)).1 = 2 := by
    have := rr.tg 0 (by omega) (by omega)
    dsimp only [rT] at this
    rw [this, gv 0 (by omega)]; rfl
  have nB0 : (B.vs.getD (0 : Int).toNat (0, 0)).2 = x := by
    have := rr.nr 0 (by omega) (by omega) (by dsimp only [rT]; rw [gv 0 (by omega), if_pos rfl]; exact (by decide : isRef 2 ≠ true))
    dsimp only [rN] at this
    rw [this, gv 0 (by omega)]; rfl
  have wx : w64 x = x := by unfold w64; omega
  rw [tB0] at c1; rw [nB0, wx] at c2
  have g2 : ∀ i : Int, 0 ≤ i → A2.vs.getD i.toNat (0, 0) = if i = 1 then (9, B.top) else B.vs.getD i.toNat (0, 0) := fun i hi => by rw [v2]; exact box_vs (by omega) (by omega) hi
  have vB' : ∀ i : Int, 0 ≤ i → i < 5 → isRef (B.vs.getD i.toNat (0, 0)).1 = false := fun i a b => by
    have := rr.tg i a (by omega)
    dsimp only [rT] at this
    rw [this, gv i a]; split <;> rfl
  have nB : ∀ i : Int, 0 ≤ i → i < 5 → 0 ≤ (B.vs.getD i.toNat (0, 0)).2 ∧ (B.vs.getD i.toNat (0, 0)).2 ≤ 255 := fun i a b => by
    have := rr.nr i a (by omega) (by dsimp only [rT]; rw [gv i a]; split; exact (by decide : isRef 2 ≠ true); exact (by decide : isRef 0 ≠ true))
    dsimp only [rN] at this
    rw [this, gv i a]; split <;> dsimp only <;> omega
  have sz : (box1 x).serial = 1 := rfl
  obtain ⟨B', mB', A3, m3, e3, hB', rr', h3, x3, l3, v3, f3, s3, b1', b2', c1', c2', c3', gm', ww'⟩ := h2.newCell x2 (by rw [s2, sz]; omega) (r := 0) (s := 2) (by omega) (by omega) (by omega) (by omega) (by omega) (fun i a b hr => by
    dsimp only [rN, rT] at hr ⊢
    rw [g2 i a] at hr ⊢
    split at hr
    · exact absurd (show isRef (9 : Int) = true by decide) hr
    · rename_i c
      rw [if_neg c]
      have := nB i a (by omega)
      omega)
  have lw : (box1 x).ws.length = 600 := by show (List.replicate (2 * (300 : Int)).toNat (0 : Int)).length = 600; rw [List.length_replicate]; rfl
  have vB2 : B'.vs.length = 5 := rr'.vl.trans v25
  have g3 : ∀ i : Int, 0 ≤ i → A3.vs.getD i.toNat (0, 0) = if i = 2 then (9, B'.top) else B'.vs.getD i.toNat (0, 0) := fun i hi => by rw [v3]; exact box_vs (by omega) (by omega) hi
  have t21 : rT A2 1 = 9 := by dsimp only [rT]; rw [g2 1 (by omega)]; rfl
  have n21 : rN A2 1 = B.top := by dsimp only [rN]; rw [g2 1 (by omega)]; rfl
  have t20 : rT A2 0 = 2 := by dsimp only [rT]; rw [g2 0 (by omega), if_neg (by omega)]; exact tB0
  have n20 : rN A2 0 = x := by dsimp only [rN]; rw [g2 0 (by omega), if_neg (by omega)]; exact nB0
  -- the first box behind the second call's copying
  have tB1 : rT B' 1 = 9 := (rr'.tg 1 (by omega) (by omega)).trans t21
  have tB20 : rT B' 0 = 2 := (rr'.tg 0 (by omega) (by omega)).trans t20
  have nB20 : rN B' 0 = x := (rr'.nr 0 (by omega) (by omega) (by rw [t20]; decide)).trans n20
  obtain ⟨p0, p1, p2, p3, p4, p5⟩ := h2.box (i := 1) (by omega) (by omega) t21
  have hc2 : BxAt A2 (rN A2 1) x := by rw [n21]; exact ⟨c1, c2⟩
  obtain ⟨-, w⟩ := rr'.cn 1 (by omega) (by omega) (by rw [t21]; decide) (boxPure p2 p3 hc2.1)
  obtain ⟨q0, q1, q2, q3, q4, q5⟩ := hB'.box (i := 1) (by omega) (by omega) tB1
  have hcB : BxAt B' (rN B' 1) x := ⟨(w 1 (by omega) (by omega)).trans hc2.1, (w 2 (by omega) (by omega)).trans hc2.2⟩
  have e31 : rT A3 1 = 9 ∧ rN A3 1 = rN B' 1 := by dsimp only [rT, rN]; rw [g3 1 (by omega), if_neg (by omega)]; exact ⟨tB1, rfl⟩
  have e32 : rT A3 2 = 9 ∧ rN A3 2 = B'.top := by dsimp only [rT, rN]; rw [g3 2 (by omega), if_pos rfl]; exact ⟨rfl, rfl⟩
  have t0' : (B'.vs.getD (0 : Int).toNat (0, 0)).1 = 2 := tB20
  have n0' : (B'.vs.getD (0 : Int).toNat (0, 0)).2 = x := nB20
  rw [t0'] at c1'; rw [n0', wx] at c2'
  refine ⟨A2, A3, e2, e3, ⟨ok_of h2 x2 (by rw [s2, sz]; omega) (by omega), v25, l2.trans lw, ⟨m2, h2, x2⟩, s2.trans sz, by omega⟩, ⟨⟨m3, h3, x3⟩, s3.trans (s2.trans sz), by rw [v3, List.length_set]; exact vB2, l3.trans (l2.trans lw), e31.1, e32.1, fun e => ?_, ?_, ?_⟩, ?_⟩
  · rw [e31.2, e32.2] at e
    rw [e] at q1
    exact b2' q1
  · rw [e31.2]
    exact ⟨(ww' _ 1 q0 q1 (by omega) (by omega)).trans hcB.1, (ww' _ 2 q0 q1 (by omega) (by omega)).trans hcB.2⟩
  · rw [e32.2]; exact ⟨c1', c2'⟩
  · dsimp only [rT]; rw [g3 0 (by omega), if_neg (by omega)]; exact tB20
end Go.Proofs.Ytepddopgmhdllaa.Eng
namespace Go.Proofs.Ytepddopgmhdllaa.Eng
open Go Go.RowKit Go.Proofs.Ytepddopgmhdllaa.Sl Go.Proofs.Ytepddopgmhdllaa.Ar Go.Proofs.Ytepddopgmhdllaa.Base
set_option linter.unusedVariables false
set_option linter.unusedSimpArgs false
variable {A B : Ar} {m : List Int} {x : Int}
/-- a slot that is no reference is loaded as it is -/
theorem ld_pure {a : Int} (hw : Wf A.ws) (hr : rv A.ws a = true) (hn : isRef (rvT A.ws a) = false) (h0 : 0 ≤ a) (h1 : a + 1 < (A.ws.length : Int)) : A.ld a = A ∧ A.ldN a = rvN A.ws a := by
  have e : A.fwd (rvT A.ws a) (rvN A.ws a) = (A, rvN A.ws a) := by unfold Ar.fwd; rw [if_neg (fun c => by rw [hn] at c; cases c.1)]
  unfold Ar.ld Ar.ldN
  split
  · refine ⟨?_, by rw [e]⟩
    unfold Ar.fwS
    rw [e, (rv_w64 hw hr).2]
    dsimp only
    rw [set_same (by omega) h1]
  · exact ⟨rfl, rfl⟩
theorem slots52 : slots 5 2 = [1] := by decide
/-- a box is loaded into a Root -/
theorem box_load (hS : SI A m) (hX : TX A m) (hs : A.serial = 1) (hv : A.vs.length = 5) {r s t n : Int} (h0 : 0 ≤ r) (h1 : r < 5) (h2 : 0 ≤ s) (h3 : s < 5) (ht : rT A r = 9) (hr : rv A.ws (rN A r + 1) = true) (hT : rvT A.ws (rN A r + 1) = t) (hN : rvN A.ws (rN A r + 1) = n) (hp : isRef t = false) (hVP : ValP t n) :
    A.loadR r 0 s = ({ A with vs := A.vs.set s.toNat (t, n) }, true) ∧ SI { A with vs := A.vs.set s.toNat (t, n) } m ∧ TX { A with vs := A.vs.set s.toNat (t, n) } m := by
  obtain ⟨a, b, c, d, e, f⟩ := hS.box h0 (by omega) ht
  have hl := (GI.lt hS a (by omega)).2
  have ho := (hS.one _ a b).2.2.1
  have hrm := hS.rm
  have hS0 := S2_0 A.ws m A.ws.length
  have hv' := hS.hv
  have hln := hS.ln
  have hse := hS.se
  have hld := ld_pure hS.wf hr (by rw [hT]; exact hp) (by omega) (by omega)
  have esl : A.slotsOf (A.vs.getD r.toNat (0, 0)).2 = [1] := by
    show slots (rk (g A.ws (rN A r))) (rs (g A.ws (rN A r))) = [1]
    rw [(rsR' e).2.2.1, (rsR' e).2.2.2.1, c, d]; exact slots52
  have ht' : (A.vs.getD r.toNat (0, 0)).1 = 9 := ht
  have hok := ok_of hS hX (by rw [hs]; omega) (by omega)
  have hset := hS.setR hX (i := s) (t := t) (n := n) h2 (by omega) hVP (by rintro rfl; exact absurd hp (by decide)) (fun c => by rw [hp] at c; cases c)
  refine ⟨?_, hset⟩
  unfold Ar.loadR
  rw [esl, ht', if_pos ⟨hok, decide_eq_true (by omega), decide_eq_true (by omega), by decide, by decide, by omega, by show (0 : Int) ≤ ((1 : Nat) : Int) - 1; omega⟩]
  show (({ A.ld (rN A r + 1) with vs := A.vs.set s.toNat (rvT A.ws (rN A r + 1), A.ldN (rN A r + 1)) } : Ar), true) = _
  rw [hld.1, hld.2, hT, hN]
theorem box_end (h : BoxI A x) (hx : 0 ≤ x ∧ x ≤ 255) : ∃ A4 A5 A6 A7, (A.setRootR 3 2 (-5) = (A4, true) ∧ A4.setCellR 1 3 = (A5, true) ∧ A5.loadR 1 0 3 = (A6, true) ∧ A6.loadR 2 0 4 = (A7, true)) ∧
    ((Wf A.ws ∧ Wf A4.ws ∧ Wf A5.ws ∧ Wf A6.ws ∧ Wf A7.ws) ∧ (A4.ws.length = 600 ∧ A5.ws.length = 600 ∧ A6.ws.length = 600 ∧ A7.ws.length = 600) ∧ A4.vs.length = 5 ∧ A5.vs.length = 5 ∧ A6.vs.length = 5 ∧ A7.vs.length = 5) ∧
    A7.sameR 1 2 = false ∧ A7.sameR 1 1 = true ∧ (A7.vs.getD (3 : Int).toNat (0, 0)).2 = -5 ∧ (A7.vs.getD (4 : Int).toNat (0, 0)).2 = x ∧ A7.ok = true := by
  obtain ⟨m, hS, hX⟩ := h.mS
  have hv := h.vl
  have hl := h.ln
  have e4 : A.setRootR 3 2 (-5) = ({ A with vs := A.vs.set (3 : Int).toNat (2, -5) }, true) := by
    unfold Ar.setRootR
    rw [if_pos ⟨h.ok, decide_eq_true (by omega), decide_eq_true (by unfold ValP; omega), by decide⟩]
  have s4 := hS.setR hX (i := 3) (t := 2) (n := -5) (by omega) (by omega) (by unfold ValP; omega) (by decide) (fun c => absurd c (by decide))
  have g4 : ∀ i : Int, 0 ≤ i → ({ A with vs := A.vs.set (3 : Int).toNat (2, -5) } : Ar).vs.getD i.toNat (0, 0) = if i = 3 then (2, -5) else A.vs.getD i.toNat (0, 0) := fun i hi => box_vs (by omega) (by omega) hi
  have v4 : ({ A with vs := A.vs.set (3 : Int).toNat (2, -5) } : Ar).vs.length = 5 := by show (List.set _ _ _).length = 5; rw [List.length_set]; exact hv
  have w4 : ({ A with vs := A.vs.set (3 : Int).toNat (2, -5) } : Ar).ws = A.ws := rfl
  have r4 : ({ A with vs := A.vs.set (3 : Int).toNat (2, -5) } : Ar).serial = 1 := h.sr
  generalize ({ A with vs := A.vs.set (3 : Int).toNat (2, -5) } : Ar) = A4 at *
  obtain ⟨h4, x4⟩ := s4
  have t41 : rT A4 1 = 9 := by dsimp only [rT]; rw [g4 1 (by omega), if_neg (by omega)]; exact h.t1
  have n41 : rN A4 1 = rN A 1 := by dsimp only [rN]; rw [g4 1 (by omega), if_neg (by omega)]
  have t42 : rT A4 2 = 9 := by dsimp only [rT]; rw [g4 2 (by omega), if_neg (by omega)]; exact h.t2
  have n42 : rN A4 2 = rN A 2 := by dsimp only [rN]; rw [g4 2 (by omega), if_neg (by omega)]
  have v43 : A4.vs.getD (3 : Int).toNat (0, 0) = (2, -5) := by rw [g4 3 (by omega), if_pos rfl]
  obtain ⟨a1, b1, c1, d1, e1, f1⟩ := h4.box (i := 1) (by omega) (by omega) t41
  obtain ⟨a2, b2, c2, d2, e2, f2⟩ := h4.box (i := 2) (by omega) (by omega) t42
  have ok4 := ok_of h4 x4 (by rw [r4]; omega) (by omega)
  obtain ⟨h5, x5, wo, wp, rv5, rT5, rN5⟩ := h4.setC x4 a1 b1 c1 (t := 2) (n := -5) (by unfold ValP; omega) (by decide) (by omega) (fun c => absurd c (by decide))
  have e5 : A4.setCellR 1 3 = (A4.putV (rN A4 1 + 1) 2 (-5), true) := by
    unfold Ar.setCellR
    rw [if_pos ⟨ok4, decide_eq_true (by omega), decide_eq_true (by omega), t41⟩, v43]
  have l5 : (A4.putV (rN A4 1 + 1) 2 (-5)).ws.length = A4.ws.length := by show (List.set (List.set _ _ _) _ _).length = _; rw [List.length_set, List.length_set]
  have v5 : (A4.putV (rN A4 1 + 1) 2 (-5)).vs = A4.vs := rfl
  have r5 : (A4.putV (rN A4 1 + 1) 2 (-5)).serial = 1 := r4
  have hne : rN A4 2 ≠ rN A4 1 := by rw [n41, n42]; exact fun e => h.ne e.symm
  have hb2 : g (A4.putV (rN A4 1 + 1) 2 (-5)).ws (rN A4 2 + 1) = 2 ∧ g (A4.putV (rN A4 1 + 1) 2 (-5)).ws (rN A4 2 + 2) = x := by
    rw [wo _ 1 a2 (.inl b2) hne (by omega) (by omega), wo _ 2 a2 (.inl b2) hne (by omega) (by omega), n42, w4]
    exact h.c2
  generalize hA5 : A4.putV (rN A4 1 + 1) 2 (-5) = A5 at *
  have q51 : rT A5 1 = 9 ∧ rN A5 1 = rN A4 1 := by dsimp only [rT, rN]; rw [v5]; exact ⟨t41, rfl⟩
  have q52 : rT A5 2 = 9 ∧ rN A5 2 = rN A4 2 := by dsimp only [rT, rN]; rw [v5]; exact ⟨t42, rfl⟩
  obtain ⟨e6, h6, x6⟩ := box_load h5 x5 r5 (by rw [v5]; exact v4) (r := 1) (s := 3) (t := 2) (n := -5) (by omega) (by omega) (by omega) (by omega) q51.1 (by rw [q51.2]; exact rv5) (by rw [q51.2]; exact rT5) (by rw [q51.2]; exact rN5) (by decide) (by unfold ValP; omega)
  have v6 : ({ A5 with vs := A5.vs.set (3 : Int).toNat (2, -5) } : Ar).vs.length = 5 := by show (List.set _ _ _).length = 5; rw [List.length_set, v5]; exact v4
  have g6 : ∀ i : Int, 0 ≤ i → ({ A5 with vs := A5.vs.set (3 : Int).toNat (2, -5) } : Ar).vs.getD i.toNat (0, 0) = if i = 3 then (2, -5) else A5.vs.getD i.toNat (0, 0) := fun i hi => box_vs (by omega) (by rw [v5]; omega) hi
  have w6 : ({ A5 with vs := A5.vs.set (3 : Int).toNat (2, -5) } : Ar).ws = A5.ws := rfl
  have r6 : ({ A5 with vs := A5.vs.set (3 : Int).toNat (2, -5) } : Ar).serial = 1 := r5
  generalize ({ A5 with vs := A5.vs.set (3 : Int).toNat (2, -5) } : Ar) = A6 at *
  have q61 : rT A6 1 = 9 ∧ rN A6 1 = rN A4 1 := by dsimp only [rT, rN]; rw [g6 1 (by omega), if_neg (by omega)]; exact q51
  have q62 : rT A6 2 = 9 ∧ rN A6 2 = rN A4 2 := by dsimp only [rT, rN]; rw [g6 2 (by omega), if_neg (by omega)]; exact q52
  have hv2 : ValP 2 x := by unfold ValP; omega
  have rv6 : rv A6.ws (rN A6 2 + 1) = true := by
    rw [q62.2, w6, rv_eq, hb2.1, show rN A4 2 + 1 + 1 = rN A4 2 + 2 by omega, hb2.2]
    exact decide_eq_true (by unfold ValP; omega)
  have rT6 : rvT A6.ws (rN A6 2 + 1) = 2 := by unfold rvT; rw [if_pos rv6, q62.2, w6]; exact hb2.1
  have rN6 : rvN A6.ws (rN A6 2 + 1) = x := by
    unfold rvN; rw [if_pos rv6, q62.2, w6, show rN A4 2 + 1 + 1 = rN A4 2 + 2 by omega, hb2.2]
    unfold sg; rw [if_pos (by omega)]
  obtain ⟨e7, h7, x7⟩ := box_load h6 x6 r6 v6 (r := 2) (s := 4) (t := 2) (n := x) (by omega) (by omega) (by omega) (by omega) q62.1 rv6 rT6 rN6 (by decide) hv2
  have v7 : ({ A6 with vs := A6.vs.set (4 : Int).toNat (2, x) } : Ar).vs.length = 5 := by show (List.set _ _ _).length = 5; rw [List.length_set]; exact v6
  have g7 : ∀ i : Int, 0 ≤ i → ({ A6 with vs := A6.vs.set (4 : Int).toNat (2, x) } : Ar).vs.getD i.toNat (0, 0) = if i = 4 then (2, x) else A6.vs.getD i.toNat (0, 0) := fun i hi => box_vs (by omega) (by omega) hi
  have w7 : ({ A6 with vs := A6.vs.set (4 : Int).toNat (2, x) } : Ar).ws = A6.ws := rfl
  have r7 : ({ A6 with vs := A6.vs.set (4 : Int).toNat (2, x) } : Ar).serial = 1 := r6
  refine ⟨A4, A5, A6, _, ⟨e4, e5, e6, e7⟩, ⟨⟨hS.wf, h4.wf, h5.wf, h6.wf, h7.wf⟩, ⟨by rw [w4]; exact hl, by rw [l5, w4]; exact hl, by rw [w6, l5, w4]; exact hl, by rw [w7, w6, l5, w4]; exact hl⟩, v4, by rw [v5]; exact v4, v6, v7⟩, ?_⟩
  generalize ({ A6 with vs := A6.vs.set (4 : Int).toNat (2, x) } : Ar) = A7 at *
  have q71 : rT A7 1 = 9 ∧ rN A7 1 = rN A4 1 := by dsimp only [rT, rN]; rw [g7 1 (by omega), if_neg (by omega)]; exact q61
  have q72 : rT A7 2 = 9 ∧ rN A7 2 = rN A4 2 := by dsimp only [rT, rN]; rw [g7 2 (by omega), if_neg (by omega)]; exact q62
  have ok7 := ok_of h7 x7 (by rw [r7]; omega) (by omega)
  have f71 := (h7.box (i := 1) (by omega) (by omega) q71.1).2.2.2.2.2
  have f72 := (h7.box (i := 2) (by omega) (by omega) q72.1).2.2.2.2.2
  refine ⟨?_, ?_, ?_, ?_, ok7⟩
  · unfold Ar.sameR
    rw [if_pos ⟨ok7, decide_eq_true (by omega), decide_eq_true (by omega)⟩]
    show A7.same (rT A7 1) (rN A7 1) (rT A7 2) (rN A7 2) = false
    unfold Ar.same
    rw [q71.1, q72.1, if_pos rfl, if_pos (by decide), if_neg (by decide), f71, f72, q71.2, q72.2]
    exact decide_eq_false (fun e => hne e.symm)
  · unfold Ar.sameR
    rw [if_pos ⟨ok7, decide_eq_true (by omega), decide_eq_true (by omega)⟩]
    show A7.same (rT A7 1) (rN A7 1) (rT A7 1) (rN A7 1) = true
    unfold Ar.same
    rw [q71.1, if_pos rfl, if_pos (by decide), if_neg (by decide)]
    exact decide_eq_true rfl
  · rw [g7 3 (by omega), if_neg (by omega), g6 3 (by omega), if_pos rfl]
  · rw [g7 4 (by omega), if_pos rfl]
end Go.Proofs.Ytepddopgmhdllaa.Eng
