/- Plain: FnTexts: texts stay what they are. -/
import Derived.Test.YtepddopgmhdllaaBkT
import Derived.Test.YtepddopgmhdllaaP9
import Derived.Test.YtepddopgmhdllaaBkT0
import Derived.Test.YtepddopgmhdllaaUQ
namespace Go.Proofs.Ytepddopgmhdllaa.Eng
open Go Go.RowKit Go.Proofs.Ytepddopgmhdllaa.Sl Go.Proofs.Ytepddopgmhdllaa.Ar Go.Proofs.Ytepddopgmhdllaa.Base
set_option linter.unusedVariables false
set_option linter.unusedSimpArgs false
variable {A B : Ar} {m : List Int} {i f : Int} {bs : List Int}
/-- the same words are the same text -/
theorem text_eq {p q : Int} (hw : ∀ j : Int, 0 ≤ j → j ≤ hs (g A.ws p) → g B.ws (q + j) = g A.ws (p + j)) (h0 : 0 ≤ A.textLen p) (hz : hs (g A.ws p) = 1 + (A.textLen p + 7) / 8) : B.text q = A.text p := by
  have e : B.textLen q = A.textLen p := by
    unfold Ar.textLen Ar.w; rw [hw 1 (by omega) (by omega)]
  unfold Ar.text
  rw [e]
  refine List.map_congr_left fun k hk => ?_
  rw [List.mem_range] at hk
  unfold Ar.byte Ar.w
  have := hw (2 + (k : Int) / 8) (by omega) (by omega)
  rw [show q + 2 + (k : Int) / 8 = q + (2 + (k : Int) / 8) by omega, show p + 2 + (k : Int) / 8 = p + (2 + (k : Int) / 8) by omega, this]
/-- a Root that is a text -/
theorem SI.textRoot (h : SI A m) (h0 : 0 ≤ i) (h1 : i < (A.vs.length : Int)) (ht : rT A i = 3) : 0 ≤ rN A i ∧ g m (rN A i) = 1 ∧ hk (g A.ws (rN A i)) = 1 ∧ 0 ≤ A.textLen (rN A i) ∧ hs (g A.ws (rN A i)) = 1 + (A.textLen (rN A i) + 7) / 8 ∧ A.where_ (rN A i) = rN A i := by
  have hr : isRef (rT A i) = true := by rw [ht]; decide
  obtain ⟨a, b, c⟩ := h.rts i h0 h1 hr
  have d := c h1
  have ok := (h.one _ a d).2.1
  have ew : A.where_ (rN A i) = rN A i := by unfold Ar.where_; rw [if_neg (by show ¬ isFw (g A.ws (rN A i)) = true; rw [hOk_fw ok]; decide)]
  have e := (h.rtk i h0 h1).1 hr
  rw [ew, ht] at e
  have e1 : hk (g A.ws (rN A i)) = 1 := e
  obtain ⟨t1, t2, t3⟩ := h.txt _ a (.inl d) e1
  exact ⟨a, d, e1, t1, t3, ew⟩
/-- Root i is the text bs -/
def TxR (A : Ar) (i : Int) (bs : List Int) : Prop := rT A i = 3 ∧ A.text (rN A i) = bs
theorem TxR.rr (h : TxR A i bs) (hm : SI A m) (r : RR A B) (h0 : 0 ≤ i) (h1 : i < (A.vs.length : Int)) : TxR B i bs := by
  obtain ⟨a, b, c, d, e, w⟩ := hm.textRoot h0 h1 h.1
  have hr : isRef (rT A i) = true := by rw [h.1]; decide
  have hp : Pure A (rN A i) := fun q hq => by rw [c, slots1] at hq; cases hq
  refine ⟨(r.tg i h0 h1).trans h.1, ?_⟩
  rw [text_eq (A := A) (B := B) (p := rN A i) (q := rN B i) (r.cn i h0 h1 hr hp).2 d e]
  exact h.2
structure TxtI (A : Ar) (f : Int) : Prop where
  mS : ∃ m, SI A m ∧ TX A m
  sr : A.serial = 1
  vl : A.vs.length = 4
  ln : A.ws.length = 800
  fr : f ≤ A.fr
theorem TxtI.ok (h : TxtI A f) : A.ok = true := by
  obtain ⟨m, hS, hX⟩ := h.mS
  exact ok_of hS hX (by rw [h.sr]; omega) (by rw [h.vl]; omega)
theorem TxtI.wf (h : TxtI A f) : Wf A.ws := by obtain ⟨m, hS, -⟩ := h.mS; exact hS.wf
theorem TxtI.rr (h : TxtI A f) (hB : ∃ m', SI B m' ∧ TX B m') (r : RR A B) (hl : B.ws.length = A.ws.length) (hf : A.fr ≤ B.fr) : TxtI B f := by
  have := h.fr
  exact ⟨hB, r.sr.trans h.sr, r.vl.trans h.vl, hl.trans h.ln, by omega⟩
/-- a text is put -/
theorem TxtI.put (h : TxtI A f) {s : Int} (hb : Bys bs) (hn : (bs.length : Int) ≤ 160) (hf : 1 + ((bs.length : Int) + 7) / 8 + 1 ≤ f) (hs0 : 0 ≤ s ∧ s < 4) : ∃ A', A.putR bs s = (A', 0) ∧ TxtI A' (f - (1 + ((bs.length : Int) + 7) / 8 + 1)) ∧ TxR A' s bs ∧ ∀ (i : Int) (xs : List Int), 0 ≤ i → i < 4 → i ≠ s → TxR A i xs → TxR A' i xs := by
  obtain ⟨m, hS, hX⟩ := h.mS
  have hvl := h.vl
  have hsr := h.sr
  have hfr := h.fr
  obtain ⟨B, mB, A', m', e, hB, rr, h', x', l', v', f', s', t1, t2, g', tx, gm, ww⟩ := hS.newText hX (by omega) (s := s) (bs := bs) hb hn (by omega) (by omega) (by omega)
  have bl : B.vs.length = 4 := rr.vl.trans hvl
  have gv : ∀ j : Int, 0 ≤ j → A'.vs.getD j.toNat (0, 0) = if j = s then (3, B.top) else B.vs.getD j.toNat (0, 0) := fun j hj => by rw [v']; exact box_vs (by omega) (by omega) hj
  refine ⟨A', e, ⟨⟨m', h', x'⟩, by omega, by rw [v', List.length_set]; exact bl, l'.trans h.ln, by omega⟩, ?_, fun i xs h0 h1 hne hx => ?_⟩
  · refine ⟨?_, ?_⟩
    · dsimp only [rT]; rw [gv s hs0.1, if_pos rfl]
    · dsimp only [rN]; rw [gv s hs0.1, if_pos rfl]; exact tx
  · have hxB := hx.rr hS rr h0 (by omega)
    obtain ⟨a, b, c, d, e', w⟩ := hB.textRoot (i := i) h0 (by omega) hxB.1
    have en : rN A' i = rN B i := by dsimp only [rN]; rw [gv i h0, if_neg hne]
    have et : rT A' i = rT B i := by dsimp only [rT]; rw [gv i h0, if_neg hne]
    refine ⟨et.trans hxB.1, ?_⟩
    rw [en, text_eq (A := B) (B := A') (p := rN B i) (q := rN B i) (fun j j0 j1 => ww _ j a b j0 j1) d e']
    exact hxB.2
theorem TxtI.flipR (h : TxtI A f) : TxtI A.flipR.1 f ∧ ∀ (i : Int) (xs : List Int), 0 ≤ i → i < 4 → TxR A i xs → TxR A.flipR.1 i xs := by
  unfold Ar.flipR
  split
  · rename_i c
    obtain ⟨m, hS, hX⟩ := h.mS
    obtain ⟨m', h1, x1, r1⟩ := hS.flipX hX c.2
    obtain ⟨_, -, l1, -⟩ := hS.flip c.2
    exact ⟨h.rr ⟨m', h1, x1⟩ r1 l1 (hS.fr_flip c.2), fun i xs h0 h1 ht => ht.rr hS r1 h0 (by rw [h.vl]; omega)⟩
  · exact ⟨h, fun i xs h0 h1 ht => ht⟩
theorem TxtI.stepR (h : TxtI A f) (n : Int) : TxtI (A.stepR n).1 f ∧ ∀ (i : Int) (xs : List Int), 0 ≤ i → i < 4 → TxR A i xs → TxR (A.stepR n).1 i xs := by
  unfold Ar.stepR
  split
  · obtain ⟨m, hS, hX⟩ := h.mS
    obtain ⟨m', h1, x1, r1⟩ := hS.stpX hX 8001 n
    exact ⟨h.rr ⟨m', h1, x1⟩ r1 (stp_len hS n) (hS.fr_stpO n), fun i xs h0 h1 ht => ht.rr hS r1 h0 (by rw [h.vl]; omega)⟩
  · exact ⟨h, fun i xs h0 h1 ht => ht⟩
theorem TxtI.colR (h : TxtI A f) : TxtI A.colR.1 f ∧ ∀ (i : Int) (xs : List Int), 0 ≤ i → i < 4 → TxR A i xs → TxR A.colR.1 i xs := by
  unfold Ar.colR
  split
  · obtain ⟨m, hS, hX⟩ := h.mS
    obtain ⟨m', h1, x1, r1, -⟩ := hS.colX hX
    obtain ⟨_, -, l1, -⟩ := hS.col
    exact ⟨h.rr ⟨m', h1, x1⟩ r1 l1 hS.fr_col, fun i xs h0 h1 ht => ht.rr hS r1 h0 (by rw [h.vl]; omega)⟩
  · exact ⟨h, fun i xs h0 h1 ht => ht⟩
theorem TxtI.start : TxtI (fresh 400 4) 399 := by
  obtain ⟨m, h, hx, hst⟩ := fresh_ok (s := 400) (n := 4) (by omega) (by omega)
  exact ⟨⟨m, h, hx⟩, rfl, rfl, by show (List.replicate (2 * (400 : Int)).toNat (0 : Int)).length = 800; rw [List.length_replicate]; rfl, by decide⟩
/-- what is told of two texts -/
theorem TxtI.told (h : TxtI A f) {x y z : List Int} (h0 : TxR A 0 x) (h1 : TxR A 1 y) (h2 : TxR A 2 z) : A.textR 2 = (z, true) ∧ Ar.cmpR A 0 1 = (cmpZ x y, true) ∧ A.sameR 0 1 = decide (x = y) := by
  obtain ⟨m, hS, hX⟩ := h.mS
  have hvl := h.vl
  have hok := h.ok
  have i0 : A.inR 0 = true := decide_eq_true (by omega)
  have i1 : A.inR 1 = true := decide_eq_true (by omega)
  have i2 : A.inR 2 = true := decide_eq_true (by omega)
  obtain ⟨a0, b0, c0, d0, e0, w0⟩ := hS.textRoot (i := 0) (by omega) (by omega) h0.1
  obtain ⟨a1, b1, c1, d1, e1, w1⟩ := hS.textRoot (i := 1) (by omega) (by omega) h1.1
  have t0 : (A.vs.getD (0 : Int).toNat (0, 0)).1 = 3 := h0.1
  have t1 : (A.vs.getD (1 : Int).toNat (0, 0)).1 = 3 := h1.1
  have t2 : (A.vs.getD (2 : Int).toNat (0, 0)).1 = 3 := h2.1
  have x0 : A.text (A.vs.getD (0 : Int).toNat (0, 0)).2 = x := h0.2
  have x1 : A.text (A.vs.getD (1 : Int).toNat (0, 0)).2 = y := h1.2
  have x2 : A.text (A.vs.getD (2 : Int).toNat (0, 0)).2 = z := h2.2
  refine ⟨?_, ?_, ?_⟩
  · unfold Ar.textR; rw [if_pos ⟨hok, i2, t2⟩, x2]
  · unfold Ar.cmpR; rw [if_pos ⟨hok, ⟨i0, t0⟩, ⟨i1, t1⟩⟩, x0, x1]
  · have v0 : A.where_ (A.vs.getD (0 : Int).toNat (0, 0)).2 = (A.vs.getD (0 : Int).toNat (0, 0)).2 := w0
    have v1 : A.where_ (A.vs.getD (1 : Int).toNat (0, 0)).2 = (A.vs.getD (1 : Int).toNat (0, 0)).2 := w1
    unfold Ar.sameR
    rw [if_pos ⟨hok, i0, i1⟩]
    unfold Ar.same
    rw [t0, t1, if_pos rfl, if_pos (by decide), if_pos rfl, v0, v1, x0, x1]
end Go.Proofs.Ytepddopgmhdllaa.Eng
