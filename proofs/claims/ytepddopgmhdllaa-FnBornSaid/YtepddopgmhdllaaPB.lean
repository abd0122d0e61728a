/- Plain: FnBorn: serials rise by one. -/
import Derived.Test.YtepddopgmhdllaaBkT
import Derived.Test.YtepddopgmhdllaaBkT0
import Derived.Test.YtepddopgmhdllaaBkH
import Derived.Test.YtepddopgmhdllaaQ2
import Derived.Test.YtepddopgmhdllaaP8
import Derived.Test.YtepddopgmhdllaaP9
namespace Go.Proofs.Ytepddopgmhdllaa.Eng
open Go Go.RowKit Go.Proofs.Ytepddopgmhdllaa.Sl Go.Proofs.Ytepddopgmhdllaa.Ar Go.Proofs.Ytepddopgmhdllaa.Base
set_option linter.unusedVariables false
set_option linter.unusedSimpArgs false
variable {A B : Ar} {m : List Int} {i want : Int}
/-- what the loop of FnBorn keeps -/
structure BornI (A : Ar) (i want : Int) : Prop where
  mS : ∃ m, SI A m ∧ TX A m
  sr : A.serial = want
  wn : 1 ≤ want ∧ want ≤ i + 1
  vl : A.vs.length = 4
  ln : A.ws.length = 800
  t1 : rT A 1 = 9
  fr : 396 - 4 * i ≤ A.fr
theorem BornI.ok (h : BornI A i want) (hi : i ≤ 100) : A.ok = true := by
  obtain ⟨m, hS, hX⟩ := h.mS
  have := h.wn
  exact ok_of hS hX (by rw [h.sr]; omega) (by rw [h.vl]; omega)
theorem BornI.wf (h : BornI A i want) : Wf A.ws := by obtain ⟨m, hS, -⟩ := h.mS; exact hS.wf
theorem rn_hWord {k s n : Int} (hh : HeadP k s n) : rn (hWord k s n) = n := by
  obtain ⟨p1, p2, p3, p4⟩ := hWord_parts hh
  unfold rn; rw [p4, p3]; rfl
/-- what Root 0 is behind a thing that is made -/
theorem serial_new {p t k s n : Int} (hok : A.ok = true) (hl : 0 < A.vs.length) (hv : A.vs.getD (0 : Int).toNat (0, 0) = (t, p)) (ht : kd t ≠ 0) (hg : g A.ws p = hWord k s n) (hh : HeadP k s n) : A.serialR 0 = n := by
  unfold Ar.serialR
  rw [hv]
  rw [if_pos ⟨hok, decide_eq_true (by omega), ht⟩]
  dsimp only
  rw [hg, rn_hWord hh]
theorem BornI.tab (h : BornI A i want) (hi : 0 ≤ i ∧ i ≤ 90) : ∃ A', A.tabR 0 = (A', 0) ∧ BornI A' (i + 1) (want + 1) ∧ A'.serialR 0 = want := by
  obtain ⟨m, hS, hX⟩ := h.mS
  have hvl := h.vl
  have hwn := h.wn
  have hsr := h.sr
  have hfr := h.fr
  obtain ⟨B, mB, A', m', e, hB, rr, h', x', l', v', f', s', g'⟩ := hS.newTab hX (by omega) (s := 0) (by omega) (by omega) (by omega)
  have bl : B.vs.length = 4 := rr.vl.trans hvl
  have gv : ∀ j : Int, 0 ≤ j → A'.vs.getD j.toNat (0, 0) = if j = 0 then (4, B.top) else B.vs.getD j.toNat (0, 0) := fun j hj => by rw [v']; exact box_vs (by omega) (by omega) hj
  have hBI : BornI A' (i + 1) (want + 1) := by
    refine ⟨⟨m', h', x'⟩, by omega, by omega, by rw [v', List.length_set]; exact bl, l'.trans h.ln, ?_, by omega⟩
    dsimp only [rT]
    rw [gv 1 (by omega), if_neg (by omega)]
    exact (rr.tg 1 (by omega) (by omega)).trans h.t1
  refine ⟨A', e, hBI, ?_⟩
  rw [← hsr]
  exact serial_new (hBI.ok (by omega)) (by rw [hBI.vl]; omega) (gv 0 (by omega)) (by decide) g' ⟨by unfold SizeP; omega, .inl ⟨by decide, by omega, by omega⟩⟩
theorem BornI.fun_ (h : BornI A i want) (hi : 0 ≤ i ∧ i ≤ 90) : ∃ A', A.fun1R i 1 0 = (A', 0) ∧ BornI A' (i + 1) (want + 1) ∧ A'.serialR 0 = want := by
  obtain ⟨m, hS, hX⟩ := h.mS
  have hvl := h.vl
  have hwn := h.wn
  have hsr := h.sr
  have hfr := h.fr
  obtain ⟨B, mB, A', m', e, hB, rr, h', x', l', v', f', s', g'⟩ := hS.newFun1 hX (by omega) (pr := i) (c := 1) (s := 0) (by omega) (by omega) (by omega) (by omega) h.t1 (by omega) (by omega)
  have bl : B.vs.length = 4 := rr.vl.trans hvl
  have gv : ∀ j : Int, 0 ≤ j → A'.vs.getD j.toNat (0, 0) = if j = 0 then (5, B.top) else B.vs.getD j.toNat (0, 0) := fun j hj => by rw [v']; exact box_vs (by omega) (by omega) hj
  have hBI : BornI A' (i + 1) (want + 1) := by
    refine ⟨⟨m', h', x'⟩, by omega, by omega, by rw [v', List.length_set]; exact bl, l'.trans h.ln, ?_, by omega⟩
    dsimp only [rT]
    rw [gv 1 (by omega), if_neg (by omega)]
    exact (rr.tg 1 (by omega) (by omega)).trans h.t1
  refine ⟨A', e, hBI, ?_⟩
  rw [← hsr]
  exact serial_new (hBI.ok (by omega)) (by rw [hBI.vl]; omega) (gv 0 (by omega)) (by decide) g' ⟨by unfold SizeP; omega, .inl ⟨by decide, by omega, by omega⟩⟩
/-- the bytes of the law's text -/
def txt4 : List Int := [116, 101, 120, 116]
theorem byt4 : Byt txt4 := by intro x hx; simp [txt4] at hx; omega
theorem bys4 : Bys txt4 := by
  intro j
  have : j.toNat = 0 ∨ j.toNat = 1 ∨ j.toNat = 2 ∨ j.toNat = 3 ∨ 4 ≤ j.toNat := by omega
  rcases this with h | h | h | h | h
  · show 0 ≤ List.getD txt4 j.toNat 0 ∧ List.getD txt4 j.toNat 0 ≤ 255; rw [h]; decide
  · show 0 ≤ List.getD txt4 j.toNat 0 ∧ List.getD txt4 j.toNat 0 ≤ 255; rw [h]; decide
  · show 0 ≤ List.getD txt4 j.toNat 0 ∧ List.getD txt4 j.toNat 0 ≤ 255; rw [h]; decide
  · show 0 ≤ List.getD txt4 j.toNat 0 ∧ List.getD txt4 j.toNat 0 ≤ 255; rw [h]; decide
  · have : g txt4 j = 0 := by show List.getD txt4 j.toNat 0 = 0; rw [List.getD_eq_getElem?_getD, List.getElem?_eq_none (by show 4 ≤ _; exact h)]; rfl
    omega
theorem BornI.text (h : BornI A i want) (hi : 0 ≤ i ∧ i ≤ 90) : ∃ A', A.putR txt4 0 = (A', 0) ∧ BornI A' (i + 1) want ∧ A'.serialR 0 = 0 := by
  obtain ⟨m, hS, hX⟩ := h.mS
  have hvl := h.vl
  have hwn := h.wn
  have hsr := h.sr
  have hfr := h.fr
  have h4 : (txt4.length : Int) = 4 := rfl
  obtain ⟨B, mB, A', m', e, hB, rr, h', x', l', v', f', s', t1, t2, g', -⟩ := hS.newText hX (by omega) (s := 0) (bs := txt4) bys4 (by omega) (by omega) (by omega) (by omega)
  have bl : B.vs.length = 4 := rr.vl.trans hvl
  have gv : ∀ j : Int, 0 ≤ j → A'.vs.getD j.toNat (0, 0) = if j = 0 then (3, B.top) else B.vs.getD j.toNat (0, 0) := fun j hj => by rw [v']; exact box_vs (by omega) (by omega) hj
  have hBI : BornI A' (i + 1) want := by
    refine ⟨⟨m', h', x'⟩, by omega, by omega, by rw [v', List.length_set]; exact bl, l'.trans h.ln, ?_, by omega⟩
    dsimp only [rT]
    rw [gv 1 (by omega), if_neg (by omega)]
    exact (rr.tg 1 (by omega) (by omega)).trans h.t1
  refine ⟨A', e, hBI, ?_⟩
  exact serial_new (hBI.ok (by omega)) (by rw [hBI.vl]; omega) (gv 0 (by omega)) (by decide) g' ⟨by unfold SizeP; omega, .inr ⟨by decide, rfl⟩⟩
theorem BornI.rr (h : BornI A i want) (hB : ∃ m', SI B m' ∧ TX B m') (r : RR A B) (hl : B.ws.length = A.ws.length) (hf : A.fr ≤ B.fr) : BornI B (i + 1) want := by
  have hvl := h.vl
  have hwn := h.wn
  have hfr := h.fr
  exact ⟨hB, r.sr.trans h.sr, by omega, r.vl.trans h.vl, hl.trans h.ln, (r.tg 1 (by omega) (by omega)).trans h.t1, by omega⟩
theorem BornI.up (h : BornI A i want) : BornI A (i + 1) want := by
  obtain ⟨m, hS, hX⟩ := h.mS
  exact h.rr ⟨m, hS, hX⟩ RR.refl rfl (Int.le_refl _)
theorem BornI.flipR (h : BornI A i want) : BornI A.flipR.1 (i + 1) want := by
  unfold Ar.flipR
  split
  · rename_i c
    obtain ⟨m, hS, hX⟩ := h.mS
    obtain ⟨m', h1, x1, r1⟩ := hS.flipX hX c.2
    obtain ⟨_, -, l1, -⟩ := hS.flip c.2
    exact h.rr ⟨m', h1, x1⟩ r1 l1 (hS.fr_flip c.2)
  · exact h.up
theorem BornI.stepR (h : BornI A i want) (n : Int) : BornI (A.stepR n).1 (i + 1) want := by
  unfold Ar.stepR
  split
  · obtain ⟨m, hS, hX⟩ := h.mS
    obtain ⟨m', h1, x1, r1⟩ := hS.stpX hX 8001 n
    exact h.rr ⟨m', h1, x1⟩ r1 (stp_len hS n) (hS.fr_stpO n)
  · exact h.up
/-- the arena in which Root 3 is a number -/
def born1 : Ar := { fresh 400 4 with vs := (List.replicate 4 (0, 0)).set 3 (2, 1) }
theorem born1_ok : (∃ m, SI born1 m ∧ TX born1 m) ∧ (fresh 400 4).setRootR 3 2 1 = (born1, true) := by
  obtain ⟨m, h, hx, hst⟩ := fresh_ok (s := 400) (n := 4) (by omega) (by omega)
  have hset := h.setR hx (i := 3) (t := 2) (n := 1) (by omega) (by show (3 : Int) < ((List.replicate 4 ((0 : Int), (0 : Int))).length : Int); simp) (by unfold ValP; omega) (by decide) (fun c => absurd c (by decide))
  refine ⟨⟨m, hset⟩, ?_⟩
  unfold Ar.setRootR
  rw [if_pos ⟨ok_of h hx (by show (1 : Int) ≤ 1 ∧ (1 : Int) ≤ 1000000000; omega) (by show (List.replicate 4 ((0 : Int), (0 : Int))).length ≤ 24; simp), by decide, decide_eq_true (by unfold ValP; omega), by decide⟩]
  rfl
theorem born2_ok : ∃ A, born1.cellR 3 1 = (A, 0) ∧ BornI A 0 1 ∧ born1.ok = true := by
  obtain ⟨⟨m0, h0, x0⟩, -⟩ := born1_ok
  have v4 : born1.vs.length = 4 := rfl
  have f0 : born1.fr = 399 := rfl
  have gv : ∀ i : Int, 0 ≤ i → born1.vs.getD i.toNat (0, 0) = if i = 3 then (2, 1) else (0, 0) := fun i hi => by
    have := box_vs (l := List.replicate 4 ((0 : Int), (0 : Int))) (s := 3) (v := (2, 1)) (i := i) (by omega) (by simp) hi
    rw [v_rep] at this
    exact this
  have s1 : born1.serial = 1 := rfl
  obtain ⟨B, mB, A', m', e, hB, rr, h', x', l', v', f', s', -⟩ := h0.newCell x0 (by omega) (r := 3) (s := 1) (by omega) (by omega) (by omega) (by omega) (by omega) (fun i a b _ => by
    dsimp only [rN]
    rw [gv i a]; split <;> dsimp only <;> omega)
  have bl : B.vs.length = 4 := rr.vl.trans v4
  refine ⟨A', e, ⟨⟨m', h', x'⟩, by omega, by omega, by rw [v', List.length_set]; exact bl, l'.trans (by show (List.replicate (2 * (400 : Int)).toNat (0 : Int)).length = 800; rw [List.length_replicate]; rfl), ?_, by omega⟩, ok_of h0 x0 (by omega) (by omega)⟩
  dsimp only [rT]
  rw [v', box_vs (by omega) (by omega) (by omega), if_pos rfl]
end Go.Proofs.Ytepddopgmhdllaa.Eng
