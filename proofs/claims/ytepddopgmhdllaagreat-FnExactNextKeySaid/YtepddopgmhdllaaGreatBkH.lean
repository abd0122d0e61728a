/- The blocks in another order; what the implementation's doors hand back. -/
import Derived.Test.YtepddopgmhdllaaGreatBkP
import Derived.Test.YtepddopgmhdllaaGreatBkD
import Derived.Test.YtepddopgmhdllaaGreatBkT0
import Derived.Test.YtepddopgmhdllaaGreatU0
namespace Go.Proofs.YtepddopgmhdllaaGreat.Eng
open Go Go.RowKit Go.Proofs.YtepddopgmhdllaaGreat.Sl Go.Proofs.YtepddopgmhdllaaGreat.Ar Go.Proofs.YtepddopgmhdllaaGreat.Base
set_option linter.unusedVariables false
set_option linter.unusedSimpArgs false
set_option maxRecDepth 10000
section
variable {P : Program} {N : Nat} {w0 : World} {E : Env} {H H' X Y : HL} {ops : Array Oper} {rest : List Oper} {R : Post} {a b p q r : Nat × Obj}
theorem L_perm (p : H.Perm H') (h : L P N w0 ops rest E H' R) : L P N w0 ops rest E H R := ⟨fun a w ha hs => h.out a w ha (hs.perm p)⟩
theorem Fn.perm {f : FuncId} {args : Array Value} {S : Value → HL → Prop} (p : H.Perm H') (h : Fn P w0 f args H' S) : Fn P w0 f args H S := ⟨h.1, fun w hw => h.2 w (hw.perm p)⟩
inductive TkG : HL → HL → HL → Prop
  | here {G R : HL} : TkG (G ++ R) G R
  | there {H G R : HL} {p : Nat × Obj} : TkG H G R → TkG (p :: H) G (p :: R)
theorem TkG.perm {H G R : HL} (h : TkG H G R) : H.Perm (G ++ R) := by
  induction h with
  | here => exact .refl _
  | there _ ih => exact (List.Perm.cons _ ih).trans List.perm_middle.symm
theorem L_front2 (h : L P N w0 ops rest E (p :: q :: (X ++ (Y ++ H))) R) : L P N w0 ops rest E (X ++ (Y ++ (p :: q :: H))) R :=
  L_perm (by
    refine (List.Perm.append_left X (List.perm_middle.trans (List.Perm.cons p List.perm_middle))).trans ?_
    exact List.perm_middle.trans (List.Perm.cons p List.perm_middle)) h
theorem L_front3 (h : L P N w0 ops rest E (p :: q :: r :: (X ++ (Y ++ H))) R) : L P N w0 ops rest E (X ++ (Y ++ (p :: q :: r :: H))) R :=
  L_perm (by
    refine (List.Perm.append_left X (List.perm_middle.trans (List.Perm.cons p (List.perm_middle.trans (List.Perm.cons q List.perm_middle))))).trans ?_
    exact List.perm_middle.trans (List.Perm.cons p (List.perm_middle.trans (List.Perm.cons q List.perm_middle)))) h
theorem L_mid2 (h : L P N w0 ops rest E (a :: b :: p :: q :: (X ++ H)) R) : L P N w0 ops rest E (a :: b :: (X ++ (p :: q :: H))) R :=
  L_perm (List.Perm.cons a (List.Perm.cons b (List.perm_middle.trans (List.Perm.cons p List.perm_middle)))) h
end
variable {w0 : World} {H : HL} {C : Cn} {A : Ar}
/-- what the implementation hands back: an arena of the call's own, and one thing more -/
def IRes (B : Ar) (r : Value) (H : HL) (v : Value) (H' : HL) : Prop := ∃ gw gwc gws gr grc grs, v = .tuple #[arG (ad gw) gwc (ad gr) grc B, r] ∧ (gw = none → B.ws = []) ∧ (gr = none → B.vs = []) ∧ B.ws.length ≤ gwc ∧ H' = oU gw B.ws gws ++ (oV gr B.vs grs ++ H)
theorem copyArena_p (hA : At H C.bw (wObj C A)) (hR : At H C.br (rObj C A)) (hl : A.ws.length ≤ 1048576) (hl2 : A.vs.length ≤ 1048576) :
    Fn Tryz.prog w0 36 #[arV C A] H fun v H' => ∃ bw wc wsp br rc rsp, v = arG (ad bw) wc (ad br) rc A ∧ (bw = none → A.ws = []) ∧ (br = none → A.vs = []) ∧ A.ws.length ≤ wc ∧ H' = oU bw A.ws wsp ++ (oV br A.vs rsp ++ H) := by
  have key := copyArena_c (w0 := w0) hA hR hl hl2
  refine ⟨key.1, fun w hw => ?_⟩
  refine (key.2 w hw).mono ?_
  rintro e w' ⟨v, H', he, hs, bw, wc, wsp, br, rc, rsp, hv, h1, h2, h3, rfl⟩
  exact ⟨v, _, he, hs.perm (by rw [← List.append_assoc, ← List.append_assoc]; exact List.Perm.append_right _ List.perm_append_comm), bw, wc, wsp, br, rc, rsp, hv, h1, h2, h3, rfl⟩
end Go.Proofs.YtepddopgmhdllaaGreat.Eng
namespace Go.Proofs.YtepddopgmhdllaaGreat.Ar
def Ar.setRootR (A : Ar) (r t n : Int) : Ar × Bool := if A.ok = true ∧ A.inR r = true ∧ valOk t n = true ∧ isRef t = false then ({ A with vs := A.vs.set r.toNat (t, n) }, true) else (A, false)
def Ar.moveRootR (A : Ar) (r s : Int) : Ar × Bool := if A.ok = true ∧ A.inR r = true ∧ A.inR s = true then ({ A with vs := A.vs.set r.toNat (A.vs.getD s.toNat (0, 0)) }, true) else (A, false)
def Ar.setCellR (A : Ar) (r s : Int) : Ar × Bool := if A.ok = true ∧ A.inR r = true ∧ A.inR s = true ∧ (A.vs.getD r.toNat (0, 0)).1 = 9 then (A.putV ((A.vs.getD r.toNat (0, 0)).2 + 1) (A.vs.getD s.toNat (0, 0)).1 (A.vs.getD s.toNat (0, 0)).2, true) else (A, false)
end Go.Proofs.YtepddopgmhdllaaGreat.Ar
namespace Go.Proofs.YtepddopgmhdllaaGreat.Eng
open Go Go.RowKit Go.Proofs.YtepddopgmhdllaaGreat.Sl Go.Proofs.YtepddopgmhdllaaGreat.Ar Go.Proofs.YtepddopgmhdllaaGreat.Base
set_option linter.unusedVariables false
variable {A : Ar} {m : List Int}
def SRes (B : Ar) (r : Value) (H : HL) (v : Value) (H' : HL) : Prop := ∃ C' : Cn, v = .tuple #[arV C' B, r] ∧ H' = (C'.br, rObj C' B) :: (C'.bw, wObj C' B) :: H
theorem cv_d2 {G : HL} {p q : Nat × Obj} : Cv (p :: q :: G) G := Cv.skip (Cv.skip Cv.refl)
theorem cv_d3 {G : HL} {p q r : Nat × Obj} : Cv (p :: q :: r :: G) G := Cv.skip (Cv.skip (Cv.skip Cv.refl))
theorem cv_b {G : HL} {a b p q : Nat × Obj} : Cv (a :: b :: p :: q :: G) (b :: G) := Cv.skip (Cv.take (b := b.1) (o := b.2) Tk.here (Cv.skip (Cv.skip Cv.refl)))
theorem cv_d4 {G : HL} {p q r s : Nat × Obj} : Cv (p :: q :: r :: s :: G) G := Cv.skip (Cv.skip (Cv.skip (Cv.skip Cv.refl)))
theorem cv_d5 {G : HL} {p q r s t : Nat × Obj} : Cv (p :: q :: r :: s :: t :: G) G := Cv.skip cv_d4
theorem OkP.rootFits (hP : OkP A m) (hSI : SI A m) {r : Int} (h0 : 0 ≤ r) (h1 : r < (A.vs.length : Int)) (hk : kd (A.vs.getD r.toNat (0, 0)).1 ≠ 0) :
    (0 ≤ (A.vs.getD r.toNat (0, 0)).2 ∧ (A.vs.getD r.toNat (0, 0)).2 < (A.ws.length : Int)) ∧ g m (A.vs.getD r.toNat (0, 0)).2 = 1 ∧ hOk (g A.ws (A.vs.getD r.toNat (0, 0)).2) = true ∧ rk (g A.ws (A.vs.getD r.toNat (0, 0)).2) = kd (A.vs.getD r.toNat (0, 0)).1 := by
  obtain ⟨a, b, c, d, e, f, -⟩ := hP.root h0 h1 hk
  exact ⟨⟨a, b⟩, c, f, e⟩
theorem OkP.cellFits (hP : OkP A m) {r : Int} (h0 : 0 ≤ r) (h1 : r < (A.vs.length : Int)) (h9 : (A.vs.getD r.toNat (0, 0)).1 = 9) : 0 ≤ (A.vs.getD r.toNat (0, 0)).2 ∧ (A.vs.getD r.toNat (0, 0)).2 + 2 < (A.ws.length : Int) := by
  obtain ⟨a, b, c, d, e, f, k, -⟩ := hP.root h0 h1 (by show kd (A.vs.getD r.toNat (0, 0)).1 ≠ 0; rw [h9]; decide)
  have hz : SizeP (hk (g A.ws (rN A r))) (hs (g A.ws (rN A r))) := (of_decide_eq_true (show decide (HeadP _ _ _) = true from f)).1
  rw [(rsR' f).2.2.2.1, show rT A r = 9 from h9] at e
  have e5 : kd 9 = 5 := rfl
  unfold SizeP at hz
  dsimp only [rN] at a k hz e
  omega
theorem setRootR_len {r t n : Int} : (A.setRootR r t n).1.ws.length = A.ws.length ∧ (A.setRootR r t n).1.vs.length = A.vs.length := by
  unfold Ar.setRootR; split
  · exact ⟨rfl, List.length_set⟩
  · exact ⟨rfl, rfl⟩
theorem moveRootR_len {x0 x1 : Int} : (A.moveRootR x0 x1).1.ws.length = A.ws.length ∧ (A.moveRootR x0 x1).1.vs.length = A.vs.length := by
  unfold Ar.moveRootR; split
  · exact ⟨rfl, List.length_set⟩
  · exact ⟨rfl, rfl⟩
theorem setCellR_len {x0 x1 : Int} : (A.setCellR x0 x1).1.ws.length = A.ws.length ∧ (A.setCellR x0 x1).1.vs.length = A.vs.length := by
  unfold Ar.setCellR; split
  · refine ⟨?_, rfl⟩
    show (List.set (List.set _ _ _) _ _).length = _
    rw [List.length_set, List.length_set]
  · exact ⟨rfl, rfl⟩
end Go.Proofs.YtepddopgmhdllaaGreat.Eng
