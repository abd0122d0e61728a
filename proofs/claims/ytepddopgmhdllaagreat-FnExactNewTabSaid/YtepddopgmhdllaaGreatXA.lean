/- What the doors that ask share. -/
import Derived.Test.YtepddopgmhdllaaGreatBkH
import Derived.Test.YtepddopgmhdllaaGreatBkX
namespace Go.Proofs.YtepddopgmhdllaaGreat.Eng
open Go Go.RowKit Go.Proofs.YtepddopgmhdllaaGreat.Sl Go.Proofs.YtepddopgmhdllaaGreat.Ar Go.Proofs.YtepddopgmhdllaaGreat.Base
set_option linter.unusedVariables false
set_option linter.unusedSimpArgs false
set_option maxRecDepth 10000
variable {w0 : World} {H : HL} {C : Cn} {A : Ar} {ba rc br : Nat} {m : List Int} {rsp : List Value}
theorem isRoot2Q_c {ba : Nat} {r s : Int} {b c : Nat} {q : Bool} (e : (A.inR r && A.inR s) = q) (hP : At H ba (aObj C A)) (hl : At H b (.cells #[.int .i64 r, .int .i64 s] 3 (0, 0))) (hx : A.vs.length ≤ 1048576) :
    Fn Tryz.prog w0 38 #[.pointer (some ⟨ba, 0, none⟩), .slice (some ⟨b, 0, none⟩) 2 c] H fun v H' => v = .bool q ∧ H' = H := e ▸ isRoot2_c hP hl hx
theorem isRoot1Q_c {ba : Nat} {r : Int} {b c : Nat} {q : Bool} (e : A.inR r = q) (hP : At H ba (aObj C A)) (hl : At H b (.cells #[.int .i64 r] 3 (0, 0))) (hx : A.vs.length ≤ 1048576) :
    Fn Tryz.prog w0 38 #[.pointer (some ⟨ba, 0, none⟩), .slice (some ⟨b, 0, none⟩) 1 c] H fun v H' => v = .bool q ∧ H' = H := e ▸ isRoot1_c hP hl hx
theorem iaskS {k s : Int} {H1 H2 H3 : HL} (hT : Tk H ba (aObjG C A (some ⟨br, 0, none⟩) rc) H1) (hT2 : Tk H1 C.bw (wObj C A) H2) (hT3 : Tk H2 br (.cells (rowV A.vs rsp) 47 (0, 0)) H3) (hS : SI A m) (hO : OldP A) (hh : HeadP k s (A.born k)) (hx : A.vs.length ≤ 1048576) (hwc : A.ws.length ≤ C.wc) (hsr : -1000000000 ≤ A.serial ∧ A.serial ≤ 1000000000) :
    Fn Tryz.prog w0 116 #[.pointer (some ⟨ba, 0, none⟩), .int .i64 k, .int .i64 s] H fun v H' => v = .tuple #[.int .i64 (A.ask k s).2.1, .int .i64 (A.ask k s).2.2] ∧ H' = (ba, aObjG C (A.ask k s).1 (some ⟨br, 0, none⟩) rc) :: (C.bw, wObj C (A.ask k s).1) :: (br, .cells (rowV (A.ask k s).1.vs rsp) 47 (0, 0)) :: H3 :=
  Fn.conv (Cv.take hT (Cv.take hT2 (Cv.take hT3 Cv.refl))) (iask_c (br := some br) (rsp := rsp) (H := H3) hS hO hh hx hwc (fun c => by cases c) hsr)
/-- what ask hands back -/
theorem SI.ask_cases (h : SI A m) (k s : Int) : (∃ B mB, A.ask k s = (B.mkO k s, B.top, 0) ∧ SI B mB ∧ B.ws.length = A.ws.length ∧ B.vs.length = A.vs.length ∧ 1 ≤ B.top ∧ B.top + (s + 1) ≤ (B.ws.length : Int)) ∨ ((A.ask k s).2.2 = 2 ∧ (A.ask k s).1.ws.length = A.ws.length ∧ (A.ask k s).1.vs.length = A.vs.length) := by
  obtain ⟨m2, h2, l2, v2⟩ := h.ask2 (s + 1)
  unfold Ar.ask
  split
  · right; exact ⟨rfl, rfl, rfl⟩
  · split
    · right; exact ⟨rfl, l2, v2⟩
    · rename_i hf
      obtain ⟨r1, r2, r3, r4⟩ := h2.room hf
      left; exact ⟨_, m2, rfl, h2, l2, v2, r4, r3⟩
/-- what a door hands back where there are words and Roots -/
def CRes (B : Ar) (r : Value) (H : HL) (v : Value) (H' : HL) : Prop := ∃ C' : Cn, v = .tuple #[arV C' B, r] ∧ B.ws.length ≤ C'.wc ∧ H' = (C'.bw, wObj C' B) :: (C'.br, rObj C' B) :: H
theorem CRes.of {B : Ar} {r : Value} {C : Cn} {vs : List (Int × Int)} (e : B.vs = vs) (h : B.ws.length ≤ C.wc) : CRes B r H (.tuple #[arV C B, r]) ((C.bw, wObj C B) :: (C.br, .cells (rowV vs C.rs) 47 (0, 0)) :: H) := by
  subst e; exact ⟨C, rfl, h, rfl⟩
theorem IRes.cres {B : Ar} {r v : Value} {H' : HL} (h : IRes B r H v H') (hw : 0 < B.ws.length) (hv : 0 < B.vs.length) : CRes B r H v H' := by
  obtain ⟨gw, gwc, gws, gr, grc, grs, rfl, h1, h2, h3, rfl⟩ := h
  rcases gw with _ | gw
  · rw [h1 rfl] at hw; simp at hw
  rcases gr with _ | gr
  · rw [h2 rfl] at hv; simp at hv
  exact ⟨⟨gw, gwc, gws, gr, grc, grs⟩, rfl, h3, rfl⟩
theorem Fn.cres {P : Program} {f : FuncId} {args : Array Value} {B : Ar} {r : Value} (h : Fn P w0 f args H (IRes B r H)) (hw : 0 < B.ws.length) (hv : 0 < B.vs.length) : Fn P w0 f args H (CRes B r H) := h.mono fun _ _ q => q.cres hw hv
end Go.Proofs.YtepddopgmhdllaaGreat.Eng
