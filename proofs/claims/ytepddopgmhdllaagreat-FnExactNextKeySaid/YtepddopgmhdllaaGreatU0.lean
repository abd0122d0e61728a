/- The implementation's ArenaOk where it is known; its isRoot. -/
import Derived.Test.YtepddopgmhdllaaGreatBkT0
import Derived.Test.YtepddopgmhdllaaGreatI13
namespace Go.Proofs.YtepddopgmhdllaaGreat.Eng
open Go Go.RowKit Go.Proofs.YtepddopgmhdllaaGreat.Sl Go.Proofs.YtepddopgmhdllaaGreat.Ar Go.Proofs.YtepddopgmhdllaaGreat.Base
set_option linter.unusedVariables false
set_option linter.unusedSimpArgs false
set_option maxRecDepth 10000
variable {w0 : World} {H : HL} {C : Cn} {A : Ar} {ba : Nat}
theorem implArenaOkB_c {b : Bool} (hok : A.ok = b) (hA : At H C.bw (wObj C A)) (hR : At H C.br (rObj C A)) (hw : Wf A.ws) (hc : A.ws.length ≤ C.wc) (hx : A.vs.length ≤ 1048576) :
    Fn Tryz.prog w0 37 #[arV C A] H fun v H' => v = .bool b ∧ H' = H := by
  subst hok; exact implArenaOk_c hA hR hw hc hx
theorem isRoot1_c {r : Int} {b c : Nat} (hP : At H ba (aObj C A)) (hl : At H b (.cells #[.int .i64 r] 3 (0, 0))) (hx : A.vs.length ≤ 1048576) :
    Fn Tryz.prog w0 38 #[.pointer (some ⟨ba, 0, none⟩), .slice (some ⟨b, 0, none⟩) 1 c] H fun v H' => v = .bool (A.inR r) ∧ H' = H := by
  have := isRoot_c (w0 := w0) (rs := [r]) (sp := []) (c := c) hP hl (by simp) hx
  simpa using this
theorem isRoot2_c {r s : Int} {b c : Nat} (hP : At H ba (aObj C A)) (hl : At H b (.cells #[.int .i64 r, .int .i64 s] 3 (0, 0))) (hx : A.vs.length ≤ 1048576) :
    Fn Tryz.prog w0 38 #[.pointer (some ⟨ba, 0, none⟩), .slice (some ⟨b, 0, none⟩) 2 c] H fun v H' => v = .bool (A.inR r && A.inR s) ∧ H' = H := by
  have := isRoot_c (w0 := w0) (rs := [r, s]) (sp := []) (c := c) hP hl (by simp) hx
  simpa using this
end Go.Proofs.YtepddopgmhdllaaGreat.Eng
