/- The implementation's ArenaOk where it is known. -/
import Derived.Test.YtfhihnonafklbaaT0b
import Derived.Test.YtfhihnonafklbaaI13
namespace Go.Proofs.Ytfhihnonafklbaa.Eng
open Go Go.RowKit Go.Proofs.Ytfhihnonafklbaa.Sl Go.Proofs.Ytfhihnonafklbaa.Ar Go.Proofs.Ytfhihnonafklbaa.Base
set_option linter.unusedVariables false
set_option linter.unusedSimpArgs false
set_option maxRecDepth 10000
variable {w0 : World} {H : HL} {C : Cn} {A : Ar} {ba : Nat}
theorem implArenaOkB_c {b : Bool} (hok : A.ok = b) (hA : At H C.bw (wObj C A)) (hR : At H C.br (rObj C A)) (hw : Wf A.ws) (hc : A.ws.length ≤ C.wc) (hx : A.vs.length ≤ 1048576) :
    Fn Try.prog w0 20 #[arV C A] H fun v H' => v = .bool b ∧ H' = H := by
  subst hok; exact implArenaOk_c hA hR hw hc hx
end Go.Proofs.Ytfhihnonafklbaa.Eng
