/- Small words on Roots; the reference's ArenaOk where it is known. -/
import Derived.Test.YtfhihnonafklbaaBkJ3
import Derived.Test.YtfhihnonafklbaaL0
namespace Go.Proofs.Ytfhihnonafklbaa.Eng
open Go Go.RowKit Go.Proofs.Ytfhihnonafklbaa.Sl Go.Proofs.Ytfhihnonafklbaa.Ar Go.Proofs.Ytfhihnonafklbaa.Base
set_option linter.unusedVariables false
set_option linter.unusedSimpArgs false
set_option maxRecDepth 10000
section
variable {P : Program} {N : Nat} {w0 : World} {E : Env} {H H' : HL} {o : Oper} {x y z : Operand} {T T2 : TypeId} {v u : Value} {k : IntKind} {a : Int} {ops : Array Oper} {rest : List Oper} {R : Post} {d_ : Option Tmp} {ty_ : TypeId} {pos_ : String} {af_ : Array Edge} {gd_ : Option (Nat × Bool)}
theorem ld_rowV0 {vs : List (Int × Int)} {sp : List Value} {i : Int} (h0 : 0 ≤ i) (h : i < (vs.length : Int)) : (rowV vs sp).toList[0 + i.toNat * 2 + 0]? = some (.int .i64 (vs.getD i.toNat (0, 0)).1) := by
  have hl : i.toNat < vs.length := by omega
  obtain ⟨h1, h2⟩ := flat_get vs i.toNat hl
  simp only [rowV]
  rw [show 0 + i.toNat * 2 + 0 = 2 * i.toNat by omega, List.getElem?_append_left (by rw [length_flat]; omega)]
  exact h1
theorem ld_rowV1 {vs : List (Int × Int)} {sp : List Value} {i : Int} (h0 : 0 ≤ i) (h : i < (vs.length : Int)) : (rowV vs sp).toList[0 + i.toNat * 2 + 1]? = some (.int .i64 (vs.getD i.toNat (0, 0)).2) := by
  have hl : i.toNat < vs.length := by omega
  obtain ⟨h1, h2⟩ := flat_get vs i.toNat hl
  simp only [rowV]
  rw [show 0 + i.toNat * 2 + 1 = 2 * i.toNat + 1 by omega, List.getElem?_append_left (by rw [length_flat]; omega)]
  exact h2
end
variable {w0 : World} {H : HL} {C : Cn} {A : Ar} {ba : Nat}
theorem specArenaOkB_c {b : Bool} (hok : A.ok = b) (hA : At H C.bw (wObj C A)) (hR : At H C.br (rObj C A)) (hw : Wf A.ws) (hx : A.vs.length ≤ 1048576) :
    Fn Try.prog w0 15 #[arV C A] H fun v H' => v = .bool b ∧ H' = H := by
  subst hok; exact specArenaOk_c hA hR hw hx
end Go.Proofs.Ytfhihnonafklbaa.Eng
