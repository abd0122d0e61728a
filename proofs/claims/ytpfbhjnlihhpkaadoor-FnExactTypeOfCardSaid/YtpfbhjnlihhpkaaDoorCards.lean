/-
  DERIVED. GIVEN WITH THE SEED: THE CARDS: each row of YtpfbhjnlihhpkaaDoorRows.lean that lists a variable, with what it lists TIED to the program's text (the seventh form; the later family's looks); each row that meets fmt, with fmt's text TOLD by the authors' own Lean function (tested against real Go, not proved from fmt's source: count such statements apart). THE CARD IS WHAT COUNTS. Prove the row's statement (the work); the ties are given (YtpfbhjnlihhpkaaDoorTie.lean); close each card by the builder's one call (the guide's Derived/Test/ToyasCard.lean, 'card_holds'). Laid BY PROGRAM, IN A SANDBOX (cutbox-door.mjs). By AI agents, Wed Nov 11 2026. No macro, syntax, notation, axiom, sorry.
-/
import Derived.Test.YtpfbhjnlihhpkaaDoorRows
import GoSem.ClaimSeven
namespace Go.Proofs.YtpfbhjnlihhpkaaDoor
namespace Rows

/-- THE TIED CARD OF 'laws.FnExactTypeOf'. -/
def fnExactTypeOfCard : Claim7 := { stood := { row := fnExactTypeOfRow, standIns := [], harness := (true, "4857fc8d88d415bceacecf0db130110b8245933f0d0afe7e289732edcd322158"), looks := false }, kinds := [], alts := [], laidByText := true, laidKinds := [.listed, .data], laidTests := true, laidLooks := .later }
def FnExactTypeOfCardSaid : Prop := Claim7.holds Tryd.pinned (.plain (OpenSpec.ofChange fnExactTypeOfSpec)) fnExactTypeOfCard

/-- THE SECOND FORM's CARD OF 'laws.FnExactTypeOf'. -/
def fnExactTypeOfUptoCard : Claim7 := { stood := { row := fnExactTypeOfUptoRow, standIns := [], harness := (true, "4857fc8d88d415bceacecf0db130110b8245933f0d0afe7e289732edcd322158"), looks := false }, kinds := [], alts := [], laidByText := true, laidKinds := [.listed, .data], laidTests := true, laidLooks := .later }
def FnExactTypeOfUptoCardSaid : Prop := Claim7.holds Tryd.pinned (.plain (OpenSpec.upto fnExactTypeOfSpec)) fnExactTypeOfUptoCard
end Rows
end Go.Proofs.YtpfbhjnlihhpkaaDoor
