/-
  No cell of these rows narrows 'for every input' (looked for: loops, veiled, ifaces, maps, wideKeys, modest, calm, conditions, laid).
  DERIVED. THE GIVEN ROWS OF THIS SEAT. 11 by the template 'for every input the law returns true; each argument reads behind the call as it read before'; 0 by the template 'total and deterministic' (their statements: YtepddopgmhdllaaTotals.lean).
  GIVEN WITH THE SEED: the statements are not yours to turn. If you find one false, say at which input.
  Laid BY PROGRAM, IN A SANDBOX (cutbox-rows.mjs): the forced cells as the released guide's own fill.sh prints them over the translation 6268cb326c09947e… (all of the seat's roots in one cut). By AI agents, Wed Nov 11 2026. No macro, syntax, notation, axiom, sorry.
-/
import Derived.Test.YtepddopgmhdllaaChecked
import GoSem.Claim
import GoSem.ClaimJoined
import GoSem.ClaimMapViews
import Derived.JoinedTies
import Derived.KernelRfl
namespace Go.Proofs.Ytepddopgmhdllaa
/- THE CELL 'sum', in the pinned program and in every row, IS THE sha256 OF THE DUMP (.gsa) THAT YtepddopgmhdllaaProg.lean LOADS. Nothing in Lean hashes anything: it is a label: what it is worth is what the hold of that sum in a sandbox is worth. -/
noncomputable def Try.pinned : Pinned := { name := "ytepddopgmhdllaa", sum := "6268cb326c09947e6c825702e3d529d0623bc2d7426dab9a05958cf2ef906094", checked := Try.checked }
namespace Rows
def none {H : Type} : Left H := { results := [], args := [] }

/-- 'laws.FnExactMoveRoot': WHATEVER THE INPUT: true; the input reads as it did. -/
def fnExactMoveRootSpec : ChangeSpec := { name := "fnExactMoveRoot", fn := fun _ => fun
  | [d1, d2, d3] => { results := [.lit (.bool true)], args := [d1, d2, d3] }
  | _ => none }
def fnExactMoveRootRow : OpenClaim := { program := "ytepddopgmhdllaa", sum := "6268cb326c09947e6c825702e3d529d0623bc2d7426dab9a05958cf2ef906094", func := "loop.example/g00101/laws.FnExactMoveRoot", spec := "fnExactMoveRoot", unfollowed := true, recurses := true, apart := false }
def FnExactMoveRootSaid : Prop := fnExactMoveRootRow.holds Try.pinned (OpenSpec.ofChange fnExactMoveRootSpec)

/-- ITS FALSE NEIGHBOUR: 'it returns false'. Refute it at one input. -/
def fnExactMoveRootWrong : ChangeSpec := { name := "fnExactMoveRoot", fn := fun _ => fun
  | [d1, d2, d3] => { results := [.lit (.bool false)], args := [d1, d2, d3] }
  | _ => none }
def FnExactMoveRootWrongFalsely : Prop := fnExactMoveRootRow.holds Try.pinned (OpenSpec.ofChange fnExactMoveRootWrong)

/-- 'laws.FnExactSetRoot': WHATEVER THE INPUT: true; the input reads as it did. -/
def fnExactSetRootSpec : ChangeSpec := { name := "fnExactSetRoot", fn := fun _ => fun
  | [d1, d2, d3] => { results := [.lit (.bool true)], args := [d1, d2, d3] }
  | _ => none }
def fnExactSetRootRow : OpenClaim := { program := "ytepddopgmhdllaa", sum := "6268cb326c09947e6c825702e3d529d0623bc2d7426dab9a05958cf2ef906094", func := "loop.example/g00101/laws.FnExactSetRoot", spec := "fnExactSetRoot", unfollowed := true, recurses := true, apart := false }
def FnExactSetRootSaid : Prop := fnExactSetRootRow.holds Try.pinned (OpenSpec.ofChange fnExactSetRootSpec)

/-- ITS FALSE NEIGHBOUR: 'it returns false'. Refute it at one input. -/
def fnExactSetRootWrong : ChangeSpec := { name := "fnExactSetRoot", fn := fun _ => fun
  | [d1, d2, d3] => { results := [.lit (.bool false)], args := [d1, d2, d3] }
  | _ => none }
def FnExactSetRootWrongFalsely : Prop := fnExactSetRootRow.holds Try.pinned (OpenSpec.ofChange fnExactSetRootWrong)

/-- 'laws.FnExactSetCell': WHATEVER THE INPUT: true; the input reads as it did. -/
def fnExactSetCellSpec : ChangeSpec := { name := "fnExactSetCell", fn := fun _ => fun
  | [d1, d2, d3] => { results := [.lit (.bool true)], args := [d1, d2, d3] }
  | _ => none }
def fnExactSetCellRow : OpenClaim := { program := "ytepddopgmhdllaa", sum := "6268cb326c09947e6c825702e3d529d0623bc2d7426dab9a05958cf2ef906094", func := "loop.example/g00101/laws.FnExactSetCell", spec := "fnExactSetCell", unfollowed := true, recurses := true, apart := false }
def FnExactSetCellSaid : Prop := fnExactSetCellRow.holds Try.pinned (OpenSpec.ofChange fnExactSetCellSpec)

/-- ITS FALSE NEIGHBOUR: 'it returns false'. Refute it at one input. -/
def fnExactSetCellWrong : ChangeSpec := { name := "fnExactSetCell", fn := fun _ => fun
  | [d1, d2, d3] => { results := [.lit (.bool false)], args := [d1, d2, d3] }
  | _ => none }
def FnExactSetCellWrongFalsely : Prop := fnExactSetCellRow.holds Try.pinned (OpenSpec.ofChange fnExactSetCellWrong)

/-- 'laws.FnExactFlip': WHATEVER THE INPUT: true; the input reads as it did. -/
def fnExactFlipSpec : ChangeSpec := { name := "fnExactFlip", fn := fun _ => fun
  | [d] => { results := [.lit (.bool true)], args := [d] }
  | _ => none }
def fnExactFlipRow : OpenClaim := { program := "ytepddopgmhdllaa", sum := "6268cb326c09947e6c825702e3d529d0623bc2d7426dab9a05958cf2ef906094", func := "loop.example/g00101/laws.FnExactFlip", spec := "fnExactFlip", unfollowed := true, recurses := true, apart := false }
def FnExactFlipSaid : Prop := fnExactFlipRow.holds Try.pinned (OpenSpec.ofChange fnExactFlipSpec)

/-- ITS FALSE NEIGHBOUR: 'it returns false'. Refute it at one input. -/
def fnExactFlipWrong : ChangeSpec := { name := "fnExactFlip", fn := fun _ => fun
  | [d] => { results := [.lit (.bool false)], args := [d] }
  | _ => none }
def FnExactFlipWrongFalsely : Prop := fnExactFlipRow.holds Try.pinned (OpenSpec.ofChange fnExactFlipWrong)

/-- 'laws.FnExactLoad': WHATEVER THE INPUT: true; the input reads as it did. -/
def fnExactLoadSpec : ChangeSpec := { name := "fnExactLoad", fn := fun _ => fun
  | [d1, d2, d3, d4] => { results := [.lit (.bool true)], args := [d1, d2, d3, d4] }
  | _ => none }
def fnExactLoadRow : OpenClaim := { program := "ytepddopgmhdllaa", sum := "6268cb326c09947e6c825702e3d529d0623bc2d7426dab9a05958cf2ef906094", func := "loop.example/g00101/laws.FnExactLoad", spec := "fnExactLoad", unfollowed := true, recurses := true, apart := false }
def FnExactLoadSaid : Prop := fnExactLoadRow.holds Try.pinned (OpenSpec.ofChange fnExactLoadSpec)

/-- ITS FALSE NEIGHBOUR: 'it returns false'. Refute it at one input. -/
def fnExactLoadWrong : ChangeSpec := { name := "fnExactLoad", fn := fun _ => fun
  | [d1, d2, d3, d4] => { results := [.lit (.bool false)], args := [d1, d2, d3, d4] }
  | _ => none }
def FnExactLoadWrongFalsely : Prop := fnExactLoadRow.holds Try.pinned (OpenSpec.ofChange fnExactLoadWrong)

/-- 'laws.FnExactFinish': WHATEVER THE INPUT: true; the input reads as it did. -/
def fnExactFinishSpec : ChangeSpec := { name := "fnExactFinish", fn := fun _ => fun
  | [d] => { results := [.lit (.bool true)], args := [d] }
  | _ => none }
def fnExactFinishRow : OpenClaim := { program := "ytepddopgmhdllaa", sum := "6268cb326c09947e6c825702e3d529d0623bc2d7426dab9a05958cf2ef906094", func := "loop.example/g00101/laws.FnExactFinish", spec := "fnExactFinish", unfollowed := true, recurses := true, apart := false }
def FnExactFinishSaid : Prop := fnExactFinishRow.holds Try.pinned (OpenSpec.ofChange fnExactFinishSpec)

/-- ITS FALSE NEIGHBOUR: 'it returns false'. Refute it at one input. -/
def fnExactFinishWrong : ChangeSpec := { name := "fnExactFinish", fn := fun _ => fun
  | [d] => { results := [.lit (.bool false)], args := [d] }
  | _ => none }
def FnExactFinishWrongFalsely : Prop := fnExactFinishRow.holds Try.pinned (OpenSpec.ofChange fnExactFinishWrong)

/-- 'laws.FnExactCollect': WHATEVER THE INPUT: true; the input reads as it did. -/
def fnExactCollectSpec : ChangeSpec := { name := "fnExactCollect", fn := fun _ => fun
  | [d] => { results := [.lit (.bool true)], args := [d] }
  | _ => none }
def fnExactCollectRow : OpenClaim := { program := "ytepddopgmhdllaa", sum := "6268cb326c09947e6c825702e3d529d0623bc2d7426dab9a05958cf2ef906094", func := "loop.example/g00101/laws.FnExactCollect", spec := "fnExactCollect", unfollowed := true, recurses := true, apart := false }
def FnExactCollectSaid : Prop := fnExactCollectRow.holds Try.pinned (OpenSpec.ofChange fnExactCollectSpec)

/-- ITS FALSE NEIGHBOUR: 'it returns false'. Refute it at one input. -/
def fnExactCollectWrong : ChangeSpec := { name := "fnExactCollect", fn := fun _ => fun
  | [d] => { results := [.lit (.bool false)], args := [d] }
  | _ => none }
def FnExactCollectWrongFalsely : Prop := fnExactCollectRow.holds Try.pinned (OpenSpec.ofChange fnExactCollectWrong)

/-- 'laws.FnBox': WHATEVER THE INPUT: true; the input reads as it did. -/
def fnBoxSpec : ChangeSpec := { name := "fnBox", fn := fun _ => fun
  | [d] => { results := [.lit (.bool true)], args := [d] }
  | _ => none }
def fnBoxRow : OpenClaim := { program := "ytepddopgmhdllaa", sum := "6268cb326c09947e6c825702e3d529d0623bc2d7426dab9a05958cf2ef906094", func := "loop.example/g00101/laws.FnBox", spec := "fnBox", unfollowed := true, recurses := true, apart := false }
def FnBoxSaid : Prop := fnBoxRow.holds Try.pinned (OpenSpec.ofChange fnBoxSpec)

/-- ITS FALSE NEIGHBOUR: 'it returns false'. Refute it at one input. -/
def fnBoxWrong : ChangeSpec := { name := "fnBox", fn := fun _ => fun
  | [d] => { results := [.lit (.bool false)], args := [d] }
  | _ => none }
def FnBoxWrongFalsely : Prop := fnBoxRow.holds Try.pinned (OpenSpec.ofChange fnBoxWrong)

/-- 'laws.FnExactShapeOf': WHATEVER THE INPUT: true; the input reads as it did. -/
def fnExactShapeOfSpec : ChangeSpec := { name := "fnExactShapeOf", fn := fun _ => fun
  | [d] => { results := [.lit (.bool true)], args := [d] }
  | _ => none }
def fnExactShapeOfRow : OpenClaim := { program := "ytepddopgmhdllaa", sum := "6268cb326c09947e6c825702e3d529d0623bc2d7426dab9a05958cf2ef906094", func := "loop.example/g00101/laws.FnExactShapeOf", spec := "fnExactShapeOf", unfollowed := true, recurses := true, apart := false }
def FnExactShapeOfSaid : Prop := fnExactShapeOfRow.holds Try.pinned (OpenSpec.ofChange fnExactShapeOfSpec)

/-- ITS FALSE NEIGHBOUR: 'it returns false'. Refute it at one input. -/
def fnExactShapeOfWrong : ChangeSpec := { name := "fnExactShapeOf", fn := fun _ => fun
  | [d] => { results := [.lit (.bool false)], args := [d] }
  | _ => none }
def FnExactShapeOfWrongFalsely : Prop := fnExactShapeOfRow.holds Try.pinned (OpenSpec.ofChange fnExactShapeOfWrong)

/-- 'laws.FnTexts': WHATEVER THE INPUT: true; the input reads as it did. -/
def fnTextsSpec : ChangeSpec := { name := "fnTexts", fn := fun _ => fun
  | [d] => { results := [.lit (.bool true)], args := [d] }
  | _ => none }
def fnTextsRow : OpenClaim := { program := "ytepddopgmhdllaa", sum := "6268cb326c09947e6c825702e3d529d0623bc2d7426dab9a05958cf2ef906094", func := "loop.example/g00101/laws.FnTexts", spec := "fnTexts", inPlace := ["internal/bytealg.abigen_runtime_cmpstring"], unfollowed := true, recurses := true, apart := false }
def FnTextsSaid : Prop := fnTextsRow.holds Try.pinned (OpenSpec.ofChange fnTextsSpec)

/-- ITS FALSE NEIGHBOUR: 'it returns false'. Refute it at one input. -/
def fnTextsWrong : ChangeSpec := { name := "fnTexts", fn := fun _ => fun
  | [d] => { results := [.lit (.bool false)], args := [d] }
  | _ => none }
def FnTextsWrongFalsely : Prop := fnTextsRow.holds Try.pinned (OpenSpec.ofChange fnTextsWrong)

/-- 'laws.FnBorn': WHATEVER THE INPUT: true; the input reads as it did. -/
def fnBornSpec : ChangeSpec := { name := "fnBorn", fn := fun _ => fun
  | [d] => { results := [.lit (.bool true)], args := [d] }
  | _ => none }
def fnBornRow : OpenClaim := { program := "ytepddopgmhdllaa", sum := "6268cb326c09947e6c825702e3d529d0623bc2d7426dab9a05958cf2ef906094", func := "loop.example/g00101/laws.FnBorn", spec := "fnBorn", unfollowed := true, recurses := true, apart := false }
def FnBornSaid : Prop := fnBornRow.holds Try.pinned (OpenSpec.ofChange fnBornSpec)

/-- ITS FALSE NEIGHBOUR: 'it returns false'. Refute it at one input. -/
def fnBornWrong : ChangeSpec := { name := "fnBorn", fn := fun _ => fun
  | [d] => { results := [.lit (.bool false)], args := [d] }
  | _ => none }
def FnBornWrongFalsely : Prop := fnBornRow.holds Try.pinned (OpenSpec.ofChange fnBornWrong)

/- THE SECOND FORM. 'bulk': how many values and letters a reading holds, each counted each time it is reached (what is shared counts as often as it is met; a slice's spare places count too). A statement '..UptoSaid' is the law's where the arguments, and the package variables that the reading takes, are together of bulk at most 1048576: NARROWER than '..Said'. Prove '..Said' where nothing that the law and all that it calls make is longer than what came in: it says more and counts as full. Else prove '..UptoSaid'. A law counts once. -/
mutual
def uptoBulk {H : Type} : DataW H → Nat
  | .lit (.string bytes) => bytes.length + 1
  | .lit _ => 1
  | .nil => 1
  | .ptr d => uptoBulk d + 1
  | .slice elems spare => uptoBulkAll elems + uptoBulkAll spare + 1
  | .agg parts => uptoBulkAll parts + 1
  | .iface _ d => uptoBulk d + 1
  | .map entries => uptoBulkEntries entries + 1
  | .held _ => 1
def uptoBulkAll {H : Type} : List (DataW H) → Nat
  | [] => 0
  | d :: r => uptoBulk d + uptoBulkAll r
def uptoBulkEntries {H : Type} : List (Lit × DataW H) → Nat
  | [] => 0
  | x :: r => uptoBulkEntry x + uptoBulkEntries r
def uptoBulkEntry {H : Type} : Lit × DataW H → Nat
  | (.string bytes, d) => bytes.length + uptoBulk d + 1
  | (_, d) => uptoBulk d + 1
 end
def uptoSmall : (H : Type) → List (DataW H) → Bool := fun _ ds => decide (uptoBulkAll ds ≤ 1048576)
def OpenSpec.upto (s : _root_.Go.ChangeSpec) : _root_.Go.OpenSpec := { _root_.Go.OpenSpec.ofChange s with cond := some uptoSmall }

/-- 'laws.FnExactMoveRoot', WHERE WHAT IT READS IS OF BULK AT MOST 1048576: true; the input reads as it did. -/
def fnExactMoveRootUptoRow : OpenClaim := { program := "ytepddopgmhdllaa", sum := "6268cb326c09947e6c825702e3d529d0623bc2d7426dab9a05958cf2ef906094", func := "loop.example/g00101/laws.FnExactMoveRoot", spec := "fnExactMoveRoot", unfollowed := true, recurses := true, apart := false, narrowed := true }
def FnExactMoveRootUptoSaid : Prop := fnExactMoveRootUptoRow.holds Try.pinned (OpenSpec.upto fnExactMoveRootSpec)

/-- 'laws.FnExactSetRoot', WHERE WHAT IT READS IS OF BULK AT MOST 1048576: true; the input reads as it did. -/
def fnExactSetRootUptoRow : OpenClaim := { program := "ytepddopgmhdllaa", sum := "6268cb326c09947e6c825702e3d529d0623bc2d7426dab9a05958cf2ef906094", func := "loop.example/g00101/laws.FnExactSetRoot", spec := "fnExactSetRoot", unfollowed := true, recurses := true, apart := false, narrowed := true }
def FnExactSetRootUptoSaid : Prop := fnExactSetRootUptoRow.holds Try.pinned (OpenSpec.upto fnExactSetRootSpec)

/-- 'laws.FnExactSetCell', WHERE WHAT IT READS IS OF BULK AT MOST 1048576: true; the input reads as it did. -/
def fnExactSetCellUptoRow : OpenClaim := { program := "ytepddopgmhdllaa", sum := "6268cb326c09947e6c825702e3d529d0623bc2d7426dab9a05958cf2ef906094", func := "loop.example/g00101/laws.FnExactSetCell", spec := "fnExactSetCell", unfollowed := true, recurses := true, apart := false, narrowed := true }
def FnExactSetCellUptoSaid : Prop := fnExactSetCellUptoRow.holds Try.pinned (OpenSpec.upto fnExactSetCellSpec)

/-- 'laws.FnExactFlip', WHERE WHAT IT READS IS OF BULK AT MOST 1048576: true; the input reads as it did. -/
def fnExactFlipUptoRow : OpenClaim := { program := "ytepddopgmhdllaa", sum := "6268cb326c09947e6c825702e3d529d0623bc2d7426dab9a05958cf2ef906094", func := "loop.example/g00101/laws.FnExactFlip", spec := "fnExactFlip", unfollowed := true, recurses := true, apart := false, narrowed := true }
def FnExactFlipUptoSaid : Prop := fnExactFlipUptoRow.holds Try.pinned (OpenSpec.upto fnExactFlipSpec)

/-- 'laws.FnExactLoad', WHERE WHAT IT READS IS OF BULK AT MOST 1048576: true; the input reads as it did. -/
def fnExactLoadUptoRow : OpenClaim := { program := "ytepddopgmhdllaa", sum := "6268cb326c09947e6c825702e3d529d0623bc2d7426dab9a05958cf2ef906094", func := "loop.example/g00101/laws.FnExactLoad", spec := "fnExactLoad", unfollowed := true, recurses := true, apart := false, narrowed := true }
def FnExactLoadUptoSaid : Prop := fnExactLoadUptoRow.holds Try.pinned (OpenSpec.upto fnExactLoadSpec)

/-- 'laws.FnExactFinish', WHERE WHAT IT READS IS OF BULK AT MOST 1048576: true; the input reads as it did. -/
def fnExactFinishUptoRow : OpenClaim := { program := "ytepddopgmhdllaa", sum := "6268cb326c09947e6c825702e3d529d0623bc2d7426dab9a05958cf2ef906094", func := "loop.example/g00101/laws.FnExactFinish", spec := "fnExactFinish", unfollowed := true, recurses := true, apart := false, narrowed := true }
def FnExactFinishUptoSaid : Prop := fnExactFinishUptoRow.holds Try.pinned (OpenSpec.upto fnExactFinishSpec)

/-- 'laws.FnExactCollect', WHERE WHAT IT READS IS OF BULK AT MOST 1048576: true; the input reads as it did. -/
def fnExactCollectUptoRow : OpenClaim := { program := "ytepddopgmhdllaa", sum := "6268cb326c09947e6c825702e3d529d0623bc2d7426dab9a05958cf2ef906094", func := "loop.example/g00101/laws.FnExactCollect", spec := "fnExactCollect", unfollowed := true, recurses := true, apart := false, narrowed := true }
def FnExactCollectUptoSaid : Prop := fnExactCollectUptoRow.holds Try.pinned (OpenSpec.upto fnExactCollectSpec)

/-- 'laws.FnBox', WHERE WHAT IT READS IS OF BULK AT MOST 1048576: true; the input reads as it did. -/
def fnBoxUptoRow : OpenClaim := { program := "ytepddopgmhdllaa", sum := "6268cb326c09947e6c825702e3d529d0623bc2d7426dab9a05958cf2ef906094", func := "loop.example/g00101/laws.FnBox", spec := "fnBox", unfollowed := true, recurses := true, apart := false, narrowed := true }
def FnBoxUptoSaid : Prop := fnBoxUptoRow.holds Try.pinned (OpenSpec.upto fnBoxSpec)

/-- 'laws.FnExactShapeOf', WHERE WHAT IT READS IS OF BULK AT MOST 1048576: true; the input reads as it did. -/
def fnExactShapeOfUptoRow : OpenClaim := { program := "ytepddopgmhdllaa", sum := "6268cb326c09947e6c825702e3d529d0623bc2d7426dab9a05958cf2ef906094", func := "loop.example/g00101/laws.FnExactShapeOf", spec := "fnExactShapeOf", unfollowed := true, recurses := true, apart := false, narrowed := true }
def FnExactShapeOfUptoSaid : Prop := fnExactShapeOfUptoRow.holds Try.pinned (OpenSpec.upto fnExactShapeOfSpec)

/-- 'laws.FnTexts', WHERE WHAT IT READS IS OF BULK AT MOST 1048576: true; the input reads as it did. -/
def fnTextsUptoRow : OpenClaim := { program := "ytepddopgmhdllaa", sum := "6268cb326c09947e6c825702e3d529d0623bc2d7426dab9a05958cf2ef906094", func := "loop.example/g00101/laws.FnTexts", spec := "fnTexts", inPlace := ["internal/bytealg.abigen_runtime_cmpstring"], unfollowed := true, recurses := true, apart := false, narrowed := true }
def FnTextsUptoSaid : Prop := fnTextsUptoRow.holds Try.pinned (OpenSpec.upto fnTextsSpec)

/-- 'laws.FnBorn', WHERE WHAT IT READS IS OF BULK AT MOST 1048576: true; the input reads as it did. -/
def fnBornUptoRow : OpenClaim := { program := "ytepddopgmhdllaa", sum := "6268cb326c09947e6c825702e3d529d0623bc2d7426dab9a05958cf2ef906094", func := "loop.example/g00101/laws.FnBorn", spec := "fnBorn", unfollowed := true, recurses := true, apart := false, narrowed := true }
def FnBornUptoSaid : Prop := fnBornUptoRow.holds Try.pinned (OpenSpec.upto fnBornSpec)

end Rows
end Go.Proofs.Ytepddopgmhdllaa
