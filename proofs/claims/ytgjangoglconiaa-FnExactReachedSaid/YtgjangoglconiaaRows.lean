/-
  No cell of these rows narrows 'for every input' (looked for: loops, veiled, ifaces, maps, wideKeys, modest, calm, conditions, laid).
  DERIVED. THE GIVEN ROWS OF THIS SEAT. 12 by the template 'for every input the law returns true; each argument reads behind the call as it read before'; 0 by the template 'total and deterministic' (their statements: YtgjangoglconiaaTotals.lean).
  GIVEN WITH THE SEED: the statements are not yours to turn. If you find one false, say at which input.
  Laid BY PROGRAM, IN A SANDBOX (cutbox-rows.mjs): the forced cells as the released guide's own fill.sh prints them over the translation a1bd0cd0372c8c50… (all of the seat's roots in one cut). By AI agents, Wed Nov 11 2026. No macro, syntax, notation, axiom, sorry.
-/
import Derived.Test.YtgjangoglconiaaChecked
import GoSem.Claim
import GoSem.ClaimJoined
import GoSem.ClaimMapViews
import Derived.JoinedTies
import Derived.KernelRfl
namespace Go.Proofs.Ytgjangoglconiaa
/- THE CELL 'sum', in the pinned program and in every row, IS THE sha256 OF THE DUMP (.gsa) THAT YtgjangoglconiaaProg.lean LOADS. Nothing in Lean hashes anything: it is a label: what it is worth is what the hold of that sum in a sandbox is worth. -/
noncomputable def Try.pinned : Pinned := { name := "ytgjangoglconiaa", sum := "a1bd0cd0372c8c50bf509abb3ed0b9f774e0a017dea6906169ec9379c3153b93", checked := Try.checked }
namespace Rows
def none {H : Type} : Left H := { results := [], args := [] }

/-- 'laws.FnExactArenaOk': WHATEVER THE INPUT: true; the input reads as it did. -/
def fnExactArenaOkSpec : ChangeSpec := { name := "fnExactArenaOk", fn := fun _ => fun
  | [d] => { results := [.lit (.bool true)], args := [d] }
  | _ => none }
def fnExactArenaOkRow : OpenClaim := { program := "ytgjangoglconiaa", sum := "a1bd0cd0372c8c50bf509abb3ed0b9f774e0a017dea6906169ec9379c3153b93", func := "loop.example/g00101/laws.FnExactArenaOk", spec := "fnExactArenaOk", unfollowed := true, recurses := true, apart := false }
def FnExactArenaOkSaid : Prop := fnExactArenaOkRow.holds Try.pinned (OpenSpec.ofChange fnExactArenaOkSpec)

/-- ITS FALSE NEIGHBOUR: 'it returns false'. Refute it at one input. -/
def fnExactArenaOkWrong : ChangeSpec := { name := "fnExactArenaOk", fn := fun _ => fun
  | [d] => { results := [.lit (.bool false)], args := [d] }
  | _ => none }
def FnExactArenaOkWrongFalsely : Prop := fnExactArenaOkRow.holds Try.pinned (OpenSpec.ofChange fnExactArenaOkWrong)

/-- 'laws.FnExactSameRoots': WHATEVER THE INPUT: true; the input reads as it did. -/
def fnExactSameRootsSpec : ChangeSpec := { name := "fnExactSameRoots", fn := fun _ => fun
  | [d1, d2, d3] => { results := [.lit (.bool true)], args := [d1, d2, d3] }
  | _ => none }
def fnExactSameRootsRow : OpenClaim := { program := "ytgjangoglconiaa", sum := "a1bd0cd0372c8c50bf509abb3ed0b9f774e0a017dea6906169ec9379c3153b93", func := "loop.example/g00101/laws.FnExactSameRoots", spec := "fnExactSameRoots", unfollowed := true, recurses := true, apart := false }
def FnExactSameRootsSaid : Prop := fnExactSameRootsRow.holds Try.pinned (OpenSpec.ofChange fnExactSameRootsSpec)

/-- ITS FALSE NEIGHBOUR: 'it returns false'. Refute it at one input. -/
def fnExactSameRootsWrong : ChangeSpec := { name := "fnExactSameRoots", fn := fun _ => fun
  | [d1, d2, d3] => { results := [.lit (.bool false)], args := [d1, d2, d3] }
  | _ => none }
def FnExactSameRootsWrongFalsely : Prop := fnExactSameRootsRow.holds Try.pinned (OpenSpec.ofChange fnExactSameRootsWrong)

/-- 'laws.FnExactFree': WHATEVER THE INPUT: true; the input reads as it did. -/
def fnExactFreeSpec : ChangeSpec := { name := "fnExactFree", fn := fun _ => fun
  | [d] => { results := [.lit (.bool true)], args := [d] }
  | _ => none }
def fnExactFreeRow : OpenClaim := { program := "ytgjangoglconiaa", sum := "a1bd0cd0372c8c50bf509abb3ed0b9f774e0a017dea6906169ec9379c3153b93", func := "loop.example/g00101/laws.FnExactFree", spec := "fnExactFree", unfollowed := true, recurses := true, apart := false }
def FnExactFreeSaid : Prop := fnExactFreeRow.holds Try.pinned (OpenSpec.ofChange fnExactFreeSpec)

/-- ITS FALSE NEIGHBOUR: 'it returns false'. Refute it at one input. -/
def fnExactFreeWrong : ChangeSpec := { name := "fnExactFree", fn := fun _ => fun
  | [d] => { results := [.lit (.bool false)], args := [d] }
  | _ => none }
def FnExactFreeWrongFalsely : Prop := fnExactFreeRow.holds Try.pinned (OpenSpec.ofChange fnExactFreeWrong)

/-- 'laws.FnExactProtoOf': WHATEVER THE INPUT: true; the input reads as it did. -/
def fnExactProtoOfSpec : ChangeSpec := { name := "fnExactProtoOf", fn := fun _ => fun
  | [d1, d2] => { results := [.lit (.bool true)], args := [d1, d2] }
  | _ => none }
def fnExactProtoOfRow : OpenClaim := { program := "ytgjangoglconiaa", sum := "a1bd0cd0372c8c50bf509abb3ed0b9f774e0a017dea6906169ec9379c3153b93", func := "loop.example/g00101/laws.FnExactProtoOf", spec := "fnExactProtoOf", unfollowed := true, recurses := true, apart := false }
def FnExactProtoOfSaid : Prop := fnExactProtoOfRow.holds Try.pinned (OpenSpec.ofChange fnExactProtoOfSpec)

/-- ITS FALSE NEIGHBOUR: 'it returns false'. Refute it at one input. -/
def fnExactProtoOfWrong : ChangeSpec := { name := "fnExactProtoOf", fn := fun _ => fun
  | [d1, d2] => { results := [.lit (.bool false)], args := [d1, d2] }
  | _ => none }
def FnExactProtoOfWrongFalsely : Prop := fnExactProtoOfRow.holds Try.pinned (OpenSpec.ofChange fnExactProtoOfWrong)

/-- 'laws.FnExactSerialOf': WHATEVER THE INPUT: true; the input reads as it did. -/
def fnExactSerialOfSpec : ChangeSpec := { name := "fnExactSerialOf", fn := fun _ => fun
  | [d1, d2] => { results := [.lit (.bool true)], args := [d1, d2] }
  | _ => none }
def fnExactSerialOfRow : OpenClaim := { program := "ytgjangoglconiaa", sum := "a1bd0cd0372c8c50bf509abb3ed0b9f774e0a017dea6906169ec9379c3153b93", func := "loop.example/g00101/laws.FnExactSerialOf", spec := "fnExactSerialOf", unfollowed := true, recurses := true, apart := false }
def FnExactSerialOfSaid : Prop := fnExactSerialOfRow.holds Try.pinned (OpenSpec.ofChange fnExactSerialOfSpec)

/-- ITS FALSE NEIGHBOUR: 'it returns false'. Refute it at one input. -/
def fnExactSerialOfWrong : ChangeSpec := { name := "fnExactSerialOf", fn := fun _ => fun
  | [d1, d2] => { results := [.lit (.bool false)], args := [d1, d2] }
  | _ => none }
def FnExactSerialOfWrongFalsely : Prop := fnExactSerialOfRow.holds Try.pinned (OpenSpec.ofChange fnExactSerialOfWrong)

/-- 'laws.FnExactTextOf': WHATEVER THE INPUT: true; the input reads as it did. -/
def fnExactTextOfSpec : ChangeSpec := { name := "fnExactTextOf", fn := fun _ => fun
  | [d1, d2] => { results := [.lit (.bool true)], args := [d1, d2] }
  | _ => none }
def fnExactTextOfRow : OpenClaim := { program := "ytgjangoglconiaa", sum := "a1bd0cd0372c8c50bf509abb3ed0b9f774e0a017dea6906169ec9379c3153b93", func := "loop.example/g00101/laws.FnExactTextOf", spec := "fnExactTextOf", unfollowed := true, recurses := true, apart := false }
def FnExactTextOfSaid : Prop := fnExactTextOfRow.holds Try.pinned (OpenSpec.ofChange fnExactTextOfSpec)

/-- ITS FALSE NEIGHBOUR: 'it returns false'. Refute it at one input. -/
def fnExactTextOfWrong : ChangeSpec := { name := "fnExactTextOf", fn := fun _ => fun
  | [d1, d2] => { results := [.lit (.bool false)], args := [d1, d2] }
  | _ => none }
def FnExactTextOfWrongFalsely : Prop := fnExactTextOfRow.holds Try.pinned (OpenSpec.ofChange fnExactTextOfWrong)

/-- 'laws.FnExactCapacity': WHATEVER THE INPUT: true; the input reads as it did. -/
def fnExactCapacitySpec : ChangeSpec := { name := "fnExactCapacity", fn := fun _ => fun
  | [d1, d2] => { results := [.lit (.bool true)], args := [d1, d2] }
  | _ => none }
def fnExactCapacityRow : OpenClaim := { program := "ytgjangoglconiaa", sum := "a1bd0cd0372c8c50bf509abb3ed0b9f774e0a017dea6906169ec9379c3153b93", func := "loop.example/g00101/laws.FnExactCapacity", spec := "fnExactCapacity", unfollowed := true, recurses := true, apart := false }
def FnExactCapacitySaid : Prop := fnExactCapacityRow.holds Try.pinned (OpenSpec.ofChange fnExactCapacitySpec)

/-- ITS FALSE NEIGHBOUR: 'it returns false'. Refute it at one input. -/
def fnExactCapacityWrong : ChangeSpec := { name := "fnExactCapacity", fn := fun _ => fun
  | [d1, d2] => { results := [.lit (.bool false)], args := [d1, d2] }
  | _ => none }
def FnExactCapacityWrongFalsely : Prop := fnExactCapacityRow.holds Try.pinned (OpenSpec.ofChange fnExactCapacityWrong)

/-- 'laws.FnExactCompareText': WHATEVER THE INPUT: true; the input reads as it did. -/
def fnExactCompareTextSpec : ChangeSpec := { name := "fnExactCompareText", fn := fun _ => fun
  | [d1, d2, d3] => { results := [.lit (.bool true)], args := [d1, d2, d3] }
  | _ => none }
def fnExactCompareTextRow : OpenClaim := { program := "ytgjangoglconiaa", sum := "a1bd0cd0372c8c50bf509abb3ed0b9f774e0a017dea6906169ec9379c3153b93", func := "loop.example/g00101/laws.FnExactCompareText", spec := "fnExactCompareText", inPlace := ["internal/bytealg.abigen_runtime_cmpstring"], unfollowed := true, recurses := true, apart := false }
def FnExactCompareTextSaid : Prop := fnExactCompareTextRow.holds Try.pinned (OpenSpec.ofChange fnExactCompareTextSpec)

/-- ITS FALSE NEIGHBOUR: 'it returns false'. Refute it at one input. -/
def fnExactCompareTextWrong : ChangeSpec := { name := "fnExactCompareText", fn := fun _ => fun
  | [d1, d2, d3] => { results := [.lit (.bool false)], args := [d1, d2, d3] }
  | _ => none }
def FnExactCompareTextWrongFalsely : Prop := fnExactCompareTextRow.holds Try.pinned (OpenSpec.ofChange fnExactCompareTextWrong)

/-- 'laws.FnExactHeadAt': WHATEVER THE INPUT: true; the input reads as it did. -/
def fnExactHeadAtSpec : ChangeSpec := { name := "fnExactHeadAt", fn := fun _ => fun
  | [d1, d2] => { results := [.lit (.bool true)], args := [d1, d2] }
  | _ => none }
def fnExactHeadAtRow : OpenClaim := { program := "ytgjangoglconiaa", sum := "a1bd0cd0372c8c50bf509abb3ed0b9f774e0a017dea6906169ec9379c3153b93", func := "loop.example/g00101/laws.FnExactHeadAt", spec := "fnExactHeadAt", unfollowed := true, recurses := true, apart := false }
def FnExactHeadAtSaid : Prop := fnExactHeadAtRow.holds Try.pinned (OpenSpec.ofChange fnExactHeadAtSpec)

/-- ITS FALSE NEIGHBOUR: 'it returns false'. Refute it at one input. -/
def fnExactHeadAtWrong : ChangeSpec := { name := "fnExactHeadAt", fn := fun _ => fun
  | [d1, d2] => { results := [.lit (.bool false)], args := [d1, d2] }
  | _ => none }
def FnExactHeadAtWrongFalsely : Prop := fnExactHeadAtRow.holds Try.pinned (OpenSpec.ofChange fnExactHeadAtWrong)

/-- 'laws.FnExactReached': WHATEVER THE INPUT: true; the input reads as it did. -/
def fnExactReachedSpec : ChangeSpec := { name := "fnExactReached", fn := fun _ => fun
  | [d] => { results := [.lit (.bool true)], args := [d] }
  | _ => none }
def fnExactReachedRow : OpenClaim := { program := "ytgjangoglconiaa", sum := "a1bd0cd0372c8c50bf509abb3ed0b9f774e0a017dea6906169ec9379c3153b93", func := "loop.example/g00101/laws.FnExactReached", spec := "fnExactReached", unfollowed := true, recurses := true, apart := false }
def FnExactReachedSaid : Prop := fnExactReachedRow.holds Try.pinned (OpenSpec.ofChange fnExactReachedSpec)

/-- ITS FALSE NEIGHBOUR: 'it returns false'. Refute it at one input. -/
def fnExactReachedWrong : ChangeSpec := { name := "fnExactReached", fn := fun _ => fun
  | [d] => { results := [.lit (.bool false)], args := [d] }
  | _ => none }
def FnExactReachedWrongFalsely : Prop := fnExactReachedRow.holds Try.pinned (OpenSpec.ofChange fnExactReachedWrong)

/-- 'laws.FnExactBorder': WHATEVER THE INPUT: true; the input reads as it did. -/
def fnExactBorderSpec : ChangeSpec := { name := "fnExactBorder", fn := fun _ => fun
  | [d1, d2] => { results := [.lit (.bool true)], args := [d1, d2] }
  | _ => none }
def fnExactBorderRow : OpenClaim := { program := "ytgjangoglconiaa", sum := "a1bd0cd0372c8c50bf509abb3ed0b9f774e0a017dea6906169ec9379c3153b93", func := "loop.example/g00101/laws.FnExactBorder", spec := "fnExactBorder", unfollowed := true, recurses := true, apart := false }
def FnExactBorderSaid : Prop := fnExactBorderRow.holds Try.pinned (OpenSpec.ofChange fnExactBorderSpec)

/-- ITS FALSE NEIGHBOUR: 'it returns false'. Refute it at one input. -/
def fnExactBorderWrong : ChangeSpec := { name := "fnExactBorder", fn := fun _ => fun
  | [d1, d2] => { results := [.lit (.bool false)], args := [d1, d2] }
  | _ => none }
def FnExactBorderWrongFalsely : Prop := fnExactBorderRow.holds Try.pinned (OpenSpec.ofChange fnExactBorderWrong)

/-- 'laws.FnExactObjects': WHATEVER THE INPUT: true; the input reads as it did. -/
def fnExactObjectsSpec : ChangeSpec := { name := "fnExactObjects", fn := fun _ => fun
  | [d] => { results := [.lit (.bool true)], args := [d] }
  | _ => none }
def fnExactObjectsRow : OpenClaim := { program := "ytgjangoglconiaa", sum := "a1bd0cd0372c8c50bf509abb3ed0b9f774e0a017dea6906169ec9379c3153b93", func := "loop.example/g00101/laws.FnExactObjects", spec := "fnExactObjects", unfollowed := true, recurses := true, apart := false }
def FnExactObjectsSaid : Prop := fnExactObjectsRow.holds Try.pinned (OpenSpec.ofChange fnExactObjectsSpec)

/-- ITS FALSE NEIGHBOUR: 'it returns false'. Refute it at one input. -/
def fnExactObjectsWrong : ChangeSpec := { name := "fnExactObjects", fn := fun _ => fun
  | [d] => { results := [.lit (.bool false)], args := [d] }
  | _ => none }
def FnExactObjectsWrongFalsely : Prop := fnExactObjectsRow.holds Try.pinned (OpenSpec.ofChange fnExactObjectsWrong)

/- THE SECOND FORM. 'bulk': how many values and letters a reading holds, each counted each time it is reached (what is shared counts as often as it is met; a slice's spare places count too). A statement '..UptoSaid' is the law's where the arguments, and the package variables that the reading takes, are together of bulk at most 1048576: NARROWER than '..Said'. Prove '..Said' where nothing that the law and all that it calls make is longer than what came in: it says more and counts as full. Else prove '..UptoSaid'. A law counts once. -/
mutual
def uptoBulk {H : Type} : DataW H → Nat
  | .lit (.string bytes) => bytes.length + 1
  | .lit _ => 1
  | .nil => 1
  | .ptr d => uptoBulk d + 1
  | .slice elems spare => uptoBulkAll elems + uptoBulkAll spare + 1
  | .agg parts => uptoBulkAll parts + 1
  | .iface _ d => uptoBulk d + 1
  | .map entries => uptoBulkEntries entries + 1
  | .held _ => 1
def uptoBulkAll {H : Type} : List (DataW H) → Nat
  | [] => 0
  | d :: r => uptoBulk d + uptoBulkAll r
def uptoBulkEntries {H : Type} : List (Lit × DataW H) → Nat
  | [] => 0
  | x :: r => uptoBulkEntry x + uptoBulkEntries r
def uptoBulkEntry {H : Type} : Lit × DataW H → Nat
  | (.string bytes, d) => bytes.length + uptoBulk d + 1
  | (_, d) => uptoBulk d + 1
 end
def uptoSmall : (H : Type) → List (DataW H) → Bool := fun _ ds => decide (uptoBulkAll ds ≤ 1048576)
def OpenSpec.upto (s : _root_.Go.ChangeSpec) : _root_.Go.OpenSpec := { _root_.Go.OpenSpec.ofChange s with cond := some uptoSmall }

/-- 'laws.FnExactArenaOk', WHERE WHAT IT READS IS OF BULK AT MOST 1048576: true; the input reads as it did. -/
def fnExactArenaOkUptoRow : OpenClaim := { program := "ytgjangoglconiaa", sum := "a1bd0cd0372c8c50bf509abb3ed0b9f774e0a017dea6906169ec9379c3153b93", func := "loop.example/g00101/laws.FnExactArenaOk", spec := "fnExactArenaOk", unfollowed := true, recurses := true, apart := false, narrowed := true }
def FnExactArenaOkUptoSaid : Prop := fnExactArenaOkUptoRow.holds Try.pinned (OpenSpec.upto fnExactArenaOkSpec)

/-- 'laws.FnExactSameRoots', WHERE WHAT IT READS IS OF BULK AT MOST 1048576: true; the input reads as it did. -/
def fnExactSameRootsUptoRow : OpenClaim := { program := "ytgjangoglconiaa", sum := "a1bd0cd0372c8c50bf509abb3ed0b9f774e0a017dea6906169ec9379c3153b93", func := "loop.example/g00101/laws.FnExactSameRoots", spec := "fnExactSameRoots", unfollowed := true, recurses := true, apart := false, narrowed := true }
def FnExactSameRootsUptoSaid : Prop := fnExactSameRootsUptoRow.holds Try.pinned (OpenSpec.upto fnExactSameRootsSpec)

/-- 'laws.FnExactFree', WHERE WHAT IT READS IS OF BULK AT MOST 1048576: true; the input reads as it did. -/
def fnExactFreeUptoRow : OpenClaim := { program := "ytgjangoglconiaa", sum := "a1bd0cd0372c8c50bf509abb3ed0b9f774e0a017dea6906169ec9379c3153b93", func := "loop.example/g00101/laws.FnExactFree", spec := "fnExactFree", unfollowed := true, recurses := true, apart := false, narrowed := true }
def FnExactFreeUptoSaid : Prop := fnExactFreeUptoRow.holds Try.pinned (OpenSpec.upto fnExactFreeSpec)

/-- 'laws.FnExactProtoOf', WHERE WHAT IT READS IS OF BULK AT MOST 1048576: true; the input reads as it did. -/
def fnExactProtoOfUptoRow : OpenClaim := { program := "ytgjangoglconiaa", sum := "a1bd0cd0372c8c50bf509abb3ed0b9f774e0a017dea6906169ec9379c3153b93", func := "loop.example/g00101/laws.FnExactProtoOf", spec := "fnExactProtoOf", unfollowed := true, recurses := true, apart := false, narrowed := true }
def FnExactProtoOfUptoSaid : Prop := fnExactProtoOfUptoRow.holds Try.pinned (OpenSpec.upto fnExactProtoOfSpec)

/-- 'laws.FnExactSerialOf', WHERE WHAT IT READS IS OF BULK AT MOST 1048576: true; the input reads as it did. -/
def fnExactSerialOfUptoRow : OpenClaim := { program := "ytgjangoglconiaa", sum := "a1bd0cd0372c8c50bf509abb3ed0b9f774e0a017dea6906169ec9379c3153b93", func := "loop.example/g00101/laws.FnExactSerialOf", spec := "fnExactSerialOf", unfollowed := true, recurses := true, apart := false, narrowed := true }
def FnExactSerialOfUptoSaid : Prop := fnExactSerialOfUptoRow.holds Try.pinned (OpenSpec.upto fnExactSerialOfSpec)

/-- 'laws.FnExactTextOf', WHERE WHAT IT READS IS OF BULK AT MOST 1048576: true; the input reads as it did. -/
def fnExactTextOfUptoRow : OpenClaim := { program := "ytgjangoglconiaa", sum := "a1bd0cd0372c8c50bf509abb3ed0b9f774e0a017dea6906169ec9379c3153b93", func := "loop.example/g00101/laws.FnExactTextOf", spec := "fnExactTextOf", unfollowed := true, recurses := true, apart := false, narrowed := true }
def FnExactTextOfUptoSaid : Prop := fnExactTextOfUptoRow.holds Try.pinned (OpenSpec.upto fnExactTextOfSpec)

/-- 'laws.FnExactCapacity', WHERE WHAT IT READS IS OF BULK AT MOST 1048576: true; the input reads as it did. -/
def fnExactCapacityUptoRow : OpenClaim := { program := "ytgjangoglconiaa", sum := "a1bd0cd0372c8c50bf509abb3ed0b9f774e0a017dea6906169ec9379c3153b93", func := "loop.example/g00101/laws.FnExactCapacity", spec := "fnExactCapacity", unfollowed := true, recurses := true, apart := false, narrowed := true }
def FnExactCapacityUptoSaid : Prop := fnExactCapacityUptoRow.holds Try.pinned (OpenSpec.upto fnExactCapacitySpec)

/-- 'laws.FnExactCompareText', WHERE WHAT IT READS IS OF BULK AT MOST 1048576: true; the input reads as it did. -/
def fnExactCompareTextUptoRow : OpenClaim := { program := "ytgjangoglconiaa", sum := "a1bd0cd0372c8c50bf509abb3ed0b9f774e0a017dea6906169ec9379c3153b93", func := "loop.example/g00101/laws.FnExactCompareText", spec := "fnExactCompareText", inPlace := ["internal/bytealg.abigen_runtime_cmpstring"], unfollowed := true, recurses := true, apart := false, narrowed := true }
def FnExactCompareTextUptoSaid : Prop := fnExactCompareTextUptoRow.holds Try.pinned (OpenSpec.upto fnExactCompareTextSpec)

/-- 'laws.FnExactHeadAt', WHERE WHAT IT READS IS OF BULK AT MOST 1048576: true; the input reads as it did. -/
def fnExactHeadAtUptoRow : OpenClaim := { program := "ytgjangoglconiaa", sum := "a1bd0cd0372c8c50bf509abb3ed0b9f774e0a017dea6906169ec9379c3153b93", func := "loop.example/g00101/laws.FnExactHeadAt", spec := "fnExactHeadAt", unfollowed := true, recurses := true, apart := false, narrowed := true }
def FnExactHeadAtUptoSaid : Prop := fnExactHeadAtUptoRow.holds Try.pinned (OpenSpec.upto fnExactHeadAtSpec)

/-- 'laws.FnExactReached', WHERE WHAT IT READS IS OF BULK AT MOST 1048576: true; the input reads as it did. -/
def fnExactReachedUptoRow : OpenClaim := { program := "ytgjangoglconiaa", sum := "a1bd0cd0372c8c50bf509abb3ed0b9f774e0a017dea6906169ec9379c3153b93", func := "loop.example/g00101/laws.FnExactReached", spec := "fnExactReached", unfollowed := true, recurses := true, apart := false, narrowed := true }
def FnExactReachedUptoSaid : Prop := fnExactReachedUptoRow.holds Try.pinned (OpenSpec.upto fnExactReachedSpec)

/-- 'laws.FnExactBorder', WHERE WHAT IT READS IS OF BULK AT MOST 1048576: true; the input reads as it did. -/
def fnExactBorderUptoRow : OpenClaim := { program := "ytgjangoglconiaa", sum := "a1bd0cd0372c8c50bf509abb3ed0b9f774e0a017dea6906169ec9379c3153b93", func := "loop.example/g00101/laws.FnExactBorder", spec := "fnExactBorder", unfollowed := true, recurses := true, apart := false, narrowed := true }
def FnExactBorderUptoSaid : Prop := fnExactBorderUptoRow.holds Try.pinned (OpenSpec.upto fnExactBorderSpec)

/-- 'laws.FnExactObjects', WHERE WHAT IT READS IS OF BULK AT MOST 1048576: true; the input reads as it did. -/
def fnExactObjectsUptoRow : OpenClaim := { program := "ytgjangoglconiaa", sum := "a1bd0cd0372c8c50bf509abb3ed0b9f774e0a017dea6906169ec9379c3153b93", func := "loop.example/g00101/laws.FnExactObjects", spec := "fnExactObjects", unfollowed := true, recurses := true, apart := false, narrowed := true }
def FnExactObjectsUptoSaid : Prop := fnExactObjectsUptoRow.holds Try.pinned (OpenSpec.upto fnExactObjectsSpec)

end Rows
end Go.Proofs.Ytgjangoglconiaa
