/-
  No cell of these rows narrows 'for every input' (looked for: loops, veiled, ifaces, maps, wideKeys, modest, calm, conditions, laid).
  DERIVED. THE GIVEN ROWS OF THIS SEAT. 7 by the template 'for every input the law returns true; each argument reads behind the call as it read before'; 0 by the template 'total and deterministic' (their statements: YtpfbhjnlihhpkaaTotals.lean).
  GIVEN WITH THE SEED: the statements are not yours to turn. If you find one false, say at which input.
  Laid BY PROGRAM, IN A SANDBOX (cutbox-rows.mjs): the forced cells as the released guide's own fill.sh prints them over the translation 7e71bc7487d3ebc4… (all of the seat's roots in one cut). By AI agents, Wed Nov 11 2026. No macro, syntax, notation, axiom, sorry.
-/
import Derived.Test.YtpfbhjnlihhpkaaChecked
import GoSem.Claim
import GoSem.ClaimJoined
import GoSem.ClaimMapViews
import Derived.JoinedTies
import Derived.KernelRfl
namespace Go.Proofs.Ytpfbhjnlihhpkaa
/- THE CELL 'sum', in the pinned program and in every row, IS THE sha256 OF THE DUMP (.gsa) THAT YtpfbhjnlihhpkaaProg.lean LOADS. Nothing in Lean hashes anything: it is a label: what it is worth is what the hold of that sum in a sandbox is worth. -/
noncomputable def Try.pinned : Pinned := { name := "ytpfbhjnlihhpkaa", sum := "7e71bc7487d3ebc4ef63a35ec6b7910492d27201e4a40ffe2884ba69415f2a00", checked := Try.checked }
namespace Rows
def none {H : Type} : Left H := { results := [], args := [] }

/-- 'laws.FnExactNewArena': WHATEVER THE INPUT: true; the input reads as it did. -/
def fnExactNewArenaSpec : ChangeSpec := { name := "fnExactNewArena", fn := fun _ => fun
  | [d1, d2] => { results := [.lit (.bool true)], args := [d1, d2] }
  | _ => none }
def fnExactNewArenaRow : OpenClaim := { program := "ytpfbhjnlihhpkaa", sum := "7e71bc7487d3ebc4ef63a35ec6b7910492d27201e4a40ffe2884ba69415f2a00", func := "loop.example/g00101/laws.FnExactNewArena", spec := "fnExactNewArena", apart := false }
def FnExactNewArenaSaid : Prop := fnExactNewArenaRow.holds Try.pinned (OpenSpec.ofChange fnExactNewArenaSpec)

/-- ITS FALSE NEIGHBOUR: 'it returns false'. Refute it at one input. -/
def fnExactNewArenaWrong : ChangeSpec := { name := "fnExactNewArena", fn := fun _ => fun
  | [d1, d2] => { results := [.lit (.bool false)], args := [d1, d2] }
  | _ => none }
def FnExactNewArenaWrongFalsely : Prop := fnExactNewArenaRow.holds Try.pinned (OpenSpec.ofChange fnExactNewArenaWrong)

/-- 'laws.FnExactTreeSame': WHATEVER THE INPUT: true; the input reads as it did. -/
def fnExactTreeSameSpec : ChangeSpec := { name := "fnExactTreeSame", fn := fun _ => fun
  | [d1, d2] => { results := [.lit (.bool true)], args := [d1, d2] }
  | _ => none }
def fnExactTreeSameRow : OpenClaim := { program := "ytpfbhjnlihhpkaa", sum := "7e71bc7487d3ebc4ef63a35ec6b7910492d27201e4a40ffe2884ba69415f2a00", func := "loop.example/g00101/laws.FnExactTreeSame", spec := "fnExactTreeSame", unfollowed := true, recurses := true, apart := false }
def FnExactTreeSameSaid : Prop := fnExactTreeSameRow.holds Try.pinned (OpenSpec.ofChange fnExactTreeSameSpec)

/-- ITS FALSE NEIGHBOUR: 'it returns false'. Refute it at one input. -/
def fnExactTreeSameWrong : ChangeSpec := { name := "fnExactTreeSame", fn := fun _ => fun
  | [d1, d2] => { results := [.lit (.bool false)], args := [d1, d2] }
  | _ => none }
def FnExactTreeSameWrongFalsely : Prop := fnExactTreeSameRow.holds Try.pinned (OpenSpec.ofChange fnExactTreeSameWrong)

/-- 'laws.FnVal': WHATEVER THE INPUT: true; the input reads as it did. -/
def fnValSpec : ChangeSpec := { name := "fnVal", fn := fun _ => fun
  | [d] => { results := [.lit (.bool true)], args := [d] }
  | _ => none }
def fnValRow : OpenClaim := { program := "ytpfbhjnlihhpkaa", sum := "7e71bc7487d3ebc4ef63a35ec6b7910492d27201e4a40ffe2884ba69415f2a00", func := "loop.example/g00101/laws.FnVal", spec := "fnVal", apart := false }
def FnValSaid : Prop := fnValRow.holds Try.pinned (OpenSpec.ofChange fnValSpec)

/-- ITS FALSE NEIGHBOUR: 'it returns false'. Refute it at one input. -/
def fnValWrong : ChangeSpec := { name := "fnVal", fn := fun _ => fun
  | [d] => { results := [.lit (.bool false)], args := [d] }
  | _ => none }
def FnValWrongFalsely : Prop := fnValRow.holds Try.pinned (OpenSpec.ofChange fnValWrong)

/-- 'laws.FnWord': WHATEVER THE INPUT: true; the input reads as it did. -/
def fnWordSpec : ChangeSpec := { name := "fnWord", fn := fun _ => fun
  | [d] => { results := [.lit (.bool true)], args := [d] }
  | _ => none }
def fnWordRow : OpenClaim := { program := "ytpfbhjnlihhpkaa", sum := "7e71bc7487d3ebc4ef63a35ec6b7910492d27201e4a40ffe2884ba69415f2a00", func := "loop.example/g00101/laws.FnWord", spec := "fnWord", apart := false }
def FnWordSaid : Prop := fnWordRow.holds Try.pinned (OpenSpec.ofChange fnWordSpec)

/-- ITS FALSE NEIGHBOUR: 'it returns false'. Refute it at one input. -/
def fnWordWrong : ChangeSpec := { name := "fnWord", fn := fun _ => fun
  | [d] => { results := [.lit (.bool false)], args := [d] }
  | _ => none }
def FnWordWrongFalsely : Prop := fnWordRow.holds Try.pinned (OpenSpec.ofChange fnWordWrong)

/-- 'laws.FnExactShapeSame': WHATEVER THE INPUT: true; the input reads as it did. -/
def fnExactShapeSameSpec : ChangeSpec := { name := "fnExactShapeSame", fn := fun _ => fun
  | [d1, d2] => { results := [.lit (.bool true)], args := [d1, d2] }
  | _ => none }
def fnExactShapeSameRow : OpenClaim := { program := "ytpfbhjnlihhpkaa", sum := "7e71bc7487d3ebc4ef63a35ec6b7910492d27201e4a40ffe2884ba69415f2a00", func := "loop.example/g00101/laws.FnExactShapeSame", spec := "fnExactShapeSame", unfollowed := true, recurses := true, apart := false }
def FnExactShapeSameSaid : Prop := fnExactShapeSameRow.holds Try.pinned (OpenSpec.ofChange fnExactShapeSameSpec)

/-- ITS FALSE NEIGHBOUR: 'it returns false'. Refute it at one input. -/
def fnExactShapeSameWrong : ChangeSpec := { name := "fnExactShapeSame", fn := fun _ => fun
  | [d1, d2] => { results := [.lit (.bool false)], args := [d1, d2] }
  | _ => none }
def FnExactShapeSameWrongFalsely : Prop := fnExactShapeSameRow.holds Try.pinned (OpenSpec.ofChange fnExactShapeSameWrong)

/-- 'laws.FnExactModuleSame': WHATEVER THE INPUT: true; the input reads as it did. -/
def fnExactModuleSameSpec : ChangeSpec := { name := "fnExactModuleSame", fn := fun _ => fun
  | [d1, d2] => { results := [.lit (.bool true)], args := [d1, d2] }
  | _ => none }
def fnExactModuleSameRow : OpenClaim := { program := "ytpfbhjnlihhpkaa", sum := "7e71bc7487d3ebc4ef63a35ec6b7910492d27201e4a40ffe2884ba69415f2a00", func := "loop.example/g00101/laws.FnExactModuleSame", spec := "fnExactModuleSame", unfollowed := true, recurses := true, apart := false }
def FnExactModuleSameSaid : Prop := fnExactModuleSameRow.holds Try.pinned (OpenSpec.ofChange fnExactModuleSameSpec)

/-- ITS FALSE NEIGHBOUR: 'it returns false'. Refute it at one input. -/
def fnExactModuleSameWrong : ChangeSpec := { name := "fnExactModuleSame", fn := fun _ => fun
  | [d1, d2] => { results := [.lit (.bool false)], args := [d1, d2] }
  | _ => none }
def FnExactModuleSameWrongFalsely : Prop := fnExactModuleSameRow.holds Try.pinned (OpenSpec.ofChange fnExactModuleSameWrong)

/-- 'laws.FnExactModuleOk': WHATEVER THE INPUT: true; the input reads as it did. -/
def fnExactModuleOkSpec : ChangeSpec := { name := "fnExactModuleOk", fn := fun _ => fun
  | [d] => { results := [.lit (.bool true)], args := [d] }
  | _ => none }
def fnExactModuleOkRow : OpenClaim := { program := "ytpfbhjnlihhpkaa", sum := "7e71bc7487d3ebc4ef63a35ec6b7910492d27201e4a40ffe2884ba69415f2a00", func := "loop.example/g00101/laws.FnExactModuleOk", spec := "fnExactModuleOk", apart := false }
def FnExactModuleOkSaid : Prop := fnExactModuleOkRow.holds Try.pinned (OpenSpec.ofChange fnExactModuleOkSpec)

/-- ITS FALSE NEIGHBOUR: 'it returns false'. Refute it at one input. -/
def fnExactModuleOkWrong : ChangeSpec := { name := "fnExactModuleOk", fn := fun _ => fun
  | [d] => { results := [.lit (.bool false)], args := [d] }
  | _ => none }
def FnExactModuleOkWrongFalsely : Prop := fnExactModuleOkRow.holds Try.pinned (OpenSpec.ofChange fnExactModuleOkWrong)

/- THE SECOND FORM. 'bulk': how many values and letters a reading holds, each counted each time it is reached (what is shared counts as often as it is met; a slice's spare places count too). A statement '..UptoSaid' is the law's where the arguments, and the package variables that the reading takes, are together of bulk at most 1048576: NARROWER than '..Said'. Prove '..Said' where nothing that the law and all that it calls make is longer than what came in: it says more and counts as full. Else prove '..UptoSaid'. A law counts once. -/
mutual
def uptoBulk {H : Type} : DataW H → Nat
  | .lit (.string bytes) => bytes.length + 1
  | .lit _ => 1
  | .nil => 1
  | .ptr d => uptoBulk d + 1
  | .slice elems spare => uptoBulkAll elems + uptoBulkAll spare + 1
  | .agg parts => uptoBulkAll parts + 1
  | .iface _ d => uptoBulk d + 1
  | .map entries => uptoBulkEntries entries + 1
  | .held _ => 1
def uptoBulkAll {H : Type} : List (DataW H) → Nat
  | [] => 0
  | d :: r => uptoBulk d + uptoBulkAll r
def uptoBulkEntries {H : Type} : List (Lit × DataW H) → Nat
  | [] => 0
  | x :: r => uptoBulkEntry x + uptoBulkEntries r
def uptoBulkEntry {H : Type} : Lit × DataW H → Nat
  | (.string bytes, d) => bytes.length + uptoBulk d + 1
  | (_, d) => uptoBulk d + 1
 end
def uptoSmall : (H : Type) → List (DataW H) → Bool := fun _ ds => decide (uptoBulkAll ds ≤ 1048576)
def OpenSpec.upto (s : _root_.Go.ChangeSpec) : _root_.Go.OpenSpec := { _root_.Go.OpenSpec.ofChange s with cond := some uptoSmall }

/-- 'laws.FnExactNewArena', WHERE WHAT IT READS IS OF BULK AT MOST 1048576: true; the input reads as it did. -/
def fnExactNewArenaUptoRow : OpenClaim := { program := "ytpfbhjnlihhpkaa", sum := "7e71bc7487d3ebc4ef63a35ec6b7910492d27201e4a40ffe2884ba69415f2a00", func := "loop.example/g00101/laws.FnExactNewArena", spec := "fnExactNewArena", apart := false, narrowed := true }
def FnExactNewArenaUptoSaid : Prop := fnExactNewArenaUptoRow.holds Try.pinned (OpenSpec.upto fnExactNewArenaSpec)

/-- 'laws.FnExactTreeSame', WHERE WHAT IT READS IS OF BULK AT MOST 1048576: true; the input reads as it did. -/
def fnExactTreeSameUptoRow : OpenClaim := { program := "ytpfbhjnlihhpkaa", sum := "7e71bc7487d3ebc4ef63a35ec6b7910492d27201e4a40ffe2884ba69415f2a00", func := "loop.example/g00101/laws.FnExactTreeSame", spec := "fnExactTreeSame", unfollowed := true, recurses := true, apart := false, narrowed := true }
def FnExactTreeSameUptoSaid : Prop := fnExactTreeSameUptoRow.holds Try.pinned (OpenSpec.upto fnExactTreeSameSpec)

/-- 'laws.FnVal', WHERE WHAT IT READS IS OF BULK AT MOST 1048576: true; the input reads as it did. -/
def fnValUptoRow : OpenClaim := { program := "ytpfbhjnlihhpkaa", sum := "7e71bc7487d3ebc4ef63a35ec6b7910492d27201e4a40ffe2884ba69415f2a00", func := "loop.example/g00101/laws.FnVal", spec := "fnVal", apart := false, narrowed := true }
def FnValUptoSaid : Prop := fnValUptoRow.holds Try.pinned (OpenSpec.upto fnValSpec)

/-- 'laws.FnWord', WHERE WHAT IT READS IS OF BULK AT MOST 1048576: true; the input reads as it did. -/
def fnWordUptoRow : OpenClaim := { program := "ytpfbhjnlihhpkaa", sum := "7e71bc7487d3ebc4ef63a35ec6b7910492d27201e4a40ffe2884ba69415f2a00", func := "loop.example/g00101/laws.FnWord", spec := "fnWord", apart := false, narrowed := true }
def FnWordUptoSaid : Prop := fnWordUptoRow.holds Try.pinned (OpenSpec.upto fnWordSpec)

/-- 'laws.FnExactShapeSame', WHERE WHAT IT READS IS OF BULK AT MOST 1048576: true; the input reads as it did. -/
def fnExactShapeSameUptoRow : OpenClaim := { program := "ytpfbhjnlihhpkaa", sum := "7e71bc7487d3ebc4ef63a35ec6b7910492d27201e4a40ffe2884ba69415f2a00", func := "loop.example/g00101/laws.FnExactShapeSame", spec := "fnExactShapeSame", unfollowed := true, recurses := true, apart := false, narrowed := true }
def FnExactShapeSameUptoSaid : Prop := fnExactShapeSameUptoRow.holds Try.pinned (OpenSpec.upto fnExactShapeSameSpec)

/-- 'laws.FnExactModuleSame', WHERE WHAT IT READS IS OF BULK AT MOST 1048576: true; the input reads as it did. -/
def fnExactModuleSameUptoRow : OpenClaim := { program := "ytpfbhjnlihhpkaa", sum := "7e71bc7487d3ebc4ef63a35ec6b7910492d27201e4a40ffe2884ba69415f2a00", func := "loop.example/g00101/laws.FnExactModuleSame", spec := "fnExactModuleSame", unfollowed := true, recurses := true, apart := false, narrowed := true }
def FnExactModuleSameUptoSaid : Prop := fnExactModuleSameUptoRow.holds Try.pinned (OpenSpec.upto fnExactModuleSameSpec)

/-- 'laws.FnExactModuleOk', WHERE WHAT IT READS IS OF BULK AT MOST 1048576: true; the input reads as it did. -/
def fnExactModuleOkUptoRow : OpenClaim := { program := "ytpfbhjnlihhpkaa", sum := "7e71bc7487d3ebc4ef63a35ec6b7910492d27201e4a40ffe2884ba69415f2a00", func := "loop.example/g00101/laws.FnExactModuleOk", spec := "fnExactModuleOk", apart := false, narrowed := true }
def FnExactModuleOkUptoSaid : Prop := fnExactModuleOkUptoRow.holds Try.pinned (OpenSpec.upto fnExactModuleOkSpec)

end Rows
end Go.Proofs.Ytpfbhjnlihhpkaa
