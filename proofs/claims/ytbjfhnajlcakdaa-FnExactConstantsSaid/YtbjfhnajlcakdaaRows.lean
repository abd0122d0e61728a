/-
  No cell of these rows narrows 'for every input' (looked for: loops, veiled, ifaces, maps, wideKeys, modest, calm, conditions, laid).
  DERIVED. THE GIVEN ROWS OF THIS SEAT. 12 by the template 'for every input the law returns true; each argument reads behind the call as it read before'; 0 by the template 'total and deterministic' (their statements: YtbjfhnajlcakdaaTotals.lean).
  GIVEN WITH THE SEED: the statements are not yours to turn. If you find one false, say at which input.
  Laid BY PROGRAM, IN A SANDBOX (cutbox-rows.mjs): the forced cells as the released guide's own fill.sh prints them over the translation 6cd2e2f3e60b45ee… (all of the seat's roots in one cut). By AI agents, Wed Nov 11 2026. No macro, syntax, notation, axiom, sorry.
-/
import Derived.Test.YtbjfhnajlcakdaaChecked
import GoSem.Claim
import GoSem.ClaimJoined
import GoSem.ClaimMapViews
import Derived.JoinedTies
import Derived.KernelRfl
namespace Go.Proofs.Ytbjfhnajlcakdaa
/- THE CELL 'sum', in the pinned program and in every row, IS THE sha256 OF THE DUMP (.gsa) THAT YtbjfhnajlcakdaaProg.lean LOADS. Nothing in Lean hashes anything: it is a label: what it is worth is what the hold of that sum in a sandbox is worth. -/
noncomputable def Try.pinned : Pinned := { name := "ytbjfhnajlcakdaa", sum := "6cd2e2f3e60b45ee4968af855829bb671e53cb7ffc87c3e434f95b585f9cb2c8", checked := Try.checked }
namespace Rows
def none {H : Type} : Left H := { results := [], args := [] }

/-- 'laws.FnExactConstants': WHATEVER THE INPUT: true; the input reads as it did. -/
def fnExactConstantsSpec : ChangeSpec := { name := "fnExactConstants", fn := fun _ => fun
  | [] => { results := [.lit (.bool true)], args := [] }
  | _ => none }
def fnExactConstantsRow : OpenClaim := { program := "ytbjfhnajlcakdaa", sum := "6cd2e2f3e60b45ee4968af855829bb671e53cb7ffc87c3e434f95b585f9cb2c8", func := "loop.example/g00101/laws.FnExactConstants", spec := "fnExactConstants", apart := false }
def FnExactConstantsSaid : Prop := fnExactConstantsRow.holds Try.pinned (OpenSpec.ofChange fnExactConstantsSpec)

/-- ITS FALSE NEIGHBOUR: 'it returns false'. Refute it at one input. -/
def fnExactConstantsWrong : ChangeSpec := { name := "fnExactConstants", fn := fun _ => fun
  | [] => { results := [.lit (.bool false)], args := [] }
  | _ => none }
def FnExactConstantsWrongFalsely : Prop := fnExactConstantsRow.holds Try.pinned (OpenSpec.ofChange fnExactConstantsWrong)

/-- 'laws.FnExactForwarded': WHATEVER THE INPUT: true; the input reads as it did. -/
def fnExactForwardedSpec : ChangeSpec := { name := "fnExactForwarded", fn := fun _ => fun
  | [d] => { results := [.lit (.bool true)], args := [d] }
  | _ => none }
def fnExactForwardedRow : OpenClaim := { program := "ytbjfhnajlcakdaa", sum := "6cd2e2f3e60b45ee4968af855829bb671e53cb7ffc87c3e434f95b585f9cb2c8", func := "loop.example/g00101/laws.FnExactForwarded", spec := "fnExactForwarded", apart := false }
def FnExactForwardedSaid : Prop := fnExactForwardedRow.holds Try.pinned (OpenSpec.ofChange fnExactForwardedSpec)

/-- ITS FALSE NEIGHBOUR: 'it returns false'. Refute it at one input. -/
def fnExactForwardedWrong : ChangeSpec := { name := "fnExactForwarded", fn := fun _ => fun
  | [d] => { results := [.lit (.bool false)], args := [d] }
  | _ => none }
def FnExactForwardedWrongFalsely : Prop := fnExactForwardedRow.holds Try.pinned (OpenSpec.ofChange fnExactForwardedWrong)

/-- 'laws.FnExactIsWord': WHATEVER THE INPUT: true; the input reads as it did. -/
def fnExactIsWordSpec : ChangeSpec := { name := "fnExactIsWord", fn := fun _ => fun
  | [d] => { results := [.lit (.bool true)], args := [d] }
  | _ => none }
def fnExactIsWordRow : OpenClaim := { program := "ytbjfhnajlcakdaa", sum := "6cd2e2f3e60b45ee4968af855829bb671e53cb7ffc87c3e434f95b585f9cb2c8", func := "loop.example/g00101/laws.FnExactIsWord", spec := "fnExactIsWord", apart := false }
def FnExactIsWordSaid : Prop := fnExactIsWordRow.holds Try.pinned (OpenSpec.ofChange fnExactIsWordSpec)

/-- ITS FALSE NEIGHBOUR: 'it returns false'. Refute it at one input. -/
def fnExactIsWordWrong : ChangeSpec := { name := "fnExactIsWord", fn := fun _ => fun
  | [d] => { results := [.lit (.bool false)], args := [d] }
  | _ => none }
def FnExactIsWordWrongFalsely : Prop := fnExactIsWordRow.holds Try.pinned (OpenSpec.ofChange fnExactIsWordWrong)

/-- 'laws.FnExactLibOf': WHATEVER THE INPUT: true; the input reads as it did. -/
def fnExactLibOfSpec : ChangeSpec := { name := "fnExactLibOf", fn := fun _ => fun
  | [d] => { results := [.lit (.bool true)], args := [d] }
  | _ => none }
def fnExactLibOfRow : OpenClaim := { program := "ytbjfhnajlcakdaa", sum := "6cd2e2f3e60b45ee4968af855829bb671e53cb7ffc87c3e434f95b585f9cb2c8", func := "loop.example/g00101/laws.FnExactLibOf", spec := "fnExactLibOf", apart := false }
def FnExactLibOfSaid : Prop := fnExactLibOfRow.holds Try.pinned (OpenSpec.ofChange fnExactLibOfSpec)

/-- ITS FALSE NEIGHBOUR: 'it returns false'. Refute it at one input. -/
def fnExactLibOfWrong : ChangeSpec := { name := "fnExactLibOf", fn := fun _ => fun
  | [d] => { results := [.lit (.bool false)], args := [d] }
  | _ => none }
def FnExactLibOfWrongFalsely : Prop := fnExactLibOfRow.holds Try.pinned (OpenSpec.ofChange fnExactLibOfWrong)

/-- 'laws.FnExactIsRef': WHATEVER THE INPUT: true; the input reads as it did. -/
def fnExactIsRefSpec : ChangeSpec := { name := "fnExactIsRef", fn := fun _ => fun
  | [d] => { results := [.lit (.bool true)], args := [d] }
  | _ => none }
def fnExactIsRefRow : OpenClaim := { program := "ytbjfhnajlcakdaa", sum := "6cd2e2f3e60b45ee4968af855829bb671e53cb7ffc87c3e434f95b585f9cb2c8", func := "loop.example/g00101/laws.FnExactIsRef", spec := "fnExactIsRef", apart := false }
def FnExactIsRefSaid : Prop := fnExactIsRefRow.holds Try.pinned (OpenSpec.ofChange fnExactIsRefSpec)

/-- ITS FALSE NEIGHBOUR: 'it returns false'. Refute it at one input. -/
def fnExactIsRefWrong : ChangeSpec := { name := "fnExactIsRef", fn := fun _ => fun
  | [d] => { results := [.lit (.bool false)], args := [d] }
  | _ => none }
def FnExactIsRefWrongFalsely : Prop := fnExactIsRefRow.holds Try.pinned (OpenSpec.ofChange fnExactIsRefWrong)

/-- 'laws.FnExactHeadOk': WHATEVER THE INPUT: true; the input reads as it did. -/
def fnExactHeadOkSpec : ChangeSpec := { name := "fnExactHeadOk", fn := fun _ => fun
  | [d] => { results := [.lit (.bool true)], args := [d] }
  | _ => none }
def fnExactHeadOkRow : OpenClaim := { program := "ytbjfhnajlcakdaa", sum := "6cd2e2f3e60b45ee4968af855829bb671e53cb7ffc87c3e434f95b585f9cb2c8", func := "loop.example/g00101/laws.FnExactHeadOk", spec := "fnExactHeadOk", apart := false }
def FnExactHeadOkSaid : Prop := fnExactHeadOkRow.holds Try.pinned (OpenSpec.ofChange fnExactHeadOkSpec)

/-- ITS FALSE NEIGHBOUR: 'it returns false'. Refute it at one input. -/
def fnExactHeadOkWrong : ChangeSpec := { name := "fnExactHeadOk", fn := fun _ => fun
  | [d] => { results := [.lit (.bool false)], args := [d] }
  | _ => none }
def FnExactHeadOkWrongFalsely : Prop := fnExactHeadOkRow.holds Try.pinned (OpenSpec.ofChange fnExactHeadOkWrong)

/-- 'laws.FnExactPackHead': WHATEVER THE INPUT: true; the input reads as it did. -/
def fnExactPackHeadSpec : ChangeSpec := { name := "fnExactPackHead", fn := fun _ => fun
  | [d] => { results := [.lit (.bool true)], args := [d] }
  | _ => none }
def fnExactPackHeadRow : OpenClaim := { program := "ytbjfhnajlcakdaa", sum := "6cd2e2f3e60b45ee4968af855829bb671e53cb7ffc87c3e434f95b585f9cb2c8", func := "loop.example/g00101/laws.FnExactPackHead", spec := "fnExactPackHead", apart := false }
def FnExactPackHeadSaid : Prop := fnExactPackHeadRow.holds Try.pinned (OpenSpec.ofChange fnExactPackHeadSpec)

/-- ITS FALSE NEIGHBOUR: 'it returns false'. Refute it at one input. -/
def fnExactPackHeadWrong : ChangeSpec := { name := "fnExactPackHead", fn := fun _ => fun
  | [d] => { results := [.lit (.bool false)], args := [d] }
  | _ => none }
def FnExactPackHeadWrongFalsely : Prop := fnExactPackHeadRow.holds Try.pinned (OpenSpec.ofChange fnExactPackHeadWrong)

/-- 'laws.FnExactValOk': WHATEVER THE INPUT: true; the input reads as it did. -/
def fnExactValOkSpec : ChangeSpec := { name := "fnExactValOk", fn := fun _ => fun
  | [d] => { results := [.lit (.bool true)], args := [d] }
  | _ => none }
def fnExactValOkRow : OpenClaim := { program := "ytbjfhnajlcakdaa", sum := "6cd2e2f3e60b45ee4968af855829bb671e53cb7ffc87c3e434f95b585f9cb2c8", func := "loop.example/g00101/laws.FnExactValOk", spec := "fnExactValOk", apart := false }
def FnExactValOkSaid : Prop := fnExactValOkRow.holds Try.pinned (OpenSpec.ofChange fnExactValOkSpec)

/-- ITS FALSE NEIGHBOUR: 'it returns false'. Refute it at one input. -/
def fnExactValOkWrong : ChangeSpec := { name := "fnExactValOk", fn := fun _ => fun
  | [d] => { results := [.lit (.bool false)], args := [d] }
  | _ => none }
def FnExactValOkWrongFalsely : Prop := fnExactValOkRow.holds Try.pinned (OpenSpec.ofChange fnExactValOkWrong)

/-- 'laws.FnExactReadHead': WHATEVER THE INPUT: true; the input reads as it did. -/
def fnExactReadHeadSpec : ChangeSpec := { name := "fnExactReadHead", fn := fun _ => fun
  | [d] => { results := [.lit (.bool true)], args := [d] }
  | _ => none }
def fnExactReadHeadRow : OpenClaim := { program := "ytbjfhnajlcakdaa", sum := "6cd2e2f3e60b45ee4968af855829bb671e53cb7ffc87c3e434f95b585f9cb2c8", func := "loop.example/g00101/laws.FnExactReadHead", spec := "fnExactReadHead", apart := false }
def FnExactReadHeadSaid : Prop := fnExactReadHeadRow.holds Try.pinned (OpenSpec.ofChange fnExactReadHeadSpec)

/-- ITS FALSE NEIGHBOUR: 'it returns false'. Refute it at one input. -/
def fnExactReadHeadWrong : ChangeSpec := { name := "fnExactReadHead", fn := fun _ => fun
  | [d] => { results := [.lit (.bool false)], args := [d] }
  | _ => none }
def FnExactReadHeadWrongFalsely : Prop := fnExactReadHeadRow.holds Try.pinned (OpenSpec.ofChange fnExactReadHeadWrong)

/-- 'laws.FnExactSlots': WHATEVER THE INPUT: true; the input reads as it did. -/
def fnExactSlotsSpec : ChangeSpec := { name := "fnExactSlots", fn := fun _ => fun
  | [d1, d2] => { results := [.lit (.bool true)], args := [d1, d2] }
  | _ => none }
def fnExactSlotsRow : OpenClaim := { program := "ytbjfhnajlcakdaa", sum := "6cd2e2f3e60b45ee4968af855829bb671e53cb7ffc87c3e434f95b585f9cb2c8", func := "loop.example/g00101/laws.FnExactSlots", spec := "fnExactSlots", apart := false }
def FnExactSlotsSaid : Prop := fnExactSlotsRow.holds Try.pinned (OpenSpec.ofChange fnExactSlotsSpec)

/-- ITS FALSE NEIGHBOUR: 'it returns false'. Refute it at one input. -/
def fnExactSlotsWrong : ChangeSpec := { name := "fnExactSlots", fn := fun _ => fun
  | [d1, d2] => { results := [.lit (.bool false)], args := [d1, d2] }
  | _ => none }
def FnExactSlotsWrongFalsely : Prop := fnExactSlotsRow.holds Try.pinned (OpenSpec.ofChange fnExactSlotsWrong)

/-- 'laws.FnExactGetVal': WHATEVER THE INPUT: true; the input reads as it did. -/
def fnExactGetValSpec : ChangeSpec := { name := "fnExactGetVal", fn := fun _ => fun
  | [d1, d2] => { results := [.lit (.bool true)], args := [d1, d2] }
  | _ => none }
def fnExactGetValRow : OpenClaim := { program := "ytbjfhnajlcakdaa", sum := "6cd2e2f3e60b45ee4968af855829bb671e53cb7ffc87c3e434f95b585f9cb2c8", func := "loop.example/g00101/laws.FnExactGetVal", spec := "fnExactGetVal", apart := false }
def FnExactGetValSaid : Prop := fnExactGetValRow.holds Try.pinned (OpenSpec.ofChange fnExactGetValSpec)

/-- ITS FALSE NEIGHBOUR: 'it returns false'. Refute it at one input. -/
def fnExactGetValWrong : ChangeSpec := { name := "fnExactGetVal", fn := fun _ => fun
  | [d1, d2] => { results := [.lit (.bool false)], args := [d1, d2] }
  | _ => none }
def FnExactGetValWrongFalsely : Prop := fnExactGetValRow.holds Try.pinned (OpenSpec.ofChange fnExactGetValWrong)

/-- 'laws.FnExactPutVal': WHATEVER THE INPUT: true; the input reads as it did. -/
def fnExactPutValSpec : ChangeSpec := { name := "fnExactPutVal", fn := fun _ => fun
  | [d1, d2, d3] => { results := [.lit (.bool true)], args := [d1, d2, d3] }
  | _ => none }
def fnExactPutValRow : OpenClaim := { program := "ytbjfhnajlcakdaa", sum := "6cd2e2f3e60b45ee4968af855829bb671e53cb7ffc87c3e434f95b585f9cb2c8", func := "loop.example/g00101/laws.FnExactPutVal", spec := "fnExactPutVal", apart := false }
def FnExactPutValSaid : Prop := fnExactPutValRow.holds Try.pinned (OpenSpec.ofChange fnExactPutValSpec)

/-- ITS FALSE NEIGHBOUR: 'it returns false'. Refute it at one input. -/
def fnExactPutValWrong : ChangeSpec := { name := "fnExactPutVal", fn := fun _ => fun
  | [d1, d2, d3] => { results := [.lit (.bool false)], args := [d1, d2, d3] }
  | _ => none }
def FnExactPutValWrongFalsely : Prop := fnExactPutValRow.holds Try.pinned (OpenSpec.ofChange fnExactPutValWrong)

/- THE SECOND FORM. 'bulk': how many values and letters a reading holds, each counted each time it is reached (what is shared counts as often as it is met; a slice's spare places count too). A statement '..UptoSaid' is the law's where the arguments, and the package variables that the reading takes, are together of bulk at most 1048576: NARROWER than '..Said'. Prove '..Said' where nothing that the law and all that it calls make is longer than what came in: it says more and counts as full. Else prove '..UptoSaid'. A law counts once. -/
mutual
def uptoBulk {H : Type} : DataW H → Nat
  | .lit (.string bytes) => bytes.length + 1
  | .lit _ => 1
  | .nil => 1
  | .ptr d => uptoBulk d + 1
  | .slice elems spare => uptoBulkAll elems + uptoBulkAll spare + 1
  | .agg parts => uptoBulkAll parts + 1
  | .iface _ d => uptoBulk d + 1
  | .map entries => uptoBulkEntries entries + 1
  | .held _ => 1
def uptoBulkAll {H : Type} : List (DataW H) → Nat
  | [] => 0
  | d :: r => uptoBulk d + uptoBulkAll r
def uptoBulkEntries {H : Type} : List (Lit × DataW H) → Nat
  | [] => 0
  | x :: r => uptoBulkEntry x + uptoBulkEntries r
def uptoBulkEntry {H : Type} : Lit × DataW H → Nat
  | (.string bytes, d) => bytes.length + uptoBulk d + 1
  | (_, d) => uptoBulk d + 1
 end
def uptoSmall : (H : Type) → List (DataW H) → Bool := fun _ ds => decide (uptoBulkAll ds ≤ 1048576)
def OpenSpec.upto (s : _root_.Go.ChangeSpec) : _root_.Go.OpenSpec := { _root_.Go.OpenSpec.ofChange s with cond := some uptoSmall }

/-- 'laws.FnExactConstants', WHERE WHAT IT READS IS OF BULK AT MOST 1048576: true; the input reads as it did. -/
def fnExactConstantsUptoRow : OpenClaim := { program := "ytbjfhnajlcakdaa", sum := "6cd2e2f3e60b45ee4968af855829bb671e53cb7ffc87c3e434f95b585f9cb2c8", func := "loop.example/g00101/laws.FnExactConstants", spec := "fnExactConstants", apart := false, narrowed := true }
def FnExactConstantsUptoSaid : Prop := fnExactConstantsUptoRow.holds Try.pinned (OpenSpec.upto fnExactConstantsSpec)

/-- 'laws.FnExactForwarded', WHERE WHAT IT READS IS OF BULK AT MOST 1048576: true; the input reads as it did. -/
def fnExactForwardedUptoRow : OpenClaim := { program := "ytbjfhnajlcakdaa", sum := "6cd2e2f3e60b45ee4968af855829bb671e53cb7ffc87c3e434f95b585f9cb2c8", func := "loop.example/g00101/laws.FnExactForwarded", spec := "fnExactForwarded", apart := false, narrowed := true }
def FnExactForwardedUptoSaid : Prop := fnExactForwardedUptoRow.holds Try.pinned (OpenSpec.upto fnExactForwardedSpec)

/-- 'laws.FnExactIsWord', WHERE WHAT IT READS IS OF BULK AT MOST 1048576: true; the input reads as it did. -/
def fnExactIsWordUptoRow : OpenClaim := { program := "ytbjfhnajlcakdaa", sum := "6cd2e2f3e60b45ee4968af855829bb671e53cb7ffc87c3e434f95b585f9cb2c8", func := "loop.example/g00101/laws.FnExactIsWord", spec := "fnExactIsWord", apart := false, narrowed := true }
def FnExactIsWordUptoSaid : Prop := fnExactIsWordUptoRow.holds Try.pinned (OpenSpec.upto fnExactIsWordSpec)

/-- 'laws.FnExactLibOf', WHERE WHAT IT READS IS OF BULK AT MOST 1048576: true; the input reads as it did. -/
def fnExactLibOfUptoRow : OpenClaim := { program := "ytbjfhnajlcakdaa", sum := "6cd2e2f3e60b45ee4968af855829bb671e53cb7ffc87c3e434f95b585f9cb2c8", func := "loop.example/g00101/laws.FnExactLibOf", spec := "fnExactLibOf", apart := false, narrowed := true }
def FnExactLibOfUptoSaid : Prop := fnExactLibOfUptoRow.holds Try.pinned (OpenSpec.upto fnExactLibOfSpec)

/-- 'laws.FnExactIsRef', WHERE WHAT IT READS IS OF BULK AT MOST 1048576: true; the input reads as it did. -/
def fnExactIsRefUptoRow : OpenClaim := { program := "ytbjfhnajlcakdaa", sum := "6cd2e2f3e60b45ee4968af855829bb671e53cb7ffc87c3e434f95b585f9cb2c8", func := "loop.example/g00101/laws.FnExactIsRef", spec := "fnExactIsRef", apart := false, narrowed := true }
def FnExactIsRefUptoSaid : Prop := fnExactIsRefUptoRow.holds Try.pinned (OpenSpec.upto fnExactIsRefSpec)

/-- 'laws.FnExactHeadOk', WHERE WHAT IT READS IS OF BULK AT MOST 1048576: true; the input reads as it did. -/
def fnExactHeadOkUptoRow : OpenClaim := { program := "ytbjfhnajlcakdaa", sum := "6cd2e2f3e60b45ee4968af855829bb671e53cb7ffc87c3e434f95b585f9cb2c8", func := "loop.example/g00101/laws.FnExactHeadOk", spec := "fnExactHeadOk", apart := false, narrowed := true }
def FnExactHeadOkUptoSaid : Prop := fnExactHeadOkUptoRow.holds Try.pinned (OpenSpec.upto fnExactHeadOkSpec)

/-- 'laws.FnExactPackHead', WHERE WHAT IT READS IS OF BULK AT MOST 1048576: true; the input reads as it did. -/
def fnExactPackHeadUptoRow : OpenClaim := { program := "ytbjfhnajlcakdaa", sum := "6cd2e2f3e60b45ee4968af855829bb671e53cb7ffc87c3e434f95b585f9cb2c8", func := "loop.example/g00101/laws.FnExactPackHead", spec := "fnExactPackHead", apart := false, narrowed := true }
def FnExactPackHeadUptoSaid : Prop := fnExactPackHeadUptoRow.holds Try.pinned (OpenSpec.upto fnExactPackHeadSpec)

/-- 'laws.FnExactValOk', WHERE WHAT IT READS IS OF BULK AT MOST 1048576: true; the input reads as it did. -/
def fnExactValOkUptoRow : OpenClaim := { program := "ytbjfhnajlcakdaa", sum := "6cd2e2f3e60b45ee4968af855829bb671e53cb7ffc87c3e434f95b585f9cb2c8", func := "loop.example/g00101/laws.FnExactValOk", spec := "fnExactValOk", apart := false, narrowed := true }
def FnExactValOkUptoSaid : Prop := fnExactValOkUptoRow.holds Try.pinned (OpenSpec.upto fnExactValOkSpec)

/-- 'laws.FnExactReadHead', WHERE WHAT IT READS IS OF BULK AT MOST 1048576: true; the input reads as it did. -/
def fnExactReadHeadUptoRow : OpenClaim := { program := "ytbjfhnajlcakdaa", sum := "6cd2e2f3e60b45ee4968af855829bb671e53cb7ffc87c3e434f95b585f9cb2c8", func := "loop.example/g00101/laws.FnExactReadHead", spec := "fnExactReadHead", apart := false, narrowed := true }
def FnExactReadHeadUptoSaid : Prop := fnExactReadHeadUptoRow.holds Try.pinned (OpenSpec.upto fnExactReadHeadSpec)

/-- 'laws.FnExactSlots', WHERE WHAT IT READS IS OF BULK AT MOST 1048576: true; the input reads as it did. -/
def fnExactSlotsUptoRow : OpenClaim := { program := "ytbjfhnajlcakdaa", sum := "6cd2e2f3e60b45ee4968af855829bb671e53cb7ffc87c3e434f95b585f9cb2c8", func := "loop.example/g00101/laws.FnExactSlots", spec := "fnExactSlots", apart := false, narrowed := true }
def FnExactSlotsUptoSaid : Prop := fnExactSlotsUptoRow.holds Try.pinned (OpenSpec.upto fnExactSlotsSpec)

/-- 'laws.FnExactGetVal', WHERE WHAT IT READS IS OF BULK AT MOST 1048576: true; the input reads as it did. -/
def fnExactGetValUptoRow : OpenClaim := { program := "ytbjfhnajlcakdaa", sum := "6cd2e2f3e60b45ee4968af855829bb671e53cb7ffc87c3e434f95b585f9cb2c8", func := "loop.example/g00101/laws.FnExactGetVal", spec := "fnExactGetVal", apart := false, narrowed := true }
def FnExactGetValUptoSaid : Prop := fnExactGetValUptoRow.holds Try.pinned (OpenSpec.upto fnExactGetValSpec)

/-- 'laws.FnExactPutVal', WHERE WHAT IT READS IS OF BULK AT MOST 1048576: true; the input reads as it did. -/
def fnExactPutValUptoRow : OpenClaim := { program := "ytbjfhnajlcakdaa", sum := "6cd2e2f3e60b45ee4968af855829bb671e53cb7ffc87c3e434f95b585f9cb2c8", func := "loop.example/g00101/laws.FnExactPutVal", spec := "fnExactPutVal", apart := false, narrowed := true }
def FnExactPutValUptoSaid : Prop := fnExactPutValUptoRow.holds Try.pinned (OpenSpec.upto fnExactPutValSpec)

end Rows
end Go.Proofs.Ytbjfhnajlcakdaa
