/-
  No cell of these rows narrows 'for every input' (looked for: loops, veiled, ifaces, maps, wideKeys, modest, calm, conditions, laid).
  DERIVED. THE GIVEN ROWS OF THIS SEAT. 4 by the template 'for every input the law returns true; each argument reads behind the call as it read before'; 0 by the template 'total and deterministic' (their statements: YtepddopgmhdllaaGreatTotals.lean).
  GIVEN WITH THE SEED: the statements are not yours to turn. If you find one false, say at which input.
  Laid BY PROGRAM, IN A SANDBOX (cutbox-rows.mjs): the forced cells as the released guide's own fill.sh prints them over the translation 34a2ce7c3ea7a530… (all of the seat's roots in one cut). By AI agents, Wed Nov 11 2026. No macro, syntax, notation, axiom, sorry.
-/
import Derived.Test.YtepddopgmhdllaaGreatChecked
import GoSem.Claim
import GoSem.ClaimJoined
import GoSem.ClaimMapViews
import Derived.JoinedTies
import Derived.KernelRfl
namespace Go.Proofs.YtepddopgmhdllaaGreat
/- THE CELL 'sum', in the pinned program and in every row, IS THE sha256 OF THE DUMP (.gsa) THAT YtepddopgmhdllaaGreatProg.lean LOADS. Nothing in Lean hashes anything: it is a label: what it is worth is what the hold of that sum in a sandbox is worth. -/
noncomputable def Tryz.pinned : Pinned := { name := "ytepddopgmhdllaagreat", sum := "34a2ce7c3ea7a53074b2e62acf8637497bd1cf9f7507d2ecd69ff178e72fc5fe", checked := Tryz.checked }
namespace Rows
def none {H : Type} : Left H := { results := [], args := [] }

/-- 'laws.FnExactGetKey': WHATEVER THE INPUT: true; the input reads as it did. -/
def fnExactGetKeySpec : ChangeSpec := { name := "fnExactGetKey", fn := fun _ => fun
  | [d1, d2, d3, d4] => { results := [.lit (.bool true)], args := [d1, d2, d3, d4] }
  | _ => none }
def fnExactGetKeyRow : OpenClaim := { program := "ytepddopgmhdllaagreat", sum := "34a2ce7c3ea7a53074b2e62acf8637497bd1cf9f7507d2ecd69ff178e72fc5fe", func := "loop.example/g00101/laws.FnExactGetKey", spec := "fnExactGetKey", unfollowed := true, recurses := true, apart := false }
def FnExactGetKeySaid : Prop := fnExactGetKeyRow.holds Tryz.pinned (OpenSpec.ofChange fnExactGetKeySpec)

/-- ITS FALSE NEIGHBOUR: 'it returns false'. Refute it at one input. -/
def fnExactGetKeyWrong : ChangeSpec := { name := "fnExactGetKey", fn := fun _ => fun
  | [d1, d2, d3, d4] => { results := [.lit (.bool false)], args := [d1, d2, d3, d4] }
  | _ => none }
def FnExactGetKeyWrongFalsely : Prop := fnExactGetKeyRow.holds Tryz.pinned (OpenSpec.ofChange fnExactGetKeyWrong)

/-- 'laws.FnExactNextKey': WHATEVER THE INPUT: true; the input reads as it did. -/
def fnExactNextKeySpec : ChangeSpec := { name := "fnExactNextKey", fn := fun _ => fun
  | [d1, d2, d3, d4, d5] => { results := [.lit (.bool true)], args := [d1, d2, d3, d4, d5] }
  | _ => none }
def fnExactNextKeyRow : OpenClaim := { program := "ytepddopgmhdllaagreat", sum := "34a2ce7c3ea7a53074b2e62acf8637497bd1cf9f7507d2ecd69ff178e72fc5fe", func := "loop.example/g00101/laws.FnExactNextKey", spec := "fnExactNextKey", unfollowed := true, recurses := true, apart := false }
def FnExactNextKeySaid : Prop := fnExactNextKeyRow.holds Tryz.pinned (OpenSpec.ofChange fnExactNextKeySpec)

/-- ITS FALSE NEIGHBOUR: 'it returns false'. Refute it at one input. -/
def fnExactNextKeyWrong : ChangeSpec := { name := "fnExactNextKey", fn := fun _ => fun
  | [d1, d2, d3, d4, d5] => { results := [.lit (.bool false)], args := [d1, d2, d3, d4, d5] }
  | _ => none }
def FnExactNextKeyWrongFalsely : Prop := fnExactNextKeyRow.holds Tryz.pinned (OpenSpec.ofChange fnExactNextKeyWrong)

/-- 'laws.FnExactBoot': WHATEVER THE INPUT: true; the input reads as it did. -/
def fnExactBootSpec : ChangeSpec := { name := "fnExactBoot", fn := fun _ => fun
  | [d1, d2] => { results := [.lit (.bool true)], args := [d1, d2] }
  | _ => none }
def fnExactBootRow : OpenClaim := { program := "ytepddopgmhdllaagreat", sum := "34a2ce7c3ea7a53074b2e62acf8637497bd1cf9f7507d2ecd69ff178e72fc5fe", func := "loop.example/g00101/laws.FnExactBoot", spec := "fnExactBoot", apart := false }
def FnExactBootSaid : Prop := fnExactBootRow.holds Tryz.pinned (OpenSpec.ofChange fnExactBootSpec)

/-- ITS FALSE NEIGHBOUR: 'it returns false'. Refute it at one input. -/
def fnExactBootWrong : ChangeSpec := { name := "fnExactBoot", fn := fun _ => fun
  | [d1, d2] => { results := [.lit (.bool false)], args := [d1, d2] }
  | _ => none }
def FnExactBootWrongFalsely : Prop := fnExactBootRow.holds Tryz.pinned (OpenSpec.ofChange fnExactBootWrong)

/-- 'laws.FnExactNewTab': WHATEVER THE INPUT: true; the input reads as it did. -/
def fnExactNewTabSpec : ChangeSpec := { name := "fnExactNewTab", fn := fun _ => fun
  | [d1, d2] => { results := [.lit (.bool true)], args := [d1, d2] }
  | _ => none }
def fnExactNewTabRow : OpenClaim := { program := "ytepddopgmhdllaagreat", sum := "34a2ce7c3ea7a53074b2e62acf8637497bd1cf9f7507d2ecd69ff178e72fc5fe", func := "loop.example/g00101/laws.FnExactNewTab", spec := "fnExactNewTab", unfollowed := true, recurses := true, apart := false }
def FnExactNewTabSaid : Prop := fnExactNewTabRow.holds Tryz.pinned (OpenSpec.ofChange fnExactNewTabSpec)

/-- ITS FALSE NEIGHBOUR: 'it returns false'. Refute it at one input. -/
def fnExactNewTabWrong : ChangeSpec := { name := "fnExactNewTab", fn := fun _ => fun
  | [d1, d2] => { results := [.lit (.bool false)], args := [d1, d2] }
  | _ => none }
def FnExactNewTabWrongFalsely : Prop := fnExactNewTabRow.holds Tryz.pinned (OpenSpec.ofChange fnExactNewTabWrong)

/- THE SECOND FORM. 'bulk': how many values and letters a reading holds, each counted each time it is reached (what is shared counts as often as it is met; a slice's spare places count too). A statement '..UptoSaid' is the law's where the arguments, and the package variables that the reading takes, are together of bulk at most 1048576: NARROWER than '..Said'. Prove '..Said' where nothing that the law and all that it calls make is longer than what came in: it says more and counts as full. Else prove '..UptoSaid'. A law counts once. -/
mutual
def uptoBulk {H : Type} : DataW H → Nat
  | .lit (.string bytes) => bytes.length + 1
  | .lit _ => 1
  | .nil => 1
  | .ptr d => uptoBulk d + 1
  | .slice elems spare => uptoBulkAll elems + uptoBulkAll spare + 1
  | .agg parts => uptoBulkAll parts + 1
  | .iface _ d => uptoBulk d + 1
  | .map entries => uptoBulkEntries entries + 1
  | .held _ => 1
def uptoBulkAll {H : Type} : List (DataW H) → Nat
  | [] => 0
  | d :: r => uptoBulk d + uptoBulkAll r
def uptoBulkEntries {H : Type} : List (Lit × DataW H) → Nat
  | [] => 0
  | x :: r => uptoBulkEntry x + uptoBulkEntries r
def uptoBulkEntry {H : Type} : Lit × DataW H → Nat
  | (.string bytes, d) => bytes.length + uptoBulk d + 1
  | (_, d) => uptoBulk d + 1
 end
def uptoSmall : (H : Type) → List (DataW H) → Bool := fun _ ds => decide (uptoBulkAll ds ≤ 1048576)
def OpenSpec.upto (s : _root_.Go.ChangeSpec) : _root_.Go.OpenSpec := { _root_.Go.OpenSpec.ofChange s with cond := some uptoSmall }

/-- 'laws.FnExactGetKey', WHERE WHAT IT READS IS OF BULK AT MOST 1048576: true; the input reads as it did. -/
def fnExactGetKeyUptoRow : OpenClaim := { program := "ytepddopgmhdllaagreat", sum := "34a2ce7c3ea7a53074b2e62acf8637497bd1cf9f7507d2ecd69ff178e72fc5fe", func := "loop.example/g00101/laws.FnExactGetKey", spec := "fnExactGetKey", unfollowed := true, recurses := true, apart := false, narrowed := true }
def FnExactGetKeyUptoSaid : Prop := fnExactGetKeyUptoRow.holds Tryz.pinned (OpenSpec.upto fnExactGetKeySpec)

/-- 'laws.FnExactNextKey', WHERE WHAT IT READS IS OF BULK AT MOST 1048576: true; the input reads as it did. -/
def fnExactNextKeyUptoRow : OpenClaim := { program := "ytepddopgmhdllaagreat", sum := "34a2ce7c3ea7a53074b2e62acf8637497bd1cf9f7507d2ecd69ff178e72fc5fe", func := "loop.example/g00101/laws.FnExactNextKey", spec := "fnExactNextKey", unfollowed := true, recurses := true, apart := false, narrowed := true }
def FnExactNextKeyUptoSaid : Prop := fnExactNextKeyUptoRow.holds Tryz.pinned (OpenSpec.upto fnExactNextKeySpec)

/-- 'laws.FnExactBoot', WHERE WHAT IT READS IS OF BULK AT MOST 1048576: true; the input reads as it did. -/
def fnExactBootUptoRow : OpenClaim := { program := "ytepddopgmhdllaagreat", sum := "34a2ce7c3ea7a53074b2e62acf8637497bd1cf9f7507d2ecd69ff178e72fc5fe", func := "loop.example/g00101/laws.FnExactBoot", spec := "fnExactBoot", apart := false, narrowed := true }
def FnExactBootUptoSaid : Prop := fnExactBootUptoRow.holds Tryz.pinned (OpenSpec.upto fnExactBootSpec)

/-- 'laws.FnExactNewTab', WHERE WHAT IT READS IS OF BULK AT MOST 1048576: true; the input reads as it did. -/
def fnExactNewTabUptoRow : OpenClaim := { program := "ytepddopgmhdllaagreat", sum := "34a2ce7c3ea7a53074b2e62acf8637497bd1cf9f7507d2ecd69ff178e72fc5fe", func := "loop.example/g00101/laws.FnExactNewTab", spec := "fnExactNewTab", unfollowed := true, recurses := true, apart := false, narrowed := true }
def FnExactNewTabUptoSaid : Prop := fnExactNewTabUptoRow.holds Tryz.pinned (OpenSpec.upto fnExactNewTabSpec)

end Rows
end Go.Proofs.YtepddopgmhdllaaGreat
