/- Modules in memory. -/
import Derived.Test.YtfmhlieaodbgiaaGreatAF
import Derived.Test.YtfmhlieaodbgiaaGreatTysB
namespace Go.Proofs.YtfmhlieaodbgiaaGreat.Eng
open Go Go.RowKit Go.Proofs.YtfmhlieaodbgiaaGreat.Sl Go.Proofs.YtfmhlieaodbgiaaGreat.Ar
set_option linter.unusedVariables false
set_option linter.unusedSimpArgs false
set_option maxRecDepth 10000
/-- a function of a module; where its rows lie -/
structure PR where
  pa : Int
  sl : Int
  ups : List (Bool × Int)
  code : List (Int × Int)
structure PA where
  ub : Option Nat
  uc : Nat
  us : List Value
  cb : Option Nat
  cc : Nat
  cs : List Value
def upC (x : Bool × Int) : List Value := [.bool x.1, .int .i64 x.2]
def prC (x : PR × PA) : List Value := [.int .i64 x.1.pa, .int .i64 x.1.sl, .slice (ad x.2.ub) x.1.ups.length x.2.uc, .slice (ad x.2.cb) x.1.code.length x.2.cc]
abbrev prV (p : PR) (a : PA) : Value := .agg #[.int .i64 p.pa, .int .i64 p.sl, .slice (ad a.ub) p.ups.length a.uc, .slice (ad a.cb) p.code.length a.cc]
def tsC (x : List Int) : List Value := [.string (strOfNums x)]
/-- where a module's rows lie -/
structure MA where
  pb : Option Nat
  pc : Nat
  ps : List Value
  tb : Option Nat
  tc : Nat
  ts : List Value
  aa : List PA
structure Md where
  pr : List PR
  tx : List (List Int)
abbrev mdV (M : Md) (X : MA) : Value := .agg #[.slice (ad X.pb) M.pr.length X.pc, .slice (ad X.tb) M.tx.length X.tc]
/-- a row of ups, of instructions that is there -/
def RUp (H : HL) : Option Nat → List (Bool × Int) → Prop
  | none, xs => xs = []
  | some b, xs => ∃ sp, At H b (.cells (rowF upC xs sp) 106 (0, 0))
def RIn (H : HL) : Option Nat → List (Int × Int) → Prop
  | none, xs => xs = []
  | some b, xs => ∃ sp, At H b (.cells (rowV xs sp) 80 (0, 0))
def RTx (H : HL) : Option Nat → List (List Int) → Prop
  | none, xs => xs = []
  | some b, xs => ∃ sp, At H b (.cells (rowF tsC xs sp) 9 (0, 0))
def RPr (H : HL) : Option Nat → List (PR × PA) → Prop
  | none, xs => xs = []
  | some b, xs => ∃ sp, At H b (.cells (rowF prC xs sp) 58 (0, 0))
/-- a module is there -/
structure RM (H : HL) (M : Md) (X : MA) : Prop where
  la : X.aa.length = M.pr.length
  pr : RPr H X.pb (M.pr.zip X.aa)
  tx : RTx H X.tb M.tx
  up : ∀ (i : Nat) p a, M.pr[i]? = some p → X.aa[i]? = some a → RUp H a.ub p.ups ∧ RIn H a.cb p.code
  by_ : ∀ t ∈ M.tx, Byt t
end Go.Proofs.YtfmhlieaodbgiaaGreat.Eng
