/- Rows that may lie nowhere; the blocks in another order. -/
import Derived.Test.YtfmhlieaodbgiaaGreatL0
namespace Go.Proofs.YtfmhlieaodbgiaaGreat.Eng
open Go Go.RowKit Go.Proofs.YtfmhlieaodbgiaaGreat.Sl Go.Proofs.YtfmhlieaodbgiaaGreat.Ar
set_option linter.unusedVariables false
set_option linter.unusedSimpArgs false
set_option maxRecDepth 10000
/-- where a row lies, if it lies anywhere -/
def ad : Option Nat → Option Addr
  | none => none
  | some b => some ⟨b, 0, none⟩
def oU : Option Nat → List Int → List Value → HL
  | none, _, _ => []
  | some b, xs, sp => [(b, .cells (rowA .u64 xs sp) 64 (0, 0))]
def oV : Option Nat → List (Int × Int) → List Value → HL
  | none, _, _ => []
  | some b, vs, sp => [(b, .cells (rowV vs sp) 35 (0, 0))]
abbrev arG (wp : Option Addr) (wc : Nat) (rp : Option Addr) (rc : Nat) (A : Ar) : Value := .agg #[.slice wp A.ws.length wc, .int .i64 A.semi, .int .i64 A.to, .int .i64 A.top, .bool A.cyc, .int .i64 A.scan, .int .i64 A.old, .int .i64 A.copied, .int .i64 A.serial, .slice rp A.vs.length rc]
theorem Cv.app {X H : HL} : Cv (X ++ H) H := by
  induction X with
  | nil => exact Cv.refl
  | cons p X ih => exact Cv.skip ih
theorem Tk.app {X H R : HL} {b : Nat} {o : Obj} (h : Tk H b o R) : Tk (X ++ H) b o (X ++ R) := by
  induction X with
  | nil => exact h
  | cons p X ih => exact Tk.there ih
theorem At.app {X H : HL} {b : Nat} {o : Obj} (h : At H b o) : At (X ++ H) b o := by
  induction X with
  | nil => exact h
  | cons p X ih => exact At.there ih
section
variable {P : Program} {N : Nat} {w0 : World} {E : Env} {H H' X Y : HL} {ops : Array Oper} {rest : List Oper} {R : Post} {a b p q r : Nat × Obj}
theorem L_perm (p : H.Perm H') (h : L P N w0 ops rest E H' R) : L P N w0 ops rest E H R := ⟨fun a w ha hs => h.out a w ha (hs.perm p)⟩
theorem Fn.perm {f : FuncId} {args : Array Value} {S : Value → HL → Prop} (p : H.Perm H') (h : Fn P w0 f args H' S) : Fn P w0 f args H S := ⟨h.1, fun w hw => h.2 w (hw.perm p)⟩
inductive TkG : HL → HL → HL → Prop
  | here {G R : HL} : TkG (G ++ R) G R
  | there {H G R : HL} {p : Nat × Obj} : TkG H G R → TkG (p :: H) G (p :: R)
theorem TkG.perm {H G R : HL} (h : TkG H G R) : H.Perm (G ++ R) := by
  induction h with
  | here => exact .refl _
  | there _ ih => exact (List.Perm.cons _ ih).trans List.perm_middle.symm
theorem L_front2 (h : L P N w0 ops rest E (p :: q :: (X ++ (Y ++ H))) R) : L P N w0 ops rest E (X ++ (Y ++ (p :: q :: H))) R :=
  L_perm (by
    refine (List.Perm.append_left X (List.perm_middle.trans (List.Perm.cons p List.perm_middle))).trans ?_
    exact List.perm_middle.trans (List.Perm.cons p List.perm_middle)) h
theorem L_front3 (h : L P N w0 ops rest E (p :: q :: r :: (X ++ (Y ++ H))) R) : L P N w0 ops rest E (X ++ (Y ++ (p :: q :: r :: H))) R :=
  L_perm (by
    refine (List.Perm.append_left X (List.perm_middle.trans (List.Perm.cons p (List.perm_middle.trans (List.Perm.cons q List.perm_middle))))).trans ?_
    exact List.perm_middle.trans (List.Perm.cons p (List.perm_middle.trans (List.Perm.cons q List.perm_middle)))) h
theorem L_mid2 (h : L P N w0 ops rest E (a :: b :: p :: q :: (X ++ H)) R) : L P N w0 ops rest E (a :: b :: (X ++ (p :: q :: H))) R :=
  L_perm (List.Perm.cons a (List.Perm.cons b (List.perm_middle.trans (List.Perm.cons p List.perm_middle)))) h
end
end Go.Proofs.YtfmhlieaodbgiaaGreat.Eng
