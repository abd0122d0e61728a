/- The tail of a function's code: what stands behind its first parts. -/
import Derived.Test.YtepddopgmhdllaaGreatBkV
namespace Go.Proofs.YtepddopgmhdllaaGreat.Eng
open Go Go.RowKit Go.Proofs.YtepddopgmhdllaaGreat.Sl
def rgt : Nat → Code → Code
  | 0, c => c
  | n + 1, .seq _ c => rgt n c
  | _ + 1, c => c
/-- the code of a function behind its first n parts -/
def tl (fn : Func) (n : Nat) : Code := rgt n (fn.body.getD .skip)
theorem W_tl {P : Program} {N : Nat} {w0 : World} {E : Env} {H : HL} {R : Post} {fn : Func} {n : Nat} {c : Code} (hc : tl fn n = c) (h : W P N w0 c E H R) : W P N w0 (tl fn n) E H R := by rw [hc]; exact h
end Go.Proofs.YtepddopgmhdllaaGreat.Eng
