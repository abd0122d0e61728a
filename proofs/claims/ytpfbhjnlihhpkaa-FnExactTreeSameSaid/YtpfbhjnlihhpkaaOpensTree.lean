/- How a tree that came in is read by the printed words. -/
import Derived.Test.YtpfbhjnlihhpkaaOpens
import Derived.Test.YtpfbhjnlihhpkaaPureFnExactTreeSame
namespace Go.Proofs.Ytpfbhjnlihhpkaa.Opens
open Go Go.RowKit Go.Deep Go.Proofs.YtpfbhjnlihhpkaaW.PrintWords Go.Proofs.Ytpfbhjnlihhpkaa.PFnExactTreeSame
theorem cellsInt : Try.prog.cellsOf 3 = 1 := by kernel_rfl
theorem cellsKnot : Try.prog.cellsOf 141 = 4 := by kernel_rfl
theorem opensInt : Opens Try.prog 3 (Kd.int .i64) (fun a => (Lit.int .i64 a).wf = true) := opens_int Try.underlying3
theorem opensKnot : Opens Try.prog 141 k141 (fun a => a.f1.size ≤ maxLen ∧ a.f3.length ≤ maxLen) :=
  opens_mono (opens_iso (fun x => ⟨x.1, x.2.1, x.2.2.1, x.2.2.2⟩) (fun _ => rfl)
    (opens_struct Try.underlying141 (by kernel_rfl) (by kernel_rfl)
      (from_step rfl opensInt (from_step rfl (opens_string Try.underlying9) (from_step rfl opensInt (from_last rfl rfl (opens_slice Try.underlying94 cellsInt opensInt)))))))
    (fun _ h => ⟨h.2.1, h.2.2.2.1⟩)
theorem opensTree : Opens Try.prog 33 (Kd.pair (Kd.slice 141 k141) (Kd.int .i64)) (fun x => Pure.TreeSame.Fine x.1) :=
  opens_mono (opens_struct Try.underlying33 (by kernel_rfl) (by kernel_rfl) (from_step rfl (opens_slice Try.underlying31 cellsKnot opensKnot) (from_last rfl rfl opensInt)))
    (fun _ h => h.1)
end Go.Proofs.Ytpfbhjnlihhpkaa.Opens
