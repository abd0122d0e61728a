/- Modules that may be run: the implementation's libNames. -/
import Derived.Test.YtfmhlieaodbgiaaGreatB0
namespace Go.Proofs.YtfmhlieaodbgiaaGreat.Eng
open Go Go.RowKit Go.Proofs.YtfmhlieaodbgiaaGreat.Sl Go.Proofs.YtfmhlieaodbgiaaGreat.Ar Go.Proofs.YtfmhlieaodbgiaaGreat.Base
set_option linter.unusedVariables false
set_option linter.unusedSimpArgs false
set_option maxRecDepth 10000
section
variable {P : Program} {N : Nat} {w0 w : World} {E : Env} {H H' H1 : HL} {o : Oper} {T e : TypeId} {z : Value} {bytes : Nat} {ops : Array Oper} {rest : List Oper} {R : Post} {s0 s1 s2 s3 s4 s5 s6 s7 s8 s9 s10 : ByteArray}
theorem L_bs11 {t : Tmp} [TSlice P T e 1] [TInfo P e z 1 bytes] (hz : z.oneCell' = true) (hw : wantE ops E o = some true) (hd : o.dst = some t) (ht : Nat.blt t N = true) (ho : o.op = .buildSlice T 11 #[(0, .const (.string s0)), (1, .const (.string s1)), (2, .const (.string s2)), (3, .const (.string s3)), (4, .const (.string s4)), (5, .const (.string s5)), (6, .const (.string s6)), (7, .const (.string s7)), (8, .const (.string s8)), (9, .const (.string s9)), (10, .const (.string s10))])
    (hk : ∀ b, L P N w0 ops rest ((t, .slice (some ⟨b, 0, none⟩) 11 11) :: E) ((b, .cells #[.string s0, .string s1, .string s2, .string s3, .string s4, .string s5, .string s6, .string s7, .string s8, .string s9, .string s10] e (0, 0)) :: H) R) : L P N w0 ops (o :: rest) E H R :=
  L_eff (S := fun u H' => ∃ b, u = .slice (some ⟨b, 0, none⟩) 11 11 ∧ H' = (b, .cells #[.string s0, .string s1, .string s2, .string s3, .string s4, .string s5, .string s6, .string s7, .string s8, .string s9, .string s10] e (0, 0)) :: H) hw hd ht (fun A w ha hs => by
    refine ⟨.slice (some ⟨w.heap.size, 0, none⟩) 11 11, w.alloc (.cells #[.string s0, .string s1, .string s2, .string s3, .string s4, .string s5, .string s6, .string s7, .string s8, .string s9, .string s10] e), _, ?_, hs.alloc _, _, rfl, rfl⟩
    unfold execOp; rw [ho]; refine run_v ?_
    obtain ⟨i, hi, h1⟩ : ∃ i, P.info? e = some i ∧ (i.zero, i.size, i.bytes) = (some z, 1, bytes) := by
      have := TInfo.out (P := P) (T := e) (z := z) (n := 1) (bytes := bytes)
      cases hq : P.info? e with
      | none => simp [hq] at this
      | some i => exact ⟨i, rfl, by simpa [hq] using this⟩
    simp only [Prod.mk.injEq] at h1
    have hzv : (zeroValue e).run P w = .ok z w := by simp [zeroValue, typeInfo, hi, h1.1]
    have hzc := cells_one hz
    have hr : Array.range 11 = #[0, 1, 2, 3, 4, 5, 6, 7, 8, 9, 10] := rfl
    have hvc : ∀ s : ByteArray, (Value.string s).cells = #[.string s] := fun s => rfl
    have hev : ∀ v, A.eval (.const v) = v := fun v => rfl
    simp [Instr.buildSlice, run_underlying (TSlice.out (P := P) (T := T)), run_sizeOf (TSlice.size (P := P) (T := T)), Instr.fill, run_newRow, hzv, hzc, hvc, hr, hev]) (fun u H' ⟨b, e1, e2⟩ => by subst e1; subst e2; exact hk b)
end
variable {w0 : World} {H : HL}
theorem libNames_c : Fn Tryz.prog w0 79 #[] H fun v H' => ∃ b cs, v = .slice (some ⟨b, 0, none⟩) 11 11 ∧ H' = (b, .cells cs 9 (0, 0)) :: H := by
  refine enter0 Tryz.func79 rfl rfl Tryz.ntmps79 ?_
  repeat' (first | (apply gBs; refine L_bs11 (z := .string ByteArray.empty) rfl rfl rfl rfl rfl fun _ => ?_) | first | (apply gL; first | refine L_nil ?_ | (apply gBs; first | (refine L_bs0 rfl rfl rfl rfl (fun _ => ?_)) | (refine L_bs1 rfl rfl rfl rfl rfl rfl rfl (fun _ => ?_))) | refine kV ?_) | (apply gW; first | refine W_seq ?_ | refine W_region ?_ | refine W_ret ?_ | refine W_skip ?_) | (first | refine seqR.normal ?_ | refine seqR.ret ?_) | fail)
  exact retR.ret _ _ (ret1 rfl rfl) cvt_ ⟨_, _, rfl, rfl⟩
end Go.Proofs.YtfmhlieaodbgiaaGreat.Eng
