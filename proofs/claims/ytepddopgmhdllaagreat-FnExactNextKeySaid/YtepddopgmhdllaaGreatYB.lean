/- Rows of three and of four numbers; isRoot of three and of four. -/
import Derived.Test.YtepddopgmhdllaaGreatU0
namespace Go.Proofs.YtepddopgmhdllaaGreat.Eng
open Go Go.RowKit Go.Proofs.YtepddopgmhdllaaGreat.Sl Go.Proofs.YtepddopgmhdllaaGreat.Ar Go.Proofs.YtepddopgmhdllaaGreat.Base
set_option linter.unusedVariables false
set_option linter.unusedSimpArgs false
set_option maxRecDepth 10000
section
variable {P : Program} {N : Nat} {w0 : World} {E : Env} {H H' : HL} {o : Oper} {x y x3 x4 : Operand} {T T2 : TypeId} {ops : Array Oper} {rest : List Oper} {R : Post}
theorem L_bs3 {t : Tmp} {e bytes : Nat} {z u v u3 : Value} [TSlice P T e 1] [TInfo P e z 1 bytes] (hz : z.oneCell' = true) (hw : wantE ops E o = some true) (hd : o.dst = some t) (ht : Nat.blt t N = true) (ho : o.op = .buildSlice T 3 #[(0, x), (1, y), (2, x3)]) (hx : ev E x = some u) (hy : ev E y = some v) (hx3 : ev E x3 = some u3) (hu : u.oneCell' = true) (hv : v.oneCell' = true) (hu3 : u3.oneCell' = true)
    (hk : ∀ b, L P N w0 ops rest ((t, .slice (some ⟨b, 0, none⟩) 3 3) :: E) ((b, .cells #[u, v, u3] e (0, 0)) :: H) R) : L P N w0 ops (o :: rest) E H R :=
  L_eff (S := fun p H' => ∃ b, p = .slice (some ⟨b, 0, none⟩) 3 3 ∧ H' = (b, .cells #[u, v, u3] e (0, 0)) :: H) hw hd ht (fun A w ha hs => by
    refine ⟨.slice (some ⟨w.heap.size, 0, none⟩) 3 3, w.alloc (.cells #[u, v, u3] e), _, ?_, hs.alloc _, _, rfl, rfl⟩
    unfold execOp; rw [ho]; refine run_v ?_
    obtain ⟨i, hi, h1⟩ : ∃ i, P.info? e = some i ∧ (i.zero, i.size, i.bytes) = (some z, 1, bytes) := by
      have := TInfo.out (P := P) (T := e) (z := z) (n := 1) (bytes := bytes)
      cases hq : P.info? e with
      | none => simp [hq] at this
      | some i => exact ⟨i, rfl, by simpa [hq] using this⟩
    simp only [Prod.mk.injEq] at h1
    have hzv : (zeroValue e).run P w = .ok z w := by simp [zeroValue, typeInfo, hi, h1.1]
    have hzc := cells_one hz
    have huc := cells_one hu
    have hvc := cells_one hv
    have hu3c := cells_one hu3
    have hr : Array.range 3 = #[0, 1, 2] := rfl
    simp [Instr.buildSlice, run_underlying (TSlice.out (P := P) (T := T)), run_sizeOf (TSlice.size (P := P) (T := T)), Instr.fill, run_newRow, hzv, hzc, huc, hvc, hu3c, hr, ha.eval hx, ha.eval hy, ha.eval hx3]) (fun p H' ⟨b, e1, e2⟩ => by subst e1; subst e2; exact hk b)
theorem L_bs4 {t : Tmp} {e bytes : Nat} {z u v u3 u4 : Value} [TSlice P T e 1] [TInfo P e z 1 bytes] (hz : z.oneCell' = true) (hw : wantE ops E o = some true) (hd : o.dst = some t) (ht : Nat.blt t N = true) (ho : o.op = .buildSlice T 4 #[(0, x), (1, y), (2, x3), (3, x4)]) (hx : ev E x = some u) (hy : ev E y = some v) (hx3 : ev E x3 = some u3) (hx4 : ev E x4 = some u4) (hu : u.oneCell' = true) (hv : v.oneCell' = true) (hu3 : u3.oneCell' = true) (hu4 : u4.oneCell' = true)
    (hk : ∀ b, L P N w0 ops rest ((t, .slice (some ⟨b, 0, none⟩) 4 4) :: E) ((b, .cells #[u, v, u3, u4] e (0, 0)) :: H) R) : L P N w0 ops (o :: rest) E H R :=
  L_eff (S := fun p H' => ∃ b, p = .slice (some ⟨b, 0, none⟩) 4 4 ∧ H' = (b, .cells #[u, v, u3, u4] e (0, 0)) :: H) hw hd ht (fun A w ha hs => by
    refine ⟨.slice (some ⟨w.heap.size, 0, none⟩) 4 4, w.alloc (.cells #[u, v, u3, u4] e), _, ?_, hs.alloc _, _, rfl, rfl⟩
    unfold execOp; rw [ho]; refine run_v ?_
    obtain ⟨i, hi, h1⟩ : ∃ i, P.info? e = some i ∧ (i.zero, i.size, i.bytes) = (some z, 1, bytes) := by
      have := TInfo.out (P := P) (T := e) (z := z) (n := 1) (bytes := bytes)
      cases hq : P.info? e with
      | none => simp [hq] at this
      | some i => exact ⟨i, rfl, by simpa [hq] using this⟩
    simp only [Prod.mk.injEq] at h1
    have hzv : (zeroValue e).run P w = .ok z w := by simp [zeroValue, typeInfo, hi, h1.1]
    have hzc := cells_one hz
    have huc := cells_one hu
    have hvc := cells_one hv
    have hu3c := cells_one hu3
    have hu4c := cells_one hu4
    have hr : Array.range 4 = #[0, 1, 2, 3] := rfl
    simp [Instr.buildSlice, run_underlying (TSlice.out (P := P) (T := T)), run_sizeOf (TSlice.size (P := P) (T := T)), Instr.fill, run_newRow, hzv, hzc, huc, hvc, hu3c, hu4c, hr, ha.eval hx, ha.eval hy, ha.eval hx3, ha.eval hx4]) (fun p H' ⟨b, e1, e2⟩ => by subst e1; subst e2; exact hk b)
end
variable {w0 : World} {H : HL} {C : Cn} {A : Ar} {ba : Nat}
theorem isRoot3_c {r s t : Int} {b c : Nat} {q : Bool} (e : (A.inR r && A.inR s && A.inR t) = q) (hP : At H ba (aObj C A)) (hl : At H b (.cells #[.int .i64 r, .int .i64 s, .int .i64 t] 3 (0, 0))) (hx : A.vs.length ≤ 1048576) :
    Fn Tryz.prog w0 38 #[.pointer (some ⟨ba, 0, none⟩), .slice (some ⟨b, 0, none⟩) 3 c] H fun v H' => v = .bool q ∧ H' = H := by
  have := isRoot_c (w0 := w0) (rs := [r, s, t]) (sp := []) (c := c) hP hl (by simp) hx
  rw [← e]; simpa [Bool.and_assoc] using this
theorem isRoot4_c {r s t u : Int} {b c : Nat} {q : Bool} (e : (A.inR r && A.inR s && A.inR t && A.inR u) = q) (hP : At H ba (aObj C A)) (hl : At H b (.cells #[.int .i64 r, .int .i64 s, .int .i64 t, .int .i64 u] 3 (0, 0))) (hx : A.vs.length ≤ 1048576) :
    Fn Tryz.prog w0 38 #[.pointer (some ⟨ba, 0, none⟩), .slice (some ⟨b, 0, none⟩) 4 c] H fun v H' => v = .bool q ∧ H' = H := by
  have := isRoot_c (w0 := w0) (rs := [r, s, t, u]) (sp := []) (c := c) hP hl (by simp) hx
  rw [← e]; simpa [Bool.and_assoc] using this
end Go.Proofs.YtepddopgmhdllaaGreat.Eng
