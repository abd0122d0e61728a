/- Small words on Roots; what both sides' functions of a right arena need. -/
import Derived.Test.YtepddopgmhdllaaGreatBkJ3
import Derived.Test.YtepddopgmhdllaaGreatL0
namespace Go.Proofs.YtepddopgmhdllaaGreat.Ar
/-- is it the number of a Root? -/
def Ar.inR (A : Ar) (r : Int) : Bool := inB r 0 ((A.vs.length : Int) - 1)
end Go.Proofs.YtepddopgmhdllaaGreat.Ar
namespace Go.Proofs.YtepddopgmhdllaaGreat.Eng
open Go Go.RowKit Go.Proofs.YtepddopgmhdllaaGreat.Sl Go.Proofs.YtepddopgmhdllaaGreat.Ar Go.Proofs.YtepddopgmhdllaaGreat.Base
set_option linter.unusedVariables false
set_option linter.unusedSimpArgs false
set_option maxRecDepth 10000
section
variable {P : Program} {N : Nat} {w0 : World} {E : Env} {H H' : HL} {o : Oper} {x y z : Operand} {T T2 : TypeId} {v u : Value} {k : IntKind} {a : Int} {ops : Array Oper} {rest : List Oper} {R : Post} {d_ : Option Tmp} {ty_ : TypeId} {pos_ : String} {af_ : Array Edge} {gd_ : Option (Nat × Bool)}
theorem ld_rowV0 {vs : List (Int × Int)} {sp : List Value} {i : Int} (h0 : 0 ≤ i) (h : i < (vs.length : Int)) : (rowV vs sp).toList[0 + i.toNat * 2 + 0]? = some (.int .i64 (vs.getD i.toNat (0, 0)).1) := by
  have hl : i.toNat < vs.length := by omega
  obtain ⟨h1, h2⟩ := flat_get vs i.toNat hl
  simp only [rowV]
  rw [show 0 + i.toNat * 2 + 0 = 2 * i.toNat by omega, List.getElem?_append_left (by rw [length_flat]; omega)]
  exact h1
theorem ld_rowV1 {vs : List (Int × Int)} {sp : List Value} {i : Int} (h0 : 0 ≤ i) (h : i < (vs.length : Int)) : (rowV vs sp).toList[0 + i.toNat * 2 + 1]? = some (.int .i64 (vs.getD i.toNat (0, 0)).2) := by
  have hl : i.toNat < vs.length := by omega
  obtain ⟨h1, h2⟩ := flat_get vs i.toNat hl
  simp only [rowV]
  rw [show 0 + i.toNat * 2 + 1 = 2 * i.toNat + 1 by omega, List.getElem?_append_left (by rw [length_flat]; omega)]
  exact h2
theorem L_bs2 {t : Tmp} {e bytes : Nat} {z u v : Value} [TSlice P T e 1] [TInfo P e z 1 bytes] (hz : z.oneCell' = true) (hw : wantE ops E o = some true) (hd : o.dst = some t) (ht : Nat.blt t N = true) (ho : o.op = .buildSlice T 2 #[(0, x), (1, y)]) (hx : ev E x = some u) (hy : ev E y = some v) (hu : u.oneCell' = true) (hv : v.oneCell' = true)
    (hk : ∀ b, L P N w0 ops rest ((t, .slice (some ⟨b, 0, none⟩) 2 2) :: E) ((b, .cells #[u, v] e (0, 0)) :: H) R) : L P N w0 ops (o :: rest) E H R :=
  L_eff (S := fun p H' => ∃ b, p = .slice (some ⟨b, 0, none⟩) 2 2 ∧ H' = (b, .cells #[u, v] e (0, 0)) :: H) hw hd ht (fun A w ha hs => by
    refine ⟨.slice (some ⟨w.heap.size, 0, none⟩) 2 2, w.alloc (.cells #[u, v] e), _, ?_, hs.alloc _, _, rfl, rfl⟩
    unfold execOp; rw [ho]; refine run_v ?_
    obtain ⟨i, hi, h1⟩ : ∃ i, P.info? e = some i ∧ (i.zero, i.size, i.bytes) = (some z, 1, bytes) := by
      have := TInfo.out (P := P) (T := e) (z := z) (n := 1) (bytes := bytes)
      cases hq : P.info? e with
      | none => simp [hq] at this
      | some i => exact ⟨i, rfl, by simpa [hq] using this⟩
    simp only [Prod.mk.injEq] at h1
    have hzv : (zeroValue e).run P w = .ok z w := by simp [zeroValue, typeInfo, hi, h1.1]
    have hzc := cells_one hz
    have huc := cells_one hu
    have hvc := cells_one hv
    have hr : Array.range 2 = #[0, 1] := rfl
    simp [Instr.buildSlice, run_underlying (TSlice.out (P := P) (T := T)), run_sizeOf (TSlice.size (P := P) (T := T)), Instr.fill, run_newRow, hzv, hzc, huc, hvc, hr, ha.eval hx, ha.eval hy]) (fun p H' ⟨b, e1, e2⟩ => by subst e1; subst e2; exact hk b)
end
variable {w0 : World} {H : HL} {C : Cn} {A : Ar} {ba : Nat}
theorem specArenaOkB_c {b : Bool} (hok : A.ok = b) (hA : At H C.bw (wObj C A)) (hR : At H C.br (rObj C A)) (hw : Wf A.ws) (hx : A.vs.length ≤ 1048576) :
    Fn Tryz.prog w0 30 #[arV C A] H fun v H' => v = .bool b ∧ H' = H := by
  subst hok; exact specArenaOk_c hA hR hw hx
theorem l2RootB_c {r : Int} (hx : A.vs.length ≤ 1048576) :
    Fn Tryz.prog w0 32 #[arV C A, .int .i64 r] H fun v H' => v = .bool (A.inR r) ∧ H' = H := by
  refine enter2 Tryz.func32 rfl rfl Tryz.ntmps32 rfl ?_
  repeat' (first | (apply gCall; apply L_call rfl rfl rfl rfl rfl; (· first | exact l1In_c _ _ _ | exact within_c _ _ _ | exact l2RootB_c om); rintro _ _ ⟨rfl, rfl⟩) | (apply gL; first | refine L_nil ?_ | refine yX fun _ => ?_ | refine kV ?_ | (apply L_val rfl rfl rfl; (· first | (apply gBin; first | fail ) | fail | (apply v_ld rfl; (· exact at_); (· first | exact ld_rowV0 om om | exact ld_rowV1 om om); done)))) | (apply gW; first | refine W_seq ?_ | refine W_region ?_ | refine W_ret ?_ | refine W_skip ?_ | refine W_block ?_ | refine W_exit ?_ | refine W_cond1 rfl ?_ | refine W_cond0 rfl ?_ | refine cW (fun h => ?_) fun h => ?_) | (first | refine seqR.normal ?_ | refine seqR.ret ?_ | refine seqR.exit ?_ | refine blockR.normal ?_ | refine blockR.ret ?_ | refine blockR.here ?_ | refine blockR.exit rfl ?_ | refine loopR.ret ?_ | refine loopR.exit ?_) | fail)
  refine retR.ret _ _ (ret1 rfl rfl) cv_ ⟨?_, rfl⟩
  rfl
theorem inR_iff {r : Int} : A.inR r = true ↔ 0 ≤ r ∧ r < (A.vs.length : Int) := by
  unfold Ar.inR inB; rw [decide_eq_true_iff]; omega
theorem isRoot_c {rs : List Int} {sp : List Value} {b c : Nat} (hP : At H ba (aObj C A)) (hl : At H b (.cells (rowA .i64 rs sp) 3 (0, 0))) (hn : rs.length ≤ 100) (hx : A.vs.length ≤ 1048576) :
    Fn Tryz.prog w0 38 #[.pointer (some ⟨ba, 0, none⟩), .slice (some ⟨b, 0, none⟩) rs.length c] H fun v H' => v = .bool (rs.all fun r => A.inR r) ∧ H' = H := by
  refine enter2 Tryz.func38 rfl rfl Tryz.ntmps38 rfl ?_
  repeat' (first | (apply gCall; apply L_call rfl rfl rfl rfl rfl; (· first | exact l1In_c _ _ _ | exact within_c _ _ _ | exact l2RootB_c om); rintro _ _ ⟨rfl, rfl⟩) | (apply gL; first | refine L_nil ?_ | refine yX fun _ => ?_ | refine kV ?_ | (apply L_val rfl rfl rfl; (· first | (apply gBin; first | fail ) | fail | (apply v_ld rfl; (· exact at_); (· first | exact ld_rowV0 om om | exact ld_rowV1 om om); done)))) | (apply gW; first | refine W_seq ?_ | refine W_region ?_ | refine W_ret ?_ | refine W_skip ?_ | refine W_block ?_ | refine W_exit ?_ | refine W_cond1 rfl ?_ | refine W_cond0 rfl ?_ | refine cW (fun h => ?_) fun h => ?_) | (first | refine seqR.normal ?_ | refine seqR.ret ?_ | refine seqR.exit ?_ | refine blockR.normal ?_ | refine blockR.ret ?_ | refine blockR.here ?_ | refine blockR.exit rfl ?_ | refine loopR.ret ?_ | refine loopR.exit ?_) | fail)
  apply W_loopX (α := Int) (fun y => [(0, .pointer (some ⟨ba, 0, none⟩)), (7, .slice (some ⟨b, 0, none⟩) rs.length c), (8, .int .i64 (rs.length : Int)), (9, .int .i64 y)]) (fun _ => H)
    (fun y => 0 ≤ y ∧ y ≤ rs.length ∧ ∀ j : Int, 0 ≤ j → j < y → A.inR (g rs j) = true) (fun y => (rs.length - y).toNat) 0
  · exact sub_
  · exact cvt_
  · exact ⟨by omega, by omega, fun j a b => by omega⟩
  rintro i ⟨hi, hi2, hi3⟩
  repeat' (first | (apply gCall; apply L_call rfl rfl rfl rfl rfl; (· first | exact l1In_c _ _ _ | exact within_c _ _ _ | exact l2RootB_c om); rintro _ _ ⟨rfl, rfl⟩) | (apply gL; first | refine L_nil ?_ | refine yX fun _ => ?_ | refine kV ?_ | (apply L_val rfl rfl rfl; (· first | (apply gBin; first | fail ) | fail | (apply v_ld rfl; (· exact at_); (· first | exact ld_rowV0 om om | exact ld_rowV1 om om); done)))) | (apply gW; first | refine W_seq ?_ | refine W_region ?_ | refine W_ret ?_ | refine W_skip ?_ | refine W_block ?_ | refine W_exit ?_ | refine W_cond1 rfl ?_ | refine W_cond0 rfl ?_ | refine cW (fun h => ?_) fun h => ?_) | (first | refine seqR.normal ?_ | refine seqR.ret ?_ | refine seqR.exit ?_ | refine blockR.normal ?_ | refine blockR.ret ?_ | refine blockR.here ?_ | refine blockR.exit rfl ?_ | refine loopR.ret ?_ | refine loopR.exit ?_) | fail)
  · refine retR.ret _ _ (ret1 rfl rfl) cv_ ⟨?_, rfl⟩
    congr 1
    symm
    rw [← Bool.not_eq_true, List.all_eq_true]
    intro c
    have := c (g rs i) (g_mem hi (by assumption))
    exact h (of_decide_eq_true this)
  · apply loopR.mk (i + 1)
    · exact sub_
    · exact cvt_
    · exact ⟨by omega, by omega, fun j a b => by
        by_cases hj : j = i
        · subst hj; exact decide_eq_true h
        · exact hi3 j a (by omega)⟩
    · (try dsimp only); omega
  · refine retR.ret _ _ (ret1 rfl rfl) cv_ ⟨?_, rfl⟩
    congr 1
    symm
    rw [List.all_eq_true]
    intro r hr
    obtain ⟨j, h1, h2, rfl⟩ := g_ex hr
    exact hi3 j h1 (by omega)
end Go.Proofs.YtepddopgmhdllaaGreat.Eng
namespace Go.Proofs.YtepddopgmhdllaaGreat.Ar
def Ar.room (A : Ar) : Int := (A.to + 1) * A.semi - A.top - (if A.cyc = true then A.old - A.start (1 - A.to) - A.copied else 0)
def Ar.freeR (A : Ar) : Int := if A.ok = true then A.room else 0
def Ar.protoR (A : Ar) (r : Int) : Int × Bool := if A.ok = true ∧ A.inR r = true ∧ (A.vs.getD r.toNat (0, 0)).1 = 5 then (sg (g A.ws ((A.vs.getD r.toNat (0, 0)).2 + 1)), true) else (0, false)
def Ar.serialR (A : Ar) (r : Int) : Int := if A.ok = true ∧ A.inR r = true ∧ kd (A.vs.getD r.toNat (0, 0)).1 ≠ 0 then rn (g A.ws (A.vs.getD r.toNat (0, 0)).2) else 0
def Ar.sameR (A : Ar) (r s : Int) : Bool := if A.ok = true ∧ A.inR r = true ∧ A.inR s = true then A.same (A.vs.getD r.toNat (0, 0)).1 (A.vs.getD r.toNat (0, 0)).2 (A.vs.getD s.toNat (0, 0)).1 (A.vs.getD s.toNat (0, 0)).2 else false
def Ar.textR (A : Ar) (r : Int) : List Int × Bool := if A.ok = true ∧ A.inR r = true ∧ (A.vs.getD r.toNat (0, 0)).1 = 3 then (A.text (A.vs.getD r.toNat (0, 0)).2, true) else ([], false)
end Go.Proofs.YtepddopgmhdllaaGreat.Ar
