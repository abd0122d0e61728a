/- Operations on what came in, and on rows of values. -/
import Derived.Test.YtfmhlieaodbgiaaGreatBkS
import Derived.Deep.Slices
namespace Go.Proofs.YtfmhlieaodbgiaaGreat.Eng
open Go Go.RowKit Go.Proofs.YtfmhlieaodbgiaaGreat.Sl Go.Proofs.YtfmhlieaodbgiaaGreat.Ar
set_option linter.unusedVariables false
set_option linter.unusedSimpArgs false
section
variable {P : Program} {N : Nat} {w0 : World} {E : Env} {H H' : HL} {o : Oper} {x y z : Operand} {T T2 : TypeId} {v u : Value} {k : IntKind} {a : Int} {ops : Array Oper} {rest : List Oper} {R : Post} {d_ : Option Tmp} {ty_ : TypeId} {pos_ : String} {af_ : Array Edge} {gd_ : Option (Nat × Bool)}
theorem cell_lt {w : World} {p : Addr} {v : Value} (h : w.cell? p = some v) : p.block < w.heap.size := by
  rcases Nat.lt_or_ge p.block w.heap.size with c | c
  · exact c
  · simp [World.cell?, Array.getElem?_eq_none c] at h
theorem Sat_old {w : World} {p : Addr} (hs : Sat w0 H w) (h : w0.cell? p = some v) : w.cell? p = some v := by
  rw [hs.bel.cell (cell_lt h)]; exact h
theorem ov_ldA {p : Addr} [TOne P T] (ho : o.op = .load T x) (hx : ev E x = some (.pointer (some p))) (hp : w0.cell? p = some v) : OpV P N w0 o E H v := by
  refine ⟨fun A w ha hs => ?_⟩
  obtain ⟨d, h1, h2⟩ := TOne.agg (P := P) (T := T)
  unfold execOp; rw [ho]; refine run_v ?_; rw [ha.eval hx]
  have hc := Sat_old hs hp
  simp [Instr.loadAt, Instr.sureAddr, loadVar, run_isAgg h1 h2, hc]
theorem ov_ldA2 {p : Addr} [TAgg P T 2] (ho : o.op = .load T x) (hx : ev E x = some (.pointer (some p))) (h0 : w0.cell? (p.add 0) = some u) (h1 : w0.cell? (p.add 1) = some v) : OpV P N w0 o E H (.agg #[u, v]) := by
  refine ⟨fun A w ha hs => ?_⟩
  obtain ⟨d, g1, g2⟩ := TAgg.agg (P := P) (T := T) (n := 2)
  unfold execOp; rw [ho]; refine run_v ?_; rw [ha.eval hx]
  have hc := run_loadCells_list (P := P) w p [u, v] (fun j s hj => by
    match j with
    | 0 => simp at hj; subst hj; exact Sat_old hs h0
    | 1 => simp at hj; subst hj; exact Sat_old hs h1
    | j + 2 => simp at hj)
  have hc' : (loadCells p 2).run P w = .ok #[u, v] w := hc
  simp [Instr.loadAt, Instr.sureAddr, loadVar, run_isAgg g1 g2, run_sizeOf (TAgg.size (P := P) (T := T) (n := 2)), hc']
theorem ov_idxA {e : TypeId} {n : Nat} [TSlice P T e n] {p : Addr} {l m : Nat} (ho : o.op = .indexAddr T x y) (hx : ev E x = some (.slice (some p) l m)) (hy : ev E y = some (.int k a)) (h : 0 ≤ a ∧ a < (l : Int)) :
    OpV P N w0 o E H (.pointer (some (p.add (a.toNat * n)))) := by
  refine ⟨fun A w ha hs => ?_⟩
  unfold execOp; rw [ho]; refine run_v ?_; rw [ha.eval hx, ha.eval hy]
  have h2 : 0 ≤ a ∧ a < (l : Int) := h
  simp [Instr.indexAt, run_underlying (TSlice.out (P := P) (T := T)), asIntOf, h2.1, h2.2, run_sizeOf (TSlice.size (P := P) (T := T))]
theorem ov_nebs [TBool P T] {a : Bool} (ho : o.op = .binOp .neq T x y T2) (hx : ev E x = some (.bool a)) (hy : ev E y = some (.bool a)) : OpV P N w0 o E H (.bool false) := by
  have := ov_neb (P := P) (N := N) (w0 := w0) (E := E) (H := H) ho hx hy
  rwa [show (a != a) = false by simp] at this
theorem v_ldA {p : Addr} [TOne P T] (hx : ev E x = some (.pointer (some p))) (hp : w0.cell? p = some v) : OpV P N w0 ⟨d_, .load T x, ty_, pos_, af_, gd_⟩ E H v := ov_ldA rfl hx hp
theorem v_ldA2 {p : Addr} [TAgg P T 2] (hx : ev E x = some (.pointer (some p))) (h0 : w0.cell? (p.add 0) = some u) (h1 : w0.cell? (p.add 1) = some v) : OpV P N w0 ⟨d_, .load T x, ty_, pos_, af_, gd_⟩ E H (.agg #[u, v]) := ov_ldA2 rfl hx h0 h1
theorem v_idxA {e : TypeId} {n : Nat} [TSlice P T e n] {p : Addr} {l m : Nat} (hx : ev E x = some (.slice (some p) l m)) (hy : ev E y = some (.int k a)) (h : 0 ≤ a ∧ a < (l : Int)) : OpV P N w0 ⟨d_, .indexAddr T x y, ty_, pos_, af_, gd_⟩ E H (.pointer (some (p.add (a.toNat * n)))) := ov_idxA rfl hx hy h
theorem v_nebs [TBool P T] {a : Bool} (hx : ev E x = some (.bool a)) (hy : ev E y = some (.bool a)) : OpV P N w0 ⟨d_, .binOp .neq T x y T2, ty_, pos_, af_, gd_⟩ E H (.bool false) := ov_nebs rfl hx hy
/-- a cell of a block that is written out -/
theorem L_stc {bk i : Nat} {l l' : List Value} {t : TypeId} [TOne P T] (hw : wantE ops E o = some true) (hd : o.dst = none) (ho : o.op = .store T x y) (hx : ev E x = some (.pointer (some ⟨bk, 0 + i, none⟩))) (hy : ev E y = some v)
    (h1 : v.oneCell' = true) (hA : At H bk (.cells l.toArray t (0, 0))) (hc : l.set i v = l') (hU : Up H bk (.cells l.toArray t (0, 0)) (.cells l'.toArray t (0, 0)) H') (hi : Nat.blt i l.length = true)
    (hk : L P N w0 ops rest E H' R) : L P N w0 ops (o :: rest) E H R :=
  L_st (cs := l.toArray) hw hd ho hx hy h1 (by
    rw [Nat.zero_add, show l.toArray.setIfInBounds i v = l'.toArray by rw [← hc]; apply Array.toList_inj.1; simp]; exact hU) (by simpa using hi) hk
theorem flat_set (vs : List (Int × Int)) : ∀ (i : Nat) (t n : Int), ((flat vs).set (2 * i) (.int .i64 t)).set (2 * i + 1) (.int .i64 n) = flat (vs.set i (t, n)) := by
  induction vs with
  | nil => intro i t n; simp [flat]
  | cons v vs ih =>
    intro i t n
    cases i with
    | zero => simp [flat]
    | succ i =>
      rw [show 2 * (i + 1) = 2 * i + 1 + 1 by omega]
      simp only [flat, List.set_cons_succ, List.cons.injEq, true_and]
      exact ih i t n
theorem rowV_put {vs : List (Int × Int)} {sp : List Value} {i t n : Int} (h0 : 0 ≤ i) (h : i < (vs.length : Int)) : putAt (rowV vs sp) (0 + i.toNat * 2) [.int .i64 t, .int .i64 n] = rowV (vs.set i.toNat (t, n)) sp := by
  have hl : i.toNat < vs.length := by omega
  simp only [putAt]
  apply Array.toList_inj.1
  rw [Array.toList_setIfInBounds, Array.toList_setIfInBounds]
  simp only [rowV]
  rw [← flat_set, List.set_append_left _ _ (by rw [length_flat]; omega), List.set_append_left _ _ (by rw [List.length_set, length_flat]; omega)]
  rw [show 0 + i.toNat * 2 = 2 * i.toNat by omega]
theorem L_stV {bk : Nat} {vs : List (Int × Int)} {sp : List Value} {t : TypeId} {i p q : Int} [TAgg P T 2] (hw : wantE ops E o = some true) (hd : o.dst = none) (ho : o.op = .store T x y) (hx : ev E x = some (.pointer (some ⟨bk, 0 + i.toNat * 2, none⟩))) (hy : ev E y = some (.agg #[.int .i64 p, .int .i64 q]))
    (hU : Up H bk (.cells (rowV vs sp) t (0, 0)) (.cells (rowV (vs.set i.toNat (p, q)) sp) t (0, 0)) H') (h0 : 0 ≤ i) (h : i < (vs.length : Int))
    (hk : L P N w0 ops rest E H' R) : L P N w0 ops (o :: rest) E H R :=
  L_stN (n := 2) hw hd ho hx hy rfl rfl (by rw [show (#[Value.int .i64 p, .int .i64 q] : Array Value).toList = [.int .i64 p, .int .i64 q] from rfl, rowV_put h0 h]; exact hU) (ldN_rowV h0 h) hk
end
end Go.Proofs.YtfmhlieaodbgiaaGreat.Eng
