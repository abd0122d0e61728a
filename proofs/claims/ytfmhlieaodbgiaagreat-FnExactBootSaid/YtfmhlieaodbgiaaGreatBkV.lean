/- Operations on rows: make, append, stores into rows. -/
import Derived.Test.YtfmhlieaodbgiaaGreatCn
import Derived.Laws.MakeOwn
import Derived.Laws.BytesArg
import Derived.MapKept
namespace Go.Proofs.YtfmhlieaodbgiaaGreat.Eng
open Go Go.RowKit Go.Proofs.YtfmhlieaodbgiaaGreat.Sl Go.Proofs.YtfmhlieaodbgiaaGreat.Ar
set_option linter.unusedVariables false
set_option linter.unusedSimpArgs false
section
variable {P : Program} {N : Nat} {w0 : World} {E : Env} {H H' : HL} {o : Oper} {x y z : Operand} {T T2 : TypeId} {v vx vy : Value} {k : IntKind} {a b : Int} {ops : Array Oper} {rest : List Oper} {R : Post}
theorem rowA_set {xs : List Int} {sp : List Value} {i : Int} {u : Int} (h0 : 0 ≤ i) (h : i < (xs.length : Int)) : (rowA k xs sp).setIfInBounds (0 + i.toNat * 1) (.int k u) = rowA k (xs.set i.toNat u) sp := by
  have hl : i.toNat < xs.length := by omega
  apply Array.toList_inj.1
  simp only [rowA, Array.toList_setIfInBounds, Nat.zero_add, Nat.mul_one]
  rw [List.set_append_left _ _ (by simpa using hl), List.map_set]
theorem rowB_set {xs : List Bool} {sp : List Value} {i : Int} {u : Bool} (h0 : 0 ≤ i) (h : i < (xs.length : Int)) : (rowB xs sp).setIfInBounds (0 + i.toNat * 1) (.bool u) = rowB (xs.set i.toNat u) sp := by
  have hl : i.toNat < xs.length := by omega
  apply Array.toList_inj.1
  simp only [rowB, Array.toList_setIfInBounds, Nat.zero_add, Nat.mul_one]
  rw [List.set_append_left _ _ (by simpa using hl), List.map_set]
theorem size_rowA {xs : List Int} {sp : List Value} : (rowA k xs sp).size = xs.length + sp.length := by simp [rowA]
theorem size_rowB {xs : List Bool} {sp : List Value} : (rowB xs sp).size = xs.length + sp.length := by simp [rowB]
theorem ld_rowB {xs : List Bool} {sp : List Value} {i : Int} (h0 : 0 ≤ i) (h : i < (xs.length : Int)) : (rowB xs sp).toList[0 + i.toNat * 1]? = some (.bool (xs.getD i.toNat false)) := by
  have hl : i.toNat < xs.length := by omega
  simp [rowB, List.getElem?_append_left, hl]
theorem ldN_rowV {vs : List (Int × Int)} {sp : List Value} {i : Int} (h0 : 0 ≤ i) (h : i < (vs.length : Int)) : 0 + i.toNat * 2 + 2 ≤ (rowV vs sp).size := by
  simp [rowV, length_flat]; omega
theorem ld_rowV {vs : List (Int × Int)} {sp : List Value} {i : Int} (h0 : 0 ≤ i) (h : i < (vs.length : Int)) :
    ((rowV vs sp).toList.drop (0 + i.toNat * 2)).take 2 = [.int .i64 (vs.getD i.toNat (0, 0)).1, .int .i64 (vs.getD i.toNat (0, 0)).2] := by
  have hl : i.toNat < vs.length := by omega
  obtain ⟨h1, h2⟩ := flat_get vs i.toNat hl
  have e : ∀ (l : List Value) (n : Nat) (p q : Value), l[n]? = some p → l[n + 1]? = some q → (l.drop n).take 2 = [p, q] := by
    intro l n p q hp hq
    have hn : n < l.length := (List.getElem?_eq_some_iff.1 hp).1
    have hn' : n + 1 < l.length := (List.getElem?_eq_some_iff.1 hq).1
    rw [List.drop_eq_getElem_cons hn, List.drop_eq_getElem_cons hn']
    have e1 : l[n] = p := (List.getElem?_eq_some_iff.1 hp).2
    have e2 : l[n + 1] = q := (List.getElem?_eq_some_iff.1 hq).2
    simp [e1, e2]
  refine e _ _ _ _ ?_ ?_
  · simp only [rowV]
    rw [show 0 + i.toNat * 2 = 2 * i.toNat by omega, List.getElem?_append_left (by rw [length_flat]; omega)]
    exact h1
  · simp only [rowV]
    rw [show 0 + i.toNat * 2 + 1 = 2 * i.toNat + 1 by omega, List.getElem?_append_left (by rw [length_flat]; omega)]
    exact h2
theorem ov_ldV {bk : Nat} {vs : List (Int × Int)} {sp : List Value} {t : TypeId} {fr : Nat × Nat} {i : Int} [TAgg P T 2] (ho : o.op = .load T x) (hx : ev E x = some (.pointer (some ⟨bk, 0 + i.toNat * 2, none⟩))) (hA : At H bk (.cells (rowV vs sp) t fr)) (h0 : 0 ≤ i) (h : i < (vs.length : Int)) :
    OpV P N w0 o E H (.agg #[.int .i64 (vs.getD i.toNat (0, 0)).1, .int .i64 (vs.getD i.toNat (0, 0)).2]) := by
  have := ov_ldN (P := P) (N := N) (w0 := w0) (E := E) (H := H) (o := o) (n := 2) ho hx hA (ldN_rowV h0 h)
  rwa [ld_rowV h0 h] at this
theorem L_stR {bk : Nat} {xs : List Int} {sp : List Value} {t : TypeId} {i u : Int} [TOne P T] (hw : wantE ops E o = some true) (hd : o.dst = none) (ho : o.op = .store T x y) (hx : ev E x = some (.pointer (some ⟨bk, 0 + i.toNat * 1, none⟩))) (hy : ev E y = some (.int k u))
    (hU : Up H bk (.cells (rowA k xs sp) t (0, 0)) (.cells (rowA k (xs.set i.toNat u) sp) t (0, 0)) H') (h0 : 0 ≤ i) (h : i < (xs.length : Int))
    (hk : L P N w0 ops rest E H' R) : L P N w0 ops (o :: rest) E H R :=
  L_st hw hd ho hx hy rfl (by rw [rowA_set h0 h]; exact hU) (by rw [size_rowA]; omega) hk
theorem L_stB {bk : Nat} {xs : List Bool} {sp : List Value} {t : TypeId} {i : Int} {u : Bool} [TOne P T] (hw : wantE ops E o = some true) (hd : o.dst = none) (ho : o.op = .store T x y) (hx : ev E x = some (.pointer (some ⟨bk, 0 + i.toNat * 1, none⟩))) (hy : ev E y = some (.bool u))
    (hU : Up H bk (.cells (rowB xs sp) t (0, 0)) (.cells (rowB (xs.set i.toNat u) sp) t (0, 0)) H') (h0 : 0 ≤ i) (h : i < (xs.length : Int))
    (hk : L P N w0 ops rest E H' R) : L P N w0 ops (o :: rest) E H R :=
  L_st hw hd ho hx hy rfl (by rw [rowB_set h0 h]; exact hU) (by rw [size_rowB]; omega) hk
/-! ### make -/
theorem madeCells_one (z : Value) (n : Nat) : madeCells #[z] n = (List.replicate n z).toArray := by
  apply Array.toList_inj.1
  apply List.ext_getElem?
  intro i
  simp [madeCells, Array.getElem?_range]
  by_cases h : i < n <;> simp [h, Nat.mod_one]
theorem L_make {t : Tmp} {e n bytes m : Nat} {z : Value} [TSlice P T e n] [TInfo P e z n bytes] (hw : wantE ops E o = some true) (hd : o.dst = some t) (ht : Nat.blt t N = true) (ho : o.op = .makeSlice T x y)
    (hx : ev E x = some (.int .i64 (m : Int))) (hy : ev E y = some (.int .i64 (m : Int))) (hb : bytes * m ≤ 281474976710656) (hm : m ≤ 9223372036854775807)
    (hk : ∀ b, L P N w0 ops rest ((t, .slice (some ⟨b, 0, none⟩) m m) :: E) ((b, .cells (madeCells z.cells (m * n)) e (0, 0)) :: H) R) : L P N w0 ops (o :: rest) E H R :=
  L_eff (S := fun u H' => ∃ b, u = .slice (some ⟨b, 0, none⟩) m m ∧ H' = (b, .cells (madeCells z.cells (m * n)) e (0, 0)) :: H) hw hd ht (fun A w ha hs => by
    obtain ⟨i, hi, h1⟩ : ∃ i, P.info? e = some i ∧ (i.zero, i.size, i.bytes) = (some z, n, bytes) := by
      have := TInfo.out (P := P) (T := e) (z := z) (n := n) (bytes := bytes)
      cases hq : P.info? e with
      | none => simp [hq] at this
      | some i => exact ⟨i, rfl, by simpa [hq] using this⟩
    simp only [Prod.mk.injEq] at h1
    obtain ⟨h1, h2, h3⟩ := h1
    have hbb : (i.bytes : Int) * (m : Int) ≤ 281474976710656 := by
      have h : ((bytes * m : Nat) : Int) ≤ 281474976710656 := by omega
      rw [Int.natCast_mul] at h
      rw [h3]; exact h
    have hr := run_make (P := P) w T e i z (TSlice.out (P := P) (T := T)) hi h1 .i64 .i64 (m : Int) (m : Int) (by omega) (Int.le_refl _) hbb (by omega)
    simp only [Int.toNat_natCast, h2] at hr
    refine ⟨_, _, _, ?_, hs.alloc _, _, rfl, rfl⟩
    unfold execOp; rw [ho]; refine run_v ?_; rw [ha.eval hx, ha.eval hy]; exact hr) (fun u H' ⟨b, e1, e2⟩ => by subst e1; subst e2; exact hk b)
theorem made_int {n : Nat} : madeCells (Value.cells (.int k 0)) (n * 1) = rowA k (List.replicate n 0) [] := by
  rw [Nat.mul_one]; show madeCells #[.int k 0] n = _; rw [madeCells_one]; simp [rowA]
theorem made_bool {n : Nat} : madeCells (Value.cells (.bool false)) (n * 1) = rowB (List.replicate n false) [] := by
  rw [Nat.mul_one]; show madeCells #[.bool false] n = _; rw [madeCells_one]; simp [rowB]
theorem made_val {n : Nat} : madeCells (Value.cells (.agg #[.int .i64 0, .int .i64 0])) (n * 2) = rowV (List.replicate n (0, 0)) [] := by
  show madeCells #[.int .i64 0, .int .i64 0] (n * 2) = _
  apply Array.toList_inj.1
  apply List.ext_getElem?
  intro i
  have hf : ∀ n i : Nat, (flat (List.replicate n (0, 0)))[i]? = if i < n * 2 then some (.int .i64 0) else none := by
    intro n
    induction n with
    | zero => intro i; simp [flat]
    | succ n ih =>
      intro i
      rw [List.replicate_succ]
      match i with
      | 0 => simp [flat]
      | 1 => simp [flat]; omega
      | i + 2 =>
        have := ih i
        simp only [flat, List.getElem?_cons_succ, this]
        by_cases h : i < n * 2
        · rw [if_pos h, if_pos (by omega)]
        · rw [if_neg h, if_neg (by omega)]
  simp only [rowV, List.append_nil, hf]
  simp [madeCells, Array.getElem?_range]
  by_cases h : i < n * 2
  · rw [if_pos h]
    have : i % 2 = 0 ∨ i % 2 = 1 := by omega
    rcases this with e | e <;> simp [h, e]
  · simp [h]
theorem L_makeI {t : Tmp} {e bytes m : Nat} [TSlice P T e 1] [TInfo P e (.int k 0) 1 bytes] (hw : wantE ops E o = some true) (hd : o.dst = some t) (ht : Nat.blt t N = true) (ho : o.op = .makeSlice T x y)
    (hx : ev E x = some (.int .i64 (m : Int))) (hy : ev E y = some (.int .i64 (m : Int))) (hb : bytes * m ≤ 281474976710656) (hm : m ≤ 9223372036854775807)
    (hk : ∀ b, L P N w0 ops rest ((t, .slice (some ⟨b, 0, none⟩) m m) :: E) ((b, .cells (rowA k (List.replicate m 0) []) e (0, 0)) :: H) R) : L P N w0 ops (o :: rest) E H R :=
  L_make hw hd ht ho hx hy hb hm (fun b => by rw [made_int]; exact hk b)
theorem L_makeB {t : Tmp} {e bytes m : Nat} [TSlice P T e 1] [TInfo P e (.bool false) 1 bytes] (hw : wantE ops E o = some true) (hd : o.dst = some t) (ht : Nat.blt t N = true) (ho : o.op = .makeSlice T x y)
    (hx : ev E x = some (.int .i64 (m : Int))) (hy : ev E y = some (.int .i64 (m : Int))) (hb : bytes * m ≤ 281474976710656) (hm : m ≤ 9223372036854775807)
    (hk : ∀ b, L P N w0 ops rest ((t, .slice (some ⟨b, 0, none⟩) m m) :: E) ((b, .cells (rowB (List.replicate m false) []) e (0, 0)) :: H) R) : L P N w0 ops (o :: rest) E H R :=
  L_make hw hd ht ho hx hy hb hm (fun b => by rw [made_bool]; exact hk b)
theorem L_makeV {t : Tmp} {e bytes m : Nat} [TSlice P T e 2] [TInfo P e (.agg #[.int .i64 0, .int .i64 0]) 2 bytes] (hw : wantE ops E o = some true) (hd : o.dst = some t) (ht : Nat.blt t N = true) (ho : o.op = .makeSlice T x y)
    (hx : ev E x = some (.int .i64 (m : Int))) (hy : ev E y = some (.int .i64 (m : Int))) (hb : bytes * m ≤ 281474976710656) (hm : m ≤ 9223372036854775807)
    (hk : ∀ b, L P N w0 ops rest ((t, .slice (some ⟨b, 0, none⟩) m m) :: E) ((b, .cells (rowV (List.replicate m (0, 0)) []) e (0, 0)) :: H) R) : L P N w0 ops (o :: rest) E H R :=
  L_make hw hd ht ho hx hy hb hm (fun b => by rw [made_val]; exact hk b)
/-! ### a slice written out, of none or one element of one cell -/
theorem run_newRow (t : TypeId) (cs : Array Value) (w : World) : (newRow t cs).run P w = .ok ⟨w.heap.size, 0, none⟩ (w.alloc (.cells cs t)) := rfl
theorem L_bs0 {t : Tmp} {e n bytes : Nat} {z : Value} [TSlice P T e n] [TInfo P e z n bytes] (hw : wantE ops E o = some true) (hd : o.dst = some t) (ht : Nat.blt t N = true) (ho : o.op = .buildSlice T 0 #[])
    (hk : ∀ b, L P N w0 ops rest ((t, .slice (some ⟨b, 0, none⟩) 0 0) :: E) ((b, .cells #[] e (0, 0)) :: H) R) : L P N w0 ops (o :: rest) E H R :=
  L_eff (S := fun u H' => ∃ b, u = .slice (some ⟨b, 0, none⟩) 0 0 ∧ H' = (b, .cells #[] e (0, 0)) :: H) hw hd ht (fun A w ha hs => by
    refine ⟨.slice (some ⟨w.heap.size, 0, none⟩) 0 0, w.alloc (.cells #[] e), _, ?_, hs.alloc _, _, rfl, rfl⟩
    unfold execOp; rw [ho]; refine run_v ?_
    simp [Instr.buildSlice, run_underlying (TSlice.out (P := P) (T := T)), run_sizeOf (TSlice.size (P := P) (T := T)), Instr.fill, run_newRow, Array.range_zero']) (fun u H' ⟨b, e1, e2⟩ => by subst e1; subst e2; exact hk b)
theorem L_bs1 {t : Tmp} {e bytes : Nat} {z : Value} [TSlice P T e 1] [TInfo P e z 1 bytes] (hz : z.oneCell' = true) (hw : wantE ops E o = some true) (hd : o.dst = some t) (ht : Nat.blt t N = true) (ho : o.op = .buildSlice T 1 #[(0, x)]) (hx : ev E x = some v) (hv : v.oneCell' = true)
    (hk : ∀ b, L P N w0 ops rest ((t, .slice (some ⟨b, 0, none⟩) 1 1) :: E) ((b, .cells #[v] e (0, 0)) :: H) R) : L P N w0 ops (o :: rest) E H R :=
  L_eff (S := fun u H' => ∃ b, u = .slice (some ⟨b, 0, none⟩) 1 1 ∧ H' = (b, .cells #[v] e (0, 0)) :: H) hw hd ht (fun A w ha hs => by
    refine ⟨.slice (some ⟨w.heap.size, 0, none⟩) 1 1, w.alloc (.cells #[v] e), _, ?_, hs.alloc _, _, rfl, rfl⟩
    unfold execOp; rw [ho]; refine run_v ?_
    obtain ⟨i, hi, h1⟩ : ∃ i, P.info? e = some i ∧ (i.zero, i.size, i.bytes) = (some z, 1, bytes) := by
      have := TInfo.out (P := P) (T := e) (z := z) (n := 1) (bytes := bytes)
      cases hq : P.info? e with
      | none => simp [hq] at this
      | some i => exact ⟨i, rfl, by simpa [hq] using this⟩
    simp only [Prod.mk.injEq] at h1
    have hzv : (zeroValue e).run P w = .ok z w := by simp [zeroValue, typeInfo, hi, h1.1]
    have hzc := cells_one hz
    have hvc := cells_one hv
    have hr : Array.range 1 = #[0] := rfl
    simp [Instr.buildSlice, run_underlying (TSlice.out (P := P) (T := T)), run_sizeOf (TSlice.size (P := P) (T := T)), Instr.fill, run_newRow, hzv, hzc, hvc, hr, ha.eval hx]) (fun u H' ⟨b, e1, e2⟩ => by subst e1; subst e2; exact hk b)
/-! ### append of one element of one cell to a row of the call's own -/
theorem zeroCells_size (z : Value) (n : Nat) : (Builtin.zeroCells #[z] n).size = n := by simp [Builtin.zeroCells]
theorem L_app {t : Tmp} {e bytes : Nat} {z : Value} {xs sp : List Value} {b b1 : Nat} {H1 : HL} [TSlice P T e 1] [TInfo P e z 1 bytes] (hz : z.oneCell' = true) (hw : wantE ops E o = some true) (hd : o.dst = some t) (ht : Nat.blt t N = true)
    (ho : o.op = .call { callee := .builtin .append, args := #[x, y], argTypes := #[T, T2] }) [TSlice P T2 e 1] (hx : ev E x = some (.slice (some ⟨b, 0, none⟩) xs.length (xs.length + sp.length))) (hy : ev E y = some (.slice (some ⟨b1, 0, none⟩) 1 1))
    (hA : At H b1 (.cells #[v] e (0, 0))) (hv : v.oneCell' = true) (hT : Tk H b (.cells (xs ++ sp).toArray e (0, 0)) H1) (hb : (2 * xs.length + 1000) * bytes ≤ 281474976710656)
    (hl : xs.length ≤ 1000000)
    (hk : ∀ b' sp', L P N w0 ops rest ((t, .slice (some ⟨b', 0, none⟩) (xs ++ [v]).length ((xs ++ [v]).length + List.length sp')) :: E) ((b', .cells (xs ++ [v] ++ sp').toArray e (0, 0)) :: H1) R) : L P N w0 ops (o :: rest) E H R := by
  refine L_eff (S := fun u H' => ∃ b' sp', u = .slice (some ⟨b', 0, none⟩) (xs ++ [v]).length ((xs ++ [v]).length + List.length sp') ∧ H' = (b', .cells (xs ++ [v] ++ sp').toArray e (0, 0)) :: H1) hw hd ht (fun A w ha hs => ?_) (fun u H' ⟨b', sp', e1, e2⟩ => by subst e1; subst e2; exact hk b' sp')
  rw [exec_builtin _ ho]
  obtain ⟨i, hi, h1⟩ : ∃ i, P.info? e = some i ∧ (i.zero, i.size, i.bytes) = (some z, 1, bytes) := by
    have := TInfo.out (P := P) (T := e) (z := z) (n := 1) (bytes := bytes)
    cases hq : P.info? e with
    | none => simp [hq] at this
    | some i => exact ⟨i, rfl, by simpa [hq] using this⟩
  simp only [Prod.mk.injEq] at h1
  have hcell : w.cell? ⟨b1, 0, none⟩ = some v := by rw [hs.cell hA]; rfl
  have ex : A.eval x = .slice (some ⟨b, 0, none⟩) xs.length (xs.length + sp.length) := ha.eval hx
  have ey : A.eval y = .slice (some ⟨b1, 0, none⟩) 1 1 := ha.eval hy
  have hs' := hs.perm hT.perm
  have hcur : w.heap[b]? = some (.cells (xs ++ sp).toArray e (0, 0)) := hs'.block .here
  cases sp with
  | cons s sp =>
    have hU : Up ((b, .cells (xs ++ s :: sp).toArray e (0, 0)) :: H1) b (.cells (xs ++ s :: sp).toArray e (0, 0)) (.cells ((xs ++ s :: sp).toArray.setIfInBounds xs.length v) e (0, 0)) ((b, .cells ((xs ++ s :: sp).toArray.setIfInBounds xs.length v) e (0, 0)) :: H1) := .here
    have hset : (xs ++ s :: sp).toArray.setIfInBounds xs.length v = (xs ++ [v] ++ sp).toArray := by
      apply Array.toList_inj.1
      simp [List.set_append]
    rw [hset] at hU
    refine ⟨.slice (some ⟨b, 0, none⟩) (xs.length + 1) (xs.length + (s :: sp).length), w.setCell ⟨b, xs.length, none⟩ v, _, run_v ?_, hs'.setCell (by rw [hset]; exact hU), b, sp, by simp; omega, rfl⟩
    have hc0 : w.cell? ⟨b, xs.length, none⟩ = some s := by simp [World.cell?, hcur]
    have hf0 : w.frozen? ⟨b, xs.length, none⟩ = false := by simp [World.frozen?, hcur]
    have hle : xs.length + 1 ≤ xs.length + (sp.length + 1) := by omega
    simp [Builtin.append_, run_underlying (TSlice.out (P := P) (T := T)), run_underlying (TSlice.out (P := P) (T := T2)), run_sizeOf (TSlice.size (P := P) (T := T)), ex, ey, Builtin.lenOf, Builtin.firstCells, loadCells, loadCellsFrom, hcell, storeCells, add_none,
      run_store P w _ v _ hv, hc0, hf0]
  | nil =>
    have hcl : (loadCells ⟨b, 0, none⟩ xs.length).run P w = .ok xs.toArray w := by
      have := run_loadCells_list (P := P) w ⟨b, 0, none⟩ xs (fun j u hj => by
        rw [add_none]; simp only [World.cell?, hcur]; simpa using hj)
      exact this
    have hgt : ¬ xs.length + 1 ≤ xs.length + 0 := by omega
    have hcap : ¬ Builtin.nextslicecap (xs.length + 1) xs.length * bytes > 2 ^ 48 := by
      have hg : ∀ n r c, c ≤ 2 * n + 900 → (∀ c', c' < n → c' + (c' + 768) / 4 ≤ 2 * n + 900) → Builtin.growBy n r c ≤ 2 * n + 900 := by
        intro n r
        induction r with
        | zero => intro c h _; exact h
        | succ r ih =>
          intro c h h'
          unfold Builtin.growBy
          split
          · exact h
          · exact ih _ (h' c (by omega)) h'
      have : Builtin.nextslicecap (xs.length + 1) xs.length ≤ 2 * xs.length + 1000 := by
        unfold Builtin.nextslicecap
        split
        · omega
        · split
          · omega
          · have := hg (xs.length + 1) 4 xs.length (by omega) (fun c' hc => by omega)
            omega
      have h2 := Nat.mul_le_mul_right bytes this
      omega
    have hzv : ∀ w : World, (zeroValue e).run P w = .ok z w := fun w => by simp [zeroValue, typeInfo, hi, h1.1]
    have hzc := cells_one hz
    let q := Question.appendCap (xs.length + 1) xs.length e
    let nc := q.cut (w.tape w.drawn q)
    have hnc : xs.length + 1 ≤ nc := by show xs.length + 1 ≤ xs.length + 1 + _ % _; omega
    let sp' := (Builtin.zeroCells #[z] (nc - (xs.length + 1))).toList
    have hlen : sp'.length = nc - (xs.length + 1) := by simp [sp', zeroCells_size]
    have hrow : xs.toArray ++ #[v] ++ Builtin.zeroCells #[z] (nc - (xs.length + 1)) = (xs ++ [v] ++ sp').toArray := by apply Array.toList_inj.1; simp [sp']
    refine ⟨.slice (some ⟨w.heap.size, 0, none⟩) (xs.length + 1) nc, (w.drew).alloc (.cells (xs ++ [v] ++ sp').toArray e), _, run_v ?_, (hs'.drop.drew).alloc _, w.heap.size, sp', by simp [hlen]; omega, rfl⟩
    have hch : (choose (.appendCap (xs.length + 1) xs.length e)).run P w = .ok nc w.drew := rfl
    have hroom : ∀ n (w : World), (askRoom n).run P w = .ok () w := fun n w => by unfold askRoom; split <;> rfl
    have hcl' : (loadCells ⟨b, 0, none⟩ xs.length).run P w.drew = .ok xs.toArray w.drew := by
      have := run_loadCells_list (P := P) w.drew ⟨b, 0, none⟩ xs (fun j u hj => by
        rw [add_none]
        show w.cell? ⟨b, 0 + j, none⟩ = some u
        simp only [World.cell?, hcur]; simpa using hj)
      exact this
    have hcell' : w.drew.cell? ⟨b1, 0, none⟩ = some v := hcell
    have hti : ∀ w : World, (typeInfo e).run P w = .ok i w := fun w => by simp [typeInfo, hi]
    have hmax : ¬ (((xs.length + 1 : Nat) : Int) > IntKind.i64.max) := by
      have : IntKind.i64.max = 9223372036854775807 := rfl
      rw [this]; omega
    have hcap' : ¬ (Builtin.nextslicecap (xs.length + 1) xs.length * i.bytes > 2 ^ 48) := by rw [h1.2.2]; exact hcap
    have hz0 : ∀ m, Builtin.zeroCells z.cells m = Builtin.zeroCells #[z] m := fun m => by rw [hzc]
    have hfc : (Builtin.firstCells 1 1 (.slice (some ⟨b1, 0, none⟩) 1 1)).run P w.drew = .ok #[v] w.drew := by
      simp [Builtin.firstCells, loadCells, loadCellsFrom, hcell', add_none]
    have hfc2 : (Builtin.firstCells 1 xs.length (.slice (some ⟨b, 0, none⟩) xs.length (xs.length + ([] : List Value).length))).run P w.drew = .ok xs.toArray w.drew := by
      show (loadCells ⟨b, 0, none⟩ (xs.length * 1)).run P w.drew = _
      rw [Nat.mul_one]; exact hcl'
    have e0 : xs.length + ([] : List Value).length = xs.length := by simp
    rw [e0] at ex hfc2
    have hni : (P.underlying T2).isSome = true := by rw [TSlice.out (P := P) (T := T2)]; rfl
    unfold Builtin.append_
    simp only [List.map_toArray, List.map_cons, List.map_nil, ex, ey, List.getElem?_toArray, List.getElem?_cons_zero, List.getElem?_cons_succ, Sem.run_bind, Result.andThen_ok, run_underlying (TSlice.out (P := P) (T := T)), run_underlying (TSlice.out (P := P) (T := T2)),
      run_sizeOf (TSlice.size (P := P) (T := T)), Sem.run_pure, Builtin.lenOf, Bool.false_eq_true, if_false, false_or, show ¬ (xs.length + 1 ≤ xs.length) by omega, hti]
    rw [if_neg (fun h => hmax h.1)]
    simp only [Sem.run_bind, hti, Result.andThen_ok, Sem.run_pure]
    rw [if_neg hcap']
    simp only [Sem.run_bind, hti, hch, Result.andThen_ok, hroom, hfc2, Bool.not_false, if_true, hfc, hzv, Sem.run_pure, hz0, run_newRow, hrow]
    rfl
theorem L_appI {t : Tmp} {e bytes : Nat} {xs : List Int} {sp : List Value} {b b1 : Nat} {u : Int} {H1 : HL} [TSlice P T e 1] [TInfo P e (.int k 0) 1 bytes] [TSlice P T2 e 1] (hw : wantE ops E o = some true) (hd : o.dst = some t) (ht : Nat.blt t N = true)
    (ho : o.op = .call { callee := .builtin .append, args := #[x, y], argTypes := #[T, T2] }) (hx : ev E x = some (.slice (some ⟨b, 0, none⟩) xs.length (xs.length + sp.length))) (hy : ev E y = some (.slice (some ⟨b1, 0, none⟩) 1 1))
    (hA : At H b1 (.cells #[.int k u] e (0, 0))) (hT : Tk H b (.cells (rowA k xs sp) e (0, 0)) H1) (hb : Nat.ble bytes 1000 = true) (hl : xs.length ≤ 1000000)
    (hk : ∀ b' sp', L P N w0 ops rest ((t, .slice (some ⟨b', 0, none⟩) (xs ++ [u]).length ((xs ++ [u]).length + List.length sp')) :: E) ((b', .cells (rowA k (xs ++ [u]) sp') e (0, 0)) :: H1) R) : L P N w0 ops (o :: rest) E H R := by
  have e1 : (xs.map (Value.int k)).length = xs.length := by simp
  refine L_app (z := .int k 0) (v := .int k u) (xs := xs.map (Value.int k)) (sp := sp) rfl hw hd ht ho (by rw [e1]; exact hx) hy hA rfl hT ?_ (by rw [e1]; exact hl) (fun b' sp' => ?_)
  · have := Nat.le_of_ble_eq_true hb
    have h2 : (2 * (xs.map (Value.int k)).length + 1000) * bytes ≤ (2 * 1000000 + 1000) * 1000 := Nat.mul_le_mul (by rw [e1]; omega) this
    omega
  · have e2 : (xs.map (Value.int k) ++ [Value.int k u]).length = (xs ++ [u]).length := by simp
    have e3 : (xs.map (Value.int k) ++ [Value.int k u] ++ sp').toArray = rowA k (xs ++ [u]) sp' := by simp [rowA]
    rw [e2, e3]; exact hk b' sp'
/-! ### a place where roads meet -/
inductive midA {α : Type} (E' : α → Env) (H' : α → HL) (good : α → Prop) (R : Post) : Post
  | at_ {E : Env} {H : HL} (y : α) : good y → Sub E (E' y) → Cv H (H' y) → midA E' H' good R .normal E H
  | ret {E : Env} {H : HL} : R .ret E H → midA E' H' good R .ret E H
  | exit {i : Nat} {E : Env} {H : HL} : R (.exit i) E H → midA E' H' good R (.exit i) E H
theorem W_midA {c d : Code} {α : Type} (E' : α → Env) (H' : α → HL) (good : α → Prop) (h : W P N w0 c E H (midA E' H' good R)) (h' : ∀ z, good z → W P N w0 d (E' z) (H' z) R) : W P N w0 (.seq c d) E H R :=
  W_seq (W_mono (fun e E H q => by
    cases q with
    | at_ y hy s cv => exact .normal (W_sub s cv (h' y hy))
    | ret h => exact .ret h
    | exit h => exact .exit h) h)
theorem midA.mk {α : Type} {E' : α → Env} {H' : α → HL} {good : α → Prop} {R : Post} {E : Env} {H : HL} (y : α) (s : Sub E (E' y)) (c : Cv H (H' y)) (g : good y) : midA E' H' good R .normal E H := .at_ y g s c
theorem loopR.mk {α : Type} {E' : α → Env} {H' : α → HL} {good : α → Prop} {μ : α → Nat} {n : Nat} {R : Post} {E : Env} {H : HL} (y : α) (s : Sub E (E' y)) (c : Cv H (H' y)) (g : good y) (m : μ y < n) : loopR E' H' good μ n R .normal E H := .again y g m s c
theorem W_loopX {c : Code} {α : Type} (E' : α → Env) (H' : α → HL) (good : α → Prop) (μ : α → Nat) (x : α) (s : Sub E (E' x)) (cv : Cv H (H' x)) (hx : good x)
    (round : ∀ x, good x → W P N w0 c (E' x) (H' x) (loopR E' H' good μ (μ x) R)) : W P N w0 (.loop c) E H R := W_loop E' H' good μ x hx s cv round
/-! ### strings of bytes -/
def Byt (xs : List Int) : Prop := ∀ x, x ∈ xs → 0 ≤ x ∧ x < 256
theorem ov_bts {e : TypeId} {b m : Nat} {xs : List Int} {sp : List Value} {t : TypeId} {fr : Nat × Nat} [TSlice P T e 1] [TInt P e .u8] [TStr P T2] (ho : o.op = .convert T T2 x) (hx : ev E x = some (.slice (some ⟨b, 0, none⟩) xs.length m)) (hA : At H b (.cells (rowA .u8 xs sp) t fr)) :
    OpV P N w0 o E H (.string (strOfNums xs)) := by
  refine ⟨fun a w ha hs => ?_⟩
  unfold execOp; rw [ho]; refine run_v ?_; rw [ha.eval hx]
  refine run_convert_bytes_arg w T e (TSlice.out (P := P) (T := T)) (TInt.out (P := P) (T := e)) b 0 xs.length m xs rfl (fun i hi => ?_) T2 (TStr.out (P := P) (T := T2))
  rw [hs.cell hA]
  simp [rowA, List.getElem?_append_left, hi, List.getD_eq_getElem?_getD]
theorem ov_sidx [TStr P T] {xs : List Int} {i : Int} (ho : o.op = .index T x y) (hx : ev E x = some (.string (strOfNums xs))) (hy : ev E y = some (.int .i64 i)) (hb : Byt xs) (h0 : 0 ≤ i) (h : i < (xs.length : Int)) : OpV P N w0 o E H (.int .u8 (g xs i)) := by
  refine ⟨fun a w ha hs => ?_⟩
  unfold execOp; rw [ho]; refine run_v ?_; rw [ha.eval hx, ha.eval hy]
  have hl : i.toNat < xs.length := by omega
  have hsz : i.toNat < (strOfNums xs).size := by rw [strOfNums_size]; exact hl
  have hgi : (strOfNums xs)[i.toNat]? = some (UInt8.ofNat (g xs i).toNat) := by
    rw [getElem?_pos (strOfNums xs) i.toNat hsz]
    congr 1
    have h9 : (strOfNums xs).data.toList[i.toNat]? = some (UInt8.ofNat (g xs i).toNat) := by
      rw [strOfNums_data, List.getElem?_map, List.getElem?_eq_getElem hl]
      simp [g, List.getD_eq_getElem?_getD, hl]
    rw [Array.getElem?_toList] at h9
    have h8 : (strOfNums xs).data[i.toNat]? = some ((strOfNums xs).data[i.toNat]'hsz) := getElem?_pos _ _ _
    rw [h8] at h9
    exact Option.some.inj h9
  have hm : g xs i ∈ xs := by
    unfold g; rw [List.getD_eq_getElem?_getD, List.getElem?_eq_getElem hl]; exact List.getElem_mem hl
  have hr := hb _ hm
  have e : (((UInt8.ofNat (g xs i).toNat).toNat : Nat) : Int) = g xs i := by
    rw [UInt8.toNat_ofNat']; omega
  simp [Instr.index, asIntOf, run_underlying (TStr.out (P := P) (T := T)), h0, hgi]
  omega
theorem strs_eq {xs ys : List Int} (hx : Byt xs) (hy : Byt ys) : (strOfNums xs).toList = (strOfNums ys).toList ↔ xs = ys := by
  constructor
  · intro h
    have h1 : ∀ zs : List Int, (strOfNums zs).toList = zs.map fun n => UInt8.ofNat n.toNat := fun zs => by
      rw [← strOfNums_data, ByteArray.toList_eq]
    rw [h1, h1] at h
    have key : ∀ zs : List Int, Byt zs → (zs.map fun n => UInt8.ofNat n.toNat).map (fun b => (b.toNat : Int)) = zs := fun zs hz => by
      rw [List.map_map]
      conv => rhs; rw [← List.map_id zs]
      refine List.map_congr_left fun n hn => ?_
      have := hz n hn
      simp only [Function.comp, id, UInt8.toNat_ofNat']; omega
    rw [← key xs hx, ← key ys hy, h]
  · intro h; rw [h]
theorem ov_eqz {xs ys : List Int} (ho : o.op = .binOp .eql T x y T2) (hx : ev E x = some (.string (strOfNums xs))) (hy : ev E y = some (.string (strOfNums ys))) (h1 : Byt xs) (h2 : Byt ys) : OpV P N w0 o E H (.bool (decide (xs = ys))) := by
  have := ov_eqs (P := P) (N := N) (w0 := w0) (E := E) (H := H) ho hx hy
  rwa [decide_eq_decide.2 (strs_eq h1 h2)] at this
theorem ov_lenz [TStr P T] {xs : List Int} (ho : o.op = .call { callee := .builtin .len, args := #[x], argTypes := #[T] }) (hx : ev E x = some (.string (strOfNums xs))) : OpV P N w0 o E H (.int .i64 (xs.length : Int)) := by
  have := ov_lens (P := P) (N := N) (w0 := w0) (E := E) (H := H) ho hx
  rwa [strOfNums_size] at this
end
end Go.Proofs.YtfmhlieaodbgiaaGreat.Eng
namespace Go.Proofs.YtfmhlieaodbgiaaGreat.Eng
open Go Go.RowKit Go.Proofs.YtfmhlieaodbgiaaGreat.Sl Go.Proofs.YtfmhlieaodbgiaaGreat.Ar
set_option linter.unusedVariables false
set_option linter.unusedSimpArgs false
def mEnts : Nat → List Int → List MapEntry
  | _, [] => []
  | n, k :: ks => ⟨.int .i64 k, .bool true, n⟩ :: mEnts (n + 1) ks
/-- the numbers of ks, put in one behind the other -/
def sObj (ks : List Int) : Obj := .map (mEnts 0 ks).toArray ks.length
theorem mEnts_key {n : Nat} {ks : List Int} {x : MapEntry} (h : x ∈ mEnts n ks) : ∃ k, k ∈ ks ∧ x.key = .int .i64 k ∧ x.val = .bool true := by
  induction ks generalizing n with
  | nil => simp [mEnts] at h
  | cons k ks ih =>
    rcases List.mem_cons.1 h with rfl | h
    · exact ⟨k, List.mem_cons_self, rfl, rfl⟩
    · obtain ⟨k', h1, h2⟩ := ih h; exact ⟨k', List.mem_cons_of_mem _ h1, h2⟩
theorem mEnts_mem {n : Nat} {ks : List Int} {k : Int} (h : k ∈ ks) : ∃ x, x ∈ mEnts n ks ∧ x.key = .int .i64 k := by
  induction ks generalizing n with
  | nil => cases h
  | cons k' ks ih =>
    rcases List.mem_cons.1 h with rfl | h
    · exact ⟨_, List.mem_cons_self, rfl⟩
    · obtain ⟨x, h1, h2⟩ := ih (n := n + 1) h; exact ⟨x, List.mem_cons_of_mem _ h1, h2⟩
theorem mEnts_push {n : Nat} {ks : List Int} {k : Int} : mEnts n (ks ++ [k]) = mEnts n ks ++ [⟨.int .i64 k, .bool true, n + ks.length⟩] := by
  induction ks generalizing n with
  | nil => rfl
  | cons k' ks ih => simp only [List.cons_append, mEnts, ih, List.length_cons]; rw [show n + 1 + ks.length = n + (ks.length + 1) by omega]
theorem mEnts_is {n : Nat} {ks : List Int} : ∀ x ∈ (mEnts n ks), MapKept.IsKey (.int .i64) x.key := fun x hx => by
  obtain ⟨k, -, e, -⟩ := mEnts_key hx
  rw [e]; rfl
theorem mEnts_find (ks : List Int) (k : Int) : (k ∈ ks ∧ ∃ j e, Instr.findNow (.int .i64) (.int .i64 k) (mEnts 0 ks) 0 = some (some (j, .bool true)) ∧ (mEnts 0 ks)[j]? = some e ∧ e.key = .int .i64 k ∧ e.val = .bool true) ∨ (k ∉ ks ∧ Instr.findNow (.int .i64) (.int .i64 k) (mEnts 0 ks) 0 = some none) := by
  rcases MapKept.findNow_spec (d := .int .i64) (k := .int .i64 k) rfl (mEnts 0 ks) 0 mEnts_is with ⟨h1, h2⟩ | ⟨j, e, h1, h2, h3⟩
  · refine .inr ⟨fun hm => ?_, h1⟩
    obtain ⟨x, hx, e⟩ := mEnts_mem (n := 0) hm
    exact h2 x hx e
  · obtain ⟨k', h4, h5, h6⟩ := mEnts_key (List.mem_of_getElem? h2)
    refine .inl ⟨?_, j, e, ?_, h2, h3, h6⟩
    · rw [h3] at h5; cases h5; exact h4
    · rw [h1, h6, Nat.zero_add]
section
variable {P : Program} {N : Nat} {w0 : World} {E : Env} {H H' : HL} {o : Oper} {x y z : Operand} {T : TypeId} {K V : TypeId} {ops : Array Oper} {rest : List Oper} {R : Post} {ks : List Int} {k : Int} {b : Nat}
theorem L_mkmap {t : Tmp} (hw : wantE ops E o = some true) (hd : o.dst = some t) (ht : Nat.blt t N = true) (ho : o.op = .makeMap T none)
    (hk : ∀ b, L P N w0 ops rest ((t, .map (some b)) :: E) ((b, sObj []) :: H) R) : L P N w0 ops (o :: rest) E H R :=
  L_eff (S := fun u H' => ∃ b, u = .map (some b) ∧ H' = (b, sObj []) :: H) hw hd ht (fun A w ha hs => by
    refine ⟨.map (some w.heap.size), w.alloc (.map #[] 0), _, ?_, hs.alloc _, _, rfl, rfl⟩
    unfold execOp; rw [ho]; refine run_v ?_
    simp [Instr.makeMap]) (fun u H' ⟨b, e1, e2⟩ => by subst e1; subst e2; exact hk b)
theorem ov_lookup {K V : TypeId} {ks : List Int} {u : Int} {bm n bytes : Nat} [TMap P T K V] [TInt P K .i64] [TInfo P V (.bool false) n bytes] (ho : o.op = .lookup T x y false) (hx : ev E x = some (.map (some bm))) (hy : ev E y = some (.int .i64 u)) (hA : At H bm (sObj ks)) :
    OpV P N w0 o E H (.bool (decide (u ∈ ks))) := by
  refine ⟨fun a w ha hs => ?_⟩
  have hb : w.heap[bm]? = some (.map (mEnts 0 ks).toArray ks.length) := hs.block hA
  unfold execOp; rw [ho]; refine run_v ?_; rw [ha.eval hx, ha.eval hy]
  have hik : MapKept.IsKey (.int .i64) (.int .i64 u) := rfl
  have hck : ∀ e, (Instr.checkKey e 10000 K (.int .i64 u)).run P w = .ok () w := fun e => MapKept.run_checkKey (k := .int .i64 u) (TInt.out (P := P) (T := K)) hik e 9999
  have hz : (zeroValue V).run P w = .ok (.bool false) w := by
    have := TInfo.out (P := P) (T := V) (z := .bool false) (n := n) (bytes := bytes)
    cases hq : P.info? V with
    | none => simp [hq] at this
    | some i => simp [hq] at this; simp [zeroValue, typeInfo, hq, this.1]
  rcases mEnts_find ks u with ⟨h1, j, e, h2, h3, h4, h5⟩ | ⟨h1, h2⟩
  · simp [Instr.lookup, run_underlying (TMap.out (P := P) (T := T)), MapKept.run_getObj_map hb, hck, MapKept.run_findKey (TInt.out (P := P) (T := K)) h2, h1]
  · simp [Instr.lookup, run_underlying (TMap.out (P := P) (T := T)), MapKept.run_getObj_map hb, hck, MapKept.run_findKey (TInt.out (P := P) (T := K)) h2, h1, hz]
def putS (ks : List Int) (k : Int) : List Int := if k ∈ ks then ks else ks ++ [k]
theorem L_mapset [TMap P T K V] [TInt P K .i64] (hw : wantE ops E o = some true) (hd : o.dst = none) (ho : o.op = .mapUpdate T x y z) (hx : ev E x = some (.map (some b))) (hy : ev E y = some (.int .i64 k)) (hz : ev E z = some (.bool true))
    (hU : Up H b (sObj ks) (sObj (putS ks k)) H') (hk : L P N w0 ops rest E H' R) : L P N w0 ops (o :: rest) E H R :=
  L_effU hw hd (fun a w ha hs => by
    have hb : w.heap[b]? = some (.map (mEnts 0 ks).toArray ks.length) := hs.block hU.at
    have hik : MapKept.IsKey (.int .i64) (.int .i64 k) := rfl
    have hck : ∀ e, (Instr.checkKey e 10000 K (.int .i64 k)).run P w = .ok () w := fun e => MapKept.run_checkKey (k := .int .i64 k) (TInt.out (P := P) (T := K)) hik e 9999
    have hset := fun o' => MapKept.heap_set (o' := o') hb
    have hs2 : Sat w0 H' { w with heap := w.heap.setIfInBounds b (sObj (putS ks k)) } := hs.turn hU rfl rfl rfl (by simp) (hset _).1 (hset _).2
    refine ⟨_, ?_, hs2⟩
    unfold execOp; rw [ho]; refine run_u ?_; rw [ha.eval hx, ha.eval hy, ha.eval hz]
    rcases mEnts_find ks k with ⟨h1, j, e, h2, h3, h4, h5⟩ | ⟨h1, h2⟩
    · have hmod : ((mEnts 0 ks).toArray.modify j fun e => { e with key := .int .i64 k, val := .bool true }) = (mEnts 0 ks).toArray := by
        apply Array.ext_getElem?
        intro i
        rw [Array.getElem?_modify]
        split
        · rename_i hij; subst hij
          simp only [List.getElem?_toArray, h3, Option.map_some]
          congr 1
          cases e; simp_all
        · rfl
      have hmodl : ((mEnts 0 ks).modify j fun e => { e with key := .int .i64 k, val := .bool true }) = mEnts 0 ks := by
        have := congrArg Array.toList hmod
        simpa using this
      have hp : putS ks k = ks := if_pos h1
      simp [Instr.mapUpdate, run_underlying (TMap.out (P := P) (T := T)), MapKept.run_getObj_map hb, hck, MapKept.run_findKey (TInt.out (P := P) (T := K)) h2, MapKept.run_setObj_map _ hb, h3, h4, MapKept.run_keyThatStays (d := .int .i64) (k := .int .i64 k) rfl, hmodl, hp, sObj, Result.andThen]
    · have hp : putS ks k = ks ++ [k] := if_neg h1
      simp [Instr.mapUpdate, run_underlying (TMap.out (P := P) (T := T)), MapKept.run_getObj_map hb, hck, MapKept.run_findKey (TInt.out (P := P) (T := K)) h2, MapKept.run_setObj_map _ hb, hp, sObj, mEnts_push, Result.andThen]) hk
/-- a row with room and nothing in it -/
theorem L_mkcap {t : Tmp} {e bytes : Nat} {kk : IntKind} {c : Int} [TSlice P T e 1] [TInfo P e (.int kk 0) 1 bytes] (hw : wantE ops E o = some true) (hd : o.dst = some t) (ht : Nat.blt t N = true) (ho : o.op = .makeSlice T x y)
    (hx : ev E x = some (.int .i64 0)) (hy : ev E y = some (.int .i64 c)) (h0 : 0 ≤ c) (hb : (bytes : Int) * c ≤ 281474976710656) (hm : c ≤ 9223372036854775807)
    (hk : ∀ b sp, L P N w0 ops rest ((t, .slice (some ⟨b, 0, none⟩) ([] : List Int).length (([] : List Int).length + List.length sp)) :: E) ((b, .cells (rowA kk [] sp) e (0, 0)) :: H) R) : L P N w0 ops (o :: rest) E H R :=
  L_eff (S := fun u H' => ∃ b sp, u = .slice (some ⟨b, 0, none⟩) ([] : List Int).length (([] : List Int).length + List.length sp) ∧ H' = (b, .cells (rowA kk [] sp) e (0, 0)) :: H) hw hd ht (fun A w ha hs => by
    obtain ⟨i, hi, h1⟩ : ∃ i, P.info? e = some i ∧ (i.zero, i.size, i.bytes) = (some (.int kk 0), 1, bytes) := by
      have := TInfo.out (P := P) (T := e) (z := .int kk 0) (n := 1) (bytes := bytes)
      cases hq : P.info? e with
      | none => simp [hq] at this
      | some i => exact ⟨i, rfl, by simpa [hq] using this⟩
    simp only [Prod.mk.injEq] at h1
    obtain ⟨h1, h2, h3⟩ := h1
    have hr := run_make (P := P) w T e i (.int kk 0) (TSlice.out (P := P) (T := T)) hi h1 .i64 .i64 0 c (by omega) h0 (by rw [h3]; exact hb) hm
    rw [h2] at hr
    have hmade := made_int (k := kk) (n := c.toNat)
    rw [hmade] at hr
    have e1 : rowA kk (List.replicate c.toNat 0) [] = rowA kk [] (List.replicate c.toNat (.int kk 0)) := by simp [rowA]
    rw [e1] at hr
    refine ⟨.slice (some ⟨w.heap.size, 0, none⟩) 0 c.toNat, _, _, ?_, hs.alloc _, _, List.replicate c.toNat (.int kk 0), by simp, rfl⟩
    unfold execOp; rw [ho]; refine run_v ?_; rw [ha.eval hx, ha.eval hy]; exact hr) (fun u H' ⟨b, sp, e1, e2⟩ => by subst e1; subst e2; exact hk b sp)
end
end Go.Proofs.YtfmhlieaodbgiaaGreat.Eng
namespace Go.Proofs.YtfmhlieaodbgiaaGreat.Eng
open Go Go.RowKit Go.Proofs.YtfmhlieaodbgiaaGreat.Sl Go.Proofs.YtfmhlieaodbgiaaGreat.Ar
set_option linter.unusedVariables false
set_option linter.unusedSimpArgs false
section
variable {P : Program} {N : Nat} {w0 : World} {E : Env} {H H' : HL} {x y z : Operand} {T T2 : TypeId} {v vx vy : Value} {k k2 : IntKind} {a b c : Int} {d_ : Option Tmp} {ty_ : TypeId} {pos_ : String} {af_ : Array Edge} {gd_ : Option (Nat × Bool)}
theorem v_move (hx : ev E x = some v) : OpV P N w0 ⟨d_, .move x, ty_, pos_, af_, gd_⟩ E H v := ov_move rfl hx
theorem v_assign (hx : ev E x = some v) : OpV P N w0 ⟨d_, .assign x, ty_, pos_, af_, gd_⟩ E H v := ov_assign rfl hx
theorem v_pick1 (hx : ev E x = some (.bool true)) (hy : ev E y = some v) : OpV P N w0 ⟨d_, .pick x y z, ty_, pos_, af_, gd_⟩ E H v := ov_pick1 rfl hx hy
theorem v_pick0 (hx : ev E x = some (.bool false)) (hz : ev E z = some v) : OpV P N w0 ⟨d_, .pick x y z, ty_, pos_, af_, gd_⟩ E H v := ov_pick0 rfl hx hz
theorem v_bin {op : BinOp} (hx : ev E x = some vx) (hy : ev E y = some vy)
    (hr : ∀ w, ((do eqGuard op T x y vx vy; binOp op T vx vy) : Sem Value).run P w = .ok v w) : OpV P N w0 ⟨d_, .binOp op T x y T2, ty_, pos_, af_, gd_⟩ E H v := ov_bin rfl hx hy hr
theorem v_lt (hx : ev E x = some (.int k a)) (hy : ev E y = some (.int k b)) : OpV P N w0 ⟨d_, .binOp .lss T x y T2, ty_, pos_, af_, gd_⟩ E H (.bool (decide (a < b))) := ov_lt rfl hx hy
theorem v_le (hx : ev E x = some (.int k a)) (hy : ev E y = some (.int k b)) : OpV P N w0 ⟨d_, .binOp .leq T x y T2, ty_, pos_, af_, gd_⟩ E H (.bool (decide (a ≤ b))) := ov_le rfl hx hy
theorem v_gt (hx : ev E x = some (.int k a)) (hy : ev E y = some (.int k b)) : OpV P N w0 ⟨d_, .binOp .gtr T x y T2, ty_, pos_, af_, gd_⟩ E H (.bool (decide (b < a))) := ov_gt rfl hx hy
theorem v_ge (hx : ev E x = some (.int k a)) (hy : ev E y = some (.int k b)) : OpV P N w0 ⟨d_, .binOp .geq T x y T2, ty_, pos_, af_, gd_⟩ E H (.bool (decide (b ≤ a))) := ov_ge rfl hx hy
theorem v_eq (hx : ev E x = some (.int k a)) (hy : ev E y = some (.int k b)) : OpV P N w0 ⟨d_, .binOp .eql T x y T2, ty_, pos_, af_, gd_⟩ E H (.bool (decide (a = b))) := ov_eq rfl hx hy
theorem v_ne (hx : ev E x = some (.int k a)) (hy : ev E y = some (.int k b)) : OpV P N w0 ⟨d_, .binOp .neq T x y T2, ty_, pos_, af_, gd_⟩ E H (.bool (!(decide (a = b)))) := ov_ne rfl hx hy
theorem v_eqs {s t : ByteArray} (hx : ev E x = some (.string s)) (hy : ev E y = some (.string t)) : OpV P N w0 ⟨d_, .binOp .eql T x y T2, ty_, pos_, af_, gd_⟩ E H (.bool (decide (s.toList = t.toList))) := ov_eqs rfl hx hy
theorem v_nes {s t : ByteArray} (hx : ev E x = some (.string s)) (hy : ev E y = some (.string t)) : OpV P N w0 ⟨d_, .binOp .neq T x y T2, ty_, pos_, af_, gd_⟩ E H (.bool (!(decide (s.toList = t.toList)))) := ov_nes rfl hx hy
theorem v_neb [TBool P T] {c d : Bool} (hx : ev E x = some (.bool c)) (hy : ev E y = some (.bool d)) : OpV P N w0 ⟨d_, .binOp .neq T x y T2, ty_, pos_, af_, gd_⟩ E H (.bool (c != d)) := ov_neb rfl hx hy
theorem v_eqb [TBool P T] {c d : Bool} (hx : ev E x = some (.bool c)) (hy : ev E y = some (.bool d)) : OpV P N w0 ⟨d_, .binOp .eql T x y T2, ty_, pos_, af_, gd_⟩ E H (.bool (c == d)) := ov_eqb rfl hx hy
theorem v_add (hx : ev E x = some (.int .i64 a)) (hy : ev E y = some (.int .i64 b)) (h : -9223372036854775808 ≤ a + b ∧ a + b ≤ 9223372036854775807) : OpV P N w0 ⟨d_, .binOp .add T x y T2, ty_, pos_, af_, gd_⟩ E H (.int .i64 (a + b)) := ov_add rfl hx hy h
theorem v_sub (hx : ev E x = some (.int .i64 a)) (hy : ev E y = some (.int .i64 b)) (h : -9223372036854775808 ≤ a - b ∧ a - b ≤ 9223372036854775807) : OpV P N w0 ⟨d_, .binOp .sub T x y T2, ty_, pos_, af_, gd_⟩ E H (.int .i64 (a - b)) := ov_sub rfl hx hy h
theorem v_mul (hx : ev E x = some (.int .i64 a)) (hy : ev E y = some (.int .i64 b)) (h : -9223372036854775808 ≤ a * b ∧ a * b ≤ 9223372036854775807) : OpV P N w0 ⟨d_, .binOp .mul T x y T2, ty_, pos_, af_, gd_⟩ E H (.int .i64 (a * b)) := ov_mul rfl hx hy h
theorem v_addw (hx : ev E x = some (.int k a)) (hy : ev E y = some (.int k b)) : OpV P N w0 ⟨d_, .binOp .add T x y T2, ty_, pos_, af_, gd_⟩ E H (.int k (k.wrap (a + b))) := ov_addw rfl hx hy
theorem v_mulw (hx : ev E x = some (.int k a)) (hy : ev E y = some (.int k b)) : OpV P N w0 ⟨d_, .binOp .mul T x y T2, ty_, pos_, af_, gd_⟩ E H (.int k (k.wrap (a * b))) := ov_mulw rfl hx hy
theorem v_quo (hx : ev E x = some (.int .i64 a)) (hy : ev E y = some (.int .i64 b)) (h0 : 0 ≤ a ∧ a ≤ 9223372036854775807) (hb : 0 < b) : OpV P N w0 ⟨d_, .binOp .quo T x y T2, ty_, pos_, af_, gd_⟩ E H (.int .i64 (a / b)) := ov_quo rfl hx hy h0 hb
theorem v_rem (hx : ev E x = some (.int k a)) (hy : ev E y = some (.int k b)) (h0 : 0 ≤ a) (hb : 0 < b) : OpV P N w0 ⟨d_, .binOp .rem T x y T2, ty_, pos_, af_, gd_⟩ E H (.int k (a % b)) := ov_rem rfl hx hy h0 hb
theorem v_shr {k2 : IntKind} (hx : ev E x = some (.int k a)) (hy : ev E y = some (.int k2 b)) (hb : 0 ≤ b) (hb2 : b ≤ k.bits) : OpV P N w0 ⟨d_, .binOp .shr T x y T2, ty_, pos_, af_, gd_⟩ E H (.int k (a / 2 ^ b.toNat)) := ov_shr rfl hx hy hb hb2
theorem v_shl {k2 : IntKind} (hx : ev E x = some (.int k a)) (hy : ev E y = some (.int k2 b)) (hb : 0 ≤ b) (hb2 : b ≤ k.bits) : OpV P N w0 ⟨d_, .binOp .shl T x y T2, ty_, pos_, af_, gd_⟩ E H (.int k (k.wrap (a * 2 ^ b.toNat))) := ov_shl rfl hx hy hb hb2
theorem v_and (hx : ev E x = some (.int k a)) (hy : ev E y = some (.int k b)) : OpV P N w0 ⟨d_, .binOp .and T x y T2, ty_, pos_, af_, gd_⟩ E H (.int k (bits .and k a b)) := ov_and rfl hx hy
theorem v_or (hx : ev E x = some (.int k a)) (hy : ev E y = some (.int k b)) : OpV P N w0 ⟨d_, .binOp .or T x y T2, ty_, pos_, af_, gd_⟩ E H (.int k (bits .or k a b)) := ov_or rfl hx hy
theorem v_andNot (hx : ev E x = some (.int k a)) (hy : ev E y = some (.int k b)) : OpV P N w0 ⟨d_, .binOp .andNot T x y T2, ty_, pos_, af_, gd_⟩ E H (.int k (bits .andNot k a b)) := ov_andNot rfl hx hy
theorem v_not {c : Bool} (hx : ev E x = some (.bool c)) : OpV P N w0 ⟨d_, .unOp .not T x, ty_, pos_, af_, gd_⟩ E H (.bool (!c)) := ov_not rfl hx
theorem v_conv {k' : IntKind} [TInt P T2 k'] [TInt P T k] (hx : ev E x = some (.int k a)) : OpV P N w0 ⟨d_, .convert T T2 x, ty_, pos_, af_, gd_⟩ E H (.int k' (k'.wrap a)) := ov_conv rfl hx
theorem v_convi [TInt P T2 .i64] [TInt P T k] (hx : ev E x = some (.int k a)) (h : -9223372036854775808 ≤ a ∧ a ≤ 9223372036854775807) : OpV P N w0 ⟨d_, .convert T T2 x, ty_, pos_, af_, gd_⟩ E H (.int .i64 a) := ov_convi rfl hx h
theorem v_len {e : TypeId} {n : Nat} [TSlice P T e n] {l m : Nat} {b : Option Addr} (hx : ev E x = some (.slice b l m)) : OpV P N w0 ⟨d_, .call { callee := .builtin .len, args := #[x], argTypes := #[T] }, ty_, pos_, af_, gd_⟩ E H (.int .i64 (l : Int)) := ov_len rfl hx
theorem v_lens [TStr P T] {s : ByteArray} (hx : ev E x = some (.string s)) : OpV P N w0 ⟨d_, .call { callee := .builtin .len, args := #[x], argTypes := #[T] }, ty_, pos_, af_, gd_⟩ E H (.int .i64 (s.size : Int)) := ov_lens rfl hx
theorem v_extract {i : Nat} {vs : Array Value} (hx : ev E x = some (.tuple vs)) (hv : vs.toList[i]? = some v) : OpV P N w0 ⟨d_, .extract x i, ty_, pos_, af_, gd_⟩ E H v := ov_extract rfl hx hv
theorem v_field {i off : Nat} [TField P T i off] {cs : Array Value} (hx : ev E x = some (.agg cs)) (hv : cs.toList[off]? = some v) : OpV P N w0 ⟨d_, .field T x i, ty_, pos_, af_, gd_⟩ E H v := ov_field rfl hx hv
theorem v_fieldN {i off n : Nat} [TFieldN P T i off n] {cs : Array Value} (hx : ev E x = some (.agg cs)) : OpV P N w0 ⟨d_, .field T x i, ty_, pos_, af_, gd_⟩ E H (.agg (cs.extract off (off + n))) := ov_fieldN rfl hx
theorem v_fieldAddr {i off : Nat} [TField P T i off] {b c : Nat} (hx : ev E x = some (.pointer (some ⟨b, c, none⟩))) : OpV P N w0 ⟨d_, .fieldAddr T x i, ty_, pos_, af_, gd_⟩ E H (.pointer (some ⟨b, c + off, none⟩)) := ov_fieldAddr rfl hx
theorem v_fieldAddrN {i off n : Nat} [TFieldN P T i off n] {b c : Nat} (hx : ev E x = some (.pointer (some ⟨b, c, none⟩))) : OpV P N w0 ⟨d_, .fieldAddr T x i, ty_, pos_, af_, gd_⟩ E H (.pointer (some ⟨b, c + off, none⟩)) := ov_fieldAddrN rfl hx
theorem v_nil {p : Addr} (hx : ev E x = some (.pointer (some p))) : OpV P N w0 ⟨d_, .nilCheck x, ty_, pos_, af_, gd_⟩ E H (.pointer (some p)) := ov_nil rfl hx
theorem v_idx {e : TypeId} {n : Nat} [TSlice P T e n] {bk of l m : Nat} (hx : ev E x = some (.slice (some ⟨bk, of, none⟩) l m)) (hy : ev E y = some (.int k a)) (h : 0 ≤ a ∧ a < (l : Int)) : OpV P N w0 ⟨d_, .indexAddr T x y, ty_, pos_, af_, gd_⟩ E H (.pointer (some ⟨bk, of + a.toNat * n, none⟩)) := ov_idx rfl hx hy h
theorem v_ld {bk i : Nat} {cs : Array Value} {t : TypeId} {fr : Nat × Nat} [TOne P T] (hx : ev E x = some (.pointer (some ⟨bk, i, none⟩))) (hA : At H bk (.cells cs t fr)) (hv : cs.toList[i]? = some v) : OpV P N w0 ⟨d_, .load T x, ty_, pos_, af_, gd_⟩ E H v := ov_ld rfl hx hA hv
theorem v_ldN {bk i n : Nat} {cs : Array Value} {t : TypeId} {fr : Nat × Nat} [TAgg P T n] (hx : ev E x = some (.pointer (some ⟨bk, i, none⟩))) (hA : At H bk (.cells cs t fr)) (hl : i + n ≤ cs.size) : OpV P N w0 ⟨d_, .load T x, ty_, pos_, af_, gd_⟩ E H (.agg ((cs.toList.drop i).take n).toArray) := ov_ldN rfl hx hA hl
theorem v_build {parts : Array (Nat × Operand)} {vs : List Value} {cells : Array Value} (hp : evs E (parts.toList.map (·.2)) = some vs)
    (hb : P.built T (List.zip (parts.toList.map (·.1)) vs) = some cells) : OpV P N w0 ⟨d_, .build T parts, ty_, pos_, af_, gd_⟩ E H (.agg cells) := ov_build rfl hp hb
theorem v_func {fn : Go.Fn} {first cap : Array Operand} {vs us : List Value} (h1 : evs E first.toList = some vs) (h2 : evs E cap.toList = some us) : OpV P N w0 ⟨d_, .makeFunc fn first cap, ty_, pos_, af_, gd_⟩ E H (.func fn vs.toArray us.toArray) := ov_func rfl h1 h2
theorem v_build0 {z : List Value} [TFlat P T z] : OpV P N w0 ⟨d_, .build T #[], ty_, pos_, af_, gd_⟩ E H (.agg z.toArray) := ov_build0 rfl 
theorem v_build2 {z : List Value} [TFlat P T z] {i j : Nat} {u w : Value} (hx : ev E x = some u) (hy : ev E y = some w) (h1 : u.oneCell' = true) (h2 : w.oneCell' = true)
    (hi : Nat.blt i z.length = true) (hj : Nat.blt j z.length = true) {cs : List Value} (hc : setParts z [(i, u), (j, w)] = cs) : OpV P N w0 ⟨d_, .build T #[(i, x), (j, y)], ty_, pos_, af_, gd_⟩ E H (.agg cs.toArray) := ov_build2 rfl hx hy h1 h2 hi hj hc
theorem v_build1 {z : List Value} [TFlat P T z] {i : Nat} {u : Value} (hx : ev E x = some u) (h1 : u.oneCell' = true)
    (hi : Nat.blt i z.length = true) {cs : List Value} (hc : setParts z [(i, u)] = cs) : OpV P N w0 ⟨d_, .build T #[(i, x)], ty_, pos_, af_, gd_⟩ E H (.agg cs.toArray) := ov_build1 rfl hx h1 hi hc
theorem v_build3 {z : List Value} [TFlat P T z] {i j k : Nat} {u w s : Value} {q : Operand} (hx : ev E x = some u) (hy : ev E y = some w) (hq : ev E q = some s) (h1 : u.oneCell' = true) (h2 : w.oneCell' = true) (h3 : s.oneCell' = true)
    (hi : Nat.blt i z.length = true) (hj : Nat.blt j z.length = true) (hk : Nat.blt k z.length = true) {cs : List Value} (hc : setParts z [(i, u), (j, w), (k, s)] = cs) : OpV P N w0 ⟨d_, .build T #[(i, x), (j, y), (k, q)], ty_, pos_, af_, gd_⟩ E H (.agg cs.toArray) := ov_build3 rfl hx hy hq h1 h2 h3 hi hj hk hc
theorem v_ldW {bk n : Nat} {cs : Array Value} {t : TypeId} {fr : Nat × Nat} [TAgg P T n] (hx : ev E x = some (.pointer (some ⟨bk, 0, none⟩))) (hA : At H bk (.cells cs t fr)) (hl : cs.toList.length = n) : OpV P N w0 ⟨d_, .load T x, ty_, pos_, af_, gd_⟩ E H (.agg cs) := ov_ldW rfl hx hA hl
theorem v_andv (hx : ev E x = some (.int k a)) (hy : ev E y = some (.int k b)) (e : bits .and k a b = c) : OpV P N w0 ⟨d_, .binOp .and T x y T2, ty_, pos_, af_, gd_⟩ E H (.int k c) := ov_andv rfl hx hy e
theorem v_shrv (hx : ev E x = some (.int k a)) (hy : ev E y = some (.int k2 b)) (hb : 0 ≤ b) (hb2 : b ≤ k.bits) (e : (2 : Int) ^ b.toNat = c) : OpV P N w0 ⟨d_, .binOp .shr T x y T2, ty_, pos_, af_, gd_⟩ E H (.int k (a / c)) := ov_shrv rfl hx hy hb hb2 e
theorem v_convu [TInt P T2 .u64] [TInt P T k] (hx : ev E x = some (.int k a)) (h : 0 ≤ a ∧ a ≤ 18446744073709551615) : OpV P N w0 ⟨d_, .convert T T2 x, ty_, pos_, af_, gd_⟩ E H (.int .u64 a) := ov_convu rfl hx h
theorem v_sg [TInt P T2 .i64] [TInt P T .u64] (hx : ev E x = some (.int .u64 a)) (h : 0 ≤ a ∧ a < 18446744073709551616) : OpV P N w0 ⟨d_, .convert T T2 x, ty_, pos_, af_, gd_⟩ E H (.int .i64 (sg a)) := ov_sg rfl hx h
theorem v_addu (hx : ev E x = some (.int .u64 a)) (hy : ev E y = some (.int .u64 b)) (h : 0 ≤ a + b ∧ a + b ≤ 18446744073709551615) : OpV P N w0 ⟨d_, .binOp .add T x y T2, ty_, pos_, af_, gd_⟩ E H (.int .u64 (a + b)) := ov_addu rfl hx hy h
theorem v_mulu (hx : ev E x = some (.int .u64 a)) (hy : ev E y = some (.int .u64 b)) (h : 0 ≤ a * b ∧ a * b ≤ 18446744073709551615) : OpV P N w0 ⟨d_, .binOp .mul T x y T2, ty_, pos_, af_, gd_⟩ E H (.int .u64 (a * b)) := ov_mulu rfl hx hy h
theorem v_ldV {bk : Nat} {vs : List (Int × Int)} {sp : List Value} {t : TypeId} {fr : Nat × Nat} {i : Int} [TAgg P T 2] (hx : ev E x = some (.pointer (some ⟨bk, 0 + i.toNat * 2, none⟩))) (hA : At H bk (.cells (rowV vs sp) t fr)) (h0 : 0 ≤ i) (h : i < (vs.length : Int)) : OpV P N w0 ⟨d_, .load T x, ty_, pos_, af_, gd_⟩ E H (.agg #[.int .i64 (vs.getD i.toNat (0, 0)).1, .int .i64 (vs.getD i.toNat (0, 0)).2]) := ov_ldV rfl hx hA h0 h
theorem v_bts {e : TypeId} {b m : Nat} {xs : List Int} {sp : List Value} {t : TypeId} {fr : Nat × Nat} [TSlice P T e 1] [TInt P e .u8] [TStr P T2] (hx : ev E x = some (.slice (some ⟨b, 0, none⟩) xs.length m)) (hA : At H b (.cells (rowA .u8 xs sp) t fr)) : OpV P N w0 ⟨d_, .convert T T2 x, ty_, pos_, af_, gd_⟩ E H (.string (strOfNums xs)) := ov_bts rfl hx hA
theorem v_sidx [TStr P T] {xs : List Int} {i : Int} (hx : ev E x = some (.string (strOfNums xs))) (hy : ev E y = some (.int .i64 i)) (hb : Byt xs) (h0 : 0 ≤ i) (h : i < (xs.length : Int)) : OpV P N w0 ⟨d_, .index T x y, ty_, pos_, af_, gd_⟩ E H (.int .u8 (g xs i)) := ov_sidx rfl hx hy hb h0 h
theorem v_eqz {xs ys : List Int} (hx : ev E x = some (.string (strOfNums xs))) (hy : ev E y = some (.string (strOfNums ys))) (h1 : Byt xs) (h2 : Byt ys) : OpV P N w0 ⟨d_, .binOp .eql T x y T2, ty_, pos_, af_, gd_⟩ E H (.bool (decide (xs = ys))) := ov_eqz rfl hx hy h1 h2
theorem v_lenz [TStr P T] {xs : List Int} (hx : ev E x = some (.string (strOfNums xs))) : OpV P N w0 ⟨d_, .call { callee := .builtin .len, args := #[x], argTypes := #[T] }, ty_, pos_, af_, gd_⟩ E H (.int .i64 (xs.length : Int)) := ov_lenz rfl hx
theorem v_lookup {K V : TypeId} {ks : List Int} {u : Int} {bm n bytes : Nat} [TMap P T K V] [TInt P K .i64] [TInfo P V (.bool false) n bytes] (hx : ev E x = some (.map (some bm))) (hy : ev E y = some (.int .i64 u)) (hA : At H bm (sObj ks)) : OpV P N w0 ⟨d_, .lookup T x y false, ty_, pos_, af_, gd_⟩ E H (.bool (decide (u ∈ ks))) := ov_lookup rfl hx hy hA
variable {ops : Array Oper} {l rest : List Oper} {R : Post} {c_ : Code} {bo_ : BinOp} {f : FuncId} {as_ : Array Operand} {ts_ : Array TypeId} {cl_ : Call} {t : Tmp}
theorem gL (h : L P N w0 ops l E H R) : L P N w0 ops l E H R := h
theorem gW (h : W P N w0 c_ E H R) : W P N w0 c_ E H R := h
theorem gAt (n : Nat) {l_ : Array Oper} {d : Bool} {c1 c2 : Code} (h : W P N w0 (.seq (.seq (.region n l_ d) c1) c2) E H R) : W P N w0 (.seq (.seq (.region n l_ d) c1) c2) E H R := h
theorem gAtR (n : Nat) {l_ : Array Oper} {d : Bool} {c1 : Code} (h : W P N w0 (.seq (.region n l_ d) c1) E H R) : W P N w0 (.seq (.region n l_ d) c1) E H R := h
theorem gQ (h : QL P N w0 ops l E H R) : QL P N w0 ops l E H R := h
theorem gBin (h : OpV P N w0 ⟨d_, .binOp bo_ T x y T2, ty_, pos_, af_, gd_⟩ E H v) : OpV P N w0 ⟨d_, .binOp bo_ T x y T2, ty_, pos_, af_, gd_⟩ E H v := h
theorem gLd (h : OpV P N w0 ⟨d_, .load T x, ty_, pos_, af_, gd_⟩ E H v) : OpV P N w0 ⟨d_, .load T x, ty_, pos_, af_, gd_⟩ E H v := h
theorem gCv (h : OpV P N w0 ⟨d_, .convert T T2 x, ty_, pos_, af_, gd_⟩ E H v) : OpV P N w0 ⟨d_, .convert T T2 x, ty_, pos_, af_, gd_⟩ E H v := h
theorem gBd {ps_ : Array (Nat × Operand)} (h : OpV P N w0 ⟨d_, .build T ps_, ty_, pos_, af_, gd_⟩ E H v) : OpV P N w0 ⟨d_, .build T ps_, ty_, pos_, af_, gd_⟩ E H v := h
theorem gPk (h : OpV P N w0 ⟨d_, .pick x y z, ty_, pos_, af_, gd_⟩ E H v) : OpV P N w0 ⟨d_, .pick x y z, ty_, pos_, af_, gd_⟩ E H v := h
theorem gCall (h : L P N w0 ops (⟨d_, .call cl_, ty_, pos_, af_, gd_⟩ :: rest) E H R) : L P N w0 ops (⟨d_, .call cl_, ty_, pos_, af_, gd_⟩ :: rest) E H R := h
theorem gSt (h : L P N w0 ops (⟨d_, .store T x y, ty_, pos_, af_, gd_⟩ :: rest) E H R) : L P N w0 ops (⟨d_, .store T x y, ty_, pos_, af_, gd_⟩ :: rest) E H R := h
theorem gMk (h : L P N w0 ops (⟨d_, .makeSlice T x y, ty_, pos_, af_, gd_⟩ :: rest) E H R) : L P N w0 ops (⟨d_, .makeSlice T x y, ty_, pos_, af_, gd_⟩ :: rest) E H R := h
theorem gBs {n_ : Nat} {ps_ : Array (Nat × Operand)} (h : L P N w0 ops (⟨d_, .buildSlice T n_ ps_, ty_, pos_, af_, gd_⟩ :: rest) E H R) : L P N w0 ops (⟨d_, .buildSlice T n_ ps_, ty_, pos_, af_, gd_⟩ :: rest) E H R := h
theorem gMm (h : L P N w0 ops (⟨d_, .makeMap T none, ty_, pos_, af_, gd_⟩ :: rest) E H R) : L P N w0 ops (⟨d_, .makeMap T none, ty_, pos_, af_, gd_⟩ :: rest) E H R := h
theorem gMu (h : L P N w0 ops (⟨d_, .mapUpdate T x y z, ty_, pos_, af_, gd_⟩ :: rest) E H R) : L P N w0 ops (⟨d_, .mapUpdate T x y z, ty_, pos_, af_, gd_⟩ :: rest) E H R := h
theorem gApp (h : L P N w0 ops (⟨d_, .call { callee := .builtin .append, args := as_, argTypes := ts_ }, ty_, pos_, af_, gd_⟩ :: rest) E H R) : L P N w0 ops (⟨d_, .call { callee := .builtin .append, args := as_, argTypes := ts_ }, ty_, pos_, af_, gd_⟩ :: rest) E H R := h
theorem L_known {o : Oper} (hw : wantE ops E o = some true) (h : L P N w0 ops (o :: rest) E H R) : L P N w0 ops (o :: rest) E H R := h
theorem Q_known {o : Oper} (hw : wantE ops E o = some true) (h : QL P N w0 ops (o :: rest) E H R) : QL P N w0 ops (o :: rest) E H R := h
theorem lk {x y : Int} (e : x = y) : some (Value.int .i64 x) = some (.int .i64 y) := by rw [e]
theorem lkb {x y : Bool} (e : x = y) : some (Value.bool x) = some (.bool y) := by rw [e]
theorem l_box (hw : wantE ops E ⟨some t, .box T x, ty_, pos_, af_, gd_⟩ = some true) (ht : Nat.blt t N = true) (hx : ev E x = some v)
    (hk : ∀ b, L P N w0 ops rest ((t, .pointer (some ⟨b, 0, none⟩)) :: E) ((b, .cells v.cells T (0, 0)) :: H) R) : L P N w0 ops (⟨some t, .box T x, ty_, pos_, af_, gd_⟩ :: rest) E H R := L_box hw rfl ht rfl hx hk
theorem l_alloc {z : Value} [TZero P T z] (hw : wantE ops E ⟨some t, .alloc T, ty_, pos_, af_, gd_⟩ = some true) (ht : Nat.blt t N = true)
    (hk : ∀ b, L P N w0 ops rest ((t, .pointer (some ⟨b, 0, none⟩)) :: E) ((b, .cells z.cells T (0, 0)) :: H) R) : L P N w0 ops (⟨some t, .alloc T, ty_, pos_, af_, gd_⟩ :: rest) E H R := L_alloc hw rfl ht rfl hk
end
end Go.Proofs.YtfmhlieaodbgiaaGreat.Eng
namespace Go.Proofs.YtfmhlieaodbgiaaGreat.Eng
open Go Go.RowKit Go.Proofs.YtfmhlieaodbgiaaGreat.Sl Go.Proofs.YtfmhlieaodbgiaaGreat.Ar
set_option linter.unusedVariables false
set_option linter.unusedSimpArgs false
theorem om {p : Prop} (h : p := by omega) : p := h
theorem at_ {H : HL} {b : Nat} {o : Obj} (h : At H b o := by (repeat (first | exact At.here | assumption | apply At.there))) : At H b o := h
theorem up_ {H H' : HL} {b : Nat} {o o' : Obj} (h : Up H b o o' H' := by (repeat (first | exact Up.here | apply Up.there))) : Up H b o o' H' := h
theorem tk_ {H R : HL} {b : Nat} {o : Obj} (h : Tk H b o R := by (repeat (first | exact Tk.here | apply Tk.there))) : Tk H b o R := h
theorem cv_ {H L : HL} (h : Cv H L := by (repeat (first | exact Cv.refl | apply Cv.skip))) : Cv H L := h
theorem cvt_ {H L : HL} (h : Cv H L := by (repeat (first | exact Cv.refl | (refine Cv.take (by (repeat (first | exact Tk.here | apply Tk.there))) ?_) | apply Cv.skip))) : Cv H L := h
theorem sub_ {E F : Env} (h : Sub E F := by (repeat (first | exact trivial | refine ⟨rfl, ?_⟩))) : Sub E F := h
section
variable {P : Program} {N : Nat} {w0 : World} {E : Env} {H H' : HL} {x y z : Operand} {T T2 : TypeId} {v vx vy : Value} {k k2 : IntKind} {a b c : Int} {d_ : Option Tmp} {ty_ : TypeId} {pos_ : String} {af_ : Array Edge} {gd_ : Option (Nat × Bool)}
variable {ops : Array Oper} {l rest : List Oper} {R : Post} {c_ : Code} {bo_ : BinOp} {f : FuncId} {as_ : Array Operand} {ts_ : Array TypeId} {cl_ : Call} {t : Tmp}
theorem sR {bk : Nat} {xs : List Int} {sp : List Value} {t : TypeId} {i u : Int} [TOne P T] (hk : L P N w0 ops rest E H' R) (hw : wantE ops E ⟨none, .store T x y, ty_, pos_, af_, gd_⟩ = some true := by rfl) (hx : ev E x = some (.pointer (some ⟨bk, 0 + i.toNat * 1, none⟩)) := by rfl) (hy : ev E y = some (.int k u) := by rfl)
    (hU : Up H bk (.cells (rowA k xs sp) t (0, 0)) (.cells (rowA k (xs.set i.toNat u) sp) t (0, 0)) H' := by exact up_) (h0 : 0 ≤ i := by omega) (h : i < (xs.length : Int) := by omega) : L P N w0 ops (⟨none, .store T x y, ty_, pos_, af_, gd_⟩ :: rest) E H R := L_stR hw rfl rfl hx hy hU h0 h hk
theorem sB {bk : Nat} {xs : List Bool} {sp : List Value} {t : TypeId} {i : Int} {u : Bool} [TOne P T] (hk : L P N w0 ops rest E H' R) (hw : wantE ops E ⟨none, .store T x y, ty_, pos_, af_, gd_⟩ = some true := by rfl) (hx : ev E x = some (.pointer (some ⟨bk, 0 + i.toNat * 1, none⟩)) := by rfl) (hy : ev E y = some (.bool u) := by rfl)
    (hU : Up H bk (.cells (rowB xs sp) t (0, 0)) (.cells (rowB (xs.set i.toNat u) sp) t (0, 0)) H' := by exact up_) (h0 : 0 ≤ i := by omega) (h : i < (xs.length : Int) := by omega) : L P N w0 ops (⟨none, .store T x y, ty_, pos_, af_, gd_⟩ :: rest) E H R := L_stB hw rfl rfl hx hy hU h0 h hk
theorem s1 {bk i : Nat} {cs : Array Value} {t : TypeId} [TOne P T] (hk : L P N w0 ops rest E H' R) (hw : wantE ops E ⟨none, .store T x y, ty_, pos_, af_, gd_⟩ = some true := by rfl) (hx : ev E x = some (.pointer (some ⟨bk, i, none⟩)) := by rfl) (hy : ev E y = some v := by rfl) (h1 : v.oneCell' = true := by rfl)
    (hU : Up H bk (.cells cs t (0, 0)) (.cells (cs.setIfInBounds i v) t (0, 0)) H' := by exact up_) (hi : i < cs.size := by first | exact Nat.le_of_ble_eq_true rfl | (simp; omega)) : L P N w0 ops (⟨none, .store T x y, ty_, pos_, af_, gd_⟩ :: rest) E H R := L_st hw rfl rfl hx hy h1 hU hi hk
theorem kV (hk : L P N w0 ops rest ((t, v) :: E) H R) {op_ : Op} (hw : wantE ops E ⟨some t, op_, ty_, pos_, af_, gd_⟩ = some true := by rfl) (ht : Nat.blt t N = true := by rfl) (hv : OpV P N w0 ⟨some t, op_, ty_, pos_, af_, gd_⟩ E H v := by (first | exact v_move rfl | exact v_fieldAddr rfl | (apply gLd; first | (apply v_ld rfl; (· (repeat (first | exact At.here | assumption | apply At.there))); (· first | rfl | exact ld_row (by omega) (by omega) | exact ld_rowB (by omega) (by omega)); done) | (apply v_ldV rfl; (· (repeat (first | exact At.here | assumption | apply At.there))); (· omega); (· omega); done) | (apply v_ldW rfl; (· (repeat (first | exact At.here | assumption | apply At.there))); (· rfl); done) | (apply v_ldN rfl; (· (repeat (first | exact At.here | assumption | apply At.there))); (· first | exact Nat.le_refl _ | exact ldN_row (by omega) (by omega)); done)) | (apply gBin; first | exact v_eq rfl rfl | exact v_add rfl rfl (by omega) | exact v_lt rfl rfl | exact v_ne rfl rfl | exact v_ge rfl rfl | exact v_sub rfl rfl (by omega) | exact v_le rfl rfl | exact v_gt rfl rfl | exact v_mul rfl rfl (by omega) | exact v_rem rfl rfl (by omega) (by omega) | exact v_quo rfl rfl (by omega) (by omega)) | exact v_assign rfl | (apply gPk; first | exact v_pick1 rfl rfl | exact v_pick0 rfl rfl) | exact v_extract rfl rfl | exact v_idx rfl rfl (by omega) | exact v_not rfl | exact v_field rfl rfl | exact v_nil rfl | (apply v_lookup rfl rfl; (· (repeat (first | exact At.here | assumption | apply At.there))); done) | (apply gCv; first | exact v_convi rfl (by omega) | exact v_sg rfl (by omega) | exact v_convu rfl (by omega) | exact v_conv rfl) | exact v_len rfl | (apply gBd; first | exact v_build0 | exact v_build2' rfl rfl rfl rfl rfl | exact v_build3' rfl rfl rfl rfl rfl rfl rfl | exact v_build2 rfl rfl rfl rfl rfl rfl (by simp only [setParts, List.set_cons_zero, List.set_cons_succ]; rfl) | exact v_build3 rfl rfl rfl rfl rfl rfl rfl rfl rfl (by simp only [setParts, List.set_cons_zero, List.set_cons_succ]; rfl) | exact v_build1 rfl rfl rfl (by simp only [setParts, List.set_cons_zero, List.set_cons_succ]; rfl)))) :
    L P N w0 ops (⟨some t, op_, ty_, pos_, af_, gd_⟩ :: rest) E H R := L_val hw rfl ht hv hk
theorem kQ (hk : QL P N w0 ops rest ((t, v) :: E) H R) {op_ : Op} (hw : wantE ops E ⟨some t, op_, ty_, pos_, af_, gd_⟩ = some true := by rfl) (ht : Nat.blt t N = true := by rfl) (hv : OpV P N w0 ⟨some t, op_, ty_, pos_, af_, gd_⟩ E H v := by (first | exact v_move rfl | exact v_fieldAddr rfl | (apply gLd; first | (apply v_ld rfl; (· (repeat (first | exact At.here | assumption | apply At.there))); (· first | rfl | exact ld_row (by omega) (by omega) | exact ld_rowB (by omega) (by omega)); done) | (apply v_ldV rfl; (· (repeat (first | exact At.here | assumption | apply At.there))); (· omega); (· omega); done) | (apply v_ldW rfl; (· (repeat (first | exact At.here | assumption | apply At.there))); (· rfl); done) | (apply v_ldN rfl; (· (repeat (first | exact At.here | assumption | apply At.there))); (· first | exact Nat.le_refl _ | exact ldN_row (by omega) (by omega)); done)) | (apply gBin; first | exact v_eq rfl rfl | exact v_add rfl rfl (by omega) | exact v_lt rfl rfl | exact v_ne rfl rfl | exact v_ge rfl rfl | exact v_sub rfl rfl (by omega) | exact v_le rfl rfl | exact v_gt rfl rfl | exact v_mul rfl rfl (by omega) | exact v_rem rfl rfl (by omega) (by omega) | exact v_quo rfl rfl (by omega) (by omega)) | exact v_assign rfl | (apply gPk; first | exact v_pick1 rfl rfl | exact v_pick0 rfl rfl) | exact v_extract rfl rfl | exact v_idx rfl rfl (by omega) | exact v_not rfl | exact v_field rfl rfl | exact v_nil rfl | (apply v_lookup rfl rfl; (· (repeat (first | exact At.here | assumption | apply At.there))); done) | (apply gCv; first | exact v_convi rfl (by omega) | exact v_sg rfl (by omega) | exact v_convu rfl (by omega) | exact v_conv rfl) | exact v_len rfl | (apply gBd; first | exact v_build0 | exact v_build2' rfl rfl rfl rfl rfl | exact v_build3' rfl rfl rfl rfl rfl rfl rfl | exact v_build2 rfl rfl rfl rfl rfl rfl (by simp only [setParts, List.set_cons_zero, List.set_cons_succ]; rfl) | exact v_build3 rfl rfl rfl rfl rfl rfl rfl rfl rfl (by simp only [setParts, List.set_cons_zero, List.set_cons_succ]; rfl) | exact v_build1 rfl rfl rfl (by simp only [setParts, List.set_cons_zero, List.set_cons_succ]; rfl)))) :
    QL P N w0 ops (⟨some t, op_, ty_, pos_, af_, gd_⟩ :: rest) E H R := Q_val hw rfl ht hv hk
theorem kA {o : Oper} {D : HL} {n : Nat} {listed : Array Bool} (i : Nat) (hk : A P N w0 ops D n (listed.setIfInBounds i true) ((t, v) :: E) H R) (ho : ops[i]? = some o := by rfl) (hB : firstB ops listed i = true := by kernel_rfl) (hw : wantE ops E o = some true := by rfl) (hd : o.dst = some t := by rfl) (ht : Nat.blt t N = true := by rfl) (cv : Cv H D := by exact cv_) (hv : OpV P N w0 o E D v := by (first | exact v_move rfl | exact v_fieldAddr rfl | (apply gLd; first | (apply v_ld rfl; (· (repeat (first | exact At.here | assumption | apply At.there))); (· first | rfl | exact ld_row (by omega) (by omega) | exact ld_rowB (by omega) (by omega)); done) | (apply v_ldV rfl; (· (repeat (first | exact At.here | assumption | apply At.there))); (· omega); (· omega); done) | (apply v_ldW rfl; (· (repeat (first | exact At.here | assumption | apply At.there))); (· rfl); done) | (apply v_ldN rfl; (· (repeat (first | exact At.here | assumption | apply At.there))); (· first | exact Nat.le_refl _ | exact ldN_row (by omega) (by omega)); done)) | (apply gBin; first | exact v_eq rfl rfl | exact v_add rfl rfl (by omega) | exact v_lt rfl rfl | exact v_ne rfl rfl | exact v_ge rfl rfl | exact v_sub rfl rfl (by omega) | exact v_le rfl rfl | exact v_gt rfl rfl | exact v_mul rfl rfl (by omega) | exact v_rem rfl rfl (by omega) (by omega) | exact v_quo rfl rfl (by omega) (by omega)) | exact v_assign rfl | (apply gPk; first | exact v_pick1 rfl rfl | exact v_pick0 rfl rfl) | exact v_extract rfl rfl | exact v_idx rfl rfl (by omega) | exact v_not rfl | exact v_field rfl rfl | exact v_nil rfl | (apply v_lookup rfl rfl; (· (repeat (first | exact At.here | assumption | apply At.there))); done) | (apply gCv; first | exact v_convi rfl (by omega) | exact v_sg rfl (by omega) | exact v_convu rfl (by omega) | exact v_conv rfl) | exact v_len rfl | (apply gBd; first | exact v_build0 | exact v_build2' rfl rfl rfl rfl rfl | exact v_build3' rfl rfl rfl rfl rfl rfl rfl | exact v_build2 rfl rfl rfl rfl rfl rfl (by simp only [setParts, List.set_cons_zero, List.set_cons_succ]; rfl) | exact v_build3 rfl rfl rfl rfl rfl rfl rfl rfl rfl (by simp only [setParts, List.set_cons_zero, List.set_cons_succ]; rfl) | exact v_build1 rfl rfl rfl (by simp only [setParts, List.set_cons_zero, List.set_cons_succ]; rfl)))) :
    A P N w0 ops D (n + 1) listed E H R := A_val i ho hB hw hd ht cv hv hk
theorem kAt {o : Oper} {D : HL} {n : Nat} {listed : Array Bool} (i : Nat) (hk : A P N w0 ops D n (listed.setIfInBounds i true) ((t, v) :: E) H R) (ho : ops[i]? = some o := by rfl) (hB : firstB ops listed i = true := by kernel_rfl) (hw : wantE ops E o = some true := by rfl) (hd : o.dst = some t := by rfl) (ht : Nat.blt t N = true := by rfl) (cv : Cv H D := by exact cvt_) (hv : OpV P N w0 o E D v := by (first | exact v_move rfl | exact v_fieldAddr rfl | (apply gLd; first | (apply v_ld rfl; (· (repeat (first | exact At.here | assumption | apply At.there))); (· first | rfl | exact ld_row (by omega) (by omega) | exact ld_rowB (by omega) (by omega)); done) | (apply v_ldV rfl; (· (repeat (first | exact At.here | assumption | apply At.there))); (· omega); (· omega); done) | (apply v_ldW rfl; (· (repeat (first | exact At.here | assumption | apply At.there))); (· rfl); done) | (apply v_ldN rfl; (· (repeat (first | exact At.here | assumption | apply At.there))); (· first | exact Nat.le_refl _ | exact ldN_row (by omega) (by omega)); done)) | (apply gBin; first | exact v_eq rfl rfl | exact v_add rfl rfl (by omega) | exact v_lt rfl rfl | exact v_ne rfl rfl | exact v_ge rfl rfl | exact v_sub rfl rfl (by omega) | exact v_le rfl rfl | exact v_gt rfl rfl | exact v_mul rfl rfl (by omega) | exact v_rem rfl rfl (by omega) (by omega) | exact v_quo rfl rfl (by omega) (by omega)) | exact v_assign rfl | (apply gPk; first | exact v_pick1 rfl rfl | exact v_pick0 rfl rfl) | exact v_extract rfl rfl | exact v_idx rfl rfl (by omega) | exact v_not rfl | exact v_field rfl rfl | exact v_nil rfl | (apply v_lookup rfl rfl; (· (repeat (first | exact At.here | assumption | apply At.there))); done) | (apply gCv; first | exact v_convi rfl (by omega) | exact v_sg rfl (by omega) | exact v_convu rfl (by omega) | exact v_conv rfl) | exact v_len rfl | (apply gBd; first | exact v_build0 | exact v_build2' rfl rfl rfl rfl rfl | exact v_build3' rfl rfl rfl rfl rfl rfl rfl | exact v_build2 rfl rfl rfl rfl rfl rfl (by simp only [setParts, List.set_cons_zero, List.set_cons_succ]; rfl) | exact v_build3 rfl rfl rfl rfl rfl rfl rfl rfl rfl (by simp only [setParts, List.set_cons_zero, List.set_cons_succ]; rfl) | exact v_build1 rfl rfl rfl (by simp only [setParts, List.set_cons_zero, List.set_cons_succ]; rfl)))) :
    A P N w0 ops D (n + 1) listed E H R := A_val i ho hB hw hd ht cv hv hk
theorem kS {o : Oper} {D : HL} {n : Nat} {listed : Array Bool} (i : Nat) (hk : A P N w0 ops D n (listed.setIfInBounds i true) ((t, undef) :: E) H R) (ho : ops[i]? = some o := by rfl) (hB : firstB ops listed i = true := by kernel_rfl) (hw : wantE ops E o = some false := by rfl) (hd : o.dst = some t := by rfl) (ht : Nat.blt t N = true := by rfl) (cv : Cv H D := by exact cvt_) :
    A P N w0 ops D (n + 1) listed E H R := A_skip i ho hB hw hd ht cv hk
end
section
variable {P : Program} {N : Nat} {w0 : World} {E : Env} {H H' : HL} {x y z : Operand} {T T2 : TypeId} {v u : Value} {k : IntKind} {ty_ : TypeId} {pos_ : String} {af_ : Array Edge} {gd_ : Option (Nat × Bool)}
variable {ops : Array Oper} {rest : List Oper} {R : Post} {t : Tmp} {op_ : Op} {o : Oper}
theorem yS (hk : L P N w0 ops rest ((t, undef) :: E) H R) (hw : wantE ops E ⟨some t, op_, ty_, pos_, af_, gd_⟩ = some false := by rfl) (ht : Nat.blt t N = true := by rfl) : L P N w0 ops (⟨some t, op_, ty_, pos_, af_, gd_⟩ :: rest) E H R := L_skip hw rfl ht hk
theorem yX (hk : ∀ b, L P N w0 ops rest ((t, .pointer (some ⟨b, 0, none⟩)) :: E) ((b, .cells v.cells T (0, 0)) :: H) R) (hw : wantE ops E ⟨some t, .box T x, ty_, pos_, af_, gd_⟩ = some true := by rfl) (ht : Nat.blt t N = true := by rfl) (hx : ev E x = some v := by rfl) :
    L P N w0 ops (⟨some t, .box T x, ty_, pos_, af_, gd_⟩ :: rest) E H R := l_box hw ht hx hk
theorem yA {z : Value} [TZero P T z] (hk : ∀ b, L P N w0 ops rest ((t, .pointer (some ⟨b, 0, none⟩)) :: E) ((b, .cells z.cells T (0, 0)) :: H) R) (hw : wantE ops E ⟨some t, .alloc T, ty_, pos_, af_, gd_⟩ = some true := by rfl) (ht : Nat.blt t N = true := by rfl) :
    L P N w0 ops (⟨some t, .alloc T, ty_, pos_, af_, gd_⟩ :: rest) E H R := l_alloc hw ht hk
theorem sW {bk n : Nat} {cs us : Array Value} {t : TypeId} [TAgg P T n] (hk : L P N w0 ops rest E H' R) (hw : wantE ops E ⟨none, .store T x y, ty_, pos_, af_, gd_⟩ = some true := by rfl) (hx : ev E x = some (.pointer (some ⟨bk, 0, none⟩)) := by rfl) (hy : ev E y = some (.agg us) := by rfl) (hn : us.toList.length = n := by rfl) (h1 : us.toList.all (·.oneCell') = true := by rfl)
    (hU : Up H bk (.cells cs t (0, 0)) (.cells us t (0, 0)) H' := by exact up_) (hi : cs.toList.length = n := by rfl) : L P N w0 ops (⟨none, .store T x y, ty_, pos_, af_, gd_⟩ :: rest) E H R := L_stW hw rfl rfl hx hy hn h1 hU hi hk
theorem sN {bk i n : Nat} {cs us : Array Value} {t : TypeId} [TAgg P T n] (hk : L P N w0 ops rest E H' R) (hw : wantE ops E ⟨none, .store T x y, ty_, pos_, af_, gd_⟩ = some true := by rfl) (hx : ev E x = some (.pointer (some ⟨bk, i, none⟩)) := by rfl) (hy : ev E y = some (.agg us) := by rfl) (hn : us.toList.length = n := by rfl) (h1 : us.toList.all (·.oneCell') = true := by rfl)
    (hU : Up H bk (.cells cs t (0, 0)) (.cells (putAt cs i us.toList) t (0, 0)) H' := by exact up_) (hi : i + n ≤ cs.size := by first | exact Nat.le_of_ble_eq_true rfl | (simp; omega)) : L P N w0 ops (⟨none, .store T x y, ty_, pos_, af_, gd_⟩ :: rest) E H R := L_stN hw rfl rfl hx hy hn h1 hU hi hk
section
variable {j : Nat} {want : Bool} {b : Bool} {p : Prop} [Decidable p]
def Spl (b : Bool) (p q : Prop) : Prop := (b = true → p) ∧ (b = false → q)
theorem spN : Spl (!(decide p)) (¬ p) p := ⟨fun h => by simpa using h, fun h => by simpa using h⟩
theorem spP : Spl (decide p) p (¬ p) := ⟨of_decide_eq_true, of_decide_eq_false⟩
theorem spB : Spl (!b) (b = false) (b = true) := ⟨fun h => by simpa using h, fun h => by simpa using h⟩
theorem spK : Spl b (b = true) (b = false) := ⟨id, id⟩
theorem yW {p q : Prop} (h1 : p → L P N w0 ops (o :: rest) ((t, .bool true) :: E) H R) (h0 : q → L P N w0 ops (o :: rest) ((t, .bool false) :: E) H R) (hg : o.guard = some (j, want) := by rfl) (ht : (ops[j]?).bind (·.dst) = some t := by rfl) (hl : look E t = some (.bool b) := by rfl) (hs : Spl b p q := by first | exact spN | exact spP | exact spB | exact spK) : L P N w0 ops (o :: rest) E H R := L_know hg ht hl (fun h => h1 (hs.1 h)) (fun h => h0 (hs.2 h))
theorem zW {p q : Prop} (h1 : p → QL P N w0 ops (o :: rest) ((t, .bool true) :: E) H R) (h0 : q → QL P N w0 ops (o :: rest) ((t, .bool false) :: E) H R) (hg : o.guard = some (j, want) := by rfl) (ht : (ops[j]?).bind (·.dst) = some t := by rfl) (hl : look E t = some (.bool b) := by rfl) (hs : Spl b p q := by first | exact spN | exact spP | exact spB | exact spK) : QL P N w0 ops (o :: rest) E H R := Q_know hg ht hl (fun h => h1 (hs.1 h)) (fun h => h0 (hs.2 h))
theorem cW {p q : Prop} {c : Operand} {d e : Code} (h1 : p → W P N w0 d E H R) (h2 : q → W P N w0 e E H R) (hc : ev E c = some (.bool b) := by rfl) (hs : Spl b p q := by first | exact spN | exact spP | exact spB | exact spK) : W P N w0 (.cond c d e) E H R := W_cond hc (fun h => h1 (hs.1 h)) (fun h => h2 (hs.2 h))
theorem gQC {d_ : Option Tmp} {cl_ : Call} {ty_ : TypeId} {pos_ : String} {af_ : Array Edge} {gd_ : Option (Nat × Bool)} (h : QL P N w0 ops (⟨d_, .call cl_, ty_, pos_, af_, gd_⟩ :: rest) E H R) : QL P N w0 ops (⟨d_, .call cl_, ty_, pos_, af_, gd_⟩ :: rest) E H R := h
theorem wQ {id : Nat} {l : List Oper} (h : QL P N w0 l.toArray l E H R) (hq : quietB l = true := by rfl) (hm : P.follows .mixedOrders = true := by kernel_rfl) (hB : Region.lexB .any l.toArray = true := by kernel_rfl) : W P N w0 (.region id l.toArray true) E H R := W_regionQ hq hm hB h
end
end
end Go.Proofs.YtfmhlieaodbgiaaGreat.Eng
