/- Operations on rows: make, append, stores into rows. -/
import Derived.Test.YtepddopgmhdllaaCn
import Derived.Laws.MakeOwn
import Derived.Laws.BytesArg
namespace Go.Proofs.Ytepddopgmhdllaa.Eng
open Go Go.RowKit Go.Proofs.Ytepddopgmhdllaa.Sl Go.Proofs.Ytepddopgmhdllaa.Ar
set_option linter.unusedVariables false
set_option linter.unusedSimpArgs false
section
variable {P : Program} {N : Nat} {w0 : World} {E : Env} {H H' : HL} {o : Oper} {x y z : Operand} {T T2 : TypeId} {v vx vy : Value} {k : IntKind} {a b : Int} {ops : Array Oper} {rest : List Oper} {R : Post}
theorem rowA_set {xs : List Int} {sp : List Value} {i : Int} {u : Int} (h0 : 0 ≤ i) (h : i < (xs.length : Int)) : (rowA k xs sp).setIfInBounds (0 + i.toNat * 1) (.int k u) = rowA k (xs.set i.toNat u) sp := by
  have hl : i.toNat < xs.length := by omega
  apply Array.toList_inj.1
  simp only [rowA, Array.toList_setIfInBounds, Nat.zero_add, Nat.mul_one]
  rw [List.set_append_left _ _ (by simpa using hl), List.map_set]
theorem rowB_set {xs : List Bool} {sp : List Value} {i : Int} {u : Bool} (h0 : 0 ≤ i) (h : i < (xs.length : Int)) : (rowB xs sp).setIfInBounds (0 + i.toNat * 1) (.bool u) = rowB (xs.set i.toNat u) sp := by
  have hl : i.toNat < xs.length := by omega
  apply Array.toList_inj.1
  simp only [rowB, Array.toList_setIfInBounds, Nat.zero_add, Nat.mul_one]
  rw [List.set_append_left _ _ (by simpa using hl), List.map_set]
theorem size_rowA {xs : List Int} {sp : List Value} : (rowA k xs sp).size = xs.length + sp.length := by simp [rowA]
theorem size_rowB {xs : List Bool} {sp : List Value} : (rowB xs sp).size = xs.length + sp.length := by simp [rowB]
theorem ld_rowB {xs : List Bool} {sp : List Value} {i : Int} (h0 : 0 ≤ i) (h : i < (xs.length : Int)) : (rowB xs sp).toList[0 + i.toNat * 1]? = some (.bool (xs.getD i.toNat false)) := by
  have hl : i.toNat < xs.length := by omega
  simp [rowB, List.getElem?_append_left, hl]
theorem ldN_rowV {vs : List (Int × Int)} {sp : List Value} {i : Int} (h0 : 0 ≤ i) (h : i < (vs.length : Int)) : 0 + i.toNat * 2 + 2 ≤ (rowV vs sp).size := by
  simp [rowV, length_flat]; omega
theorem ld_rowV {vs : List (Int × Int)} {sp : List Value} {i : Int} (h0 : 0 ≤ i) (h : i < (vs.length : Int)) :
    ((rowV vs sp).toList.drop (0 + i.toNat * 2)).take 2 = [.int .i64 (vs.getD i.toNat (0, 0)).1, .int .i64 (vs.getD i.toNat (0, 0)).2] := by
  have hl : i.toNat < vs.length := by omega
  obtain ⟨h1, h2⟩ := flat_get vs i.toNat hl
  have e : ∀ (l : List Value) (n : Nat) (p q : Value), l[n]? = some p → l[n + 1]? = some q → (l.drop n).take 2 = [p, q] := by
    intro l n p q hp hq
    have hn : n < l.length := (List.getElem?_eq_some_iff.1 hp).1
    have hn' : n + 1 < l.length := (List.getElem?_eq_some_iff.1 hq).1
    rw [List.drop_eq_getElem_cons hn, List.drop_eq_getElem_cons hn']
    have e1 : l[n] = p := (List.getElem?_eq_some_iff.1 hp).2
    have e2 : l[n + 1] = q := (List.getElem?_eq_some_iff.1 hq).2
    simp [e1, e2]
  refine e _ _ _ _ ?_ ?_
  · simp only [rowV]
    rw [show 0 + i.toNat * 2 = 2 * i.toNat by omega, List.getElem?_append_left (by rw [length_flat]; omega)]
    exact h1
  · simp only [rowV]
    rw [show 0 + i.toNat * 2 + 1 = 2 * i.toNat + 1 by omega, List.getElem?_append_left (by rw [length_flat]; omega)]
    exact h2
theorem ov_ldV {bk : Nat} {vs : List (Int × Int)} {sp : List Value} {t : TypeId} {fr : Nat × Nat} {i : Int} [TAgg P T 2] (ho : o.op = .load T x) (hx : ev E x = some (.pointer (some ⟨bk, 0 + i.toNat * 2, none⟩))) (hA : At H bk (.cells (rowV vs sp) t fr)) (h0 : 0 ≤ i) (h : i < (vs.length : Int)) :
    OpV P N w0 o E H (.agg #[.int .i64 (vs.getD i.toNat (0, 0)).1, .int .i64 (vs.getD i.toNat (0, 0)).2]) := by
  have := ov_ldN (P := P) (N := N) (w0 := w0) (E := E) (H := H) (o := o) (n := 2) ho hx hA (ldN_rowV h0 h)
  rwa [ld_rowV h0 h] at this
theorem L_stR {bk : Nat} {xs : List Int} {sp : List Value} {t : TypeId} {i u : Int} [TOne P T] (hw : wantE ops E o = some true) (hd : o.dst = none) (ho : o.op = .store T x y) (hx : ev E x = some (.pointer (some ⟨bk, 0 + i.toNat * 1, none⟩))) (hy : ev E y = some (.int k u))
    (hU : Up H bk (.cells (rowA k xs sp) t (0, 0)) (.cells (rowA k (xs.set i.toNat u) sp) t (0, 0)) H') (h0 : 0 ≤ i) (h : i < (xs.length : Int))
    (hk : L P N w0 ops rest E H' R) : L P N w0 ops (o :: rest) E H R :=
  L_st hw hd ho hx hy rfl (by rw [rowA_set h0 h]; exact hU) (by rw [size_rowA]; omega) hk
theorem L_stB {bk : Nat} {xs : List Bool} {sp : List Value} {t : TypeId} {i : Int} {u : Bool} [TOne P T] (hw : wantE ops E o = some true) (hd : o.dst = none) (ho : o.op = .store T x y) (hx : ev E x = some (.pointer (some ⟨bk, 0 + i.toNat * 1, none⟩))) (hy : ev E y = some (.bool u))
    (hU : Up H bk (.cells (rowB xs sp) t (0, 0)) (.cells (rowB (xs.set i.toNat u) sp) t (0, 0)) H') (h0 : 0 ≤ i) (h : i < (xs.length : Int))
    (hk : L P N w0 ops rest E H' R) : L P N w0 ops (o :: rest) E H R :=
  L_st hw hd ho hx hy rfl (by rw [rowB_set h0 h]; exact hU) (by rw [size_rowB]; omega) hk
/-! ### make -/
theorem madeCells_one (z : Value) (n : Nat) : madeCells #[z] n = (List.replicate n z).toArray := by
  apply Array.toList_inj.1
  apply List.ext_getElem?
  intro i
  simp [madeCells, Array.getElem?_range]
  by_cases h : i < n <;> simp [h, Nat.mod_one]
theorem L_make {t : Tmp} {e n bytes m : Nat} {z : Value} [TSlice P T e n] [TInfo P e z n bytes] (hw : wantE ops E o = some true) (hd : o.dst = some t) (ht : Nat.blt t N = true) (ho : o.op = .makeSlice T x y)
    (hx : ev E x = some (.int .i64 (m : Int))) (hy : ev E y = some (.int .i64 (m : Int))) (hb : bytes * m ≤ 281474976710656) (hm : m ≤ 9223372036854775807)
    (hk : ∀ b, L P N w0 ops rest ((t, .slice (some ⟨b, 0, none⟩) m m) :: E) ((b, .cells (madeCells z.cells (m * n)) e (0, 0)) :: H) R) : L P N w0 ops (o :: rest) E H R :=
  L_eff (S := fun u H' => ∃ b, u = .slice (some ⟨b, 0, none⟩) m m ∧ H' = (b, .cells (madeCells z.cells (m * n)) e (0, 0)) :: H) hw hd ht (fun A w ha hs => by
    obtain ⟨i, hi, h1⟩ : ∃ i, P.info? e = some i ∧ (i.zero, i.size, i.bytes) = (some z, n, bytes) := by
      have := TInfo.out (P := P) (T := e) (z := z) (n := n) (bytes := bytes)
      cases hq : P.info? e with
      | none => simp [hq] at this
      | some i => exact ⟨i, rfl, by simpa [hq] using this⟩
    simp only [Prod.mk.injEq] at h1
    obtain ⟨h1, h2, h3⟩ := h1
    have hbb : (i.bytes : Int) * (m : Int) ≤ 281474976710656 := by
      have h : ((bytes * m : Nat) : Int) ≤ 281474976710656 := by omega
      rw [Int.natCast_mul] at h
      rw [h3]; exact h
    have hr := run_make (P := P) w T e i z (TSlice.out (P := P) (T := T)) hi h1 .i64 .i64 (m : Int) (m : Int) (by omega) (Int.le_refl _) hbb (by omega)
    simp only [Int.toNat_natCast, h2] at hr
    refine ⟨_, _, _, ?_, hs.alloc _, _, rfl, rfl⟩
    unfold execOp; rw [ho]; refine run_v ?_; rw [ha.eval hx, ha.eval hy]; exact hr) (fun u H' ⟨b, e1, e2⟩ => by subst e1; subst e2; exact hk b)
theorem made_int {n : Nat} : madeCells (Value.cells (.int k 0)) (n * 1) = rowA k (List.replicate n 0) [] := by
  rw [Nat.mul_one]; show madeCells #[.int k 0] n = _; rw [madeCells_one]; simp [rowA]
theorem made_bool {n : Nat} : madeCells (Value.cells (.bool false)) (n * 1) = rowB (List.replicate n false) [] := by
  rw [Nat.mul_one]; show madeCells #[.bool false] n = _; rw [madeCells_one]; simp [rowB]
theorem made_val {n : Nat} : madeCells (Value.cells (.agg #[.int .i64 0, .int .i64 0])) (n * 2) = rowV (List.replicate n (0, 0)) [] := by
  show madeCells #[.int .i64 0, .int .i64 0] (n * 2) = _
  apply Array.toList_inj.1
  apply List.ext_getElem?
  intro i
  have hf : ∀ n i : Nat, (flat (List.replicate n (0, 0)))[i]? = if i < n * 2 then some (.int .i64 0) else none := by
    intro n
    induction n with
    | zero => intro i; simp [flat]
    | succ n ih =>
      intro i
      rw [List.replicate_succ]
      match i with
      | 0 => simp [flat]
      | 1 => simp [flat]; omega
      | i + 2 =>
        have := ih i
        simp only [flat, List.getElem?_cons_succ, this]
        by_cases h : i < n * 2
        · rw [if_pos h, if_pos (by omega)]
        · rw [if_neg h, if_neg (by omega)]
  simp only [rowV, List.append_nil, hf]
  simp [madeCells, Array.getElem?_range]
  by_cases h : i < n * 2
  · rw [if_pos h]
    have : i % 2 = 0 ∨ i % 2 = 1 := by omega
    rcases this with e | e <;> simp [h, e]
  · simp [h]
theorem L_makeI {t : Tmp} {e bytes m : Nat} [TSlice P T e 1] [TInfo P e (.int k 0) 1 bytes] (hw : wantE ops E o = some true) (hd : o.dst = some t) (ht : Nat.blt t N = true) (ho : o.op = .makeSlice T x y)
    (hx : ev E x = some (.int .i64 (m : Int))) (hy : ev E y = some (.int .i64 (m : Int))) (hb : bytes * m ≤ 281474976710656) (hm : m ≤ 9223372036854775807)
    (hk : ∀ b, L P N w0 ops rest ((t, .slice (some ⟨b, 0, none⟩) m m) :: E) ((b, .cells (rowA k (List.replicate m 0) []) e (0, 0)) :: H) R) : L P N w0 ops (o :: rest) E H R :=
  L_make hw hd ht ho hx hy hb hm (fun b => by rw [made_int]; exact hk b)
theorem L_makeB {t : Tmp} {e bytes m : Nat} [TSlice P T e 1] [TInfo P e (.bool false) 1 bytes] (hw : wantE ops E o = some true) (hd : o.dst = some t) (ht : Nat.blt t N = true) (ho : o.op = .makeSlice T x y)
    (hx : ev E x = some (.int .i64 (m : Int))) (hy : ev E y = some (.int .i64 (m : Int))) (hb : bytes * m ≤ 281474976710656) (hm : m ≤ 9223372036854775807)
    (hk : ∀ b, L P N w0 ops rest ((t, .slice (some ⟨b, 0, none⟩) m m) :: E) ((b, .cells (rowB (List.replicate m false) []) e (0, 0)) :: H) R) : L P N w0 ops (o :: rest) E H R :=
  L_make hw hd ht ho hx hy hb hm (fun b => by rw [made_bool]; exact hk b)
theorem L_makeV {t : Tmp} {e bytes m : Nat} [TSlice P T e 2] [TInfo P e (.agg #[.int .i64 0, .int .i64 0]) 2 bytes] (hw : wantE ops E o = some true) (hd : o.dst = some t) (ht : Nat.blt t N = true) (ho : o.op = .makeSlice T x y)
    (hx : ev E x = some (.int .i64 (m : Int))) (hy : ev E y = some (.int .i64 (m : Int))) (hb : bytes * m ≤ 281474976710656) (hm : m ≤ 9223372036854775807)
    (hk : ∀ b, L P N w0 ops rest ((t, .slice (some ⟨b, 0, none⟩) m m) :: E) ((b, .cells (rowV (List.replicate m (0, 0)) []) e (0, 0)) :: H) R) : L P N w0 ops (o :: rest) E H R :=
  L_make hw hd ht ho hx hy hb hm (fun b => by rw [made_val]; exact hk b)
/-! ### a slice written out, of none or one element of one cell -/
theorem run_newRow (t : TypeId) (cs : Array Value) (w : World) : (newRow t cs).run P w = .ok ⟨w.heap.size, 0, none⟩ (w.alloc (.cells cs t)) := rfl
theorem L_bs0 {t : Tmp} {e n bytes : Nat} {z : Value} [TSlice P T e n] [TInfo P e z n bytes] (hw : wantE ops E o = some true) (hd : o.dst = some t) (ht : Nat.blt t N = true) (ho : o.op = .buildSlice T 0 #[])
    (hk : ∀ b, L P N w0 ops rest ((t, .slice (some ⟨b, 0, none⟩) 0 0) :: E) ((b, .cells #[] e (0, 0)) :: H) R) : L P N w0 ops (o :: rest) E H R :=
  L_eff (S := fun u H' => ∃ b, u = .slice (some ⟨b, 0, none⟩) 0 0 ∧ H' = (b, .cells #[] e (0, 0)) :: H) hw hd ht (fun A w ha hs => by
    refine ⟨.slice (some ⟨w.heap.size, 0, none⟩) 0 0, w.alloc (.cells #[] e), _, ?_, hs.alloc _, _, rfl, rfl⟩
    unfold execOp; rw [ho]; refine run_v ?_
    simp [Instr.buildSlice, run_underlying (TSlice.out (P := P) (T := T)), run_sizeOf (TSlice.size (P := P) (T := T)), Instr.fill, run_newRow, Array.range_zero']) (fun u H' ⟨b, e1, e2⟩ => by subst e1; subst e2; exact hk b)
theorem L_bs1 {t : Tmp} {e bytes : Nat} {z : Value} [TSlice P T e 1] [TInfo P e z 1 bytes] (hz : z.oneCell' = true) (hw : wantE ops E o = some true) (hd : o.dst = some t) (ht : Nat.blt t N = true) (ho : o.op = .buildSlice T 1 #[(0, x)]) (hx : ev E x = some v) (hv : v.oneCell' = true)
    (hk : ∀ b, L P N w0 ops rest ((t, .slice (some ⟨b, 0, none⟩) 1 1) :: E) ((b, .cells #[v] e (0, 0)) :: H) R) : L P N w0 ops (o :: rest) E H R :=
  L_eff (S := fun u H' => ∃ b, u = .slice (some ⟨b, 0, none⟩) 1 1 ∧ H' = (b, .cells #[v] e (0, 0)) :: H) hw hd ht (fun A w ha hs => by
    refine ⟨.slice (some ⟨w.heap.size, 0, none⟩) 1 1, w.alloc (.cells #[v] e), _, ?_, hs.alloc _, _, rfl, rfl⟩
    unfold execOp; rw [ho]; refine run_v ?_
    obtain ⟨i, hi, h1⟩ : ∃ i, P.info? e = some i ∧ (i.zero, i.size, i.bytes) = (some z, 1, bytes) := by
      have := TInfo.out (P := P) (T := e) (z := z) (n := 1) (bytes := bytes)
      cases hq : P.info? e with
      | none => simp [hq] at this
      | some i => exact ⟨i, rfl, by simpa [hq] using this⟩
    simp only [Prod.mk.injEq] at h1
    have hzv : (zeroValue e).run P w = .ok z w := by simp [zeroValue, typeInfo, hi, h1.1]
    have hzc := cells_one hz
    have hvc := cells_one hv
    have hr : Array.range 1 = #[0] := rfl
    simp [Instr.buildSlice, run_underlying (TSlice.out (P := P) (T := T)), run_sizeOf (TSlice.size (P := P) (T := T)), Instr.fill, run_newRow, hzv, hzc, hvc, hr, ha.eval hx]) (fun u H' ⟨b, e1, e2⟩ => by subst e1; subst e2; exact hk b)
/-! ### append of one element of one cell to a row of the call's own -/
theorem zeroCells_size (z : Value) (n : Nat) : (Builtin.zeroCells #[z] n).size = n := by simp [Builtin.zeroCells]
theorem L_app {t : Tmp} {e bytes : Nat} {z : Value} {xs sp : List Value} {b b1 : Nat} {H1 : HL} [TSlice P T e 1] [TInfo P e z 1 bytes] (hz : z.oneCell' = true) (hw : wantE ops E o = some true) (hd : o.dst = some t) (ht : Nat.blt t N = true)
    (ho : o.op = .call { callee := .builtin .append, args := #[x, y], argTypes := #[T, T2] }) [TSlice P T2 e 1] (hx : ev E x = some (.slice (some ⟨b, 0, none⟩) xs.length (xs.length + sp.length))) (hy : ev E y = some (.slice (some ⟨b1, 0, none⟩) 1 1))
    (hA : At H b1 (.cells #[v] e (0, 0))) (hv : v.oneCell' = true) (hT : Tk H b (.cells (xs ++ sp).toArray e (0, 0)) H1) (hb : (2 * xs.length + 1000) * bytes ≤ 281474976710656)
    (hl : xs.length ≤ 1000000)
    (hk : ∀ b' sp', L P N w0 ops rest ((t, .slice (some ⟨b', 0, none⟩) (xs ++ [v]).length ((xs ++ [v]).length + List.length sp')) :: E) ((b', .cells (xs ++ [v] ++ sp').toArray e (0, 0)) :: H1) R) : L P N w0 ops (o :: rest) E H R := by
  refine L_eff (S := fun u H' => ∃ b' sp', u = .slice (some ⟨b', 0, none⟩) (xs ++ [v]).length ((xs ++ [v]).length + List.length sp') ∧ H' = (b', .cells (xs ++ [v] ++ sp').toArray e (0, 0)) :: H1) hw hd ht (fun A w ha hs => ?_) (fun u H' ⟨b', sp', e1, e2⟩ => by subst e1; subst e2; exact hk b' sp')
  rw [exec_builtin _ ho]
  obtain ⟨i, hi, h1⟩ : ∃ i, P.info? e = some i ∧ (i.zero, i.size, i.bytes) = (some z, 1, bytes) := by
    have := TInfo.out (P := P) (T := e) (z := z) (n := 1) (bytes := bytes)
    cases hq : P.info? e with
    | none => simp [hq] at this
    | some i => exact ⟨i, rfl, by simpa [hq] using this⟩
  simp only [Prod.mk.injEq] at h1
  have hcell : w.cell? ⟨b1, 0, none⟩ = some v := by rw [hs.cell hA]; rfl
  have ex : A.eval x = .slice (some ⟨b, 0, none⟩) xs.length (xs.length + sp.length) := ha.eval hx
  have ey : A.eval y = .slice (some ⟨b1, 0, none⟩) 1 1 := ha.eval hy
  have hs' := hs.perm hT.perm
  have hcur : w.heap[b]? = some (.cells (xs ++ sp).toArray e (0, 0)) := hs'.block .here
  cases sp with
  | cons s sp =>
    have hU : Up ((b, .cells (xs ++ s :: sp).toArray e (0, 0)) :: H1) b (.cells (xs ++ s :: sp).toArray e (0, 0)) (.cells ((xs ++ s :: sp).toArray.setIfInBounds xs.length v) e (0, 0)) ((b, .cells ((xs ++ s :: sp).toArray.setIfInBounds xs.length v) e (0, 0)) :: H1) := .here
    have hset : (xs ++ s :: sp).toArray.setIfInBounds xs.length v = (xs ++ [v] ++ sp).toArray := by
      apply Array.toList_inj.1
      simp [List.set_append]
    rw [hset] at hU
    refine ⟨.slice (some ⟨b, 0, none⟩) (xs.length + 1) (xs.length + (s :: sp).length), w.setCell ⟨b, xs.length, none⟩ v, _, run_v ?_, hs'.setCell (by rw [hset]; exact hU), b, sp, by simp; omega, rfl⟩
    have hc0 : w.cell? ⟨b, xs.length, none⟩ = some s := by simp [World.cell?, hcur]
    have hf0 : w.frozen? ⟨b, xs.length, none⟩ = false := by simp [World.frozen?, hcur]
    have hle : xs.length + 1 ≤ xs.length + (sp.length + 1) := by omega
    simp [Builtin.append_, run_underlying (TSlice.out (P := P) (T := T)), run_underlying (TSlice.out (P := P) (T := T2)), run_sizeOf (TSlice.size (P := P) (T := T)), ex, ey, Builtin.lenOf, Builtin.firstCells, loadCells, loadCellsFrom, hcell, storeCells, add_none,
      run_store P w _ v _ hv, hc0, hf0]
  | nil =>
    have hcl : (loadCells ⟨b, 0, none⟩ xs.length).run P w = .ok xs.toArray w := by
      have := run_loadCells_list (P := P) w ⟨b, 0, none⟩ xs (fun j u hj => by
        rw [add_none]; simp only [World.cell?, hcur]; simpa using hj)
      exact this
    have hgt : ¬ xs.length + 1 ≤ xs.length + 0 := by omega
    have hcap : ¬ Builtin.nextslicecap (xs.length + 1) xs.length * bytes > 2 ^ 48 := by
      have hg : ∀ n r c, c ≤ 2 * n + 900 → (∀ c', c' < n → c' + (c' + 768) / 4 ≤ 2 * n + 900) → Builtin.growBy n r c ≤ 2 * n + 900 := by
        intro n r
        induction r with
        | zero => intro c h _; exact h
        | succ r ih =>
          intro c h h'
          unfold Builtin.growBy
          split
          · exact h
          · exact ih _ (h' c (by omega)) h'
      have : Builtin.nextslicecap (xs.length + 1) xs.length ≤ 2 * xs.length + 1000 := by
        unfold Builtin.nextslicecap
        split
        · omega
        · split
          · omega
          · have := hg (xs.length + 1) 4 xs.length (by omega) (fun c' hc => by omega)
            omega
      have h2 := Nat.mul_le_mul_right bytes this
      omega
    have hzv : ∀ w : World, (zeroValue e).run P w = .ok z w := fun w => by simp [zeroValue, typeInfo, hi, h1.1]
    have hzc := cells_one hz
    let q := Question.appendCap (xs.length + 1) xs.length e
    let nc := q.cut (w.tape w.drawn q)
    have hnc : xs.length + 1 ≤ nc := by show xs.length + 1 ≤ xs.length + 1 + _ % _; omega
    let sp' := (Builtin.zeroCells #[z] (nc - (xs.length + 1))).toList
    have hlen : sp'.length = nc - (xs.length + 1) := by simp [sp', zeroCells_size]
    have hrow : xs.toArray ++ #[v] ++ Builtin.zeroCells #[z] (nc - (xs.length + 1)) = (xs ++ [v] ++ sp').toArray := by apply Array.toList_inj.1; simp [sp']
    refine ⟨.slice (some ⟨w.heap.size, 0, none⟩) (xs.length + 1) nc, (w.drew).alloc (.cells (xs ++ [v] ++ sp').toArray e), _, run_v ?_, (hs'.drop.drew).alloc _, w.heap.size, sp', by simp [hlen]; omega, rfl⟩
    have hch : (choose (.appendCap (xs.length + 1) xs.length e)).run P w = .ok nc w.drew := rfl
    have hroom : ∀ n (w : World), (askRoom n).run P w = .ok () w := fun n w => by unfold askRoom; split <;> rfl
    have hcl' : (loadCells ⟨b, 0, none⟩ xs.length).run P w.drew = .ok xs.toArray w.drew := by
      have := run_loadCells_list (P := P) w.drew ⟨b, 0, none⟩ xs (fun j u hj => by
        rw [add_none]
        show w.cell? ⟨b, 0 + j, none⟩ = some u
        simp only [World.cell?, hcur]; simpa using hj)
      exact this
    have hcell' : w.drew.cell? ⟨b1, 0, none⟩ = some v := hcell
    have hti : ∀ w : World, (typeInfo e).run P w = .ok i w := fun w => by simp [typeInfo, hi]
    have hmax : ¬ (((xs.length + 1 : Nat) : Int) > IntKind.i64.max) := by
      have : IntKind.i64.max = 9223372036854775807 := rfl
      rw [this]; omega
    have hcap' : ¬ (Builtin.nextslicecap (xs.length + 1) xs.length * i.bytes > 2 ^ 48) := by rw [h1.2.2]; exact hcap
    have hz0 : ∀ m, Builtin.zeroCells z.cells m = Builtin.zeroCells #[z] m := fun m => by rw [hzc]
    have hfc : (Builtin.firstCells 1 1 (.slice (some ⟨b1, 0, none⟩) 1 1)).run P w.drew = .ok #[v] w.drew := by
      simp [Builtin.firstCells, loadCells, loadCellsFrom, hcell', add_none]
    have hfc2 : (Builtin.firstCells 1 xs.length (.slice (some ⟨b, 0, none⟩) xs.length (xs.length + ([] : List Value).length))).run P w.drew = .ok xs.toArray w.drew := by
      show (loadCells ⟨b, 0, none⟩ (xs.length * 1)).run P w.drew = _
      rw [Nat.mul_one]; exact hcl'
    have e0 : xs.length + ([] : List Value).length = xs.length := by simp
    rw [e0] at ex hfc2
    have hni : (P.underlying T2).isSome = true := by rw [TSlice.out (P := P) (T := T2)]; rfl
    unfold Builtin.append_
    simp only [List.map_toArray, List.map_cons, List.map_nil, ex, ey, List.getElem?_toArray, List.getElem?_cons_zero, List.getElem?_cons_succ, Sem.run_bind, Result.andThen_ok, run_underlying (TSlice.out (P := P) (T := T)), run_underlying (TSlice.out (P := P) (T := T2)),
      run_sizeOf (TSlice.size (P := P) (T := T)), Sem.run_pure, Builtin.lenOf, Bool.false_eq_true, if_false, false_or, show ¬ (xs.length + 1 ≤ xs.length) by omega, hti]
    rw [if_neg (fun h => hmax h.1)]
    simp only [Sem.run_bind, hti, Result.andThen_ok, Sem.run_pure]
    rw [if_neg hcap']
    simp only [Sem.run_bind, hti, hch, Result.andThen_ok, hroom, hfc2, Bool.not_false, if_true, hfc, hzv, Sem.run_pure, hz0, run_newRow, hrow]
    rfl
theorem L_appI {t : Tmp} {e bytes : Nat} {xs : List Int} {sp : List Value} {b b1 : Nat} {u : Int} {H1 : HL} [TSlice P T e 1] [TInfo P e (.int k 0) 1 bytes] [TSlice P T2 e 1] (hw : wantE ops E o = some true) (hd : o.dst = some t) (ht : Nat.blt t N = true)
    (ho : o.op = .call { callee := .builtin .append, args := #[x, y], argTypes := #[T, T2] }) (hx : ev E x = some (.slice (some ⟨b, 0, none⟩) xs.length (xs.length + sp.length))) (hy : ev E y = some (.slice (some ⟨b1, 0, none⟩) 1 1))
    (hA : At H b1 (.cells #[.int k u] e (0, 0))) (hT : Tk H b (.cells (rowA k xs sp) e (0, 0)) H1) (hb : Nat.ble bytes 1000 = true) (hl : xs.length ≤ 1000000)
    (hk : ∀ b' sp', L P N w0 ops rest ((t, .slice (some ⟨b', 0, none⟩) (xs ++ [u]).length ((xs ++ [u]).length + List.length sp')) :: E) ((b', .cells (rowA k (xs ++ [u]) sp') e (0, 0)) :: H1) R) : L P N w0 ops (o :: rest) E H R := by
  have e1 : (xs.map (Value.int k)).length = xs.length := by simp
  refine L_app (z := .int k 0) (v := .int k u) (xs := xs.map (Value.int k)) (sp := sp) rfl hw hd ht ho (by rw [e1]; exact hx) hy hA rfl hT ?_ (by rw [e1]; exact hl) (fun b' sp' => ?_)
  · have := Nat.le_of_ble_eq_true hb
    have h2 : (2 * (xs.map (Value.int k)).length + 1000) * bytes ≤ (2 * 1000000 + 1000) * 1000 := Nat.mul_le_mul (by rw [e1]; omega) this
    omega
  · have e2 : (xs.map (Value.int k) ++ [Value.int k u]).length = (xs ++ [u]).length := by simp
    have e3 : (xs.map (Value.int k) ++ [Value.int k u] ++ sp').toArray = rowA k (xs ++ [u]) sp' := by simp [rowA]
    rw [e2, e3]; exact hk b' sp'
/-! ### a place where roads meet -/
inductive midA {α : Type} (E' : α → Env) (H' : α → HL) (good : α → Prop) (R : Post) : Post
  | at_ {E : Env} {H : HL} (y : α) : good y → Sub E (E' y) → Cv H (H' y) → midA E' H' good R .normal E H
  | ret {E : Env} {H : HL} : R .ret E H → midA E' H' good R .ret E H
  | exit {i : Nat} {E : Env} {H : HL} : R (.exit i) E H → midA E' H' good R (.exit i) E H
theorem W_midA {c d : Code} {α : Type} (E' : α → Env) (H' : α → HL) (good : α → Prop) (h : W P N w0 c E H (midA E' H' good R)) (h' : ∀ z, good z → W P N w0 d (E' z) (H' z) R) : W P N w0 (.seq c d) E H R :=
  W_seq (W_mono (fun e E H q => by
    cases q with
    | at_ y hy s cv => exact .normal (W_sub s cv (h' y hy))
    | ret h => exact .ret h
    | exit h => exact .exit h) h)
theorem midA.mk {α : Type} {E' : α → Env} {H' : α → HL} {good : α → Prop} {R : Post} {E : Env} {H : HL} (y : α) (s : Sub E (E' y)) (c : Cv H (H' y)) (g : good y) : midA E' H' good R .normal E H := .at_ y g s c
theorem loopR.mk {α : Type} {E' : α → Env} {H' : α → HL} {good : α → Prop} {μ : α → Nat} {n : Nat} {R : Post} {E : Env} {H : HL} (y : α) (s : Sub E (E' y)) (c : Cv H (H' y)) (g : good y) (m : μ y < n) : loopR E' H' good μ n R .normal E H := .again y g m s c
theorem W_loopX {c : Code} {α : Type} (E' : α → Env) (H' : α → HL) (good : α → Prop) (μ : α → Nat) (x : α) (s : Sub E (E' x)) (cv : Cv H (H' x)) (hx : good x)
    (round : ∀ x, good x → W P N w0 c (E' x) (H' x) (loopR E' H' good μ (μ x) R)) : W P N w0 (.loop c) E H R := W_loop E' H' good μ x hx s cv round
/-! ### strings of bytes -/
def Byt (xs : List Int) : Prop := ∀ x, x ∈ xs → 0 ≤ x ∧ x < 256
theorem ov_bts {e : TypeId} {b m : Nat} {xs : List Int} {sp : List Value} {t : TypeId} {fr : Nat × Nat} [TSlice P T e 1] [TInt P e .u8] [TStr P T2] (ho : o.op = .convert T T2 x) (hx : ev E x = some (.slice (some ⟨b, 0, none⟩) xs.length m)) (hA : At H b (.cells (rowA .u8 xs sp) t fr)) :
    OpV P N w0 o E H (.string (strOfNums xs)) := by
  refine ⟨fun a w ha hs => ?_⟩
  unfold execOp; rw [ho]; refine run_v ?_; rw [ha.eval hx]
  refine run_convert_bytes_arg w T e (TSlice.out (P := P) (T := T)) (TInt.out (P := P) (T := e)) b 0 xs.length m xs rfl (fun i hi => ?_) T2 (TStr.out (P := P) (T := T2))
  rw [hs.cell hA]
  simp [rowA, List.getElem?_append_left, hi, List.getD_eq_getElem?_getD]
theorem ov_sidx [TStr P T] {xs : List Int} {i : Int} (ho : o.op = .index T x y) (hx : ev E x = some (.string (strOfNums xs))) (hy : ev E y = some (.int .i64 i)) (hb : Byt xs) (h0 : 0 ≤ i) (h : i < (xs.length : Int)) : OpV P N w0 o E H (.int .u8 (g xs i)) := by
  refine ⟨fun a w ha hs => ?_⟩
  unfold execOp; rw [ho]; refine run_v ?_; rw [ha.eval hx, ha.eval hy]
  have hl : i.toNat < xs.length := by omega
  have hsz : i.toNat < (strOfNums xs).size := by rw [strOfNums_size]; exact hl
  have hgi : (strOfNums xs)[i.toNat]? = some (UInt8.ofNat (g xs i).toNat) := by
    rw [getElem?_pos (strOfNums xs) i.toNat hsz]
    congr 1
    have h9 : (strOfNums xs).data.toList[i.toNat]? = some (UInt8.ofNat (g xs i).toNat) := by
      rw [strOfNums_data, List.getElem?_map, List.getElem?_eq_getElem hl]
      simp [g, List.getD_eq_getElem?_getD, hl]
    rw [Array.getElem?_toList] at h9
    have h8 : (strOfNums xs).data[i.toNat]? = some ((strOfNums xs).data[i.toNat]'hsz) := getElem?_pos _ _ _
    rw [h8] at h9
    exact Option.some.inj h9
  have hm : g xs i ∈ xs := by
    unfold g; rw [List.getD_eq_getElem?_getD, List.getElem?_eq_getElem hl]; exact List.getElem_mem hl
  have hr := hb _ hm
  have e : (((UInt8.ofNat (g xs i).toNat).toNat : Nat) : Int) = g xs i := by
    rw [UInt8.toNat_ofNat']; omega
  simp [Instr.index, asIntOf, run_underlying (TStr.out (P := P) (T := T)), h0, hgi]
  omega
theorem strs_eq {xs ys : List Int} (hx : Byt xs) (hy : Byt ys) : (strOfNums xs).toList = (strOfNums ys).toList ↔ xs = ys := by
  constructor
  · intro h
    have h1 : ∀ zs : List Int, (strOfNums zs).toList = zs.map fun n => UInt8.ofNat n.toNat := fun zs => by
      rw [← strOfNums_data, ByteArray.toList_eq]
    rw [h1, h1] at h
    have key : ∀ zs : List Int, Byt zs → (zs.map fun n => UInt8.ofNat n.toNat).map (fun b => (b.toNat : Int)) = zs := fun zs hz => by
      rw [List.map_map]
      conv => rhs; rw [← List.map_id zs]
      refine List.map_congr_left fun n hn => ?_
      have := hz n hn
      simp only [Function.comp, id, UInt8.toNat_ofNat']; omega
    rw [← key xs hx, ← key ys hy, h]
  · intro h; rw [h]
theorem ov_eqz {xs ys : List Int} (ho : o.op = .binOp .eql T x y T2) (hx : ev E x = some (.string (strOfNums xs))) (hy : ev E y = some (.string (strOfNums ys))) (h1 : Byt xs) (h2 : Byt ys) : OpV P N w0 o E H (.bool (decide (xs = ys))) := by
  have := ov_eqs (P := P) (N := N) (w0 := w0) (E := E) (H := H) ho hx hy
  rwa [decide_eq_decide.2 (strs_eq h1 h2)] at this
theorem ov_lenz [TStr P T] {xs : List Int} (ho : o.op = .call { callee := .builtin .len, args := #[x], argTypes := #[T] }) (hx : ev E x = some (.string (strOfNums xs))) : OpV P N w0 o E H (.int .i64 (xs.length : Int)) := by
  have := ov_lens (P := P) (N := N) (w0 := w0) (E := E) (H := H) ho hx
  rwa [strOfNums_size] at this
end
end Go.Proofs.Ytepddopgmhdllaa.Eng
