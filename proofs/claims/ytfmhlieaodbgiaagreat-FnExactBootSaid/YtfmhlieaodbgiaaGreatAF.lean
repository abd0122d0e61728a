/- Operations: one element appended to a row of elements, to a row of values; a piece of a row from its begin. -/
import Derived.Test.YtfmhlieaodbgiaaGreatAK
import Derived.Laws.Slices
namespace Go.Proofs.YtfmhlieaodbgiaaGreat.Eng
open Go Go.RowKit Go.Proofs.YtfmhlieaodbgiaaGreat.Sl Go.Proofs.YtfmhlieaodbgiaaGreat.Ar
set_option linter.unusedVariables false
set_option linter.unusedSimpArgs false
theorem flat_append (xs ys : List (Int × Int)) : flat (xs ++ ys) = flat xs ++ flat ys := by
  induction xs with
  | nil => rfl
  | cons x xs ih => simp [flat, ih]
theorem oC_V {bo : Option Nat} {vs : List (Int × Int)} {sp : List Value} : oC 35 bo (flat vs) sp = oV bo vs sp := by cases bo <;> rfl
section
variable {P : Program} {N : Nat} {w0 w : World} {E : Env} {H H' R1 : HL} {o : Oper} {x y z : Operand} {T T2 e ty : TypeId} {v u zv : Value} {k bytes b b1 n m c c1 : Nat} {ops : Array Oper} {rest : List Oper} {R : Post} {sp : List Value}
theorem L_appF {α : Type} {f : α → List Value} {xs : List α} {a : α} {t : Tmp} [TSlice P T e k] [TInfo P e zv k bytes] {bo : Option Nat} (hw : wantE ops E o = some true) (hd : o.dst = some t) (ht : Nat.blt t N = true) (ho : o.op = .call { callee := .builtin .append, args := #[x, y], argTypes := #[T, T] })
    (hx : ev E x = some (.slice (ad bo) xs.length c)) (hy : ev E y = some (.slice (some ⟨b1, 0, none⟩) 1 c1)) (hp : TkG H (oC e bo (xs.flatMap f) sp) R1) (hA : At H b1 (.cells (f a).toArray e (0, 0))) (hzk : zv.cells.size = k) (hk : Nat.blt 0 k = true) (hn : (f a).length = k) (h1 : ∀ u ∈ f a, u.oneCell' = true) (hR : RowK k bo xs.length c (xs.flatMap f) sp) (hm : xs.length ≤ 1000000) (hb : Nat.ble bytes 1000 = true)
    (hK : ∀ b' c' sp', RowK k (some b') (xs ++ [a]).length c' ((xs ++ [a]).flatMap f) sp' → L P N w0 ops rest ((t, .slice (some ⟨b', 0, none⟩) (xs ++ [a]).length c') :: E) ((b', .cells (rowF f (xs ++ [a]) sp') e (0, 0)) :: R1) R) : L P N w0 ops (o :: rest) E H R := by
  refine L_appK (n := 1) (news := f a) (sp1 := []) hw hd ht ho hx hy hp.perm (by rw [List.append_nil]; exact hA) hzk hk (by omega) (by omega) h1 hR (by omega) hb (fun b' c' sp' h => ?_)
  have e1 : (xs ++ [a]).length = xs.length + 1 := by simp
  have e2 : (xs ++ [a]).flatMap f = xs.flatMap f ++ f a := by simp
  have := hK b' c' sp' (by rw [e1, e2]; exact h)
  unfold rowF at this
  rw [e1, e2] at this
  exact this
theorem flat_flatMap (vs : List (Int × Int)) : flat vs = vs.flatMap (fun v => [.int .i64 v.1, .int .i64 v.2]) := by
  induction vs with
  | nil => rfl
  | cons v vs ih => simp [flat, ih]
theorem L_appV {vs : List (Int × Int)} {p q : Int} {t : Tmp} [TSlice P T 35 2] [TInfo P 35 zv 2 bytes] {bo : Option Nat} (hw : wantE ops E o = some true) (hd : o.dst = some t) (ht : Nat.blt t N = true) (ho : o.op = .call { callee := .builtin .append, args := #[x, y], argTypes := #[T, T] })
    (hx : ev E x = some (.slice (ad bo) vs.length c)) (hy : ev E y = some (.slice (some ⟨b1, 0, none⟩) 1 c1)) (hp : TkG H (oV bo vs sp) R1) (hA : At H b1 (.cells #[.int .i64 p, .int .i64 q] 35 (0, 0))) (hzk : zv.cells.size = 2) (hR : RowK 2 bo vs.length c (flat vs) sp) (hm : vs.length ≤ 1000000) (hb : Nat.ble bytes 1000 = true)
    (hK : ∀ b' c' sp', RowK 2 (some b') (vs ++ [(p, q)]).length c' (flat (vs ++ [(p, q)])) sp' → L P N w0 ops rest ((t, .slice (some ⟨b', 0, none⟩) (vs ++ [(p, q)]).length c') :: E) ((b', .cells (rowV (vs ++ [(p, q)]) sp') 35 (0, 0)) :: R1) R) : L P N w0 ops (o :: rest) E H R := by
  refine L_appF (f := fun v => [.int .i64 v.1, .int .i64 v.2]) (a := (p, q)) (sp := sp) hw hd ht ho hx hy (by rw [← flat_flatMap, oC_V]; exact hp) hA hzk rfl rfl (fun u hu => ?_) (by rw [← flat_flatMap]; exact hR) hm hb (fun b' c' sp' h => ?_)
  · simp at hu; rcases hu with rfl | rfl <;> rfl
  · have := hK b' c' sp' (by rw [flat_flatMap]; exact h)
    unfold rowV at this
    rw [flat_flatMap] at this
    exact this
theorem v_sliceH {d_ : Option Tmp} {ty_ : TypeId} {pos_ : String} {af_ : Array Edge} {gd_ : Option (Nat × Bool)} {h : Int} {k2 : IntKind} {n : Nat} [TSlice P T e n] {bk of len cap : Nat} (hx : ev E x = some (.slice (some ⟨bk, of, none⟩) len cap)) (hz : ev E z = some (.int k2 h)) (h0 : 0 ≤ h) (h2 : h ≤ (cap : Int)) :
    OpV P N w0 ⟨d_, .slice T x none (some z) none, ty_, pos_, af_, gd_⟩ E H (.slice (some ⟨bk, of, none⟩) h.toNat cap) := by
  refine ⟨fun A w ha hs => ?_⟩
  have hu := TSlice.out (P := P) (T := T) (e := e) (n := n)
  have hel : P.elem T = e := by simp [Program.elem, hu]
  have hu' : P.underlying T = some (.slice (P.elem T)) := by rw [hel]; exact hu
  unfold execOp; refine run_v ?_
  simp only [Option.map_some, Option.map_none]
  rw [ha.eval hx, ha.eval hz, run_sliceAt_slice _ _ _ _ _ _ hu', run_slice_h _ _ _ _ _ hu' _ _ h0 h2, hel, run_sizeOf (TSlice.size (P := P) (T := T))]
  simp [Result.andThen, sliced, add_none]
theorem rowF_len {α : Type} {f : α → List Value} (hf : ∀ a, (f a).length = k) (xs : List α) : (xs.flatMap f).length = xs.length * k := by
  induction xs with
  | nil => simp
  | cons a xs ih => simp [hf, ih, Nat.succ_mul]; omega
theorem rowF_ext {α : Type} {f : α → List Value} (hf : ∀ a, (f a).length = k) {xs : List α} {i : Nat} {a : α} (he : xs[i]? = some a) : ((rowF f xs sp).toList.drop (i * k)).take k = f a := by
  have hil := (List.getElem?_eq_some_iff.1 he).1
  have hle : (i + 1) * k ≤ xs.length * k := Nat.mul_le_mul_right _ hil
  rw [Nat.succ_mul] at hle
  have hl := rowF_len hf xs
  apply List.ext_getElem?
  intro j
  by_cases hj : j < k
  · rw [List.getElem?_take, if_pos hj, List.getElem?_drop]
    exact rowF_get hf xs i j a he hj
  · rw [List.getElem?_take, if_neg hj, List.getElem?_eq_none (by rw [hf]; omega)]
theorem rowF_set {α : Type} {f : α → List Value} (hf : ∀ a, (f a).length = k) {xs : List α} {i j : Nat} {a a' : α} (he : xs[i]? = some a) (hj : j < k) (ha : (f a).set j v = f a') : (rowF f xs sp).setIfInBounds (i * k + j) v = rowF f (xs.set i a') sp := by
  induction xs generalizing i with
  | nil => simp at he
  | cons b xs ih =>
    have hl := rowF_len hf xs
    cases i with
    | zero =>
      simp only [List.getElem?_cons_zero, Option.some.injEq] at he
      subst he
      apply Array.toList_inj.1
      simp only [rowF, List.flatMap_cons, List.set_cons_zero, Array.toList_setIfInBounds, List.append_assoc]
      rw [Nat.zero_mul, Nat.zero_add, List.set_append_left _ _ (by rw [hf]; exact hj), ha]
    | succ i =>
      have := congrArg Array.toList (ih (i := i) (by simpa using he))
      simp only [rowF, Array.toList_setIfInBounds] at this
      apply Array.toList_inj.1
      simp only [rowF, List.flatMap_cons, List.set_cons_succ, Array.toList_setIfInBounds, List.append_assoc]
      rw [List.set_append_right _ _ (by rw [hf, Nat.succ_mul]; omega), hf, show (i + 1) * k + j - k = i * k + j by rw [Nat.succ_mul]; omega, this]
theorem v_ldF {d_ : Option Tmp} {ty_ : TypeId} {pos_ : String} {af_ : Array Edge} {gd_ : Option (Nat × Bool)} {α : Type} {f : α → List Value} {xs : List α} {i bk : Nat} {a : α} [TAgg P T k] (hf : ∀ a, (f a).length = k) (hx : ev E x = some (.pointer (some ⟨bk, 0 + i * k, none⟩))) (hA : At H bk (.cells (rowF f xs sp) e (0, 0))) (he : xs[i]? = some a) :
    OpV P N w0 ⟨d_, .load T x, ty_, pos_, af_, gd_⟩ E H (.agg (f a).toArray) := by
  have hil := (List.getElem?_eq_some_iff.1 he).1
  have hle : (i + 1) * k ≤ xs.length * k := Nat.mul_le_mul_right _ hil
  rw [Nat.succ_mul] at hle
  have hl := rowF_len hf xs
  rw [← rowF_ext (sp := sp) hf he]
  have := v_ldN (P := P) (N := N) (w0 := w0) (E := E) (H := H) (T := T) (x := x) (d_ := d_) (ty_ := ty_) (pos_ := pos_) (af_ := af_) (gd_ := gd_) (n := k) hx hA (by simp [rowF, hl]; omega)
  rw [Nat.zero_add] at this
  exact this
theorem v_ldFc {d_ : Option Tmp} {ty_ : TypeId} {pos_ : String} {af_ : Array Edge} {gd_ : Option (Nat × Bool)} {α : Type} {f : α → List Value} {xs : List α} {i j bk : Nat} {a : α} [TOne P T] (hf : ∀ a, (f a).length = k) (hx : ev E x = some (.pointer (some ⟨bk, 0 + i * k + j, none⟩))) (hA : At H bk (.cells (rowF f xs sp) e (0, 0))) (he : xs[i]? = some a) (hj : j < k) (hv : (f a)[j]? = some v) :
    OpV P N w0 ⟨d_, .load T x, ty_, pos_, af_, gd_⟩ E H v := v_ld hx hA (by rw [Nat.zero_add, rowF_get hf xs i j a he hj]; exact hv)
/-- a cell of an element is written -/
theorem L_stF {α : Type} {f : α → List Value} {xs : List α} {i j bk : Nat} {a a' : α} [TOne P T] (hf : ∀ a, (f a).length = k) (hw : wantE ops E o = some true) (hd : o.dst = none) (ho : o.op = .store T x y) (hx : ev E x = some (.pointer (some ⟨bk, 0 + i * k + j, none⟩))) (hy : ev E y = some v) (h1 : v.oneCell' = true)
    (he : xs[i]? = some a) (hj : j < k) (ha : (f a).set j v = f a') (hU : Up H bk (.cells (rowF f xs sp) e (0, 0)) (.cells (rowF f (xs.set i a') sp) e (0, 0)) H') (hk : L P N w0 ops rest E H' R) : L P N w0 ops (o :: rest) E H R := by
  have hil := (List.getElem?_eq_some_iff.1 he).1
  have hle : (i + 1) * k ≤ xs.length * k := Nat.mul_le_mul_right _ hil
  rw [Nat.succ_mul] at hle
  have hl := rowF_len hf xs
  exact L_st hw hd ho hx hy h1 (by rw [Nat.zero_add, rowF_set hf he hj ha]; exact hU) (by simp [rowF, hl]; omega) hk
end
end Go.Proofs.YtfmhlieaodbgiaaGreat.Eng
