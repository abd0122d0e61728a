/- Operations: a row appended to an empty one, a piece of a row copied within it, a value stored into a row of values. -/
import Derived.Test.YtepddopgmhdllaaGreatL0
import Derived.Test.YtepddopgmhdllaaGreatBkG
import Derived.ArgAppend
import Derived.Laws.CopyRow
import Derived.Laws.Bits64b
namespace Go.Proofs.YtepddopgmhdllaaGreat.Eng
open Go Go.RowKit Go.Proofs.YtepddopgmhdllaaGreat.Sl Go.Proofs.YtepddopgmhdllaaGreat.Ar
set_option linter.unusedVariables false
set_option linter.unusedSimpArgs false
section
variable {P : Program} {N : Nat} {w0 w : World} {E : Env} {H H' H1 : HL} {o : Oper} {x y z : Operand} {T T2 e ty : TypeId} {v u zv : Value} {k bytes b b1 m c : Nat} {ops : Array Oper} {rest : List Oper} {R : Post} {news sp : List Value}
theorem info_of [TInfo P e zv k bytes] : ∃ i, P.info? e = some i ∧ i.zero = some zv ∧ i.size = k ∧ i.bytes = bytes := by
  have := TInfo.out (P := P) (T := e) (z := zv) (n := k) (bytes := bytes)
  cases hq : P.info? e with
  | none => simp [hq] at this
  | some i => exact ⟨i, rfl, by simpa [hq] using this⟩
theorem app_some [TSlice P T e k] [TInfo P e zv k bytes] (hk : 0 < k) (hs : Sat w0 H w) (hA : At H b1 (.cells (news ++ sp).toArray e (0, 0))) (hn : news.length = m * k) (hT : Tk H b (.cells #[] e (0, 0)) H1) (hm : m ≤ 1048576) (hb : bytes ≤ 1000) :
    ∃ w' b' c' sp', (Builtin.append_ #[T, T] ty #[.slice (some ⟨b, 0, none⟩) 0 0, .slice (some ⟨b1, 0, none⟩) m c]).run P w = .ok (.slice (some ⟨b', 0, none⟩) m c') w' ∧ m ≤ c' ∧ Sat w0 ((b', .cells (news ++ sp').toArray e (0, 0)) :: H1) w' := by
  obtain ⟨i, hi, h1, h2, h3⟩ := info_of (P := P) (e := e) (zv := zv) (k := k) (bytes := bytes)
  subst h2; subst h3
  have ht := TSlice.out (P := P) (T := T) (e := e)
  have hs' := hs.perm hT.perm
  have hnews : ∀ j v, news[j]? = some v → w.cell? (Addr.add ⟨b1, 0, none⟩ j) = some v := by
    intro j v hj
    rw [add_none, hs.cell hA]
    simp only [Nat.zero_add, List.getElem?_toArray]
    rw [List.getElem?_append_left (List.getElem?_eq_some_iff.1 hj).1]; exact hj
  by_cases h0 : m = 0
  · subst h0
    have hnil : news = [] := List.eq_nil_of_length_eq_zero (by simpa using hn)
    subst hnil
    have := run_append_room_cells (P := P) w T ty e i ht hi b 0 0 0 ⟨b1, 0, none⟩ 0 c [] (by simp) (by simp) (by simp) (by simp) (by simp) (by simp)
    exact ⟨_, b, 0, [], this, Nat.le_refl _, hs'⟩
  · have := run_append_grow (P := P) w T ty e i zv ht hi h1 ⟨b, 0, none⟩ 0 0 [] (by simp) (by simp) ⟨b1, 0, none⟩ m c news hn hnews (by omega) (by omega) (by
      rw [Nat.zero_add, nextslicecap_zero (by omega)]
      have : m * i.bytes ≤ 1048576 * 1000 := Nat.mul_le_mul hm hb
      omega)
    rw [Nat.zero_add] at this
    refine ⟨_, _, _, (Builtin.zeroCells zv.cells (grownCap w m 0 e - m)).toList, this, grownCap_ge w m 0 e, ?_⟩
    have hal := (hs'.drop.drew).alloc (.cells ([].toArray ++ news.toArray ++ Builtin.zeroCells zv.cells (grownCap w m 0 e - m)) e)
    have ec : ([].toArray ++ news.toArray ++ Builtin.zeroCells zv.cells (grownCap w m 0 e - m)) = (news ++ (Builtin.zeroCells zv.cells (grownCap w m 0 e - m)).toList).toArray := by
      apply Array.toList_inj.1; simp
    rw [ec] at hal ⊢
    exact hal
theorem app_nil [TSlice P T e k] [TInfo P e zv k bytes] (hk : 0 < k) (hs : Sat w0 H w) (hA : At H b1 (.cells (news ++ sp).toArray e (0, 0))) (hn : news.length = m * k) (hm : m ≤ 1048576) (hb : bytes ≤ 1000) (h0 : 0 < m) :
    ∃ w' b' c' sp', (Builtin.append_ #[T, T] ty #[.slice none 0 0, .slice (some ⟨b1, 0, none⟩) m c]).run P w = .ok (.slice (some ⟨b', 0, none⟩) m c') w' ∧ m ≤ c' ∧ Sat w0 ((b', .cells (news ++ sp').toArray e (0, 0)) :: H) w' := by
  obtain ⟨i, hi, h1, h2, h3⟩ := info_of (P := P) (e := e) (zv := zv) (k := k) (bytes := bytes)
  subst h2; subst h3
  have ht := TSlice.out (P := P) (T := T) (e := e)
  have hnews : ∀ j v, news[j]? = some v → w.cell? (Addr.add ⟨b1, 0, none⟩ j) = some v := by
    intro j v hj
    rw [add_none, hs.cell hA]
    simp only [Nat.zero_add, List.getElem?_toArray]
    rw [List.getElem?_append_left (List.getElem?_eq_some_iff.1 hj).1]; exact hj
  have := run_append_nil (P := P) w T ty e i zv ht hi h1 ⟨b1, 0, none⟩ m c news hn hnews h0 (by omega) (by
      have : m * i.bytes ≤ 1048576 * 1000 := Nat.mul_le_mul hm hb
      omega)
  refine ⟨_, _, _, (Builtin.zeroCells zv.cells (grownCap w m 0 e - m)).toList, this, grownCap_ge w m 0 e, ?_⟩
  have hal := (hs.drew).alloc (.cells (news.toArray ++ Builtin.zeroCells zv.cells (grownCap w m 0 e - m)) e)
  have ec : (news.toArray ++ Builtin.zeroCells zv.cells (grownCap w m 0 e - m)) = (news ++ (Builtin.zeroCells zv.cells (grownCap w m 0 e - m)).toList).toArray := by
    apply Array.toList_inj.1; simp
  rw [ec] at hal ⊢
  exact hal
theorem app_none [TSlice P T e k] [TInfo P e zv k bytes] {a : Addr} : (Builtin.append_ #[T, T] ty #[.slice none 0 0, .slice (some a) 0 c]).run P w = .ok (.slice none 0 0) w := by
  obtain ⟨i, hi, h1, h2, h3⟩ := info_of (P := P) (e := e) (zv := zv) (k := k) (bytes := bytes)
  have ht := TSlice.out (P := P) (T := T) (e := e)
  simp [Builtin.append_, run_underlying ht, sizeOf, typeInfo, hi, Builtin.lenOf, Builtin.firstCells, loadCells, loadCellsFrom]
theorem L_appE {t : Tmp} [TSlice P T e k] [TInfo P e zv k bytes] (hw : wantE ops E o = some true) (hd : o.dst = some t) (ht : Nat.blt t N = true) (ho : o.op = .call { callee := .builtin .append, args := #[x, y], argTypes := #[T, T] })
    (hx : ev E x = some (.slice (some ⟨b, 0, none⟩) 0 0)) (hy : ev E y = some (.slice (some ⟨b1, 0, none⟩) m c)) (hA : At H b1 (.cells (news ++ sp).toArray e (0, 0))) (hn : news.length = m * k) (hT : Tk H b (.cells #[] e (0, 0)) H1) (hk : Nat.blt 0 k = true) (hm : m ≤ 1048576) (hb : Nat.ble bytes 1000 = true)
    (hK : ∀ b' c' sp', m ≤ c' → L P N w0 ops rest ((t, .slice (some ⟨b', 0, none⟩) m c') :: E) ((b', .cells (news ++ sp').toArray e (0, 0)) :: H1) R) : L P N w0 ops (o :: rest) E H R := by
  refine L_eff (S := fun u H' => ∃ b' c' sp', u = .slice (some ⟨b', 0, none⟩) m c' ∧ m ≤ c' ∧ H' = (b', .cells (news ++ sp').toArray e (0, 0)) :: H1) hw hd ht (fun A w ha hs => ?_) (fun u H' ⟨b', c', sp', e1, e2, e3⟩ => by subst e1; subst e3; exact hK b' c' sp' e2)
  rw [exec_builtin _ ho]
  obtain ⟨w', b', c', sp', h1, h2, h3⟩ := app_some (P := P) (T := T) (e := e) (k := k) (bytes := bytes) (zv := zv) (ty := o.type) (c := c) (Nat.le_of_ble_eq_true hk) hs hA hn hT hm (Nat.le_of_ble_eq_true hb)
  refine ⟨_, w', _, run_v ?_, h3, b', c', sp', rfl, h2, rfl⟩
  simp only [List.map_toArray, List.map_cons, List.map_nil, ha.eval hx, ha.eval hy]
  exact h1
theorem L_appN {t : Tmp} [TSlice P T e k] [TInfo P e zv k bytes] (hw : wantE ops E o = some true) (hd : o.dst = some t) (ht : Nat.blt t N = true) (ho : o.op = .call { callee := .builtin .append, args := #[x, y], argTypes := #[T, T] })
    (hx : ev E x = some (.slice none 0 0)) (hy : ev E y = some (.slice (some ⟨b1, 0, none⟩) m c)) (hA : At H b1 (.cells (news ++ sp).toArray e (0, 0))) (hn : news.length = m * k) (hk : Nat.blt 0 k = true) (hm : m ≤ 1048576) (hb : Nat.ble bytes 1000 = true)
    (h0 : m = 0 → L P N w0 ops rest ((t, .slice none 0 0) :: E) H R)
    (hK : ∀ b' c' sp', 0 < m → m ≤ c' → L P N w0 ops rest ((t, .slice (some ⟨b', 0, none⟩) m c') :: E) ((b', .cells (news ++ sp').toArray e (0, 0)) :: H) R) : L P N w0 ops (o :: rest) E H R := by
  refine L_eff (S := fun u H' => (m = 0 ∧ u = .slice none 0 0 ∧ H' = H) ∨ ∃ b' c' sp', 0 < m ∧ u = .slice (some ⟨b', 0, none⟩) m c' ∧ m ≤ c' ∧ H' = (b', .cells (news ++ sp').toArray e (0, 0)) :: H) hw hd ht (fun A w ha hs => ?_) (fun u H' hS => by
    rcases hS with ⟨e1, e2, e3⟩ | ⟨b', c', sp', e0, e1, e2, e3⟩
    · subst e2; subst e3; exact h0 e1
    · subst e1; subst e3; exact hK b' c' sp' e0 e2)
  rw [exec_builtin _ ho]
  by_cases c0 : m = 0
  · refine ⟨_, w, _, run_v ?_, hs, .inl ⟨c0, rfl, rfl⟩⟩
    simp only [List.map_toArray, List.map_cons, List.map_nil, ha.eval hx, ha.eval hy]
    subst c0
    exact app_none (k := k) (zv := zv) (bytes := bytes)
  · obtain ⟨w', b', c', sp', h1, h2, h3⟩ := app_nil (P := P) (T := T) (e := e) (k := k) (bytes := bytes) (zv := zv) (ty := o.type) (c := c) (Nat.le_of_ble_eq_true hk) hs hA hn hm (Nat.le_of_ble_eq_true hb) (by omega)
    refine ⟨_, w', _, run_v ?_, h3, .inr ⟨b', c', sp', by omega, rfl, h2, rfl⟩⟩
    simp only [List.map_toArray, List.map_cons, List.map_nil, ha.eval hx, ha.eval hy]
    exact h1
/-- a piece of a row is copied within it -/
theorem L_copyA {t : Tmp} {ws : List Int} {sp : List Value} {p q : Int} {l l2 c1 c2 : Nat} [TSlice P T e 1] (hw : wantE ops E o = some true) (hd : o.dst = some t) (ht : Nat.blt t N = true) (ho : o.op = .call { callee := .builtin .copy, args := #[x, y], argTypes := #[T, T] })
    (hx : ev E x = some (.slice (some ⟨b, 0 + p.toNat * 1, none⟩) l c1)) (hy : ev E y = some (.slice (some ⟨b, 0 + q.toNat * 1, none⟩) l2 c2)) (hl : l2 = l) (hp : 0 ≤ p) (hq : 0 ≤ q) (hp2 : p + l ≤ (ws.length : Int)) (hq2 : q + l ≤ (ws.length : Int))
    (hU : Up H b (.cells (rowA .u64 ws sp) e (0, 0)) (.cells (rowA .u64 (copyW ws p q l) sp) e (0, 0)) H') (hK : L P N w0 ops rest ((t, .int .i64 (l : Int)) :: E) H' R) : L P N w0 ops (o :: rest) E H R := by
  subst hl
  refine L_eff (S := fun u H'' => u = .int .i64 (l2 : Int) ∧ H'' = H') hw hd ht (fun A w ha hs => ?_) (fun u H'' ⟨e1, e2⟩ => by subst e1; subst e2; exact hK)
  rw [exec_builtin _ ho]
  have hcs : ((ws.drop q.toNat).take l2).length = l2 := by simp; omega
  have hr := run_copy_row (P := P) w T T o.type e b (0 + p.toNat * 1) l2 c1 ⟨b, 0 + q.toNat * 1, none⟩ l2 c2 (rowA .u64 ws sp) e (((ws.drop q.toNat).take l2).map (Value.int .u64)) (TSlice.out (P := P) (T := T)) (TSlice.size (P := P) (T := T)) (hs.block hU.at) (by rw [List.length_map, hcs]; exact (Nat.min_self _).symm)
    (fun j v hj => by
      rw [add_none, hs.cell hU.at]
      have hj2 : j < l2 := by have := (List.getElem?_eq_some_iff.1 hj).1; rw [List.length_map, hcs] at this; exact this
      rw [List.getElem?_map, List.getElem?_take, if_pos hj2, List.getElem?_drop] at hj
      simp only [rowA, List.getElem?_toArray]
      rw [List.getElem?_append_left (by simp; omega), List.getElem?_map, ← hj]
      congr 2; omega) (by rw [List.length_map, hcs]; simp only [rowA, List.size_toArray, List.length_append, List.length_map]; omega) (fun v hv => by
      rw [List.mem_map] at hv; obtain ⟨n, -, rfl⟩ := hv; rfl)
  rw [List.length_map, hcs] at hr
  have hrow : ((rowA .u64 ws sp).toList.take (0 + p.toNat * 1) ++ ((ws.drop q.toNat).take l2).map (Value.int .u64) ++ (rowA .u64 ws sp).toList.drop (0 + p.toNat * 1 + l2)).toArray = rowA .u64 (copyW ws p q l2) sp := by
    have : copyW ws p q l2 = ws.take p.toNat ++ (ws.drop q.toNat).take l2 ++ ws.drop (p.toNat + l2) := by
      apply List.ext_getElem?
      intro n
      by_cases hn : n < ws.length
      · unfold copyW
        rw [List.getElem?_map, List.getElem?_range hn]
        simp only [Option.map_some]
        by_cases c1 : n < p.toNat
        · rw [if_neg (by omega), List.append_assoc, List.getElem?_append_left (by simp; omega), List.getElem?_take, if_pos c1]
          unfold g
          rw [List.getD_eq_getElem?_getD, Int.toNat_natCast, List.getElem?_eq_getElem hn]; rfl
        · by_cases c2 : n < p.toNat + l2
          · rw [if_pos (by omega), List.getElem?_append_left (by simp; omega), List.getElem?_append_right (by simp; omega), List.getElem?_take, if_pos (by simp; omega), List.getElem?_drop]
            unfold g
            have hlt : q.toNat + (n - p.toNat) < ws.length := by omega
            have e1 : (q + ((n : Int) - p)).toNat = q.toNat + (n - p.toNat) := by omega
            have e2 : q.toNat + (n - (List.take p.toNat ws).length) = q.toNat + (n - p.toNat) := by rw [List.length_take, Nat.min_eq_left (by omega)]
            rw [List.getD_eq_getElem?_getD, e1, e2, List.getElem?_eq_getElem hlt]; rfl
          · rw [if_neg (by omega), List.getElem?_append_right (by simp; omega), List.getElem?_drop]
            unfold g
            have e2 : p.toNat + l2 + (n - (List.take p.toNat ws ++ List.take l2 (List.drop q.toNat ws)).length) = n := by
              rw [List.length_append, List.length_take, Nat.min_eq_left (by omega), List.length_take, List.length_drop, Nat.min_eq_left (by omega)]; omega
            rw [e2, List.getD_eq_getElem?_getD, Int.toNat_natCast, List.getElem?_eq_getElem hn]; rfl
      · rw [List.getElem?_eq_none (by simp [copyW]; omega), List.getElem?_eq_none (by simp; omega)]
    rw [this]
    unfold rowA
    apply Array.toList_inj.1
    simp only [List.map_append, List.map_take, List.map_drop]
    rw [Nat.zero_add, Nat.mul_one, List.take_append_of_le_length (by simp; omega), List.drop_append_of_le_length (by simp; omega)]
    simp [List.append_assoc]
  rw [hrow] at hr
  refine ⟨_, _, _, run_v ?_, hs.setRow hU, rfl, rfl⟩
  simp only [List.map_toArray, List.map_cons, List.map_nil, ha.eval hx, ha.eval hy]
  exact hr
theorem bits_top {a : Int} (h : 0 ≤ a ∧ a < 9223372036854775808) : bits .or .u64 9223372036854775808 a = 9223372036854775808 + a := by
  have := bits_or_u64_nat 9223372036854775808 a.toNat (by omega) (by omega)
  rw [Int.toNat_of_nonneg h.1] at this
  refine this.trans ?_
  have e : (9223372036854775808 ||| a.toNat : Nat) = 9223372036854775808 + a.toNat := by
    rw [show (9223372036854775808 : Nat) = 2 ^ 63 * 1 from rfl]
    exact (Nat.two_pow_add_eq_or_of_lt (by omega) 1).symm
  rw [e]; omega
end
end Go.Proofs.YtepddopgmhdllaaGreat.Eng
namespace Go.Proofs.YtepddopgmhdllaaGreat.Eng
open Go Go.RowKit Go.Proofs.YtepddopgmhdllaaGreat.Sl
set_option linter.unusedVariables false
set_option linter.unusedSimpArgs false
section
variable {P : Program} {N : Nat} {w0 : World} {E F : Env} {H H' D : HL} {R : Post} {ops : Array Oper} {o : Oper} {v : Value} {n i j k : Nat} {listed : Array Bool} {K : HL → Prop}
def inK (w0 : World) (K : HL → Prop) (w : World) : Prop := ∃ D, K D ∧ Sat w0 D w
structure AK (P : Program) (N : Nat) (w0 : World) (ops : Array Oper) (K : HL → Prop) (n : Nat) (listed : Array Bool) (E : Env) (H : HL) (R : Post) : Prop where
  out : ∀ a w, Holds N E a → Sat w0 H w → wpC P ops (inK w0 K) (fun a w => lift N w0 R .normal a w) n listed a w
structure OK_ (P : Program) (N : Nat) (w0 : World) (ops : Array Oper) (K : HL → Prop) (n : Nat) (listed : Array Bool) (o : Oper) (E : Env) (H : HL) (R : Post) : Prop where
  out : ∀ a w, Holds N E a → Sat w0 H w → if Region.wanted o (yielded ops a.tmps) then o.wp P a w (wpC P ops (inK w0 K) (fun a w => lift N w0 R .normal a w) n listed) noQ
    else wpC P ops (inK w0 K) (fun a w => lift N w0 R .normal a w) n listed (a.put o.dst undef) w
theorem W_regionK (K : HL → Prop) {id : Nat} {l : List Oper} (hm : P.follows .mixedOrders = true) (h : AK P N w0 l.toArray K l.length (Array.replicate l.length false) E H R) : W P N w0 (.region id l.toArray true) E H R := by
    refine ⟨fun a w ha hs => ?_⟩
    refine wp_region_any hm ?_
    have := h.out a { w with drawn := w.drawn + 1 } ha hs.drew
    simpa using wpAny_of_C (fun _ _ q => q) _ _ _ _ this
def KC (K : HL → Prop) (H : HL) : Prop := ∃ D, K D ∧ Cv H D
theorem KC.in (h : KC K H) {w : World} (hs : Sat w0 H w) : inK w0 K w := by
  obtain ⟨D, h1, h2⟩ := h; exact ⟨D, h1, h2.sat hs⟩
theorem K_val {t : Tmp} (i : Nat) (ho : ops[i]? = some o) (hB : firstB ops listed i = true) (hw : wantE ops E o = some true) (hd : o.dst = some t) (ht : Nat.blt t N = true) (cv : KC K H) (hv : ∀ D, K D → OpV P N w0 o E D v)
    (hk : AK P N w0 ops K n (listed.setIfInBounds i true) ((t, v) :: E) H R) : AK P N w0 ops K (n + 1) listed E H R := by
  refine ⟨fun a w ha hs => ?_⟩
  simp only [firstB, Bool.and_eq_true] at hB
  refine wpC_first (v := v) ho (Region.noSelect_spec hB.1.1) n listed a w (Region.free_spec ho hB.2) (by simpa using hB.1.2) (.inl ⟨wanted_of ha hw, fun w hC => ?_⟩) (cv.in hs) ?_
  · obtain ⟨D, h1, h2⟩ := hC; exact (hv D h1).out a w ha h2
  · exact hk.out _ _ (ha.put hd ht v) hs
theorem K_nil (hr : Region.ready .any ops listed = []) (cv : KC K H) (h : R .normal E H) : AK P N w0 ops K n listed E H R := by
  refine ⟨fun a w ha hs => ?_⟩
  cases n with
  | zero => exact ⟨cv.in hs, hr, E, H, ha, hs, h⟩
  | succ n => exact ⟨cv.in hs, fun _ => ⟨E, H, ha, hs, h⟩, fun i hi => by rw [hr] at hi; cases hi⟩
theorem K_one (hr : Region.ready .any ops listed = [i]) (cv : KC K H) (ho : ops[i]? = some o) (h : OK_ P N w0 ops K n (listed.setIfInBounds i true) o E H R) : AK P N w0 ops K (n + 1) listed E H R := by
  refine ⟨fun a w ha hs => ?_⟩
  refine ⟨cv.in hs, fun e => (by rw [hr] at e; cases e), fun k hk => ?_⟩
  rw [hr, List.mem_singleton] at hk
  subst hk
  unfold opC
  simp only [ho]
  exact h.out a w ha hs
theorem OK_of_L (h : ∀ (S : Post), (∀ E' H', AK P N w0 ops K n listed E' H' R → S .normal E' H') → L P N w0 ops [o] E H S) : OK_ P N w0 ops K n listed o E H R := by
  refine ⟨fun a w ha hs => ?_⟩
  have h1 := (h (fun e E' H' => e = .normal ∧ AK P N w0 ops K n listed E' H' R) (fun _ _ q => ⟨rfl, q⟩)).out a w ha hs
  have key : ∀ a' w', wpList P ops (lift N w0 fun e E' H' => e = .normal ∧ AK P N w0 ops K n listed E' H' R) [] a' w' → wpC P ops (inK w0 K) (fun a w => lift N w0 R .normal a w) n listed a' w' := by
    rintro a' w' ⟨E', H', h2, h3, _, h4⟩
    exact h4.out a' w' h2 h3
  have noout : ∀ a w, ¬ lift N w0 (fun e E' H' => e = .normal ∧ AK P N w0 ops K n listed E' H' R) .outgrown a w := by
    rintro a w ⟨_, _, _, _, h, _⟩; cases h
  have nopan : ∀ c a w, ¬ lift N w0 (fun e E' H' => e = .normal ∧ AK P N w0 ops K n listed E' H' R) (.panic c) a w := by
    rintro c a w ⟨_, _, _, _, h, _⟩; cases h
  unfold wpList at h1
  split
  · rename_i hw
    rw [if_pos hw] at h1
    rcases h1 with h1 | ⟨_, a', w', h1⟩
    · unfold Oper.wp at *
      generalize (execOp a.eval o).run P w = r at *
      cases r with
      | ok x w' =>
        cases x <;> simp only [Oper.upon] at h1 ⊢ <;> try exact key _ _ h1
        case enter f args =>
          refine h1.mono fun e w' he => ?_
          cases e with
          | returned v => exact key _ _ he
          | panicked c => exact (nopan _ _ _ he).elim
          | outgrown => obtain ⟨a', w', he⟩ := he; exact (noout _ _ he).elim
        case row r args => exact h1.mono fun v w' he => key _ _ he
      | halt x w' =>
        cases x <;> simp only [Oper.upon] at h1 ⊢
        exact (nopan _ _ _ h1).elim
    · exact (noout _ _ h1).elim
  · rename_i hw
    rw [if_neg hw] at h1
    exact key _ _ h1
theorem A_three {o1 o2 o3 : Oper} (hr : Region.ready .any ops listed = [i, j, k]) (cv : Cv H D) (h1 : ops[i]? = some o1) (h2 : ops[j]? = some o2) (h3 : ops[k]? = some o3) (g1 : O P N w0 ops D n (listed.setIfInBounds i true) o1 E H R)
    (g2 : O P N w0 ops D n (listed.setIfInBounds j true) o2 E H R) (g3 : O P N w0 ops D n (listed.setIfInBounds k true) o3 E H R) : A P N w0 ops D (n + 1) listed E H R := by
  refine ⟨fun a w ha hs => ?_⟩
  refine ⟨cv.sat hs, fun e => (by rw [hr] at e; cases e), fun k hk => ?_⟩
  rw [hr] at hk
  unfold opC
  simp only [List.mem_cons, List.not_mem_nil, or_false] at hk
  rcases hk with rfl | rfl | rfl
  · simp only [h1]; exact g1.out a w ha hs
  · simp only [h2]; exact g2.out a w ha hs
  · simp only [h3]; exact g3.out a w ha hs
end
end Go.Proofs.YtepddopgmhdllaaGreat.Eng
