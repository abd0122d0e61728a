/- Operations and plain words for an arena that was made just now. -/
import Derived.Test.YtfmhlieaodbgiaaGreatAF
import Derived.Test.YtfmhlieaodbgiaaGreatBkS
import Derived.Test.YtfmhlieaodbgiaaGreatBkI0
import Derived.ArgAppend
namespace Go.Proofs.YtfmhlieaodbgiaaGreat.Ar
open Go.Proofs.YtfmhlieaodbgiaaGreat.Base
def zeroW (ws : List Int) (p k : Int) : List Int := (List.range ws.length).map fun (j : Nat) => if p ≤ (j : Int) ∧ (j : Int) < p + k then 0 else g ws (j : Int)
/-- the word of a head -/
def hWord (k s n : Int) : Int := k + s * 16 + n * 1048576
def Ar.born (A : Ar) (k : Int) : Int := if BornP k then A.serial else 0
def Ar.mkO (A : Ar) (k s : Int) : Ar := { A with ws := zeroW (A.ws.set A.top.toNat (hWord k s (A.born k))) (A.top + 1) s, top := A.top + (s + 1), serial := if BornP k then A.serial + 1 else A.serial }
def w64 (n : Int) : Int := n % 18446744073709551616
def Ar.putV (A : Ar) (a t n : Int) : Ar := { A with ws := (A.ws.set a.toNat (w64 t)).set (a + 1).toNat (w64 n) }
/-- a new arena -/
def fresh (s n : Int) : Ar := { ws := List.replicate (2 * s).toNat 0, semi := s, to := 0, top := 1, cyc := false, scan := 0, old := 0, copied := 0, serial := 1, vs := List.replicate n.toNat (0, 0) }
end Go.Proofs.YtfmhlieaodbgiaaGreat.Ar
namespace Go.Proofs.YtfmhlieaodbgiaaGreat.Eng
open Go Go.RowKit Go.Proofs.YtfmhlieaodbgiaaGreat.Sl Go.Proofs.YtfmhlieaodbgiaaGreat.Ar Go.Proofs.YtfmhlieaodbgiaaGreat.Base
set_option linter.unusedVariables false
set_option linter.unusedSimpArgs false
set_option maxRecDepth 10000
abbrev aObjG (C : Cn) (A : Ar) (rp : Option Addr) (rc : Nat) : Obj := .cells #[.slice (some ⟨C.bw, 0, none⟩) A.ws.length C.wc, .int .i64 A.semi, .int .i64 A.to, .int .i64 A.top, .bool A.cyc, .int .i64 A.scan, .int .i64 A.old, .int .i64 A.copied, .int .i64 A.serial, .slice rp A.vs.length rc] 33 (0, 0)
abbrev aObj (C : Cn) (A : Ar) : Obj := aObjG C A (some ⟨C.br, 0, none⟩) C.rc
theorem g_out {l : List Int} {j : Int} (h : (l.length : Int) ≤ j) : g l j = 0 := by
  unfold g; rw [List.getD_eq_getElem?_getD, List.getElem?_eq_none (by omega)]; rfl
theorem g_set {xs : List Int} {i j u : Int} (hi : 0 ≤ i) (hi2 : i < (xs.length : Int)) (hj : 0 ≤ j) : g (xs.set i.toNat u) j = if j = i then u else g xs j := by
  unfold g
  simp only [List.getD_eq_getElem?_getD, List.getElem?_set]
  by_cases e : j = i
  · subst e; rw [if_pos rfl, if_pos (by omega), if_pos rfl]; rfl
  · rw [if_neg (by omega), if_neg e]
theorem list_g {l l' : List Int} (h : l.length = l'.length) (hg : ∀ q : Int, 0 ≤ q → g l q = g l' q) : l = l' := by
  apply List.ext_getElem h
  intro i h1 h2
  have := hg (i : Int) (by omega)
  unfold g at this
  rw [List.getD_eq_getElem?_getD, List.getD_eq_getElem?_getD, Int.toNat_natCast, List.getElem?_eq_getElem h1, List.getElem?_eq_getElem h2] at this
  exact this
theorem length_zeroW {ws : List Int} {p k : Int} : (zeroW ws p k).length = ws.length := by simp [zeroW]
theorem g_zeroW {ws : List Int} {p k j : Int} (hj : 0 ≤ j) : g (zeroW ws p k) j = if p ≤ j ∧ j < p + k then 0 else g ws j := by
  by_cases c : j < (ws.length : Int)
  · have hl : j.toNat < ws.length := by omega
    have e : ((j.toNat : Nat) : Int) = j := by omega
    have : g (zeroW ws p k) j = if p ≤ j ∧ j < p + k then 0 else g ws j := by
      show List.getD _ _ _ = _
      unfold zeroW
      rw [List.getD_eq_getElem?_getD, List.getElem?_map, List.getElem?_range hl]
      simp only [Option.map_some, Option.getD_some, e]
    exact this
  · rw [g_out (by rw [length_zeroW]; omega), g_out (by omega)]; split <;> rfl
theorem zeroW_0 {ws : List Int} {p : Int} (hp : 0 ≤ p) : zeroW ws p 0 = ws := by
  apply List.ext_getElem (by rw [length_zeroW])
  intro i h1 h2
  have e1 := g_zeroW (ws := ws) (p := p) (k := 0) (j := (i : Int)) (by omega)
  rw [if_neg (by omega)] at e1
  unfold g at e1
  rw [List.getD_eq_getElem?_getD, List.getD_eq_getElem?_getD, Int.toNat_natCast, List.getElem?_eq_getElem h1, List.getElem?_eq_getElem h2] at e1
  exact e1
theorem zeroW_succ {ws : List Int} {p k : Int} (hp : 0 ≤ p) (hk : 0 ≤ k) (hl : p + k < (ws.length : Int)) : (zeroW ws p k).set (p + k).toNat 0 = zeroW ws p (k + 1) := by
  apply List.ext_getElem (by rw [List.length_set, length_zeroW, length_zeroW])
  intro i h1 h2
  have e1 := g_set (xs := zeroW ws p k) (i := p + k) (j := (i : Int)) (u := 0) (by omega) (by rw [length_zeroW]; omega) (by omega)
  rw [g_zeroW (by omega)] at e1
  have e2 := g_zeroW (ws := ws) (p := p) (k := k + 1) (j := (i : Int)) (by omega)
  have e3 : g ((zeroW ws p k).set (p + k).toNat 0) (i : Int) = g (zeroW ws p (k + 1)) (i : Int) := by
    rw [e1, e2]
    by_cases c : (i : Int) = p + k
    · rw [if_pos c, if_pos (by omega)]
    · rw [if_neg c]
      by_cases d : p ≤ (i : Int) ∧ (i : Int) < p + k
      · rw [if_pos d, if_pos (by omega)]
      · rw [if_neg d, if_neg (by omega)]
  unfold g at e3
  rw [List.getD_eq_getElem?_getD, List.getD_eq_getElem?_getD, Int.toNat_natCast, List.getElem?_eq_getElem h1, List.getElem?_eq_getElem h2] at e3
  exact e3
theorem wrap_w64 (n : Int) : IntKind.u64.wrap n = w64 n := by simp [IntKind.wrap, IntKind.bits, IntKind.signed, w64]
section
variable {P : Program} {N : Nat} {w0 w : World} {E : Env} {H H' H1 : HL} {o : Oper} {x y z : Operand} {T T2 e ty : TypeId} {v u zv : Value} {k bytes b b1 m c : Nat} {ops : Array Oper} {rest : List Oper} {R : Post} {news sp : List Value}
theorem info_of [TInfo P e zv k bytes] : ∃ i, P.info? e = some i ∧ i.zero = some zv ∧ i.size = k ∧ i.bytes = bytes := by
  have := TInfo.out (P := P) (T := e) (z := zv) (n := k) (bytes := bytes)
  cases hq : P.info? e with
  | none => simp [hq] at this
  | some i => exact ⟨i, rfl, by simpa [hq] using this⟩
theorem app_some [TSlice P T e k] [TInfo P e zv k bytes] (hk : 0 < k) (hs : Sat w0 H w) (hA : At H b1 (.cells (news ++ sp).toArray e (0, 0))) (hn : news.length = m * k) (hT : Tk H b (.cells #[] e (0, 0)) H1) (hm : m ≤ 1048576) (hb : bytes ≤ 1000) :
    ∃ w' b' c' sp', (Builtin.append_ #[T, T] ty #[.slice (some ⟨b, 0, none⟩) 0 0, .slice (some ⟨b1, 0, none⟩) m c]).run P w = .ok (.slice (some ⟨b', 0, none⟩) m c') w' ∧ m ≤ c' ∧ Sat w0 ((b', .cells (news ++ sp').toArray e (0, 0)) :: H1) w' := by
  obtain ⟨i, hi, h1, h2, h3⟩ := info_of (P := P) (e := e) (zv := zv) (k := k) (bytes := bytes)
  subst h2; subst h3
  have ht := TSlice.out (P := P) (T := T) (e := e)
  have hs' := hs.perm hT.perm
  have hnews : ∀ j v, news[j]? = some v → w.cell? (Addr.add ⟨b1, 0, none⟩ j) = some v := by
    intro j v hj
    rw [add_none, hs.cell hA]
    simp only [Nat.zero_add, List.getElem?_toArray]
    rw [List.getElem?_append_left (List.getElem?_eq_some_iff.1 hj).1]; exact hj
  by_cases h0 : m = 0
  · subst h0
    have hnil : news = [] := List.eq_nil_of_length_eq_zero (by simpa using hn)
    subst hnil
    have := run_append_room_cells (P := P) w T ty e i ht hi b 0 0 0 ⟨b1, 0, none⟩ 0 c [] (by simp) (by simp) (by simp) (by simp) (by simp) (by simp)
    exact ⟨_, b, 0, [], this, Nat.le_refl _, hs'⟩
  · have := run_append_grow (P := P) w T ty e i zv ht hi h1 ⟨b, 0, none⟩ 0 0 [] (by simp) (by simp) ⟨b1, 0, none⟩ m c news hn hnews (by omega) (by omega) (by
      rw [Nat.zero_add, nextslicecap_zero (by omega)]
      have : m * i.bytes ≤ 1048576 * 1000 := Nat.mul_le_mul hm hb
      omega)
    rw [Nat.zero_add] at this
    refine ⟨_, _, _, (Builtin.zeroCells zv.cells (grownCap w m 0 e - m)).toList, this, grownCap_ge w m 0 e, ?_⟩
    have hal := (hs'.drop.drew).alloc (.cells ([].toArray ++ news.toArray ++ Builtin.zeroCells zv.cells (grownCap w m 0 e - m)) e)
    have ec : ([].toArray ++ news.toArray ++ Builtin.zeroCells zv.cells (grownCap w m 0 e - m)) = (news ++ (Builtin.zeroCells zv.cells (grownCap w m 0 e - m)).toList).toArray := by
      apply Array.toList_inj.1; simp
    rw [ec] at hal ⊢
    exact hal
theorem app_nil [TSlice P T e k] [TInfo P e zv k bytes] (hk : 0 < k) (hs : Sat w0 H w) (hA : At H b1 (.cells (news ++ sp).toArray e (0, 0))) (hn : news.length = m * k) (hm : m ≤ 1048576) (hb : bytes ≤ 1000) (h0 : 0 < m) :
    ∃ w' b' c' sp', (Builtin.append_ #[T, T] ty #[.slice none 0 0, .slice (some ⟨b1, 0, none⟩) m c]).run P w = .ok (.slice (some ⟨b', 0, none⟩) m c') w' ∧ m ≤ c' ∧ Sat w0 ((b', .cells (news ++ sp').toArray e (0, 0)) :: H) w' := by
  obtain ⟨i, hi, h1, h2, h3⟩ := info_of (P := P) (e := e) (zv := zv) (k := k) (bytes := bytes)
  subst h2; subst h3
  have ht := TSlice.out (P := P) (T := T) (e := e)
  have hnews : ∀ j v, news[j]? = some v → w.cell? (Addr.add ⟨b1, 0, none⟩ j) = some v := by
    intro j v hj
    rw [add_none, hs.cell hA]
    simp only [Nat.zero_add, List.getElem?_toArray]
    rw [List.getElem?_append_left (List.getElem?_eq_some_iff.1 hj).1]; exact hj
  have := run_append_nil (P := P) w T ty e i zv ht hi h1 ⟨b1, 0, none⟩ m c news hn hnews h0 (by omega) (by
      have : m * i.bytes ≤ 1048576 * 1000 := Nat.mul_le_mul hm hb
      omega)
  refine ⟨_, _, _, (Builtin.zeroCells zv.cells (grownCap w m 0 e - m)).toList, this, grownCap_ge w m 0 e, ?_⟩
  have hal := (hs.drew).alloc (.cells (news.toArray ++ Builtin.zeroCells zv.cells (grownCap w m 0 e - m)) e)
  have ec : (news.toArray ++ Builtin.zeroCells zv.cells (grownCap w m 0 e - m)) = (news ++ (Builtin.zeroCells zv.cells (grownCap w m 0 e - m)).toList).toArray := by
    apply Array.toList_inj.1; simp
  rw [ec] at hal ⊢
  exact hal
theorem app_none [TSlice P T e k] [TInfo P e zv k bytes] {a : Addr} : (Builtin.append_ #[T, T] ty #[.slice none 0 0, .slice (some a) 0 c]).run P w = .ok (.slice none 0 0) w := by
  obtain ⟨i, hi, h1, h2, h3⟩ := info_of (P := P) (e := e) (zv := zv) (k := k) (bytes := bytes)
  have ht := TSlice.out (P := P) (T := T) (e := e)
  simp [Builtin.append_, run_underlying ht, sizeOf, typeInfo, hi, Builtin.lenOf, Builtin.firstCells, loadCells, loadCellsFrom]
theorem L_appE {t : Tmp} [TSlice P T e k] [TInfo P e zv k bytes] (hw : wantE ops E o = some true) (hd : o.dst = some t) (ht : Nat.blt t N = true) (ho : o.op = .call { callee := .builtin .append, args := #[x, y], argTypes := #[T, T] })
    (hx : ev E x = some (.slice (some ⟨b, 0, none⟩) 0 0)) (hy : ev E y = some (.slice (some ⟨b1, 0, none⟩) m c)) (hA : At H b1 (.cells (news ++ sp).toArray e (0, 0))) (hn : news.length = m * k) (hT : Tk H b (.cells #[] e (0, 0)) H1) (hk : Nat.blt 0 k = true) (hm : m ≤ 1048576) (hb : Nat.ble bytes 1000 = true)
    (hK : ∀ b' c' sp', m ≤ c' → L P N w0 ops rest ((t, .slice (some ⟨b', 0, none⟩) m c') :: E) ((b', .cells (news ++ sp').toArray e (0, 0)) :: H1) R) : L P N w0 ops (o :: rest) E H R := by
  refine L_eff (S := fun u H' => ∃ b' c' sp', u = .slice (some ⟨b', 0, none⟩) m c' ∧ m ≤ c' ∧ H' = (b', .cells (news ++ sp').toArray e (0, 0)) :: H1) hw hd ht (fun A w ha hs => ?_) (fun u H' ⟨b', c', sp', e1, e2, e3⟩ => by subst e1; subst e3; exact hK b' c' sp' e2)
  rw [exec_builtin _ ho]
  obtain ⟨w', b', c', sp', h1, h2, h3⟩ := app_some (P := P) (T := T) (e := e) (k := k) (bytes := bytes) (zv := zv) (ty := o.type) (c := c) (Nat.le_of_ble_eq_true hk) hs hA hn hT hm (Nat.le_of_ble_eq_true hb)
  refine ⟨_, w', _, run_v ?_, h3, b', c', sp', rfl, h2, rfl⟩
  simp only [List.map_toArray, List.map_cons, List.map_nil, ha.eval hx, ha.eval hy]
  exact h1
theorem L_appN {t : Tmp} [TSlice P T e k] [TInfo P e zv k bytes] (hw : wantE ops E o = some true) (hd : o.dst = some t) (ht : Nat.blt t N = true) (ho : o.op = .call { callee := .builtin .append, args := #[x, y], argTypes := #[T, T] })
    (hx : ev E x = some (.slice none 0 0)) (hy : ev E y = some (.slice (some ⟨b1, 0, none⟩) m c)) (hA : At H b1 (.cells (news ++ sp).toArray e (0, 0))) (hn : news.length = m * k) (hk : Nat.blt 0 k = true) (hm : m ≤ 1048576) (hb : Nat.ble bytes 1000 = true)
    (h0 : m = 0 → L P N w0 ops rest ((t, .slice none 0 0) :: E) H R)
    (hK : ∀ b' c' sp', 0 < m → m ≤ c' → L P N w0 ops rest ((t, .slice (some ⟨b', 0, none⟩) m c') :: E) ((b', .cells (news ++ sp').toArray e (0, 0)) :: H) R) : L P N w0 ops (o :: rest) E H R := by
  refine L_eff (S := fun u H' => (m = 0 ∧ u = .slice none 0 0 ∧ H' = H) ∨ ∃ b' c' sp', 0 < m ∧ u = .slice (some ⟨b', 0, none⟩) m c' ∧ m ≤ c' ∧ H' = (b', .cells (news ++ sp').toArray e (0, 0)) :: H) hw hd ht (fun A w ha hs => ?_) (fun u H' hS => by
    rcases hS with ⟨e1, e2, e3⟩ | ⟨b', c', sp', e0, e1, e2, e3⟩
    · subst e2; subst e3; exact h0 e1
    · subst e1; subst e3; exact hK b' c' sp' e0 e2)
  rw [exec_builtin _ ho]
  by_cases c0 : m = 0
  · refine ⟨_, w, _, run_v ?_, hs, .inl ⟨c0, rfl, rfl⟩⟩
    simp only [List.map_toArray, List.map_cons, List.map_nil, ha.eval hx, ha.eval hy]
    subst c0
    exact app_none (k := k) (zv := zv) (bytes := bytes)
  · obtain ⟨w', b', c', sp', h1, h2, h3⟩ := app_nil (P := P) (T := T) (e := e) (k := k) (bytes := bytes) (zv := zv) (ty := o.type) (c := c) (Nat.le_of_ble_eq_true hk) hs hA hn hm (Nat.le_of_ble_eq_true hb) (by omega)
    refine ⟨_, w', _, run_v ?_, h3, .inr ⟨b', c', sp', by omega, rfl, h2, rfl⟩⟩
    simp only [List.map_toArray, List.map_cons, List.map_nil, ha.eval hx, ha.eval hy]
    exact h1
end
section
variable {P : Program} {N : Nat} {w0 w : World} {E : Env} {H H' H1 : HL} {o : Oper} {x y z : Operand} {T T2 e ty : TypeId} {v u zv : Value} {k bytes b b1 m c : Nat} {ops : Array Oper} {rest : List Oper} {R : Post} {news sp : List Value} {d_ : Option Tmp} {ty_ : TypeId} {pos_ : String} {af_ : Array Edge} {gd_ : Option (Nat × Bool)}
theorem L_eff0 (hw : wantE ops E o = some true) (hd : o.dst = none)
    (hr : ∀ a w, Holds N E a → Sat w0 H w → ∃ v w', (execOp a.eval o).run P w = .ok (.value v) w' ∧ Sat w0 H' w')
    (hk : L P N w0 ops rest E H' R) : L P N w0 ops (o :: rest) E H R := by
  refine ⟨fun a w ha hs => ?_⟩
  refine wpList_step fun K hK => ?_
  rw [if_pos (wanted_of ha hw)]
  obtain ⟨v, w', e, h1⟩ := hr a w ha hs
  unfold Oper.wp
  rw [e]
  exact hK _ _ (hk.out _ _ (by rw [hd]; exact ha) h1)
theorem zeroW_cons {ws : List Int} {p k : Int} (hp : 0 ≤ p) (hk : 0 ≤ k) (hl : p < (ws.length : Int)) : zeroW (ws.set p.toNat 0) (p + 1) k = zeroW ws p (k + 1) := by
  refine list_g (by rw [length_zeroW, length_zeroW, List.length_set]) (fun q hq => ?_)
  rw [g_zeroW hq, g_zeroW hq, g_set hp hl hq]
  by_cases c : q = p
  · rw [if_pos c, if_neg (by omega), if_pos (by omega)]
  · rw [if_neg c]
    by_cases d : p + 1 ≤ q ∧ q < p + 1 + k
    · rw [if_pos d, if_pos (by omega)]
    · rw [if_neg d, if_neg (by omega)]
theorem putAt_zero {sp : List Value} : ∀ (n : Nat) (ws : List Int) (p : Nat), p + n ≤ ws.length → putAt (rowA .u64 ws sp) p (List.replicate n (.int .u64 0)) = rowA .u64 (zeroW ws (p : Int) (n : Int)) sp := by
  intro n
  induction n with
  | zero => intro ws p h; show _ = rowA .u64 (zeroW ws (p : Int) 0) sp; rw [zeroW_0 (by omega)]; rfl
  | succ n ih =>
    intro ws p h
    rw [List.replicate_succ, putAt]
    have e1 : (rowA .u64 ws sp).setIfInBounds p (.int .u64 0) = rowA .u64 (ws.set p 0) sp := by
      have := rowA_set (k := .u64) (xs := ws) (sp := sp) (i := (p : Int)) (u := 0) (by omega) (by omega)
      rw [Int.toNat_natCast, Nat.zero_add, Nat.mul_one] at this; exact this
    rw [e1, ih _ _ (by rw [List.length_set]; omega)]
    have := zeroW_cons (ws := ws) (p := (p : Int)) (k := (n : Int)) (by omega) (by omega) (by omega)
    rw [Int.toNat_natCast] at this
    rw [show ((n + 1 : Nat) : Int) = (n : Int) + 1 by omega, ← this]; rfl
theorem zeroCells_one (z : Value) (n : Nat) : (Builtin.zeroCells #[z] n).toList = List.replicate n z := by
  unfold Builtin.zeroCells
  apply List.ext_getElem?
  intro i
  by_cases h : i < n
  · simp [List.getElem?_replicate, h, Nat.mod_one]
  · simp [List.getElem?_replicate, h]
/-- clear of a piece of a row of words -/
theorem L_clear {ws : List Int} {sp : List Value} {p zz : Int} {l c : Nat} [TSlice P T e 1] [TInfo P e (.int .u64 0) 1 bytes] (hw : wantE ops E o = some true) (hd : o.dst = none) (ho : o.op = .call { callee := .builtin .clear, args := #[x], argTypes := #[T] })
    (hx : ev E x = some (.slice (some ⟨b, 0 + p.toNat * 1, none⟩) l c)) (hl : (l : Int) = zz) (hz : 1 ≤ zz) (hp : 0 ≤ p) (hp2 : p + zz ≤ (ws.length : Int))
    (hU : Up H b (.cells (rowA .u64 ws sp) e (0, 0)) (.cells (rowA .u64 (zeroW ws p zz) sp) e (0, 0)) H') (hK : L P N w0 ops rest E H' R) : L P N w0 ops (o :: rest) E H R := by
  subst hl
  refine L_eff0 hw hd (fun A w ha hs => ?_) hK
  rw [exec_builtin _ ho]
  obtain ⟨i, hi, h1, h2, h3⟩ := info_of (P := P) (e := e) (zv := .int .u64 0) (k := 1) (bytes := bytes)
  have ht := TSlice.out (P := P) (T := T) (e := e)
  have hzv : ∀ w, (zeroValue e).run P w = .ok (.int .u64 0) w := fun w => by simp [zeroValue, typeInfo, hi, h1]
  have hcs := putAt_zero (sp := sp) l ws p.toNat (by omega)
  rw [Int.toNat_of_nonneg hp] at hcs
  rw [← hcs] at hU
  obtain ⟨w', hr, hs'⟩ := run_storeCells_putAt (P := P) (List.replicate l (.int .u64 0)) 0 p.toNat (rowA .u64 ws sp) w H H' hs (by simpa using hU) (by rw [size_rowA]; simp; omega) (fun v hv => by rw [List.mem_replicate] at hv; rw [hv.2]; rfl)
  refine ⟨.tuple #[], w', run_v ?_, hs'⟩
  simp only [List.map_toArray, List.map_cons, List.map_nil, ha.eval hx]
  obtain ⟨l', rfl⟩ : ∃ l', l = l' + 1 := ⟨l - 1, by omega⟩
  have hzc : (Builtin.zeroCells (Value.int .u64 0).cells (l' + 1)).toList = List.replicate (l' + 1) (.int .u64 0) := zeroCells_one _ _
  simp [Builtin.clear_, run_underlying ht, hzv, hzc, hr]
theorem v_shl20 {a : Int} (hx : ev E x = some (.int .i64 a)) (hy : ev E y = some (.int .u64 20)) (h : 0 ≤ a ∧ a ≤ 1000000000000) : OpV P N w0 ⟨d_, .binOp .shl T x y T2, ty_, pos_, af_, gd_⟩ E H (.int .i64 (a * 1048576)) := by
  have := v_shl (P := P) (N := N) (w0 := w0) (H := H) (T := T) (T2 := T2) (d_ := d_) (ty_ := ty_) (pos_ := pos_) (af_ := af_) (gd_ := gd_) hx hy (by decide) (by decide)
  have e : IntKind.i64.wrap (a * 2 ^ (20 : Int).toNat) = a * 1048576 := by
    rw [show (2 : Int) ^ (20 : Int).toNat = 1048576 from rfl]
    rw [IntKind.wrap_i64]; omega
  rwa [e] at this
end
section
variable {P : Program} {N : Nat} {w0 : World} {E : Env} {H : HL} {o : Oper} {x y z : Operand} {T : TypeId} {k k2 : IntKind} {l h : Int} {d_ : Option Tmp} {ty_ : TypeId} {pos_ : String} {af_ : Array Edge} {gd_ : Option (Nat × Bool)}
theorem ov_slice {e : TypeId} {n : Nat} [TSlice P T e n] {bk of len cap : Nat} (ho : o.op = .slice T x (some y) (some z) none) (hx : ev E x = some (.slice (some ⟨bk, of, none⟩) len cap)) (hy : ev E y = some (.int k l)) (hz : ev E z = some (.int k2 h)) (h0 : 0 ≤ l) (h1 : l ≤ h) (h2 : h ≤ (cap : Int)) (h3 : l < (cap : Int)) :
    OpV P N w0 o E H (.slice (some ⟨bk, of + l.toNat * n, none⟩) (h.toNat - l.toNat) (cap - l.toNat)) := by
  refine ⟨fun A w ha hs => ?_⟩
  have hu := TSlice.out (P := P) (T := T) (e := e) (n := n)
  have hel : P.elem T = e := by simp [Program.elem, hu]
  have hu' : P.underlying T = some (.slice (P.elem T)) := by rw [hel]; exact hu
  unfold execOp; rw [ho]; refine run_v ?_
  simp only [Option.map_some, Option.map_none]
  rw [ha.eval hx, ha.eval hy, ha.eval hz, run_sliceAt_slice _ _ _ _ _ _ hu', run_slice_lh _ _ _ _ _ hu' _ _ _ _ h0 h1 h2, hel, run_sizeOf (TSlice.size (P := P) (T := T))]
  have : cap ≠ l.toNat := by omega
  simp [Result.andThen, sliced, this, add_none]
theorem v_slice {e : TypeId} {n : Nat} [TSlice P T e n] {bk of len cap : Nat} (hx : ev E x = some (.slice (some ⟨bk, of, none⟩) len cap)) (hy : ev E y = some (.int k l)) (hz : ev E z = some (.int k2 h)) (h0 : 0 ≤ l) (h1 : l ≤ h) (h2 : h ≤ (cap : Int)) (h3 : l < (cap : Int)) :
    OpV P N w0 ⟨d_, .slice T x (some y) (some z) none, ty_, pos_, af_, gd_⟩ E H (.slice (some ⟨bk, of + l.toNat * n, none⟩) (h.toNat - l.toNat) (cap - l.toNat)) := ov_slice rfl hx hy hz h0 h1 h2 h3
end
section
variable {P : Program} {N : Nat} {w0 : World} {E : Env} {H : HL} {T : TypeId} {v v2 : Value}
theorem retCTT {fn : Func} {t u u2 n bk : Nat} {cs : Array Value} {ty : TypeId} {fr : Nat × Nat} [TAgg P T n] (h : fn.results = #[.cell t T, .tmp u, .tmp u2]) (hv : look E t = some (.pointer (some ⟨bk, 0, none⟩))) (hA : At H bk (.cells cs ty fr)) (hn : cs.size = n)
    (hu : look E u = some v) (hu2 : look E u2 = some v2) : RetV P N w0 fn E H (.tuple #[.agg cs, v, v2]) := by
  refine ⟨fun a w ha hs => ?_⟩
  obtain ⟨d, h1, h2⟩ := TAgg.agg (P := P) (T := T)
  have hl := run_loadCells_ext (P := P) (i := 0) (n := n) hs hA (by omega)
  have he : cs.extract 0 (0 + n) = cs := by rw [Nat.zero_add, ← hn]; simp
  rw [he] at hl
  simp [results, h, Array.getD_eq_getD_getElem?, ha.at_ t _ hv, ha.at_ u _ hu, ha.at_ u2 _ hu2, asAddr, loadVar, run_isAgg h1 h2, run_sizeOf (TAgg.size (P := P) (T := T)), hl]
end
section
variable {P : Program} {N : Nat} {w0 : World} {E : Env} {H : HL} {T : TypeId} {d_ : Option Tmp} {ty_ : TypeId} {pos_ : String} {af_ : Array Edge} {gd_ : Option (Nat × Bool)} {x0 x1 x3 x8 x9 : Operand} {u0 u1 u3 u8 u9 : Value}
theorem v_build5 {z : List Value} [TFlat P T z] (hz : z.length = 10) (h0 : ev E x0 = some u0) (h1 : ev E x1 = some u1) (h3 : ev E x3 = some u3) (h8 : ev E x8 = some u8) (h9 : ev E x9 = some u9) (o0 : u0.oneCell' = true) (o1 : u1.oneCell' = true) (o3 : u3.oneCell' = true) (o8 : u8.oneCell' = true) (o9 : u9.oneCell' = true)
    {cs : List Value} (hc : setParts z [(0, u0), (1, u1), (3, u3), (8, u8), (9, u9)] = cs) : OpV P N w0 ⟨d_, .build T #[(0, x0), (1, x1), (3, x3), (8, x8), (9, x9)], ty_, pos_, af_, gd_⟩ E H (.agg cs.toArray) := by
  subst hc
  refine ov_build rfl (vs := [u0, u1, u3, u8, u9]) (by simp [evs, h0, h1, h3, h8, h9]) (built_flat (P := P) (T := T) _ (fun p hp => ?_))
  rw [hz]
  simp at hp
  rcases hp with rfl | rfl | rfl | rfl | rfl
  · exact ⟨by show (0 : Nat) < 10; omega, cells_one o0⟩
  · exact ⟨by show (1 : Nat) < 10; omega, cells_one o1⟩
  · exact ⟨by show (3 : Nat) < 10; omega, cells_one o3⟩
  · exact ⟨by show (8 : Nat) < 10; omega, cells_one o8⟩
  · exact ⟨by show (9 : Nat) < 10; omega, cells_one o9⟩
end
section
variable {A : Ar} {C : Cn} {rp : Option Addr} {rc : Nat}
theorem aObj_put {a t n : Int} : aObjG C (A.putV a t n) rp rc = aObjG C A rp rc := by
  have ew : (A.putV a t n).ws.length = A.ws.length := by show (List.set _ _ _).length = _; rw [List.length_set, List.length_set]
  show Obj.cells #[.slice _ (A.putV a t n).ws.length _, _, _, _, _, _, _, _, _, _] _ _ = _
  rw [ew]; rfl
theorem hWord_r {k s n : Int} (hh : HeadP k s n) : 0 ≤ hWord k s n ∧ hWord k s n < 9223372036854775808 := by
  have := hh.range; unfold hWord; omega
/-- an arena with another serial -/
abbrev aObjS (C : Cn) (A : Ar) (sr : Int) (rp : Option Addr) (rc : Nat) : Obj := .cells #[.slice (some ⟨C.bw, 0, none⟩) A.ws.length C.wc, .int .i64 A.semi, .int .i64 A.to, .int .i64 A.top, .bool A.cyc, .int .i64 A.scan, .int .i64 A.old, .int .i64 A.copied, .int .i64 sr, .slice rp A.vs.length rc] 33 (0, 0)
theorem packU_h {k s n : Int} (hh : HeadP k s n) : packU k s n = hWord k s n := by
  have hr := hh.range
  unfold packU hWord
  simp only [IntKind.wrap, IntKind.bits, IntKind.signed]
  simp
  omega
end
/-- an arena where s more words fit and no copying begins -/
structure FA (A : Ar) (k s : Int) : Prop where
  cyc : A.cyc = false
  to : A.to = 0
  se : 256 ≤ A.semi ∧ A.semi ≤ 4000
  ln : (A.ws.length : Int) = 2 * A.semi
  tp : 1 ≤ A.top
  hf : 2 * (A.top - 1) ≤ A.semi - 1
  rm : A.top + s + 1 ≤ A.semi
  hk : k = 4 ∨ k = 6
  hh : HeadP k s A.serial
theorem FA.born {A : Ar} {k s : Int} (h : FA A k s) : BornP k := by have := h.hk; unfold BornP; omega
theorem FA.bn {A : Ar} {k s : Int} (h : FA A k s) : A.born k = A.serial := by unfold Ar.born; rw [if_pos h.born]
end Go.Proofs.YtfmhlieaodbgiaaGreat.Eng
