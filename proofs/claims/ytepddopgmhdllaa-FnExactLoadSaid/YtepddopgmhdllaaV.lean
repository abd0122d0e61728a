/- The laws on operations, said of the operation written out. -/
import Derived.Test.YtepddopgmhdllaaOps3
namespace Go.Proofs.Ytepddopgmhdllaa.Eng
open Go Go.RowKit Go.Proofs.Ytepddopgmhdllaa.Sl Go.Proofs.Ytepddopgmhdllaa.Ar
set_option linter.unusedVariables false
set_option linter.unusedSimpArgs false
section
variable {P : Program} {N : Nat} {w0 : World} {E : Env} {H H' : HL} {x y z : Operand} {T T2 : TypeId} {v vx vy : Value} {k k2 : IntKind} {a b c : Int} {d_ : Option Tmp} {ty_ : TypeId} {pos_ : String} {af_ : Array Edge} {gd_ : Option (Nat × Bool)}
theorem v_move (hx : ev E x = some v) : OpV P N w0 ⟨d_, .move x, ty_, pos_, af_, gd_⟩ E H v := ov_move rfl hx
theorem v_assign (hx : ev E x = some v) : OpV P N w0 ⟨d_, .assign x, ty_, pos_, af_, gd_⟩ E H v := ov_assign rfl hx
theorem v_pick1 (hx : ev E x = some (.bool true)) (hy : ev E y = some v) : OpV P N w0 ⟨d_, .pick x y z, ty_, pos_, af_, gd_⟩ E H v := ov_pick1 rfl hx hy
theorem v_pick0 (hx : ev E x = some (.bool false)) (hz : ev E z = some v) : OpV P N w0 ⟨d_, .pick x y z, ty_, pos_, af_, gd_⟩ E H v := ov_pick0 rfl hx hz
theorem v_bin {op : BinOp} (hx : ev E x = some vx) (hy : ev E y = some vy)
    (hr : ∀ w, ((do eqGuard op T x y vx vy; binOp op T vx vy) : Sem Value).run P w = .ok v w) : OpV P N w0 ⟨d_, .binOp op T x y T2, ty_, pos_, af_, gd_⟩ E H v := ov_bin rfl hx hy hr
theorem v_lt (hx : ev E x = some (.int k a)) (hy : ev E y = some (.int k b)) : OpV P N w0 ⟨d_, .binOp .lss T x y T2, ty_, pos_, af_, gd_⟩ E H (.bool (decide (a < b))) := ov_lt rfl hx hy
theorem v_le (hx : ev E x = some (.int k a)) (hy : ev E y = some (.int k b)) : OpV P N w0 ⟨d_, .binOp .leq T x y T2, ty_, pos_, af_, gd_⟩ E H (.bool (decide (a ≤ b))) := ov_le rfl hx hy
theorem v_gt (hx : ev E x = some (.int k a)) (hy : ev E y = some (.int k b)) : OpV P N w0 ⟨d_, .binOp .gtr T x y T2, ty_, pos_, af_, gd_⟩ E H (.bool (decide (b < a))) := ov_gt rfl hx hy
theorem v_ge (hx : ev E x = some (.int k a)) (hy : ev E y = some (.int k b)) : OpV P N w0 ⟨d_, .binOp .geq T x y T2, ty_, pos_, af_, gd_⟩ E H (.bool (decide (b ≤ a))) := ov_ge rfl hx hy
theorem v_eq (hx : ev E x = some (.int k a)) (hy : ev E y = some (.int k b)) : OpV P N w0 ⟨d_, .binOp .eql T x y T2, ty_, pos_, af_, gd_⟩ E H (.bool (decide (a = b))) := ov_eq rfl hx hy
theorem v_ne (hx : ev E x = some (.int k a)) (hy : ev E y = some (.int k b)) : OpV P N w0 ⟨d_, .binOp .neq T x y T2, ty_, pos_, af_, gd_⟩ E H (.bool (!(decide (a = b)))) := ov_ne rfl hx hy
theorem v_eqs {s t : ByteArray} (hx : ev E x = some (.string s)) (hy : ev E y = some (.string t)) : OpV P N w0 ⟨d_, .binOp .eql T x y T2, ty_, pos_, af_, gd_⟩ E H (.bool (decide (s.toList = t.toList))) := ov_eqs rfl hx hy
theorem v_nes {s t : ByteArray} (hx : ev E x = some (.string s)) (hy : ev E y = some (.string t)) : OpV P N w0 ⟨d_, .binOp .neq T x y T2, ty_, pos_, af_, gd_⟩ E H (.bool (!(decide (s.toList = t.toList)))) := ov_nes rfl hx hy
theorem v_neb [TBool P T] {c d : Bool} (hx : ev E x = some (.bool c)) (hy : ev E y = some (.bool d)) : OpV P N w0 ⟨d_, .binOp .neq T x y T2, ty_, pos_, af_, gd_⟩ E H (.bool (c != d)) := ov_neb rfl hx hy
theorem v_eqb [TBool P T] {c d : Bool} (hx : ev E x = some (.bool c)) (hy : ev E y = some (.bool d)) : OpV P N w0 ⟨d_, .binOp .eql T x y T2, ty_, pos_, af_, gd_⟩ E H (.bool (c == d)) := ov_eqb rfl hx hy
theorem v_add (hx : ev E x = some (.int .i64 a)) (hy : ev E y = some (.int .i64 b)) (h : -9223372036854775808 ≤ a + b ∧ a + b ≤ 9223372036854775807) : OpV P N w0 ⟨d_, .binOp .add T x y T2, ty_, pos_, af_, gd_⟩ E H (.int .i64 (a + b)) := ov_add rfl hx hy h
theorem v_sub (hx : ev E x = some (.int .i64 a)) (hy : ev E y = some (.int .i64 b)) (h : -9223372036854775808 ≤ a - b ∧ a - b ≤ 9223372036854775807) : OpV P N w0 ⟨d_, .binOp .sub T x y T2, ty_, pos_, af_, gd_⟩ E H (.int .i64 (a - b)) := ov_sub rfl hx hy h
theorem v_mul (hx : ev E x = some (.int .i64 a)) (hy : ev E y = some (.int .i64 b)) (h : -9223372036854775808 ≤ a * b ∧ a * b ≤ 9223372036854775807) : OpV P N w0 ⟨d_, .binOp .mul T x y T2, ty_, pos_, af_, gd_⟩ E H (.int .i64 (a * b)) := ov_mul rfl hx hy h
theorem v_addw (hx : ev E x = some (.int k a)) (hy : ev E y = some (.int k b)) : OpV P N w0 ⟨d_, .binOp .add T x y T2, ty_, pos_, af_, gd_⟩ E H (.int k (k.wrap (a + b))) := ov_addw rfl hx hy
theorem v_mulw (hx : ev E x = some (.int k a)) (hy : ev E y = some (.int k b)) : OpV P N w0 ⟨d_, .binOp .mul T x y T2, ty_, pos_, af_, gd_⟩ E H (.int k (k.wrap (a * b))) := ov_mulw rfl hx hy
theorem v_quo (hx : ev E x = some (.int .i64 a)) (hy : ev E y = some (.int .i64 b)) (h0 : 0 ≤ a ∧ a ≤ 9223372036854775807) (hb : 0 < b) : OpV P N w0 ⟨d_, .binOp .quo T x y T2, ty_, pos_, af_, gd_⟩ E H (.int .i64 (a / b)) := ov_quo rfl hx hy h0 hb
theorem v_rem (hx : ev E x = some (.int k a)) (hy : ev E y = some (.int k b)) (h0 : 0 ≤ a) (hb : 0 < b) : OpV P N w0 ⟨d_, .binOp .rem T x y T2, ty_, pos_, af_, gd_⟩ E H (.int k (a % b)) := ov_rem rfl hx hy h0 hb
theorem v_shr {k2 : IntKind} (hx : ev E x = some (.int k a)) (hy : ev E y = some (.int k2 b)) (hb : 0 ≤ b) (hb2 : b ≤ k.bits) : OpV P N w0 ⟨d_, .binOp .shr T x y T2, ty_, pos_, af_, gd_⟩ E H (.int k (a / 2 ^ b.toNat)) := ov_shr rfl hx hy hb hb2
theorem v_shl {k2 : IntKind} (hx : ev E x = some (.int k a)) (hy : ev E y = some (.int k2 b)) (hb : 0 ≤ b) (hb2 : b ≤ k.bits) : OpV P N w0 ⟨d_, .binOp .shl T x y T2, ty_, pos_, af_, gd_⟩ E H (.int k (k.wrap (a * 2 ^ b.toNat))) := ov_shl rfl hx hy hb hb2
theorem v_and (hx : ev E x = some (.int k a)) (hy : ev E y = some (.int k b)) : OpV P N w0 ⟨d_, .binOp .and T x y T2, ty_, pos_, af_, gd_⟩ E H (.int k (bits .and k a b)) := ov_and rfl hx hy
theorem v_or (hx : ev E x = some (.int k a)) (hy : ev E y = some (.int k b)) : OpV P N w0 ⟨d_, .binOp .or T x y T2, ty_, pos_, af_, gd_⟩ E H (.int k (bits .or k a b)) := ov_or rfl hx hy
theorem v_andNot (hx : ev E x = some (.int k a)) (hy : ev E y = some (.int k b)) : OpV P N w0 ⟨d_, .binOp .andNot T x y T2, ty_, pos_, af_, gd_⟩ E H (.int k (bits .andNot k a b)) := ov_andNot rfl hx hy
theorem v_not {c : Bool} (hx : ev E x = some (.bool c)) : OpV P N w0 ⟨d_, .unOp .not T x, ty_, pos_, af_, gd_⟩ E H (.bool (!c)) := ov_not rfl hx
theorem v_conv {k' : IntKind} [TInt P T2 k'] [TInt P T k] (hx : ev E x = some (.int k a)) : OpV P N w0 ⟨d_, .convert T T2 x, ty_, pos_, af_, gd_⟩ E H (.int k' (k'.wrap a)) := ov_conv rfl hx
theorem v_convi [TInt P T2 .i64] [TInt P T k] (hx : ev E x = some (.int k a)) (h : -9223372036854775808 ≤ a ∧ a ≤ 9223372036854775807) : OpV P N w0 ⟨d_, .convert T T2 x, ty_, pos_, af_, gd_⟩ E H (.int .i64 a) := ov_convi rfl hx h
theorem v_len {e : TypeId} {n : Nat} [TSlice P T e n] {l m : Nat} {b : Option Addr} (hx : ev E x = some (.slice b l m)) : OpV P N w0 ⟨d_, .call { callee := .builtin .len, args := #[x], argTypes := #[T] }, ty_, pos_, af_, gd_⟩ E H (.int .i64 (l : Int)) := ov_len rfl hx
theorem v_lens [TStr P T] {s : ByteArray} (hx : ev E x = some (.string s)) : OpV P N w0 ⟨d_, .call { callee := .builtin .len, args := #[x], argTypes := #[T] }, ty_, pos_, af_, gd_⟩ E H (.int .i64 (s.size : Int)) := ov_lens rfl hx
theorem v_extract {i : Nat} {vs : Array Value} (hx : ev E x = some (.tuple vs)) (hv : vs.toList[i]? = some v) : OpV P N w0 ⟨d_, .extract x i, ty_, pos_, af_, gd_⟩ E H v := ov_extract rfl hx hv
theorem v_field {i off : Nat} [TField P T i off] {cs : Array Value} (hx : ev E x = some (.agg cs)) (hv : cs.toList[off]? = some v) : OpV P N w0 ⟨d_, .field T x i, ty_, pos_, af_, gd_⟩ E H v := ov_field rfl hx hv
theorem v_fieldN {i off n : Nat} [TFieldN P T i off n] {cs : Array Value} (hx : ev E x = some (.agg cs)) : OpV P N w0 ⟨d_, .field T x i, ty_, pos_, af_, gd_⟩ E H (.agg (cs.extract off (off + n))) := ov_fieldN rfl hx
theorem v_fieldAddr {i off : Nat} [TField P T i off] {b c : Nat} (hx : ev E x = some (.pointer (some ⟨b, c, none⟩))) : OpV P N w0 ⟨d_, .fieldAddr T x i, ty_, pos_, af_, gd_⟩ E H (.pointer (some ⟨b, c + off, none⟩)) := ov_fieldAddr rfl hx
theorem v_fieldAddrN {i off n : Nat} [TFieldN P T i off n] {b c : Nat} (hx : ev E x = some (.pointer (some ⟨b, c, none⟩))) : OpV P N w0 ⟨d_, .fieldAddr T x i, ty_, pos_, af_, gd_⟩ E H (.pointer (some ⟨b, c + off, none⟩)) := ov_fieldAddrN rfl hx
theorem v_nil {p : Addr} (hx : ev E x = some (.pointer (some p))) : OpV P N w0 ⟨d_, .nilCheck x, ty_, pos_, af_, gd_⟩ E H (.pointer (some p)) := ov_nil rfl hx
theorem v_idx {e : TypeId} {n : Nat} [TSlice P T e n] {bk of l m : Nat} (hx : ev E x = some (.slice (some ⟨bk, of, none⟩) l m)) (hy : ev E y = some (.int k a)) (h : 0 ≤ a ∧ a < (l : Int)) : OpV P N w0 ⟨d_, .indexAddr T x y, ty_, pos_, af_, gd_⟩ E H (.pointer (some ⟨bk, of + a.toNat * n, none⟩)) := ov_idx rfl hx hy h
theorem v_ld {bk i : Nat} {cs : Array Value} {t : TypeId} {fr : Nat × Nat} [TOne P T] (hx : ev E x = some (.pointer (some ⟨bk, i, none⟩))) (hA : At H bk (.cells cs t fr)) (hv : cs.toList[i]? = some v) : OpV P N w0 ⟨d_, .load T x, ty_, pos_, af_, gd_⟩ E H v := ov_ld rfl hx hA hv
theorem v_ldN {bk i n : Nat} {cs : Array Value} {t : TypeId} {fr : Nat × Nat} [TAgg P T n] (hx : ev E x = some (.pointer (some ⟨bk, i, none⟩))) (hA : At H bk (.cells cs t fr)) (hl : i + n ≤ cs.size) : OpV P N w0 ⟨d_, .load T x, ty_, pos_, af_, gd_⟩ E H (.agg ((cs.toList.drop i).take n).toArray) := ov_ldN rfl hx hA hl
theorem v_build {parts : Array (Nat × Operand)} {vs : List Value} {cells : Array Value} (hp : evs E (parts.toList.map (·.2)) = some vs)
    (hb : P.built T (List.zip (parts.toList.map (·.1)) vs) = some cells) : OpV P N w0 ⟨d_, .build T parts, ty_, pos_, af_, gd_⟩ E H (.agg cells) := ov_build rfl hp hb
theorem v_func {fn : Go.Fn} {first cap : Array Operand} {vs us : List Value} (h1 : evs E first.toList = some vs) (h2 : evs E cap.toList = some us) : OpV P N w0 ⟨d_, .makeFunc fn first cap, ty_, pos_, af_, gd_⟩ E H (.func fn vs.toArray us.toArray) := ov_func rfl h1 h2
theorem v_build0 {z : List Value} [TFlat P T z] : OpV P N w0 ⟨d_, .build T #[], ty_, pos_, af_, gd_⟩ E H (.agg z.toArray) := ov_build0 rfl 
theorem v_build2 {z : List Value} [TFlat P T z] {i j : Nat} {u w : Value} (hx : ev E x = some u) (hy : ev E y = some w) (h1 : u.oneCell' = true) (h2 : w.oneCell' = true)
    (hi : Nat.blt i z.length = true) (hj : Nat.blt j z.length = true) {cs : List Value} (hc : setParts z [(i, u), (j, w)] = cs) : OpV P N w0 ⟨d_, .build T #[(i, x), (j, y)], ty_, pos_, af_, gd_⟩ E H (.agg cs.toArray) := ov_build2 rfl hx hy h1 h2 hi hj hc
theorem v_build1 {z : List Value} [TFlat P T z] {i : Nat} {u : Value} (hx : ev E x = some u) (h1 : u.oneCell' = true)
    (hi : Nat.blt i z.length = true) {cs : List Value} (hc : setParts z [(i, u)] = cs) : OpV P N w0 ⟨d_, .build T #[(i, x)], ty_, pos_, af_, gd_⟩ E H (.agg cs.toArray) := ov_build1 rfl hx h1 hi hc
theorem v_build3 {z : List Value} [TFlat P T z] {i j k : Nat} {u w s : Value} {q : Operand} (hx : ev E x = some u) (hy : ev E y = some w) (hq : ev E q = some s) (h1 : u.oneCell' = true) (h2 : w.oneCell' = true) (h3 : s.oneCell' = true)
    (hi : Nat.blt i z.length = true) (hj : Nat.blt j z.length = true) (hk : Nat.blt k z.length = true) {cs : List Value} (hc : setParts z [(i, u), (j, w), (k, s)] = cs) : OpV P N w0 ⟨d_, .build T #[(i, x), (j, y), (k, q)], ty_, pos_, af_, gd_⟩ E H (.agg cs.toArray) := ov_build3 rfl hx hy hq h1 h2 h3 hi hj hk hc
theorem v_ldW {bk n : Nat} {cs : Array Value} {t : TypeId} {fr : Nat × Nat} [TAgg P T n] (hx : ev E x = some (.pointer (some ⟨bk, 0, none⟩))) (hA : At H bk (.cells cs t fr)) (hl : cs.toList.length = n) : OpV P N w0 ⟨d_, .load T x, ty_, pos_, af_, gd_⟩ E H (.agg cs) := ov_ldW rfl hx hA hl
theorem v_andv (hx : ev E x = some (.int k a)) (hy : ev E y = some (.int k b)) (e : bits .and k a b = c) : OpV P N w0 ⟨d_, .binOp .and T x y T2, ty_, pos_, af_, gd_⟩ E H (.int k c) := ov_andv rfl hx hy e
theorem v_shrv (hx : ev E x = some (.int k a)) (hy : ev E y = some (.int k2 b)) (hb : 0 ≤ b) (hb2 : b ≤ k.bits) (e : (2 : Int) ^ b.toNat = c) : OpV P N w0 ⟨d_, .binOp .shr T x y T2, ty_, pos_, af_, gd_⟩ E H (.int k (a / c)) := ov_shrv rfl hx hy hb hb2 e
theorem v_convu [TInt P T2 .u64] [TInt P T k] (hx : ev E x = some (.int k a)) (h : 0 ≤ a ∧ a ≤ 18446744073709551615) : OpV P N w0 ⟨d_, .convert T T2 x, ty_, pos_, af_, gd_⟩ E H (.int .u64 a) := ov_convu rfl hx h
theorem v_sg [TInt P T2 .i64] [TInt P T .u64] (hx : ev E x = some (.int .u64 a)) (h : 0 ≤ a ∧ a < 18446744073709551616) : OpV P N w0 ⟨d_, .convert T T2 x, ty_, pos_, af_, gd_⟩ E H (.int .i64 (sg a)) := ov_sg rfl hx h
theorem v_addu (hx : ev E x = some (.int .u64 a)) (hy : ev E y = some (.int .u64 b)) (h : 0 ≤ a + b ∧ a + b ≤ 18446744073709551615) : OpV P N w0 ⟨d_, .binOp .add T x y T2, ty_, pos_, af_, gd_⟩ E H (.int .u64 (a + b)) := ov_addu rfl hx hy h
theorem v_mulu (hx : ev E x = some (.int .u64 a)) (hy : ev E y = some (.int .u64 b)) (h : 0 ≤ a * b ∧ a * b ≤ 18446744073709551615) : OpV P N w0 ⟨d_, .binOp .mul T x y T2, ty_, pos_, af_, gd_⟩ E H (.int .u64 (a * b)) := ov_mulu rfl hx hy h
theorem v_ldV {bk : Nat} {vs : List (Int × Int)} {sp : List Value} {t : TypeId} {fr : Nat × Nat} {i : Int} [TAgg P T 2] (hx : ev E x = some (.pointer (some ⟨bk, 0 + i.toNat * 2, none⟩))) (hA : At H bk (.cells (rowV vs sp) t fr)) (h0 : 0 ≤ i) (h : i < (vs.length : Int)) : OpV P N w0 ⟨d_, .load T x, ty_, pos_, af_, gd_⟩ E H (.agg #[.int .i64 (vs.getD i.toNat (0, 0)).1, .int .i64 (vs.getD i.toNat (0, 0)).2]) := ov_ldV rfl hx hA h0 h
theorem v_bts {e : TypeId} {b m : Nat} {xs : List Int} {sp : List Value} {t : TypeId} {fr : Nat × Nat} [TSlice P T e 1] [TInt P e .u8] [TStr P T2] (hx : ev E x = some (.slice (some ⟨b, 0, none⟩) xs.length m)) (hA : At H b (.cells (rowA .u8 xs sp) t fr)) : OpV P N w0 ⟨d_, .convert T T2 x, ty_, pos_, af_, gd_⟩ E H (.string (strOfNums xs)) := ov_bts rfl hx hA
theorem v_sidx [TStr P T] {xs : List Int} {i : Int} (hx : ev E x = some (.string (strOfNums xs))) (hy : ev E y = some (.int .i64 i)) (hb : Byt xs) (h0 : 0 ≤ i) (h : i < (xs.length : Int)) : OpV P N w0 ⟨d_, .index T x y, ty_, pos_, af_, gd_⟩ E H (.int .u8 (g xs i)) := ov_sidx rfl hx hy hb h0 h
theorem v_eqz {xs ys : List Int} (hx : ev E x = some (.string (strOfNums xs))) (hy : ev E y = some (.string (strOfNums ys))) (h1 : Byt xs) (h2 : Byt ys) : OpV P N w0 ⟨d_, .binOp .eql T x y T2, ty_, pos_, af_, gd_⟩ E H (.bool (decide (xs = ys))) := ov_eqz rfl hx hy h1 h2
theorem v_lenz [TStr P T] {xs : List Int} (hx : ev E x = some (.string (strOfNums xs))) : OpV P N w0 ⟨d_, .call { callee := .builtin .len, args := #[x], argTypes := #[T] }, ty_, pos_, af_, gd_⟩ E H (.int .i64 (xs.length : Int)) := ov_lenz rfl hx
theorem v_lookup {K V : TypeId} {ks : List Int} {u : Int} {bm n bytes : Nat} [TMap P T K V] [TInt P K .i64] [TInfo P V (.bool false) n bytes] (hx : ev E x = some (.map (some bm))) (hy : ev E y = some (.int .i64 u)) (hA : At H bm (sObj ks)) : OpV P N w0 ⟨d_, .lookup T x y false, ty_, pos_, af_, gd_⟩ E H (.bool (decide (u ∈ ks))) := ov_lookup rfl hx hy hA
variable {ops : Array Oper} {l rest : List Oper} {R : Post} {c_ : Code} {bo_ : BinOp} {f : FuncId} {as_ : Array Operand} {ts_ : Array TypeId} {cl_ : Call} {t : Tmp}
theorem gL (h : L P N w0 ops l E H R) : L P N w0 ops l E H R := h
theorem gW (h : W P N w0 c_ E H R) : W P N w0 c_ E H R := h
theorem gAt (n : Nat) {l_ : Array Oper} {d : Bool} {c1 c2 : Code} (h : W P N w0 (.seq (.seq (.region n l_ d) c1) c2) E H R) : W P N w0 (.seq (.seq (.region n l_ d) c1) c2) E H R := h
theorem gAtR (n : Nat) {l_ : Array Oper} {d : Bool} {c1 : Code} (h : W P N w0 (.seq (.region n l_ d) c1) E H R) : W P N w0 (.seq (.region n l_ d) c1) E H R := h
theorem gQ (h : QL P N w0 ops l E H R) : QL P N w0 ops l E H R := h
theorem gBin (h : OpV P N w0 ⟨d_, .binOp bo_ T x y T2, ty_, pos_, af_, gd_⟩ E H v) : OpV P N w0 ⟨d_, .binOp bo_ T x y T2, ty_, pos_, af_, gd_⟩ E H v := h
theorem gLd (h : OpV P N w0 ⟨d_, .load T x, ty_, pos_, af_, gd_⟩ E H v) : OpV P N w0 ⟨d_, .load T x, ty_, pos_, af_, gd_⟩ E H v := h
theorem gCv (h : OpV P N w0 ⟨d_, .convert T T2 x, ty_, pos_, af_, gd_⟩ E H v) : OpV P N w0 ⟨d_, .convert T T2 x, ty_, pos_, af_, gd_⟩ E H v := h
theorem gBd {ps_ : Array (Nat × Operand)} (h : OpV P N w0 ⟨d_, .build T ps_, ty_, pos_, af_, gd_⟩ E H v) : OpV P N w0 ⟨d_, .build T ps_, ty_, pos_, af_, gd_⟩ E H v := h
theorem gPk (h : OpV P N w0 ⟨d_, .pick x y z, ty_, pos_, af_, gd_⟩ E H v) : OpV P N w0 ⟨d_, .pick x y z, ty_, pos_, af_, gd_⟩ E H v := h
theorem gCall (h : L P N w0 ops (⟨d_, .call cl_, ty_, pos_, af_, gd_⟩ :: rest) E H R) : L P N w0 ops (⟨d_, .call cl_, ty_, pos_, af_, gd_⟩ :: rest) E H R := h
theorem gSt (h : L P N w0 ops (⟨d_, .store T x y, ty_, pos_, af_, gd_⟩ :: rest) E H R) : L P N w0 ops (⟨d_, .store T x y, ty_, pos_, af_, gd_⟩ :: rest) E H R := h
theorem gMk (h : L P N w0 ops (⟨d_, .makeSlice T x y, ty_, pos_, af_, gd_⟩ :: rest) E H R) : L P N w0 ops (⟨d_, .makeSlice T x y, ty_, pos_, af_, gd_⟩ :: rest) E H R := h
theorem gBs {n_ : Nat} {ps_ : Array (Nat × Operand)} (h : L P N w0 ops (⟨d_, .buildSlice T n_ ps_, ty_, pos_, af_, gd_⟩ :: rest) E H R) : L P N w0 ops (⟨d_, .buildSlice T n_ ps_, ty_, pos_, af_, gd_⟩ :: rest) E H R := h
theorem gMm (h : L P N w0 ops (⟨d_, .makeMap T none, ty_, pos_, af_, gd_⟩ :: rest) E H R) : L P N w0 ops (⟨d_, .makeMap T none, ty_, pos_, af_, gd_⟩ :: rest) E H R := h
theorem gMu (h : L P N w0 ops (⟨d_, .mapUpdate T x y z, ty_, pos_, af_, gd_⟩ :: rest) E H R) : L P N w0 ops (⟨d_, .mapUpdate T x y z, ty_, pos_, af_, gd_⟩ :: rest) E H R := h
theorem gApp (h : L P N w0 ops (⟨d_, .call { callee := .builtin .append, args := as_, argTypes := ts_ }, ty_, pos_, af_, gd_⟩ :: rest) E H R) : L P N w0 ops (⟨d_, .call { callee := .builtin .append, args := as_, argTypes := ts_ }, ty_, pos_, af_, gd_⟩ :: rest) E H R := h
theorem L_known {o : Oper} (hw : wantE ops E o = some true) (h : L P N w0 ops (o :: rest) E H R) : L P N w0 ops (o :: rest) E H R := h
theorem Q_known {o : Oper} (hw : wantE ops E o = some true) (h : QL P N w0 ops (o :: rest) E H R) : QL P N w0 ops (o :: rest) E H R := h
theorem lk {x y : Int} (e : x = y) : some (Value.int .i64 x) = some (.int .i64 y) := by rw [e]
theorem lkb {x y : Bool} (e : x = y) : some (Value.bool x) = some (.bool y) := by rw [e]
theorem l_box (hw : wantE ops E ⟨some t, .box T x, ty_, pos_, af_, gd_⟩ = some true) (ht : Nat.blt t N = true) (hx : ev E x = some v)
    (hk : ∀ b, L P N w0 ops rest ((t, .pointer (some ⟨b, 0, none⟩)) :: E) ((b, .cells v.cells T (0, 0)) :: H) R) : L P N w0 ops (⟨some t, .box T x, ty_, pos_, af_, gd_⟩ :: rest) E H R := L_box hw rfl ht rfl hx hk
theorem l_alloc {z : Value} [TZero P T z] (hw : wantE ops E ⟨some t, .alloc T, ty_, pos_, af_, gd_⟩ = some true) (ht : Nat.blt t N = true)
    (hk : ∀ b, L P N w0 ops rest ((t, .pointer (some ⟨b, 0, none⟩)) :: E) ((b, .cells z.cells T (0, 0)) :: H) R) : L P N w0 ops (⟨some t, .alloc T, ty_, pos_, af_, gd_⟩ :: rest) E H R := L_alloc hw rfl ht rfl hk
end
end Go.Proofs.Ytepddopgmhdllaa.Eng
