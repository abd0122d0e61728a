/- One law an operation: what it yields, out of what is known of the slots and the blocks. -/
import Derived.Test.YtepddopgmhdllaaEng
import Derived.IntWalk
import Derived.Laws.Rows
import Derived.Laws.Cells
import Derived.Laws.CopyRow
namespace Go.Proofs.Ytepddopgmhdllaa.Eng
open Go Go.RowKit Go.Proofs.Ytepddopgmhdllaa.Sl
set_option linter.unusedVariables false
set_option linter.unusedSimpArgs false

/-! ### types, as the operations ask of them -/
def aggD : TypeDesc → Bool
  | .struct _ => true
  | .array _ _ => true
  | _ => false
class TInt (P : Program) (T : TypeId) (k : outParam IntKind) : Prop where
  out : P.underlying T = some (.int k)
class TOne (P : Program) (T : TypeId) : Prop where
  agg : ∃ d, P.underlying T = some d ∧ aggD d = false
  size : (P.info? T).map (·.size) = some 1
class TAgg (P : Program) (T : TypeId) (n : outParam Nat) : Prop where
  agg : ∃ d, P.underlying T = some d ∧ aggD d = true
  size : (P.info? T).map (·.size) = some n
class TSlice (P : Program) (T : TypeId) (e : outParam TypeId) (n : outParam Nat) : Prop where
  out : P.underlying T = some (.slice e)
  size : (P.info? e).map (·.size) = some n
/-- field i of a struct: its cells begin at off; one cell -/
class TField (P : Program) (T : TypeId) (i : Nat) (off : outParam Nat) : Prop where
  out : ∃ fs f d, P.underlying T = some (.struct fs) ∧ fs[i]? = some f ∧ f.offset = off ∧ P.underlying f.type = some d ∧ aggD d = false ∧ (P.info? f.type).map (·.size) = some 1
/-- a field of several cells -/
class TFieldN (P : Program) (T : TypeId) (i : Nat) (off n : outParam Nat) : Prop where
  out : ∃ fs f d, P.underlying T = some (.struct fs) ∧ fs[i]? = some f ∧ f.offset = off ∧ P.underlying f.type = some d ∧ aggD d = true ∧ (P.info? f.type).map (·.size) = some n ∧ n ≠ 0
class TMap (P : Program) (T : TypeId) (K E : outParam TypeId) : Prop where
  out : P.underlying T = some (.map K E)
class TStr (P : Program) (T : TypeId) : Prop where
  out : P.underlying T = some .string
class TBool (P : Program) (T : TypeId) : Prop where
  out : P.underlying T = some .bool
section
variable {P : Program}
def fieldB (P : Program) (T : TypeId) (i off n : Nat) (b : Bool) : Bool :=
  match P.underlying T with
  | some (.struct fs) => match fs[i]? with
    | some f => (f.offset == off) && (match P.underlying f.type with | some d => aggD d == b | none => false) && ((P.info? f.type).map (·.size) == some n)
    | none => false
  | _ => false
theorem field_any {T : TypeId} {i off n : Nat} {b : Bool} (h : fieldB P T i off n b = true) :
    ∃ fs f d, P.underlying T = some (.struct fs) ∧ fs[i]? = some f ∧ f.offset = off ∧ P.underlying f.type = some d ∧ aggD d = b ∧ (P.info? f.type).map (·.size) = some n := by
  unfold fieldB at h
  split at h
  · rename_i fs hu
    split at h
    · rename_i f hf
      simp only [Bool.and_eq_true] at h
      obtain ⟨⟨h1, h2⟩, h3⟩ := h
      split at h2
      · rename_i d hd
        exact ⟨fs, f, d, hu, hf, by simpa using h1, hd, by simpa using h2, by simpa using h3⟩
      · simp at h2
    · simp at h
  · simp at h
theorem field_of {T : TypeId} {i off : Nat} (h : fieldB P T i off 1 false = true) :
    ∃ fs f d, P.underlying T = some (.struct fs) ∧ fs[i]? = some f ∧ f.offset = off ∧ P.underlying f.type = some d ∧ aggD d = false ∧ (P.info? f.type).map (·.size) = some 1 := field_any h
theorem fieldN_of {T : TypeId} {i off n : Nat} (h : (fieldB P T i off n true && !(n == 0)) = true) :
    ∃ fs f d, P.underlying T = some (.struct fs) ∧ fs[i]? = some f ∧ f.offset = off ∧ P.underlying f.type = some d ∧ aggD d = true ∧ (P.info? f.type).map (·.size) = some n ∧ n ≠ 0 := by
  simp only [Bool.and_eq_true] at h
  obtain ⟨fs, f, d, h1, h2, h3, h4, h5, h6⟩ := field_any h.1
  exact ⟨fs, f, d, h1, h2, h3, h4, h5, h6, by simpa using h.2⟩
def aggB (P : Program) (T : TypeId) (b : Bool) : Bool := match P.underlying T with
  | some d => aggD d == b
  | none => false
theorem aggB_of {T : TypeId} {b : Bool} (h : aggB P T b = true) : ∃ d, P.underlying T = some d ∧ aggD d = b := by
  unfold aggB at h
  split at h
  · rename_i d hd; exact ⟨d, hd, by simpa using h⟩
  · simp at h
theorem agg_of {T : TypeId} (h : aggB P T true = true) : ∃ d, P.underlying T = some d ∧ aggD d = true := aggB_of h
theorem one_of {T : TypeId} (h : aggB P T false = true) : ∃ d, P.underlying T = some d ∧ aggD d = false := aggB_of h
theorem run_isAgg {T : TypeId} {d : TypeDesc} {b : Bool} (h : P.underlying T = some d) (hd : aggD d = b) (w : World) : (isAgg T).run P w = .ok b w := by
  unfold isAgg
  rw [Sem.run_bind, run_underlying h w]
  cases d <;> simp_all [aggD]
theorem run_sizeOf {T : TypeId} {n : Nat} (h : (P.info? T).map (·.size) = some n) (w : World) : (sizeOf T).run P w = .ok n w := by
  cases hq : P.info? T with
  | none => simp [hq] at h
  | some i =>
    have : i.size = n := by simpa [hq] using h
    simp [sizeOf, typeInfo, hq, this]
theorem run_v {s : Sem Value} {v : Value} {w w' : World} (h : s.run P w = .ok v w') : ((do pure (Next.value (← s))) : Sem Next).run P w = .ok (.value v) w' := by
  simp [h]
theorem run_u {s : Sem Unit} {w w' : World} (h : s.run P w = .ok () w') : ((do s; pure Next.skip) : Sem Next).run P w = .ok .skip w' := by
  simp [h]
theorem add_none (b o i : Nat) : (⟨b, o, none⟩ : Addr).add i = ⟨b, o + i, none⟩ := by unfold Addr.add; split <;> simp_all
end
section
variable {P : Program} {N : Nat} {w0 : World} {E : Env} {H H' : HL} {o : Oper} {x y z : Operand} {T T2 : TypeId} {v vx vy : Value} {k : IntKind} {a b : Int}
theorem ov_move (ho : o.op = .move x) (hx : ev E x = some v) : OpV P N w0 o E H v := by
  refine ⟨fun a w ha hs => ?_⟩
  unfold execOp; rw [ho]; simp [ha.eval hx]
theorem ov_assign (ho : o.op = .assign x) (hx : ev E x = some v) : OpV P N w0 o E H v := by
  refine ⟨fun a w ha hs => ?_⟩
  unfold execOp; rw [ho]; simp [ha.eval hx]
theorem ov_pick1 (ho : o.op = .pick x y z) (hx : ev E x = some (.bool true)) (hy : ev E y = some v) : OpV P N w0 o E H v := by
  refine ⟨fun a w ha hs => ?_⟩
  unfold execOp; rw [ho]; simp [ha.eval hx, ha.eval hy, asBool]
theorem ov_pick0 (ho : o.op = .pick x y z) (hx : ev E x = some (.bool false)) (hz : ev E z = some v) : OpV P N w0 o E H v := by
  refine ⟨fun a w ha hs => ?_⟩
  unfold execOp; rw [ho]; simp [ha.eval hx, ha.eval hz, asBool]
theorem ov_bin {op : BinOp} (ho : o.op = .binOp op T x y T2) (hx : ev E x = some vx) (hy : ev E y = some vy)
    (hr : ∀ w, ((do eqGuard op T x y vx vy; binOp op T vx vy) : Sem Value).run P w = .ok v w) : OpV P N w0 o E H v := by
  refine ⟨fun a w ha hs => ?_⟩
  unfold execOp; rw [ho]
  refine run_v ?_
  rw [ha.eval hx, ha.eval hy]
  exact hr w
theorem ov_lt (ho : o.op = .binOp .lss T x y T2) (hx : ev E x = some (.int k a)) (hy : ev E y = some (.int k b)) : OpV P N w0 o E H (.bool (decide (a < b))) := ov_bin ho hx hy fun w => by simp [eqGuard, binOp, Op.intCmp]
theorem ov_le (ho : o.op = .binOp .leq T x y T2) (hx : ev E x = some (.int k a)) (hy : ev E y = some (.int k b)) : OpV P N w0 o E H (.bool (decide (a ≤ b))) := ov_bin ho hx hy fun w => by simp [eqGuard, binOp, Op.intCmp]
theorem ov_gt (ho : o.op = .binOp .gtr T x y T2) (hx : ev E x = some (.int k a)) (hy : ev E y = some (.int k b)) : OpV P N w0 o E H (.bool (decide (b < a))) := ov_bin ho hx hy fun w => by simp [eqGuard, binOp, Op.intCmp]
theorem ov_ge (ho : o.op = .binOp .geq T x y T2) (hx : ev E x = some (.int k a)) (hy : ev E y = some (.int k b)) : OpV P N w0 o E H (.bool (decide (b ≤ a))) := ov_bin ho hx hy fun w => by simp [eqGuard, binOp, Op.intCmp]
theorem ov_eq (ho : o.op = .binOp .eql T x y T2) (hx : ev E x = some (.int k a)) (hy : ev E y = some (.int k b)) : OpV P N w0 o E H (.bool (decide (a = b))) := ov_bin ho hx hy fun w => by
  simp [eqGuard, binOp, Op.intCmp]; rfl
theorem ov_ne (ho : o.op = .binOp .neq T x y T2) (hx : ev E x = some (.int k a)) (hy : ev E y = some (.int k b)) : OpV P N w0 o E H (.bool (!(decide (a = b)))) := ov_bin ho hx hy fun w => by
  simp [eqGuard, binOp, Op.intCmp]; rfl
theorem ov_eqs {s t : ByteArray} (ho : o.op = .binOp .eql T x y T2) (hx : ev E x = some (.string s)) (hy : ev E y = some (.string t)) : OpV P N w0 o E H (.bool (decide (s.toList = t.toList))) := ov_bin ho hx hy fun w => by
  simp [eqGuard, binOp, Op.stringOp]; exact Bool.eq_iff_iff.2 (by simp)
theorem ov_nes {s t : ByteArray} (ho : o.op = .binOp .neq T x y T2) (hx : ev E x = some (.string s)) (hy : ev E y = some (.string t)) : OpV P N w0 o E H (.bool (!(decide (s.toList = t.toList)))) := ov_bin ho hx hy fun w => by
  simp [eqGuard, binOp, Op.stringOp]; exact Bool.eq_iff_iff.2 (by simp)
theorem run_eqb [TBool P T] (c d : Bool) (w : World) : (Op.equal T (.bool c) (.bool d)).run P w = .ok (c == d) w := by
  have : Op.maxDepth = 9999 + 1 := rfl
  unfold Op.equal
  rw [this]
  unfold Op.equalIn
  simp [run_underlying (TBool.out (P := P) (T := T))]
theorem ov_neb [TBool P T] {c d : Bool} (ho : o.op = .binOp .neq T x y T2) (hx : ev E x = some (.bool c)) (hy : ev E y = some (.bool d)) : OpV P N w0 o E H (.bool (c != d)) := ov_bin ho hx hy fun w => by
  show ((do pure ⟨⟩; do pure (.bool (!(← Op.equal T (.bool c) (.bool d)))) : Sem Value)).run P w = _
  simp only [Sem.run_bind, Sem.run_pure, Result.andThen_ok, run_eqb]; rfl
theorem ov_eqb [TBool P T] {c d : Bool} (ho : o.op = .binOp .eql T x y T2) (hx : ev E x = some (.bool c)) (hy : ev E y = some (.bool d)) : OpV P N w0 o E H (.bool (c == d)) := ov_bin ho hx hy fun w => by
  show ((do pure ⟨⟩; do pure (.bool (← Op.equal T (.bool c) (.bool d))) : Sem Value)).run P w = _
  simp only [Sem.run_bind, Sem.run_pure, Result.andThen_ok, run_eqb]
theorem ov_add (ho : o.op = .binOp .add T x y T2) (hx : ev E x = some (.int .i64 a)) (hy : ev E y = some (.int .i64 b)) (h : -9223372036854775808 ≤ a + b ∧ a + b ≤ 9223372036854775807) : OpV P N w0 o E H (.int .i64 (a + b)) :=
  ov_bin ho hx hy fun w => by simp [eqGuard, binOp, Op.intArith, IntWalk.i64_in _ h]
theorem ov_sub (ho : o.op = .binOp .sub T x y T2) (hx : ev E x = some (.int .i64 a)) (hy : ev E y = some (.int .i64 b)) (h : -9223372036854775808 ≤ a - b ∧ a - b ≤ 9223372036854775807) : OpV P N w0 o E H (.int .i64 (a - b)) :=
  ov_bin ho hx hy fun w => by simp [eqGuard, binOp, Op.intArith, IntWalk.i64_in _ h]
theorem ov_mul (ho : o.op = .binOp .mul T x y T2) (hx : ev E x = some (.int .i64 a)) (hy : ev E y = some (.int .i64 b)) (h : -9223372036854775808 ≤ a * b ∧ a * b ≤ 9223372036854775807) : OpV P N w0 o E H (.int .i64 (a * b)) :=
  ov_bin ho hx hy fun w => by simp [eqGuard, binOp, Op.intArith, IntWalk.i64_in _ h]
theorem ov_addw (ho : o.op = .binOp .add T x y T2) (hx : ev E x = some (.int k a)) (hy : ev E y = some (.int k b)) : OpV P N w0 o E H (.int k (k.wrap (a + b))) :=
  ov_bin ho hx hy fun w => by simp [eqGuard, binOp, Op.intArith]
theorem ov_mulw (ho : o.op = .binOp .mul T x y T2) (hx : ev E x = some (.int k a)) (hy : ev E y = some (.int k b)) : OpV P N w0 o E H (.int k (k.wrap (a * b))) :=
  ov_bin ho hx hy fun w => by simp [eqGuard, binOp, Op.intArith]
theorem ov_quo (ho : o.op = .binOp .quo T x y T2) (hx : ev E x = some (.int .i64 a)) (hy : ev E y = some (.int .i64 b)) (h0 : 0 ≤ a ∧ a ≤ 9223372036854775807) (hb : 0 < b) : OpV P N w0 o E H (.int .i64 (a / b)) :=
  ov_bin ho hx hy fun w => by
    have hle : a / b ≤ a := Int.ediv_le_self _ h0.1
    have hge : 0 ≤ a / b := Int.ediv_nonneg h0.1 (Int.le_of_lt hb)
    have hne : b ≠ 0 := by omega
    simp [eqGuard, binOp, Op.intDiv, hne, Int.tdiv_eq_ediv_of_nonneg h0.1, IntWalk.i64_in (a / b) ⟨by omega, by omega⟩]
theorem ov_rem (ho : o.op = .binOp .rem T x y T2) (hx : ev E x = some (.int k a)) (hy : ev E y = some (.int k b)) (h0 : 0 ≤ a) (hb : 0 < b) : OpV P N w0 o E H (.int k (a % b)) :=
  ov_bin ho hx hy fun w => by
    have hne : b ≠ 0 := by omega
    simp [eqGuard, binOp, Op.intDiv, hne, Int.tmod_eq_emod_of_nonneg h0]
theorem ov_shr (ho : o.op = .binOp .shr T x y T2) {k2 : IntKind} (hx : ev E x = some (.int k a)) (hy : ev E y = some (.int k2 b)) (hb : 0 ≤ b) (hb2 : b ≤ k.bits) : OpV P N w0 o E H (.int k (a / 2 ^ b.toNat)) :=
  ov_bin ho hx hy fun w => by
    have hn : ¬ b < 0 := by omega
    have hm : min b.toNat k.bits = b.toNat := Nat.min_eq_left (by omega)
    have hp : (0 : Int) ≤ 2 ^ b.toNat := Int.le_of_lt (Int.pow_pos (by omega))
    simp [eqGuard, binOp, Op.shift, hn, hm, Int.fdiv_eq_ediv_of_nonneg _ hp]
theorem ov_shl (ho : o.op = .binOp .shl T x y T2) {k2 : IntKind} (hx : ev E x = some (.int k a)) (hy : ev E y = some (.int k2 b)) (hb : 0 ≤ b) (hb2 : b ≤ k.bits) : OpV P N w0 o E H (.int k (k.wrap (a * 2 ^ b.toNat))) :=
  ov_bin ho hx hy fun w => by
    have hn : ¬ b < 0 := by omega
    have hm : min b.toNat k.bits = b.toNat := Nat.min_eq_left (by omega)
    simp [eqGuard, binOp, Op.shift, hn, hm]
theorem ov_and (ho : o.op = .binOp .and T x y T2) (hx : ev E x = some (.int k a)) (hy : ev E y = some (.int k b)) : OpV P N w0 o E H (.int k (bits .and k a b)) :=
  ov_bin ho hx hy fun w => by simp [eqGuard, binOp, Op.intBits, bits]
theorem ov_or (ho : o.op = .binOp .or T x y T2) (hx : ev E x = some (.int k a)) (hy : ev E y = some (.int k b)) : OpV P N w0 o E H (.int k (bits .or k a b)) :=
  ov_bin ho hx hy fun w => by simp [eqGuard, binOp, Op.intBits, bits]
theorem ov_andNot (ho : o.op = .binOp .andNot T x y T2) (hx : ev E x = some (.int k a)) (hy : ev E y = some (.int k b)) : OpV P N w0 o E H (.int k (bits .andNot k a b)) :=
  ov_bin ho hx hy fun w => by simp [eqGuard, binOp, Op.intBits, bits]
theorem ov_not {c : Bool} (ho : o.op = .unOp .not T x) (hx : ev E x = some (.bool c)) : OpV P N w0 o E H (.bool (!c)) := by
  refine ⟨fun a w ha hs => ?_⟩
  unfold execOp; rw [ho]; refine run_v ?_; rw [ha.eval hx]; simp [Op.unary]
theorem ov_conv {k' : IntKind} [TInt P T2 k'] [TInt P T k] (ho : o.op = .convert T T2 x) (hx : ev E x = some (.int k a)) : OpV P N w0 o E H (.int k' (k'.wrap a)) := by
  refine ⟨fun a w ha hs => ?_⟩
  unfold execOp; rw [ho]; refine run_v ?_; rw [ha.eval hx]
  simp [convert, run_underlying (TInt.out (P := P) (T := T)), run_underlying (TInt.out (P := P) (T := T2)), Conv.intToInt]
theorem ov_convi [TInt P T2 .i64] [TInt P T k] (ho : o.op = .convert T T2 x) (hx : ev E x = some (.int k a)) (h : -9223372036854775808 ≤ a ∧ a ≤ 9223372036854775807) : OpV P N w0 o E H (.int .i64 a) := by
  have := ov_conv (P := P) (N := N) (w0 := w0) (E := E) (H := H) ho hx
  rwa [IntWalk.i64_in _ h] at this
theorem exec_builtin {b : Builtin} {xs : Array Operand} {ats : Array TypeId} (ρ : Operand → Value) (ho : o.op = .call { callee := .builtin b, args := xs, argTypes := ats }) :
    execOp ρ o = builtin b ats o.type (xs.map fun | .const _ => true | _ => false) (xs.map ρ) := by
  cases o
  cases ho
  rfl
theorem ov_len {e : TypeId} {n : Nat} [TSlice P T e n] {l m : Nat} {b : Option Addr} (ho : o.op = .call { callee := .builtin .len, args := #[x], argTypes := #[T] }) (hx : ev E x = some (.slice b l m)) :
    OpV P N w0 o E H (.int .i64 (l : Int)) := by
  refine ⟨fun a w ha hs => ?_⟩
  rw [exec_builtin _ ho]
  refine run_v ?_
  have e : a.eval x = .slice b l m := ha.eval hx
  simp [Builtin.len_, run_underlying (TSlice.out (P := P) (T := T)), e, goInt]
theorem ov_lens [TStr P T] {s : ByteArray} (ho : o.op = .call { callee := .builtin .len, args := #[x], argTypes := #[T] }) (hx : ev E x = some (.string s)) :
    OpV P N w0 o E H (.int .i64 (s.size : Int)) := by
  refine ⟨fun a w ha hs => ?_⟩
  rw [exec_builtin _ ho]
  refine run_v ?_
  have e : a.eval x = .string s := ha.eval hx
  simp [Builtin.len_, run_underlying (TStr.out (P := P) (T := T)), e, goInt]
theorem ov_extract {i : Nat} {vs : Array Value} (ho : o.op = .extract x i) (hx : ev E x = some (.tuple vs)) (hv : vs.toList[i]? = some v) : OpV P N w0 o E H v := by
  refine ⟨fun a w ha hs => ?_⟩
  rw [Array.getElem?_toList] at hv
  unfold execOp; rw [ho]; refine run_v ?_; rw [ha.eval hx]; simp [Instr.extract, hv]
theorem ov_field {i off : Nat} [TField P T i off] {cs : Array Value} (ho : o.op = .field T x i) (hx : ev E x = some (.agg cs)) (hv : cs.toList[off]? = some v) : OpV P N w0 o E H v := by
  refine ⟨fun a w ha hs => ?_⟩
  rw [Array.getElem?_toList] at hv
  obtain ⟨fs, f, d, h1, h2, h3, h4, h5, h6⟩ := TField.out (P := P) (T := T) (i := i) (off := off)
  unfold execOp; rw [ho]; refine run_v ?_; rw [ha.eval hx]
  simp [Instr.field, run_underlying h1, h2, asAgg, part, run_isAgg h4 h5, h3, hv]
theorem ov_fieldN {i off n : Nat} [TFieldN P T i off n] {cs : Array Value} (ho : o.op = .field T x i) (hx : ev E x = some (.agg cs)) : OpV P N w0 o E H (.agg (cs.extract off (off + n))) := by
  refine ⟨fun a w ha hs => ?_⟩
  obtain ⟨fs, f, d, h1, h2, h3, h4, h5, h6, h7⟩ := TFieldN.out (P := P) (T := T) (i := i) (off := off) (n := n)
  unfold execOp; rw [ho]; refine run_v ?_; rw [ha.eval hx]
  simp [Instr.field, run_underlying h1, h2, asAgg, part, run_isAgg h4 h5, h3, run_sizeOf h6]
theorem ov_fieldAddr {i off : Nat} [TField P T i off] {b c : Nat} (ho : o.op = .fieldAddr T x i) (hx : ev E x = some (.pointer (some ⟨b, c, none⟩))) : OpV P N w0 o E H (.pointer (some ⟨b, c + off, none⟩)) := by
  refine ⟨fun a w ha hs => ?_⟩
  obtain ⟨fs, f, d, h1, h2, h3, h4, h5, h6⟩ := TField.out (P := P) (T := T) (i := i) (off := off)
  unfold execOp; rw [ho]; refine run_v ?_; rw [ha.eval hx]
  simp [Instr.fieldAt, run_underlying h1, h2, Instr.sureAddr, fieldPlace, run_sizeOf h6, h3, add_none]
theorem ov_fieldAddrN {i off n : Nat} [TFieldN P T i off n] {b c : Nat} (ho : o.op = .fieldAddr T x i) (hx : ev E x = some (.pointer (some ⟨b, c, none⟩))) : OpV P N w0 o E H (.pointer (some ⟨b, c + off, none⟩)) := by
  refine ⟨fun a w ha hs => ?_⟩
  obtain ⟨fs, f, d, h1, h2, h3, h4, h5, h6, h7⟩ := TFieldN.out (P := P) (T := T) (i := i) (off := off) (n := n)
  unfold execOp; rw [ho]; refine run_v ?_; rw [ha.eval hx]
  simp [Instr.fieldAt, run_underlying h1, h2, Instr.sureAddr, fieldPlace, run_sizeOf h6, h7, h3, add_none]
theorem ov_nil {p : Addr} (ho : o.op = .nilCheck x) (hx : ev E x = some (.pointer (some p))) : OpV P N w0 o E H (.pointer (some p)) := by
  refine ⟨fun a w ha hs => ?_⟩
  unfold execOp; rw [ho]; simp [ha.eval hx]
theorem ov_idx {e : TypeId} {n : Nat} [TSlice P T e n] {bk of l m : Nat} (ho : o.op = .indexAddr T x y) (hx : ev E x = some (.slice (some ⟨bk, of, none⟩) l m)) (hy : ev E y = some (.int k a)) (h : 0 ≤ a ∧ a < (l : Int)) :
    OpV P N w0 o E H (.pointer (some ⟨bk, of + a.toNat * n, none⟩)) := by
  refine ⟨fun A w ha hs => ?_⟩
  unfold execOp; rw [ho]; refine run_v ?_; rw [ha.eval hx, ha.eval hy]
  have h2 : 0 ≤ a ∧ a < (l : Int) := h
  simp [Instr.indexAt, run_underlying (TSlice.out (P := P) (T := T)), asIntOf, h2.1, h2.2, run_sizeOf (TSlice.size (P := P) (T := T)), add_none]
theorem ov_ld {bk i : Nat} {cs : Array Value} {t : TypeId} {fr : Nat × Nat} [TOne P T] (ho : o.op = .load T x) (hx : ev E x = some (.pointer (some ⟨bk, i, none⟩))) (hA : At H bk (.cells cs t fr)) (hv : cs.toList[i]? = some v) : OpV P N w0 o E H v := by
  refine ⟨fun A w ha hs => ?_⟩
  rw [Array.getElem?_toList] at hv
  obtain ⟨d, h1, h2⟩ := TOne.agg (P := P) (T := T)
  unfold execOp; rw [ho]; refine run_v ?_; rw [ha.eval hx]
  have hc : w.cell? ⟨bk, i, none⟩ = some v := by rw [hs.cell hA]; exact hv
  simp [Instr.loadAt, Instr.sureAddr, loadVar, run_isAgg h1 h2, hc]
theorem run_loadCells_ext {bk i n : Nat} {cs : Array Value} {t : TypeId} {fr : Nat × Nat} {w : World} (hs : Sat w0 H w) (hA : At H bk (.cells cs t fr)) (hl : i + n ≤ cs.size) :
    (loadCells ⟨bk, i, none⟩ n).run P w = .ok (cs.extract i (i + n)) w := by
  have hlen : (cs.extract i (i + n)).toList.length = n := by simp; omega
  have := run_loadCells_list (P := P) w ⟨bk, i, none⟩ (cs.extract i (i + n)).toList (fun j v hj => by
    rw [add_none, hs.cell hA]
    have hj' : (cs.extract i (i + n))[j]? = some v := by rw [Array.getElem?_toList] at hj; exact hj
    rw [Array.getElem?_extract] at hj'
    split at hj'
    · exact hj'
    · simp at hj')
  rw [hlen, Array.toArray_toList] at this
  exact this
theorem ov_ldN {bk i n : Nat} {cs : Array Value} {t : TypeId} {fr : Nat × Nat} [TAgg P T n] (ho : o.op = .load T x) (hx : ev E x = some (.pointer (some ⟨bk, i, none⟩))) (hA : At H bk (.cells cs t fr)) (hl : i + n ≤ cs.size) :
    OpV P N w0 o E H (.agg ((cs.toList.drop i).take n).toArray) := by
  refine ⟨fun A w ha hs => ?_⟩
  obtain ⟨d, h1, h2⟩ := TAgg.agg (P := P) (T := T)
  have he : ((cs.toList.drop i).take n).toArray = cs.extract i (i + n) := by
    apply Array.toList_inj.1; simp
  rw [he]
  unfold execOp; rw [ho]; refine run_v ?_; rw [ha.eval hx]
  simp [Instr.loadAt, Instr.sureAddr, loadVar, run_isAgg h1 h2, run_sizeOf (TAgg.size (P := P) (T := T)), run_loadCells_ext hs hA hl]
theorem ov_build {parts : Array (Nat × Operand)} {vs : List Value} {cells : Array Value} (ho : o.op = .build T parts) (hp : evs E (parts.toList.map (·.2)) = some vs)
    (hb : P.built T (List.zip (parts.toList.map (·.1)) vs) = some cells) : OpV P N w0 o E H (.agg cells) := by
  refine ⟨fun A w ha hs => ?_⟩
  unfold execOp; rw [ho]; refine run_v (run_build w T _ cells ?_)
  have : (parts.map fun (i, x) => (i, A.eval x)).toList = List.zip (parts.toList.map (·.1)) vs := by
    rw [← ha.evals hp, Array.toList_map]
    generalize parts.toList = l
    induction l with
    | nil => rfl
    | cons p l ih => obtain ⟨i, x⟩ := p; simp only [List.map_cons, List.zip_cons_cons, ih]
  rw [this]; exact hb
theorem ov_func {fn : Go.Fn} {first cap : Array Operand} {vs us : List Value} (ho : o.op = .makeFunc fn first cap) (h1 : evs E first.toList = some vs) (h2 : evs E cap.toList = some us) : OpV P N w0 o E H (.func fn vs.toArray us.toArray) := by
  refine ⟨fun A w ha hs => ?_⟩
  unfold execOp; rw [ho]
  have e1 : first.map A.eval = vs.toArray := by rw [← ha.evals h1, ← Array.toList_map, Array.toArray_toList]
  have e2 : cap.map A.eval = us.toArray := by rw [← ha.evals h2, ← Array.toList_map, Array.toArray_toList]
  simp [Instr.makeFunc, e1, e2]
/-! ### operations that turn the blocks -/
variable {ops : Array Oper} {rest : List Oper} {R : Post}
theorem L_box {t : Tmp} (hw : wantE ops E o = some true) (hd : o.dst = some t) (ht : Nat.blt t N = true) (ho : o.op = .box T x) (hx : ev E x = some v)
    (hk : ∀ b, L P N w0 ops rest ((t, .pointer (some ⟨b, 0, none⟩)) :: E) ((b, .cells v.cells T (0, 0)) :: H) R) : L P N w0 ops (o :: rest) E H R :=
  L_eff (S := fun u H' => ∃ b, u = .pointer (some ⟨b, 0, none⟩) ∧ H' = (b, .cells v.cells T (0, 0)) :: H) hw hd ht (fun A w ha hs => by
    refine ⟨.pointer (some ⟨w.heap.size, 0, none⟩), w.alloc (.cells v.cells T (0, 0)), (w.heap.size, .cells v.cells T (0, 0)) :: H, ?_, hs.alloc _, _, rfl, rfl⟩
    unfold execOp; rw [ho]; refine run_v ?_; rw [ha.eval hx]; rfl) (fun u H' ⟨b, e1, e2⟩ => by subst e1; subst e2; exact hk b)
theorem L_st {bk i : Nat} {cs : Array Value} {t : TypeId} [TOne P T] (hw : wantE ops E o = some true) (hd : o.dst = none) (ho : o.op = .store T x y) (hx : ev E x = some (.pointer (some ⟨bk, i, none⟩))) (hy : ev E y = some v)
    (h1 : v.oneCell' = true) (hU : Up H bk (.cells cs t (0, 0)) (.cells (cs.setIfInBounds i v) t (0, 0)) H') (hi : i < cs.size)
    (hk : L P N w0 ops rest E H' R) : L P N w0 ops (o :: rest) E H R :=
  L_effU hw hd (fun A w ha hs => by
    refine ⟨w.setCell ⟨bk, i, none⟩ v, ?_, hs.setCell hU⟩
    have hc : w.cell? ⟨bk, i, none⟩ = some cs[i] := by rw [hs.cell hU.at]; simp [hi]
    have hf : w.frozen? ⟨bk, i, none⟩ = false := by simp [World.frozen?, hs.block hU.at]
    have hcs : v.cells = #[v] := by cases v <;> first | rfl | simp [Value.oneCell'] at h1
    have h0 : (⟨bk, i, none⟩ : Addr).add 0 = ⟨bk, i, none⟩ := by simp [Addr.add]
    unfold execOp; rw [ho]; refine run_u ?_; rw [ha.eval hx, ha.eval hy]
    simp [Instr.storeAt, Instr.sureAddr, storeVar, hcs, run_sizeOf (TOne.size (P := P) (T := T)), storeCells, h0, run_store P w _ v _ h1, hc, hf]) hk
/-- several cells at once -/
def putAt (cs : Array Value) : Nat → List Value → Array Value
  | _, [] => cs
  | i, v :: vs => putAt (cs.setIfInBounds i v) (i + 1) vs
theorem size_putAt (vs : List Value) : ∀ (cs : Array Value) (i : Nat), (putAt cs i vs).size = cs.size := by
  induction vs with
  | nil => intros; rfl
  | cons v vs ih => intro cs i; simp [putAt, ih]
theorem up_self {H H' : HL} {b : Nat} {o o' : Obj} (u : Up H b o o' H') (e : o = o') : H' = H := by
  induction u with
  | here => subst e; rfl
  | there _ ih => rw [ih e]
theorem run_storeCells_putAt {bk : Nat} {t : TypeId} (vs : List Value) : ∀ (j : Nat) (i : Nat) (cs : Array Value) (w : World) (H H' : HL), Sat w0 H w → Up H bk (.cells cs t (0, 0)) (.cells (putAt cs (i + j) vs) t (0, 0)) H' → i + j + vs.length ≤ cs.size →
    (∀ v ∈ vs, v.oneCell' = true) → ∃ w', (storeCells ⟨bk, i, none⟩ vs j).run P w = .ok () w' ∧ Sat w0 H' w' := by
  have twice : ∀ {H H' : HL} {b : Nat} {o o1 o2 : Obj}, Up H b o o2 H' → ∃ H1, Up H b o o1 H1 ∧ Up H1 b o1 o2 H' := by
    intro H H' b o o1 o2 u
    induction u with
    | here => exact ⟨_, .here, .here⟩
    | there _ ih => obtain ⟨H1, u1, u2⟩ := ih; exact ⟨_, .there u1, .there u2⟩
  induction vs with
  | nil =>
    intro j i cs w H H' hs hU _ _
    exact ⟨w, by simp [storeCells], by rw [up_self hU rfl]; exact hs⟩
  | cons v vs ih =>
    intro j i cs w H H' hs hU hl h1
    obtain ⟨H1, u1, u2⟩ := twice (o1 := .cells (cs.setIfInBounds (i + j) v) t (0, 0)) hU
    have hi : i + j < cs.size := by simp at hl; omega
    have hc : w.cell? ⟨bk, i + j, none⟩ = some cs[i + j] := by rw [hs.cell hU.at]; simp [hi]
    have hf : w.frozen? ⟨bk, i + j, none⟩ = false := by simp [World.frozen?, hs.block hU.at]
    obtain ⟨w', e, h2⟩ := ih (j + 1) i (cs.setIfInBounds (i + j) v) (w.setCell ⟨bk, i + j, none⟩ v) H1 H' (hs.setCell u1) u2 (by simp at hl ⊢; omega) (fun x hx => h1 x (by simp [hx]))
    refine ⟨w', ?_, h2⟩
    simp [storeCells, add_none, run_store P w _ v _ (h1 v (by simp)), hc, hf, e]
theorem L_stN {bk i n : Nat} {cs us : Array Value} {t : TypeId} [TAgg P T n] (hw : wantE ops E o = some true) (hd : o.dst = none) (ho : o.op = .store T x y) (hx : ev E x = some (.pointer (some ⟨bk, i, none⟩))) (hy : ev E y = some (.agg us))
    (hn : us.toList.length = n) (h1 : us.toList.all (·.oneCell') = true) (hU : Up H bk (.cells cs t (0, 0)) (.cells (putAt cs i us.toList) t (0, 0)) H') (hi : i + n ≤ cs.size)
    (hk : L P N w0 ops rest E H' R) : L P N w0 ops (o :: rest) E H R :=
  L_effU hw hd (fun A w ha hs => by
    obtain ⟨w', e, h2⟩ := run_storeCells_putAt (P := P) us.toList 0 i cs w H H' hs hU (by omega) (fun v hv => List.all_eq_true.1 h1 v hv)
    have hn' : us.size = n := by simpa using hn
    refine ⟨w', ?_, h2⟩
    unfold execOp; rw [ho]; refine run_u ?_; rw [ha.eval hx, ha.eval hy]
    simp [Instr.storeAt, Instr.sureAddr, storeVar, Value.cells, hn', run_sizeOf (TAgg.size (P := P) (T := T)), e]) hk
/-- the zero value of a new variable -/
class TZero (P : Program) (T : TypeId) (z : outParam Value) : Prop where
  out : (P.info? T).map (·.zero) = some (some z)
theorem run_zero {z : Value} [TZero P T z] (w : World) : (zeroValue T).run P w = .ok z w := by
  have h := TZero.out (P := P) (T := T) (z := z)
  cases hq : P.info? T with
  | none => simp [hq] at h
  | some i =>
    have : i.zero = some z := by simpa [hq] using h
    simp [zeroValue, typeInfo, hq, this]
theorem L_alloc {t : Tmp} {z : Value} [TZero P T z] (hw : wantE ops E o = some true) (hd : o.dst = some t) (ht : Nat.blt t N = true) (ho : o.op = .alloc T)
    (hk : ∀ b, L P N w0 ops rest ((t, .pointer (some ⟨b, 0, none⟩)) :: E) ((b, .cells z.cells T (0, 0)) :: H) R) : L P N w0 ops (o :: rest) E H R :=
  L_eff (S := fun u H' => ∃ b, u = .pointer (some ⟨b, 0, none⟩) ∧ H' = (b, .cells z.cells T (0, 0)) :: H) hw hd ht (fun A w ha hs => by
    refine ⟨.pointer (some ⟨w.heap.size, 0, none⟩), w.alloc (.cells z.cells T (0, 0)), (w.heap.size, .cells z.cells T (0, 0)) :: H, ?_, hs.alloc _, _, rfl, rfl⟩
    unfold execOp; rw [ho]; refine run_v ?_
    show ((do let zero ← zeroValue T; pure (.pointer (some (← newVar T zero)))) : Sem Value).run P w = _
    simp only [Sem.run_bind, run_zero, Result.andThen_ok]
    rfl) (fun u H' ⟨b, e1, e2⟩ => by subst e1; subst e2; exact hk b)
theorem retC {fn : Func} {t n bk : Nat} {cs : Array Value} {ty : TypeId} {fr : Nat × Nat} [TAgg P T n] (h : fn.results = #[.cell t T]) (hv : look E t = some (.pointer (some ⟨bk, 0, none⟩))) (hA : At H bk (.cells cs ty fr)) (hn : cs.size = n) :
    RetV P N w0 fn E H (.agg cs) := by
  refine ⟨fun a w ha hs => ?_⟩
  obtain ⟨d, h1, h2⟩ := TAgg.agg (P := P) (T := T)
  have hl := run_loadCells_ext (P := P) (i := 0) (n := n) hs hA (by omega)
  have he : cs.extract 0 (0 + n) = cs := by rw [Nat.zero_add, ← hn]; simp
  rw [he] at hl
  simp [results, h, Array.getD_eq_getD_getElem?, ha.at_ t _ hv, asAddr, loadVar, run_isAgg h1 h2, run_sizeOf (TAgg.size (P := P) (T := T)), hl]
theorem retCT {fn : Func} {t u n bk : Nat} {cs : Array Value} {ty : TypeId} {fr : Nat × Nat} [TAgg P T n] (h : fn.results = #[.cell t T, .tmp u]) (hv : look E t = some (.pointer (some ⟨bk, 0, none⟩))) (hA : At H bk (.cells cs ty fr)) (hn : cs.size = n)
    (hu : look E u = some v) : RetV P N w0 fn E H (.tuple #[.agg cs, v]) := by
  refine ⟨fun a w ha hs => ?_⟩
  obtain ⟨d, h1, h2⟩ := TAgg.agg (P := P) (T := T)
  have hl := run_loadCells_ext (P := P) (i := 0) (n := n) hs hA (by omega)
  have he : cs.extract 0 (0 + n) = cs := by rw [Nat.zero_add, ← hn]; simp
  rw [he] at hl
  simp [results, h, Array.getD_eq_getD_getElem?, ha.at_ t _ hv, ha.at_ u _ hu, asAddr, loadVar, run_isAgg h1 h2, run_sizeOf (TAgg.size (P := P) (T := T)), hl]
/-! ### a struct of fields of one cell each -/
class TFlat (P : Program) (T : TypeId) (z : outParam (List Value)) : Prop where
  zero : (P.info? T).map (·.zero) = some (some (.agg z.toArray))
  flat : (match P.underlying T with
    | some (.struct fs) => (fs.toList.mapM fun f => (P.info? f.type).map fun i => (f.offset, i.size)) == some ((List.range z.length).map fun i => (i, 1))
    | _ => false) = true
def setParts : List Value → List (Nat × Value) → List Value
  | z, [] => z
  | z, (i, v) :: ps => setParts (z.set i v) ps
theorem length_setParts (ps : List (Nat × Value)) : ∀ z : List Value, (setParts z ps).length = z.length := by
  induction ps with
  | nil => intro z; rfl
  | cons p ps ih => intro z; simp [setParts, ih]
theorem fill_one (n : Nat) (place : Nat → Option (Nat × Nat)) (hp : ∀ i, i < n → place i = some (i, 1)) (ps : List (Nat × Value)) : ∀ z : List Value, z.length = n → (∀ p ∈ ps, p.1 < n ∧ p.2.cells = #[p.2]) →
    Instr.fill place z.toArray ps = some (setParts z ps).toArray := by
  induction ps with
  | nil => intro z _ _; rfl
  | cons p ps ih =>
    intro z hz h
    obtain ⟨i, v⟩ := p
    obtain ⟨h1, h2⟩ := h (i, v) (by simp)
    simp only at h1 h2
    have hc : ¬ (v.cells.size ≠ 1 ∨ i + v.cells.size > z.toArray.size) := by simp [h2]; omega
    unfold Instr.fill
    simp only [hp i h1]
    rw [if_neg (by simpa using hc)]
    have : (v.cells.zipIdx.foldl (fun cs (c, j) => cs.setIfInBounds (i + j) c) z.toArray) = (z.set i v).toArray := by simp [h2]
    rw [this]
    exact ih (z.set i v) (by simpa using hz) (fun p hp => h p (by simp [hp]))
theorem built_flat {z : List Value} [TFlat P T z] (ps : List (Nat × Value)) (h : ∀ p ∈ ps, p.1 < z.length ∧ p.2.cells = #[p.2]) : P.built T ps = some (setParts z ps).toArray := by
  have h1 := TFlat.zero (P := P) (T := T) (z := z)
  have h2 := TFlat.flat (P := P) (T := T) (z := z)
  unfold Program.built
  cases hq : P.info? T with
  | none => simp [hq] at h1
  | some i =>
    have hz : i.zero = some (.agg z.toArray) := by simpa [hq] using h1
    cases hu : P.underlying T with
    | none => simp [hu] at h2
    | some d =>
      cases d <;> simp [hu] at h2
      case struct fs =>
        simp only [hz]
        rw [h2]
        simp only
        refine fill_one z.length _ (fun i hi => ?_) ps z rfl h
        simp [hi]
theorem cells_one {v : Value} (h : v.oneCell' = true) : v.cells = #[v] := by cases v <;> first | rfl | simp [Value.oneCell'] at h
theorem ov_build0 {z : List Value} [TFlat P T z] (ho : o.op = .build T #[]) : OpV P N w0 o E H (.agg z.toArray) :=
  ov_build ho (vs := []) rfl (built_flat (P := P) (T := T) [] (fun p hp => by simp at hp))
theorem ov_build2 {z : List Value} [TFlat P T z] {i j : Nat} {u w : Value} (ho : o.op = .build T #[(i, x), (j, y)]) (hx : ev E x = some u) (hy : ev E y = some w) (h1 : u.oneCell' = true) (h2 : w.oneCell' = true)
    (hi : Nat.blt i z.length = true) (hj : Nat.blt j z.length = true) {cs : List Value} (hc : setParts z [(i, u), (j, w)] = cs) : OpV P N w0 o E H (.agg cs.toArray) := by
  subst hc
  refine ov_build ho (vs := [u, w]) (by simp [evs, hx, hy]) (built_flat (P := P) (T := T) _ (fun p hp => ?_))
  simp at hp hi hj
  rcases hp with rfl | rfl
  · exact ⟨hi, cells_one h1⟩
  · exact ⟨hj, cells_one h2⟩
theorem ov_build1 {z : List Value} [TFlat P T z] {i : Nat} {u : Value} (ho : o.op = .build T #[(i, x)]) (hx : ev E x = some u) (h1 : u.oneCell' = true)
    (hi : Nat.blt i z.length = true) {cs : List Value} (hc : setParts z [(i, u)] = cs) : OpV P N w0 o E H (.agg cs.toArray) := by
  subst hc
  refine ov_build ho (vs := [u]) (by simp [evs, hx]) (built_flat (P := P) (T := T) _ (fun p hp => ?_))
  simp at hp hi
  subst hp
  exact ⟨hi, cells_one h1⟩
theorem ov_build3 {z : List Value} [TFlat P T z] {i j k : Nat} {u w s : Value} {q : Operand} (ho : o.op = .build T #[(i, x), (j, y), (k, q)]) (hx : ev E x = some u) (hy : ev E y = some w) (hq : ev E q = some s) (h1 : u.oneCell' = true) (h2 : w.oneCell' = true) (h3 : s.oneCell' = true)
    (hi : Nat.blt i z.length = true) (hj : Nat.blt j z.length = true) (hk : Nat.blt k z.length = true) {cs : List Value} (hc : setParts z [(i, u), (j, w), (k, s)] = cs) : OpV P N w0 o E H (.agg cs.toArray) := by
  subst hc
  refine ov_build ho (vs := [u, w, s]) (by simp [evs, hx, hy, hq]) (built_flat (P := P) (T := T) _ (fun p hp => ?_))
  simp at hp hi hj hk
  rcases hp with rfl | rfl | rfl
  · exact ⟨hi, cells_one h1⟩
  · exact ⟨hj, cells_one h2⟩
  · exact ⟨hk, cells_one h3⟩
theorem ov_build2' {z : List Value} [TFlat P T z] {u w : Value} (ho : o.op = .build T #[(0, x), (1, y)]) (hz : z.length = 2) (hx : ev E x = some u) (hy : ev E y = some w) (h1 : u.oneCell' = true) (h2 : w.oneCell' = true) :
    OpV P N w0 o E H (.agg #[u, w]) :=
  ov_build2 ho hx hy h1 h2 (by rw [hz]; rfl) (by rw [hz]; rfl) (cs := [u, w]) (by
    match z, hz with
    | [_, _], _ => rfl)
theorem ov_build3' {z : List Value} [TFlat P T z] {u w s : Value} {q : Operand} (ho : o.op = .build T #[(0, x), (1, y), (2, q)]) (hz : z.length = 3) (hx : ev E x = some u) (hy : ev E y = some w) (hq : ev E q = some s) (h1 : u.oneCell' = true) (h2 : w.oneCell' = true) (h3 : s.oneCell' = true) :
    OpV P N w0 o E H (.agg #[u, w, s]) :=
  ov_build3 ho hx hy hq h1 h2 h3 (by rw [hz]; rfl) (by rw [hz]; rfl) (by rw [hz]; rfl) (cs := [u, w, s]) (by
    match z, hz with
    | [_, _, _], _ => rfl)
/-- a whole block -/
theorem ov_ldW {bk n : Nat} {cs : Array Value} {t : TypeId} {fr : Nat × Nat} [TAgg P T n] (ho : o.op = .load T x) (hx : ev E x = some (.pointer (some ⟨bk, 0, none⟩))) (hA : At H bk (.cells cs t fr)) (hl : cs.toList.length = n) :
    OpV P N w0 o E H (.agg cs) := by
  have h := ov_ldN (P := P) (N := N) (w0 := w0) (E := E) (H := H) (o := o) (i := 0) (n := n) ho hx hA (by simp at hl; omega)
  have e : ((cs.toList.drop 0).take n).toArray = cs := by
    rw [List.drop_zero, ← hl, List.take_length]
  rwa [e] at h
theorem L_stW {bk n : Nat} {cs us : Array Value} {t : TypeId} [TAgg P T n] (hw : wantE ops E o = some true) (hd : o.dst = none) (ho : o.op = .store T x y) (hx : ev E x = some (.pointer (some ⟨bk, 0, none⟩))) (hy : ev E y = some (.agg us))
    (hn : us.toList.length = n) (h1 : us.toList.all (·.oneCell') = true) (hU : Up H bk (.cells cs t (0, 0)) (.cells us t (0, 0)) H') (hi : cs.toList.length = n)
    (hk : L P N w0 ops rest E H' R) : L P N w0 ops (o :: rest) E H R := by
  have key : ∀ (vs : List Value) (i : Nat) (cs : Array Value), i + vs.length = cs.size → putAt cs i vs = (cs.toList.take i ++ vs).toArray := by
    intro vs
    induction vs with
    | nil => intro i cs h; apply Array.toList_inj.1; simp at h; simp only [putAt, List.append_nil]; rw [List.take_of_length_le (by simp; omega)]
    | cons v vs ih =>
      intro i cs h
      simp only [putAt]
      rw [ih (i + 1) _ (by simp at h ⊢; omega)]
      apply Array.toList_inj.1
      apply List.ext_getElem?
      intro k
      have hlt : i < cs.size := by simp at h; omega
      simp only [Array.toList_setIfInBounds, List.getElem?_append, List.length_take, List.length_set, Array.length_toList, List.getElem?_take, List.getElem?_set, show min (i + 1) cs.size = i + 1 by omega, show min i cs.size = i by omega]
      by_cases hk : k < i
      · simp [hk, show k < i + 1 by omega, show i ≠ k by omega]
      · by_cases hk2 : k = i
        · subst hk2; simp [hlt]
        · simp [hk, show ¬ k < i + 1 by omega, show k - i = (k - (i + 1)) + 1 by omega]
  have e : putAt cs 0 us.toList = us := by
    rw [key us.toList 0 cs (by simp at hn hi ⊢; omega)]
    simp
  exact L_stN (i := 0) hw hd ho hx hy hn h1 (by rw [e]; exact hU) (by simp at hi; omega) hk
end
class TInfo (P : Program) (T : TypeId) (z : outParam Value) (n bytes : outParam Nat) : Prop where
  out : (P.info? T).map (fun i => (i.zero, i.size, i.bytes)) = some (some z, n, bytes)
end Go.Proofs.Ytepddopgmhdllaa.Eng
