/- An arena in memory: where its two rows lie; rows of numbers, of values. -/
import Derived.Test.YtfmhlieaodbgiaaGreatBkO
import Derived.Test.YtfmhlieaodbgiaaGreatTys
import Derived.Test.YtfmhlieaodbgiaaGreatBkA
namespace Go.Proofs.YtfmhlieaodbgiaaGreat.Eng
open Go Go.RowKit Go.Proofs.YtfmhlieaodbgiaaGreat.Sl Go.Proofs.YtfmhlieaodbgiaaGreat.Ar Go.Proofs.YtfmhlieaodbgiaaGreat.Base
set_option linter.unusedVariables false
set_option linter.unusedSimpArgs false
/-- a row of numbers, and what is spare -/
def rowA (k : IntKind) (xs : List Int) (sp : List Value) : Array Value := (xs.map (Value.int k) ++ sp).toArray
def rowB (xs : List Bool) (sp : List Value) : Array Value := (xs.map Value.bool ++ sp).toArray
def flat : List (Int × Int) → List Value
  | [] => []
  | v :: vs => .int .i64 v.1 :: .int .i64 v.2 :: flat vs
def rowV (vs : List (Int × Int)) (sp : List Value) : Array Value := (flat vs ++ sp).toArray
theorem ld_row {k : IntKind} {xs : List Int} {sp : List Value} {i : Int} (h0 : 0 ≤ i) (h : i < (xs.length : Int)) : (rowA k xs sp).toList[0 + i.toNat * 1]? = some (.int k (g xs i)) := by
  have hl : i.toNat < xs.length := by omega
  simp [rowA, g, List.getElem?_append_left, hl]
theorem flat_get (vs : List (Int × Int)) : ∀ i : Nat, i < vs.length → (flat vs)[2 * i]? = some (.int .i64 (vs.getD i (0, 0)).1) ∧ (flat vs)[2 * i + 1]? = some (.int .i64 (vs.getD i (0, 0)).2) := by
  induction vs with
  | nil => intro i h; simp at h
  | cons v vs ih =>
    intro i h
    cases i with
    | zero => exact ⟨rfl, rfl⟩
    | succ i =>
      have := ih i (by simpa using h)
      rw [show 2 * (i + 1) = 2 * i + 1 + 1 by omega, show 2 * i + 1 + 1 + 1 = (2 * i + 1) + 1 + 1 by omega]
      simpa [flat] using this
theorem length_flat (vs : List (Int × Int)) : (flat vs).length = 2 * vs.length := by
  induction vs with
  | nil => rfl
  | cons v vs ih => simp [flat, ih]; omega
structure Cn where
  bw : Nat
  wc : Nat
  ws : List Value
  br : Nat
  rc : Nat
  rs : List Value
abbrev arV (C : Cn) (A : Ar) : Value := .agg #[.slice (some ⟨C.bw, 0, none⟩) A.ws.length C.wc, .int .i64 A.semi, .int .i64 A.to, .int .i64 A.top, .bool A.cyc, .int .i64 A.scan, .int .i64 A.old, .int .i64 A.copied, .int .i64 A.serial, .slice (some ⟨C.br, 0, none⟩) A.vs.length C.rc]
abbrev wObj (C : Cn) (A : Ar) : Obj := .cells (rowA .u64 A.ws C.ws) 64 (0, 0)
abbrev rObj (C : Cn) (A : Ar) : Obj := .cells (rowV A.vs C.rs) 35 (0, 0)
section
variable {P : Program} {N : Nat} {w0 : World} {E : Env} {H : HL} {o : Oper} {x y : Operand} {T T2 : TypeId} {k k2 : IntKind} {a b c : Int}
theorem ov_andv (ho : o.op = .binOp .and T x y T2) (hx : ev E x = some (.int k a)) (hy : ev E y = some (.int k b)) (e : bits .and k a b = c) : OpV P N w0 o E H (.int k c) := e ▸ ov_and ho hx hy
theorem ov_shrv (ho : o.op = .binOp .shr T x y T2) (hx : ev E x = some (.int k a)) (hy : ev E y = some (.int k2 b)) (hb : 0 ≤ b) (hb2 : b ≤ k.bits) (e : (2 : Int) ^ b.toNat = c) : OpV P N w0 o E H (.int k (a / c)) := e ▸ ov_shr ho hx hy hb hb2
theorem ov_convu [TInt P T2 .u64] [TInt P T k] (ho : o.op = .convert T T2 x) (hx : ev E x = some (.int k a)) (h : 0 ≤ a ∧ a ≤ 18446744073709551615) : OpV P N w0 o E H (.int .u64 a) := by
  have := ov_conv (P := P) (N := N) (w0 := w0) (E := E) (H := H) ho hx
  rwa [IntWalk.u64_in _ h] at this
theorem sg_is {a : Int} (h : 0 ≤ a ∧ a < 18446744073709551616) : IntKind.i64.wrap a = sg a := by
  rw [IntKind.wrap_i64]; unfold sg; split <;> omega
theorem ov_sg [TInt P T2 .i64] [TInt P T .u64] (ho : o.op = .convert T T2 x) (hx : ev E x = some (.int .u64 a)) (h : 0 ≤ a ∧ a < 18446744073709551616) : OpV P N w0 o E H (.int .i64 (sg a)) := by
  have := ov_conv (P := P) (N := N) (w0 := w0) (E := E) (H := H) ho hx
  rwa [sg_is h] at this
theorem ov_addu (ho : o.op = .binOp .add T x y T2) (hx : ev E x = some (.int .u64 a)) (hy : ev E y = some (.int .u64 b)) (h : 0 ≤ a + b ∧ a + b ≤ 18446744073709551615) : OpV P N w0 o E H (.int .u64 (a + b)) := by
  have := ov_addw (P := P) (N := N) (w0 := w0) (E := E) (H := H) ho hx hy
  rwa [IntWalk.u64_in _ h] at this
theorem ov_mulu (ho : o.op = .binOp .mul T x y T2) (hx : ev E x = some (.int .u64 a)) (hy : ev E y = some (.int .u64 b)) (h : 0 ≤ a * b ∧ a * b ≤ 18446744073709551615) : OpV P N w0 o E H (.int .u64 (a * b)) := by
  have := ov_mulw (P := P) (N := N) (w0 := w0) (E := E) (H := H) ho hx hy
  rwa [IntWalk.u64_in _ h] at this
end
theorem bx {p q : Prop} [Decidable p] [Decidable q] (h : p ↔ q) : Value.bool (decide p) = .bool (decide q) := by rw [decide_eq_decide.2 h]
theorem b0 {q : Prop} [Decidable q] (h : ¬ q) : Value.bool false = .bool (decide q) := by rw [decide_eq_false h]
theorem b1 {q : Prop} [Decidable q] (h : q) : Value.bool true = .bool (decide q) := by rw [decide_eq_true h]
theorem bn {p q : Prop} [Decidable p] [Decidable q] (h : ¬ p ↔ q) : Value.bool (!(decide p)) = .bool (decide q) := by
  by_cases hp : p
  · rw [decide_eq_true hp, decide_eq_false (fun hq => h.2 hq hp)]; rfl
  · rw [decide_eq_false hp, decide_eq_true (h.1 hp)]; rfl
abbrev hdV (w : Int) : Value := .agg #[.int .i64 (rk w), .int .i64 (rs w), .int .i64 (rn w)]
end Go.Proofs.YtfmhlieaodbgiaaGreat.Eng
