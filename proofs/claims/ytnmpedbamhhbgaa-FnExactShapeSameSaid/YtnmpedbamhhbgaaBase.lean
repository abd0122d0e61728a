/- Plain facts on words, heads and values: numbers alone, no program, no memory. -/
import Derived.RowKit
import Derived.Laws.BitsLemmas
namespace Go.Proofs.Ytnmpedbamhhbgaa.Base
set_option linter.unusedVariables false
set_option linter.unusedSimpArgs false
open Go.RowKit (wrap64)

theorem wraps_u64 (n : Int) (h0 : 0 ≤ n) (h1 : n < 2 ^ 64) : IntKind.u64.wrap n = n := by
  have : IntKind.u64.wrap n = n % 18446744073709551616 := by simp [IntKind.wrap, IntKind.bits, IntKind.signed]
  rw [this]; omega

theorem wf_u64 {x : Int} (h : (Lit.int .u64 x).wf = true) : 0 ≤ x ∧ x < 18446744073709551616 := by
  simp [Lit.wf, IntKind.min, IntKind.max, IntKind.bits, IntKind.signed] at h
  omega

theorem wf_i64 {x : Int} (h : (Lit.int .i64 x).wf = true) : -9223372036854775808 ≤ x ∧ x < 9223372036854775808 := by
  simp [Lit.wf, IntKind.min, IntKind.max, IntKind.bits, IntKind.signed] at h
  omega

section
variable {x : Int} (h0 : 0 ≤ x) (h1 : x < 18446744073709551616)
include h0 h1
theorem and15 : bits .and .u64 x 15 = x % 16 := bits_mask .u64 64 (by decide) wraps_u64 4 (by decide) x h0 h1
theorem and65535 : bits .and .u64 x 65535 = x % 65536 := bits_mask .u64 64 (by decide) wraps_u64 16 (by decide) x h0 h1
theorem and32 : bits .and .u64 x 4294967295 = x % 4294967296 := bits_mask .u64 64 (by decide) wraps_u64 32 (by decide) x h0 h1
theorem and63 : bits .and .u64 x 9223372036854775807 = x % 9223372036854775808 := bits_mask .u64 64 (by decide) wraps_u64 63 (by decide) x h0 h1
theorem andNot63 : bits .andNot .u64 x 9223372036854775808 = x % 9223372036854775808 := by
  rw [← and63 h0 h1]
  have e : ~~~(BitVec.ofInt 64 9223372036854775808) = BitVec.ofInt 64 9223372036854775807 := by decide
  show IntKind.u64.wrap ((BitVec.ofInt 64 x &&& ~~~(BitVec.ofInt 64 9223372036854775808)).toNat : Int) = IntKind.u64.wrap ((BitVec.ofInt 64 x &&& BitVec.ofInt 64 9223372036854775807).toNat : Int)
  rw [e]
theorem andTop : (bits .and .u64 x 9223372036854775808 = 0) ↔ x < 9223372036854775808 := by
  obtain ⟨a, rfl⟩ := Int.eq_ofNat_of_zero_le h0
  have ha : a < 2 ^ 64 := by omega
  have e := (bits_nat .u64 64 (by decide) wraps_u64 a (2 ^ 63) ha (by decide)).1
  have e2 : ((2 ^ 63 : Nat) : Int) = 9223372036854775808 := by decide
  rw [e2] at e
  rw [e]
  constructor
  · intro h
    have h' : a &&& 2 ^ 63 = 0 := by omega
    have t : (a &&& 2 ^ 63).testBit 63 = false := by rw [h']; simp
    rw [Nat.testBit_and, Nat.testBit_two_pow_self, Bool.and_true, Nat.testBit_eq_decide_div_mod_eq] at t
    have t2 := of_decide_eq_false t
    omega
  · intro h
    have h' : a < 2 ^ 63 := by omega
    have : a &&& 2 ^ 63 = 0 := by
      apply Nat.eq_of_testBit_eq
      intro i
      rw [Nat.testBit_and, Nat.testBit_two_pow, Nat.zero_testBit]
      by_cases hi : 63 = i
      · subst hi
        rw [Nat.testBit_lt_two_pow h']; simp
      · simp [hi]
    omega
end

theorem wrap64_in {x : Int} (h0 : -9223372036854775808 ≤ x) (h1 : x < 9223372036854775808) : wrap64 x = x := by unfold wrap64; omega

/-- 'Option.bind_some', not by rfl: so the kernel does not try whether 'some a' is what a callee computes. -/
theorem obind {α β : Type} (a : α) (f : α → Option β) : (some a).bind f = f a := by rw [Option.bind_some]
theorem beqd (a b : Int) : (a == b) = decide (a = b) := rfl
theorem bned (a b : Int) : (a != b) = decide (a ≠ b) := by rw [bne, beqd]; simp

/-- A size may be, of a kind. -/
def SizeP (k s : Int) : Prop := (k = 1 ∧ 1 ≤ s ∧ s ≤ 21) ∨ (k = 2 ∧ s = 3) ∨ (k = 3 ∧ (s = 16 ∨ s = 32 ∨ s = 64 ∨ s = 128 ∨ s = 256)) ∨ (k = 4 ∧ 1 ≤ s ∧ s ≤ 25 ∧ s % 2 = 1) ∨ (k = 5 ∧ s = 2) ∨ (k = 6 ∧ s = 126)
instance (k s : Int) : Decidable (SizeP k s) := by unfold SizeP; infer_instance
/-- A kind has birth numbers. -/
def BornP (k : Int) : Prop := k = 2 ∨ k = 4 ∨ k = 6
instance (k : Int) : Decidable (BornP k) := by unfold BornP; infer_instance
/-- A head may be: its kind, its size, its serial. -/
def HeadP (k s n : Int) : Prop := SizeP k s ∧ (BornP k ∧ 1 ≤ n ∧ n ≤ 1000000000 ∨ ¬ BornP k ∧ n = 0)
instance (k s n : Int) : Decidable (HeadP k s n) := by unfold HeadP; infer_instance

theorem HeadP.range {k s n : Int} (h : HeadP k s n) : 1 ≤ k ∧ k ≤ 6 ∧ 1 ≤ s ∧ s ≤ 256 ∧ 0 ≤ n ∧ n ≤ 1000000000 := by
  obtain ⟨h1, h2⟩ := h
  have a : 1 ≤ k ∧ k ≤ 6 ∧ 1 ≤ s ∧ s ≤ 256 := by unfold SizeP at h1; omega
  have b : 0 ≤ n ∧ n ≤ 1000000000 := by rcases h2 with h | h <;> omega
  omega

/-- The kind of what a tag leads to; 0: to nothing. -/
def kindOf (t : Int) : Int := if t = 3 then 1 else if t = 4 then 2 else if t = 5 then 4 else if t = 6 then 6 else if t = 8 then 3 else if t = 9 then 5 else 0

theorem kindOf_ne {t : Int} : kindOf t ≠ 0 ↔ (t = 3 ∨ t = 4 ∨ t = 5 ∨ t = 6 ∨ t = 8 ∨ t = 9) := by
  unfold kindOf; constructor
  · intro h; omega
  · intro h; omega

/-- A value may be. -/
def ValP (t n : Int) : Prop :=
  (t = 0 ∧ n = 0) ∨ (t = 1 ∧ 0 ≤ n ∧ n ≤ 1) ∨ t = 2 ∨ (t = 7 ∧ 1 ≤ n ∧ n ≤ 20) ∨ ((t = 3 ∨ t = 4 ∨ t = 5 ∨ t = 6 ∨ t = 8 ∨ t = 9) ∧ 0 < n)
instance (t n : Int) : Decidable (ValP t n) := by unfold ValP; infer_instance

theorem some_decide {p q : Prop} [Decidable p] [Decidable q] (h : p ↔ q) : some (decide p) = some (decide q) := by
  rw [decide_eq_decide.2 h]
theorem some_false {q : Prop} [Decidable q] (h : ¬ q) : some false = some (decide q) := by rw [decide_eq_false h]
theorem some_true {q : Prop} [Decidable q] (h : q) : some true = some (decide q) := by rw [decide_eq_true h]
end Go.Proofs.Ytnmpedbamhhbgaa.Base
