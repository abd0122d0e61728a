/- Plain facts on words, heads and values: numbers alone, no program, no memory. -/
import Derived.RowKit
import Derived.Laws.BitsLemmas
namespace Go.Proofs.YtfmhlieaodbgiaaGreat.Base
set_option linter.unusedVariables false
set_option linter.unusedSimpArgs false
open Go.RowKit (wrap64)

theorem wraps_u64 (n : Int) (h0 : 0 ≤ n) (h1 : n < 2 ^ 64) : IntKind.u64.wrap n = n := by
  have : IntKind.u64.wrap n = n % 18446744073709551616 := by simp [IntKind.wrap, IntKind.bits, IntKind.signed]
  rw [this]; omega

theorem wf_u64 {x : Int} (h : (Lit.int .u64 x).wf = true) : 0 ≤ x ∧ x < 18446744073709551616 := by
  simp [Lit.wf, IntKind.min, IntKind.max, IntKind.bits, IntKind.signed] at h
  omega

theorem wf_i64 {x : Int} (h : (Lit.int .i64 x).wf = true) : -9223372036854775808 ≤ x ∧ x < 9223372036854775808 := by
  simp [Lit.wf, IntKind.min, IntKind.max, IntKind.bits, IntKind.signed] at h
  omega

section
variable {x : Int} (h0 : 0 ≤ x) (h1 : x < 18446744073709551616)
include h0 h1
theorem and15 : bits .and .u64 x 15 = x % 16 := bits_mask .u64 64 (by decide) wraps_u64 4 (by decide) x h0 h1
theorem and65535 : bits .and .u64 x 65535 = x % 65536 := bits_mask .u64 64 (by decide) wraps_u64 16 (by decide) x h0 h1
theorem and32 : bits .and .u64 x 4294967295 = x % 4294967296 := bits_mask .u64 64 (by decide) wraps_u64 32 (by decide) x h0 h1
theorem and63 : bits .and .u64 x 9223372036854775807 = x % 9223372036854775808 := bits_mask .u64 64 (by decide) wraps_u64 63 (by decide) x h0 h1
theorem andNot63 : bits .andNot .u64 x 9223372036854775808 = x % 9223372036854775808 := by
  rw [← and63 h0 h1]
  have e : ~~~(BitVec.ofInt 64 9223372036854775808) = BitVec.ofInt 64 9223372036854775807 := by decide
  show IntKind.u64.wrap ((BitVec.ofInt 64 x &&& ~~~(BitVec.ofInt 64 9223372036854775808)).toNat : Int) = IntKind.u64.wrap ((BitVec.ofInt 64 x &&& BitVec.ofInt 64 9223372036854775807).toNat : Int)
  rw [e]
theorem andTop : (bits .and .u64 x 9223372036854775808 = 0) ↔ x < 9223372036854775808 := by
  obtain ⟨a, rfl⟩ := Int.eq_ofNat_of_zero_le h0
  have ha : a < 2 ^ 64 := by omega
  have e := (bits_nat .u64 64 (by decide) wraps_u64 a (2 ^ 63) ha (by decide)).1
  have e2 : ((2 ^ 63 : Nat) : Int) = 9223372036854775808 := by decide
  rw [e2] at e
  rw [e]
  constructor
  · intro h
    have h' : a &&& 2 ^ 63 = 0 := by omega
    have t : (a &&& 2 ^ 63).testBit 63 = false := by rw [h']; simp
    rw [Nat.testBit_and, Nat.testBit_two_pow_self, Bool.and_true, Nat.testBit_eq_decide_div_mod_eq] at t
    have t2 := of_decide_eq_false t
    omega
  · intro h
    have h' : a < 2 ^ 63 := by omega
    have : a &&& 2 ^ 63 = 0 := by
      apply Nat.eq_of_testBit_eq
      intro i
      rw [Nat.testBit_and, Nat.testBit_two_pow, Nat.zero_testBit]
      by_cases hi : 63 = i
      · subst hi
        rw [Nat.testBit_lt_two_pow h']; simp
      · simp [hi]
    omega
end

theorem wrap64_in {x : Int} (h0 : -9223372036854775808 ≤ x) (h1 : x < 9223372036854775808) : wrap64 x = x := by unfold wrap64; omega

/-- 'Option.bind_some', not by rfl: so the kernel does not try whether 'some a' is what a callee computes. -/
theorem obind {α β : Type} (a : α) (f : α → Option β) : (some a).bind f = f a := by rw [Option.bind_some]
theorem beqd (a b : Int) : (a == b) = decide (a = b) := rfl
theorem bned (a b : Int) : (a != b) = decide (a ≠ b) := by rw [bne, beqd]; simp

/-- A size may be, of a kind. -/
def SizeP (k s : Int) : Prop := (k = 1 ∧ 1 ≤ s ∧ s ≤ 21) ∨ (k = 2 ∧ s = 3) ∨ (k = 3 ∧ (s = 16 ∨ s = 32 ∨ s = 64 ∨ s = 128 ∨ s = 256)) ∨ (k = 4 ∧ 1 ≤ s ∧ s ≤ 25 ∧ s % 2 = 1) ∨ (k = 5 ∧ s = 2) ∨ (k = 6 ∧ s = 126)
instance (k s : Int) : Decidable (SizeP k s) := by unfold SizeP; infer_instance
/-- A kind has birth numbers. -/
def BornP (k : Int) : Prop := k = 2 ∨ k = 4 ∨ k = 6
instance (k : Int) : Decidable (BornP k) := by unfold BornP; infer_instance
/-- A head may be: its kind, its size, its serial. -/
def HeadP (k s n : Int) : Prop := SizeP k s ∧ (BornP k ∧ 1 ≤ n ∧ n ≤ 1000000000 ∨ ¬ BornP k ∧ n = 0)
instance (k s n : Int) : Decidable (HeadP k s n) := by unfold HeadP; infer_instance

theorem HeadP.range {k s n : Int} (h : HeadP k s n) : 1 ≤ k ∧ k ≤ 6 ∧ 1 ≤ s ∧ s ≤ 256 ∧ 0 ≤ n ∧ n ≤ 1000000000 := by
  obtain ⟨h1, h2⟩ := h
  have a : 1 ≤ k ∧ k ≤ 6 ∧ 1 ≤ s ∧ s ≤ 256 := by unfold SizeP at h1; omega
  have b : 0 ≤ n ∧ n ≤ 1000000000 := by rcases h2 with h | h <;> omega
  omega

/-- The kind of what a tag leads to; 0: to nothing. -/
def kindOf (t : Int) : Int := if t = 3 then 1 else if t = 4 then 2 else if t = 5 then 4 else if t = 6 then 6 else if t = 8 then 3 else if t = 9 then 5 else 0

theorem kindOf_ne {t : Int} : kindOf t ≠ 0 ↔ (t = 3 ∨ t = 4 ∨ t = 5 ∨ t = 6 ∨ t = 8 ∨ t = 9) := by
  unfold kindOf; constructor
  · intro h; omega
  · intro h; omega

/-- A value may be. -/
def ValP (t n : Int) : Prop :=
  (t = 0 ∧ n = 0) ∨ (t = 1 ∧ 0 ≤ n ∧ n ≤ 1) ∨ t = 2 ∨ (t = 7 ∧ 1 ≤ n ∧ n ≤ 20) ∨ ((t = 3 ∨ t = 4 ∨ t = 5 ∨ t = 6 ∨ t = 8 ∨ t = 9) ∧ 0 < n)
instance (t n : Int) : Decidable (ValP t n) := by unfold ValP; infer_instance

theorem some_decide {p q : Prop} [Decidable p] [Decidable q] (h : p ↔ q) : some (decide p) = some (decide q) := by
  rw [decide_eq_decide.2 h]
theorem some_false {q : Prop} [Decidable q] (h : ¬ q) : some false = some (decide q) := by rw [decide_eq_false h]
theorem some_true {q : Prop} [Decidable q] (h : q) : some true = some (decide q) := by rw [decide_eq_true h]
end Go.Proofs.YtfmhlieaodbgiaaGreat.Base
namespace Go.Proofs.YtfmhlieaodbgiaaGreat.Ar
open Go.Proofs.YtfmhlieaodbgiaaGreat.Base
set_option linter.unusedVariables false
set_option linter.unusedSimpArgs false

/-- a list at a number -/
def g (l : List Int) (i : Int) : Int := l.getD i.toNat 0
def inB (x lo hi : Int) : Bool := decide (lo ≤ x ∧ x ≤ hi)
def sizeOk (k s : Int) : Bool := decide (SizeP k s)
def isBorn (k : Int) : Bool := decide (BornP k)
def headOk (k s n : Int) : Bool := decide (HeadP k s n)
/-- the parts of a head's word -/
def hk (w : Int) : Int := w % 16
def hs (w : Int) : Int := w / 16 % 65536
def hn (w : Int) : Int := w / 1048576
def hOk (w : Int) : Bool := headOk (hk w) (hs w) (hn w)
/-- what ReadHead hands back -/
def rk (w : Int) : Int := if hOk w = true then hk w else 0
def rs (w : Int) : Int := if hOk w = true then hs w else 0
def rn (w : Int) : Int := if hOk w = true then hn w else 0
def isFw (w : Int) : Bool := decide (9223372036854775808 ≤ w ∧ w ≤ 9223372036854775808 + 2147483647)
def fw (w : Int) : Int := if isFw w = true then w - 9223372036854775808 else 0
abbrev kd (t : Int) : Int := kindOf t
def isRef (t : Int) : Bool := decide (kd t ≠ 0)
def valOk (t n : Int) : Bool := decide (ValP t n)
/-- int(uint64) -/
def sg (x : Int) : Int := if x < 9223372036854775808 then x else x - 18446744073709551616
/-- the value that stands at a place -/
def rv (ws : List Int) (p : Int) : Bool := decide (g ws p ≤ 9) && valOk (g ws p) (sg (g ws (p + 1)))
def rvT (ws : List Int) (p : Int) : Int := if rv ws p = true then g ws p else 0
def rvN (ws : List Int) (p : Int) : Int := if rv ws p = true then sg (g ws (p + 1)) else 0
theorem valLe {t n : Int} (h : ValP t n) : 0 ≤ t ∧ t ≤ 9 := by unfold ValP at h; omega
theorem rv_eq (ws : List Int) (p : Int) : rv ws p = valOk (g ws p) (sg (g ws (p + 1))) := by
  unfold rv valOk
  by_cases h : ValP (g ws p) (sg (g ws (p + 1)))
  · rw [decide_eq_true h, decide_eq_true (valLe h).2]; rfl
  · rw [decide_eq_false h]; simp
/-- the slots of a kind and a size -/
def from_ (k s : Int) : Int := if k = 2 ∨ k = 4 then 2 else if k = 3 ∨ k = 5 then 1 else if k = 6 then 5 else s + 1
def slotsFrom : Nat → Int → Int → List Int
  | 0, _, _ => []
  | f + 1, i, s => if i + 1 ≤ s then i :: slotsFrom f (i + 2) s else []
def slots (k s : Int) : List Int := slotsFrom 130 (from_ k s) s

structure Ar where
  ws : List Int
  semi : Int
  to : Int
  top : Int
  cyc : Bool
  scan : Int
  old : Int
  copied : Int
  serial : Int
  vs : List (Int × Int)

abbrev Ar.w (A : Ar) (p : Int) : Int := g A.ws p
def Ar.start (A : Ar) (half : Int) : Int := half * A.semi + 1
def Ar.where_ (A : Ar) (p : Int) : Int := if isFw (A.w p) = true then fw (A.w p) else p
def Ar.sz (A : Ar) (p : Int) : Int := rs (A.w p)
def Ar.kn (A : Ar) (p : Int) : Int := rk (A.w p)
def Ar.sr (A : Ar) (p : Int) : Int := rn (A.w p)
def Ar.n (A : Ar) : Int := A.ws.length

/-! ### l2Tile -/
def Ar.tile1 (A : Ar) : Nat → Int → List Int → Option (List Int)
  | 0, _, _ => none
  | f + 1, p, m => if p = A.top then some m else
      if hOk (A.w p) = true ∧ p + hs (A.w p) + 1 ≤ A.top ∧ hn (A.w p) < A.serial then A.tile1 f (p + hs (A.w p) + 1) (m.set p.toNat 1) else none
def Ar.tile2 (A : Ar) : Nat → Int → List Int → List Bool → Int → Option (List Int × Int)
  | 0, _, _, _, _ => none
  | f + 1, p, m, led, sum => if p = A.old then some (m, sum) else
      if hOk (A.w p) = true then
        if hn (A.w p) < A.serial ∧ p + hs (A.w p) + 1 ≤ A.old then A.tile2 f (p + hs (A.w p) + 1) (m.set p.toNat 2) led sum else none
      else if isFw (A.w p) = true ∧ fw (A.w p) < A.n ∧ g m (fw (A.w p)) = 1 ∧ led.getD (fw (A.w p)).toNat false = false ∧ p + A.sz (fw (A.w p)) + 1 ≤ A.old then
        A.tile2 f (p + A.sz (fw (A.w p)) + 1) (m.set p.toNat 3) (led.set (fw (A.w p)).toNat true) (sum + A.sz (fw (A.w p)) + 1)
      else none
def Ar.zeros (A : Ar) : List Int := List.replicate A.ws.length 0
def Ar.falses (A : Ar) : List Bool := List.replicate A.ws.length false
/-- the marks, where the halves are tiled -/
def Ar.marks (A : Ar) : Option (List Int) :=
  match A.tile1 (A.ws.length + 1) (A.start A.to) A.zeros with
  | none => none
  | some m => if A.cyc = false then some m else
      match A.tile2 (A.ws.length + 1) (A.start (1 - A.to)) m A.falses 0 with
      | none => none
      | some (m', sum) => if sum = A.copied ∧ (A.scan = A.top ∨ (0 ≤ A.scan ∧ A.scan ≤ (m'.length : Int) - 1 ∧ g m' A.scan = 1)) then some m' else none
/-! ### l2Numbers -/
def Ar.numbersP (A : Ar) : Prop :=
  (256 ≤ A.semi ∧ A.semi ≤ 4000) ∧ A.n = 2 * A.semi ∧ (0 ≤ A.to ∧ A.to ≤ 1) ∧ (1 ≤ A.serial ∧ A.serial ≤ 1000000000) ∧ A.vs.length ≤ 24 ∧
  (A.start A.to ≤ A.top ∧ A.top ≤ (A.to + 1) * A.semi) ∧
  (if A.cyc = true then (A.start (1 - A.to) ≤ A.old ∧ A.old ≤ (2 - A.to) * A.semi) ∧ (0 ≤ A.copied ∧ A.copied ≤ A.old - A.start (1 - A.to)) ∧
      A.top + A.old - A.start (1 - A.to) - A.copied ≤ (A.to + 1) * A.semi
    else A.scan = 0 ∧ A.old = 0 ∧ A.copied = 0)
instance (A : Ar) : Decidable A.numbersP := by unfold Ar.numbersP; infer_instance
def Ar.numbers (A : Ar) : Bool := decide A.numbersP
/-! ### l2Serials -/
def Ar.sersFrom (A : Ar) (m : List Int) : Nat → Int → List Int → Bool
  | 0, _, _ => true
  | f + 1, p, had => if p < (m.length : Int) then
      (if (g m p = 1 ∨ g m p = 2) ∧ A.sr p ≠ 0 then (if A.sr p ∈ had then false else A.sersFrom m f (p + 1) (had ++ [A.sr p])) else A.sersFrom m f (p + 1) had)
    else true
def Ar.sers (A : Ar) (m : List Int) : Bool := A.sersFrom m (m.length + 1) 0 []
/-! ### l2Leads -/
def Ar.leads (A : Ar) (m : List Int) (t n fr : Int) : Bool :=
  if isRef t = true then
    if n < (m.length : Int) then decide ((g m n = 1 ∧ fr ≠ 3 ∨ (g m n = 2 ∨ g m n = 3) ∧ fr ≠ 1) ∧ A.kn (A.where_ n) = kd t) else false
  else true
/-! ### l2Object -/
def Ar.strOk (A : Ar) (p size : Int) : Bool :=
  decide ((0 ≤ sg (A.w (p + 1)) ∧ sg (A.w (p + 1)) ≤ 160) ∧ size = 1 + (sg (A.w (p + 1)) + 7) / 8 ∧
    (sg (A.w (p + 1)) % 8 = 0 ∨ A.w (p + size) / 2 ^ (8 * (sg (A.w (p + 1)) % 8)).toNat = 0))
def Ar.coOk (A : Ar) (p : Int) : Bool :=
  decide ((0 ≤ sg (A.w (p + 1)) ∧ sg (A.w (p + 1)) ≤ 4) ∧ (0 ≤ sg (A.w (p + 2)) ∧ sg (A.w (p + 2)) ≤ 60) ∧ (0 ≤ sg (A.w (p + 3)) ∧ sg (A.w (p + 3)) ≤ sg (A.w (p + 2))) ∧
    (0 ≤ sg (A.w (p + 4)) ∧ sg (A.w (p + 4)) ≤ 4095) ∧ (rvT A.ws (p + 5) = 0 ∨ rvT A.ws (p + 5) = 6)) &&
  (List.range 60).all fun (i : Nat) => decide ((i : Int) < sg (A.w (p + 2))) || decide (A.w (p + 7 + 2 * (i : Int)) = 0)
def Ar.slotOk (A : Ar) (m : List Int) (k fr q : Int) : Bool :=
  rv A.ws q && A.leads m (rvT A.ws q) (rvN A.ws q) fr && !(decide (rvT A.ws q = 8 ∧ k ≠ 2)) && !(decide (rvT A.ws q = 9 ∧ k = 3)) && !(decide (rvT A.ws q ≠ 9 ∧ k = 4))
def Ar.fromOf (A : Ar) (m : List Int) (p : Int) : Int := if g m p = 2 then 3 else if A.cyc = true ∧ A.scan ≤ p then 2 else 1
def Ar.object (A : Ar) (m : List Int) (p : Int) : Bool :=
  ((slots (A.kn p) (A.sz p)).all fun q => A.slotOk m (A.kn p) (A.fromOf m p) (p + q)) &&
  (if A.kn p = 1 then A.strOk p (A.sz p) else if A.kn p = 4 then inB (sg (A.w (p + 1))) 0 255 else if A.kn p = 6 then A.coOk p else true)
/-! ### texts, hashes, keys -/
def Ar.byte (A : Ar) (p i : Int) : Int := A.w (p + 2 + i / 8) / 2 ^ (8 * (i % 8)).toNat % 256
def Ar.textLen (A : Ar) (p : Int) : Int := sg (A.w (p + 1))
def Ar.text (A : Ar) (p : Int) : List Int := (List.range (A.textLen p).toNat).map fun (i : Nat) => A.byte p (i : Int)
def hashText (l : List Int) : Int := l.foldl (fun h b => (33 * h + b) % 1000003) 5381
def Ar.hash (A : Ar) (t n : Int) : Int :=
  if t = 1 then n else if t = 2 then n % 18446744073709551616 % 1000003 else if t = 7 then n + 7 else if t = 3 then hashText (A.text (A.where_ n)) else A.sr (A.where_ n)
def Ar.same (A : Ar) (t n t' n' : Int) : Bool :=
  if t = t' then
    if isRef t = true then (if t = 3 then decide (A.text (A.where_ n) = A.text (A.where_ n')) else decide (A.where_ n = A.where_ n')) else decide (n = n')
  else false
def Ar.keyT (A : Ar) (blk i : Int) : Int := rvT A.ws (blk + 1 + 4 * i)
def Ar.keyN (A : Ar) (blk i : Int) : Int := rvN A.ws (blk + 1 + 4 * i)
def Ar.valT (A : Ar) (blk i : Int) : Int := rvT A.ws (blk + 3 + 4 * i)
def Ar.valN (A : Ar) (blk i : Int) : Int := rvN A.ws (blk + 3 + 4 * i)
/-- the entry of a key (and whether it has it), looked for from i on, in k steps -/
def Ar.findFrom (A : Ar) (blk n t x : Int) : Nat → Int → Int × Bool
  | 0, _ => (-1, false)
  | k + 1, i => if A.keyT blk i = 0 then (i, false) else if A.same (A.keyT blk i) (A.keyN blk i) t x = true then (i, true) else A.findFrom blk n t x k ((i + 1) % n)
def Ar.find (A : Ar) (blk n t x : Int) : Int × Bool :=
  if n = 0 ∨ t = 0 then (-1, false) else A.findFrom blk n t x n.toNat (A.hash t x % n)
/-! ### l2Used, l2TabOk -/
def Ar.usedFrom (A : Ar) (blk n : Int) : Nat → Int → Int → Int
  | 0, _, u => u
  | f + 1, i, u => if i < n then A.usedFrom blk n f (i + 1) (if A.w (blk + 1 + 4 * i) ≠ 0 then u + 1 else u) else u
def Ar.entries (A : Ar) (blk : Int) : Int := A.sz blk / 4
def Ar.used (A : Ar) (blk : Int) : Int := A.usedFrom blk (A.entries blk) ((A.entries blk).toNat + 1) 0 0
def Ar.keysOk (A : Ar) (blk : Int) : Bool :=
  (List.range (A.entries blk).toNat).all fun (i : Nat) => decide (A.keyT blk (i : Int) = 0) || decide (A.find blk (A.entries blk) (A.keyT blk (i : Int)) (A.keyN blk (i : Int)) = ((i : Int), true))
def Ar.blkOf (A : Ar) (p : Int) : Int := A.where_ (rvN A.ws (p + 2))
/-- is a table right? with the blocks that others have -/
def Ar.tab (A : Ar) (p : Int) (led : List Bool) : Option (List Bool) :=
  if rvT A.ws (p + 2) = 0 then (if sg (A.w (p + 1)) = 0 then some led else none)
  else if rvT A.ws (p + 2) ≠ 8 then none
  else if led.getD (A.blkOf p).toNat false = true then none
  else if A.keysOk (A.blkOf p) = true ∧ sg (A.w (p + 1)) = A.used (A.blkOf p) ∧ 4 * sg (A.w (p + 1)) ≤ 3 * A.entries (A.blkOf p) then some (led.set (A.blkOf p).toNat true) else none
/-! ### ArenaOk -/
def Ar.isM (m : List Int) (p : Int) : Bool := decide (g m p = 1 ∨ g m p = 2)
def Ar.objsFrom (A : Ar) (m : List Int) : Nat → Int → Bool
  | 0, _ => true
  | f + 1, p => if p < (m.length : Int) then (if Ar.isM m p = true ∧ A.object m p = false then false else A.objsFrom m f (p + 1)) else true
def Ar.tabsFrom (A : Ar) (m : List Int) : Nat → Int → List Bool → Bool
  | 0, _, _ => true
  | f + 1, p, led => if p < (m.length : Int) then
      (if Ar.isM m p = true ∧ A.kn p = 2 then (match A.tab p led with | none => false | some led' => A.tabsFrom m f (p + 1) led') else A.tabsFrom m f (p + 1) led) else true
def Ar.rootsOk (A : Ar) (m : List Int) : Bool := A.vs.all fun v => valOk v.1 v.2 && !(decide (v.1 = 8)) && A.leads m v.1 v.2 1
def Ar.ok (A : Ar) : Bool :=
  A.numbers && (match A.marks with
    | none => false
    | some m => A.sers m && A.objsFrom m (m.length + 1) 0 && A.tabsFrom m (m.length + 1) 0 A.falses && A.rootsOk m)
end Go.Proofs.YtfmhlieaodbgiaaGreat.Ar
