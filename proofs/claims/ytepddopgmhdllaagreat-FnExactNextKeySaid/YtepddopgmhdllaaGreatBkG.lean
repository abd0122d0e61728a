/- Plain: what copying does to an arena, and what stays right. -/
import Derived.Test.YtepddopgmhdllaaGreatBkJ3
namespace Go.Proofs.YtepddopgmhdllaaGreat.Ar
open Go.Proofs.YtepddopgmhdllaaGreat.Eng
def w64 (n : Int) : Int := n % 18446744073709551616
def copyW (ws : List Int) (q n k : Int) : List Int := (List.range ws.length).map fun (j : Nat) => if q ≤ (j : Int) ∧ (j : Int) < q + k then g ws (n + ((j : Int) - q)) else g ws (j : Int)
def Ar.cpy (A : Ar) (n : Int) : Ar := { A with ws := (copyW A.ws A.top n (rs (g A.ws n) + 1)).set n.toNat (9223372036854775808 + A.top), top := A.top + (rs (g A.ws n) + 1), copied := A.copied + (rs (g A.ws n) + 1) }
def Ar.inTo (A : Ar) (n : Int) : Bool := decide (n / A.semi = A.to)
def Ar.fwd (A : Ar) (t n : Int) : Ar × Int :=
  if isRef t = true ∧ A.inTo n = false then (if isFw (g A.ws n) = true then (A, fw (g A.ws n)) else (A.cpy n, A.top)) else (A, n)
def Ar.fwS (A : Ar) (a : Int) : Ar := { (A.fwd (rvT A.ws a) (rvN A.ws a)).1 with ws := (A.fwd (rvT A.ws a) (rvN A.ws a)).1.ws.set (a + 1).toNat (w64 (A.fwd (rvT A.ws a) (rvN A.ws a)).2) }
def Ar.fwI (p : Int) (sl : List Int) : Nat → Int → Ar → Ar
  | 0, _, A => A
  | f + 1, i, A => if i < (sl.length : Int) then Ar.fwI p sl f (i + 1) (A.fwS (p + g sl i)) else A
def Ar.sls (A : Ar) : List Int := slots (rk (g A.ws A.scan)) (rs (g A.ws A.scan))
def Ar.fwO (A : Ar) : Ar := { Ar.fwI A.scan A.sls (A.sls.length + 1) 0 A with scan := A.scan + rs (g A.ws A.scan) + 1 }
def Ar.over (A : Ar) : Ar := if A.cyc = true ∧ A.scan = A.top then { A with cyc := false, scan := 0, old := 0, copied := 0 } else A
def Ar.stp : Nat → Ar → Int → Int → Ar × Int
  | 0, A, d, _ => (A, d)
  | f + 1, A, d, n => if A.cyc = true ∧ d < n then Ar.stp f A.fwO.over (d + 1) n else (A, d)
def Ar.fl0 (A : Ar) : Ar := { A with old := A.top, to := 1 - A.to, top := A.start (1 - A.to), scan := A.start (1 - A.to), copied := 0, cyc := true }
def Ar.fwR (A : Ar) (i : Int) : Ar := { (A.fwd (rT A i) (rN A i)).1 with vs := A.vs.set i.toNat (rT A i, (A.fwd (rT A i) (rN A i)).2) }
def Ar.flR : Nat → Int → Ar → Ar
  | 0, _, A => A
  | f + 1, i, A => if i < (A.vs.length : Int) then Ar.flR f (i + 1) (A.fwR i) else A
def Ar.flip (A : Ar) : Ar := (Ar.flR (A.vs.length + 1) 0 A.fl0).over
def Ar.fin (A : Ar) : Ar × Int := Ar.stp 8001 A.over 0 8000
def S2 (ws m : List Int) : Nat → Int
  | 0 => 0
  | n + 1 => S2 ws m n + (if g m (n : Int) = 2 then hs (g ws (n : Int)) + 1 else 0)
end Go.Proofs.YtepddopgmhdllaaGreat.Ar
namespace Go.Proofs.YtepddopgmhdllaaGreat.Eng
open Go Go.RowKit Go.Proofs.YtepddopgmhdllaaGreat.Sl Go.Proofs.YtepddopgmhdllaaGreat.Ar Go.Proofs.YtepddopgmhdllaaGreat.Base
set_option linter.unusedVariables false
set_option linter.unusedSimpArgs false
theorem hs0 (w : Int) : 0 ≤ hs w := by unfold hs; omega
theorem S2_0 (ws m : List Int) : ∀ n, 0 ≤ S2 ws m n := by
  intro n
  induction n with
  | zero => simp [S2]
  | succ n ih => rw [S2]; have := hs0 (g ws (n : Int)); split <;> omega
/-- one place is no longer marked 2, all else stays -/
theorem S2_upd {ws m ws' m' : List Int} {x : Int} (hx : 0 ≤ x) (h2 : g m x = 2) (h3 : g m' x ≠ 2) (h : ∀ q : Int, 0 ≤ q → q ≠ x → (g m' q = 2 ↔ g m q = 2) ∧ (g m q = 2 → g ws' q = g ws q)) : ∀ n : Nat, S2 ws' m' n = S2 ws m n - (if x < (n : Int) then hs (g ws x) + 1 else 0) := by
  intro n
  induction n with
  | zero => rw [if_neg (by omega)]; rfl
  | succ n ih =>
    rw [S2, S2, ih]
    by_cases e : (n : Int) = x
    · rw [e, if_neg h3, if_pos h2, if_neg (by omega), if_pos (by omega)]; omega
    · have := h (n : Int) (by omega) e
      by_cases e2 : g m (n : Int) = 2
      · rw [if_pos (this.1.2 e2), if_pos e2, this.2 e2]
        by_cases c : x < (n : Int)
        · rw [if_pos c, if_pos (by omega)]; omega
        · rw [if_neg c, if_neg (by omega)]; omega
      · rw [if_neg (fun c => e2 (this.1.1 c)), if_neg e2]
        by_cases c : x < (n : Int)
        · rw [if_pos c, if_pos (by omega)]; omega
        · rw [if_neg c, if_neg (by omega)]; omega
/-- places that lie apart in a stretch take no more than it -/
theorem S2_dis {ws m : List Int} {lo hi : Int} (hlh : lo ≤ hi) (hl : ∀ p : Int, 0 ≤ p → g m p = 2 → lo ≤ p ∧ p + hs (g ws p) + 1 ≤ hi) (hd : ∀ p q : Int, 0 ≤ p → p < q → g m p = 2 → g m q = 2 → p + hs (g ws p) + 1 ≤ q) : ∀ n : Nat, S2 ws m n ≤ hi - lo ∧ ∀ x : Int, lo ≤ x → (∀ p : Int, 0 ≤ p → p < (n : Int) → g m p = 2 → p + hs (g ws p) + 1 ≤ x) → S2 ws m n ≤ x - lo := by
  intro n
  have key : ∀ n : Nat, ∀ x : Int, lo ≤ x → (∀ p : Int, 0 ≤ p → p < (n : Int) → g m p = 2 → p + hs (g ws p) + 1 ≤ x) → S2 ws m n ≤ x - lo := by
    intro n
    induction n with
    | zero => intro x hx _; simp only [S2]; omega
    | succ n ih =>
      intro x hx hp
      rw [S2]
      by_cases e : g m (n : Int) = 2
      · rw [if_pos e]
        have h1 := ih (n : Int) (hl _ (by omega) e).1 (fun p a b c => hd p n a b c e)
        have := hp n (by omega) (by omega) e
        omega
      · rw [if_neg e]
        have := ih x hx (fun p a b c => hp p a (by omega) c)
        omega
  exact ⟨key n hi hlh (fun p a b c => (hl p a c).2), key n⟩
theorem g_copyW {ws : List Int} {q n k j : Int} (hj : 0 ≤ j) : g (copyW ws q n k) j = if j < (ws.length : Int) then (if q ≤ j ∧ j < q + k then g ws (n + (j - q)) else g ws j) else 0 := by
  by_cases c : j < (ws.length : Int)
  · rw [if_pos c]
    have hl : j.toNat < ws.length := by omega
    unfold g copyW
    rw [List.getD_eq_getElem?_getD, List.getElem?_map, List.getElem?_range hl]
    have e : ((j.toNat : Nat) : Int) = j := by omega
    simp only [Option.map_some, Option.getD_some, e]
    rfl
  · rw [if_neg c]
    unfold g copyW
    rw [List.getD_eq_getElem?_getD, List.getElem?_map, List.getElem?_eq_none (by simp; omega)]; rfl
theorem length_copyW {ws : List Int} {q n k : Int} : (copyW ws q n k).length = ws.length := by simp [copyW]
theorem g_out {l : List Int} {j : Int} (h : (l.length : Int) ≤ j) : g l j = 0 := by
  unfold g; rw [List.getD_eq_getElem?_getD, List.getElem?_eq_none (by omega)]; rfl
theorem rv_congr {ws ws' : List Int} {a b : Int} (h1 : g ws' b = g ws a) (h2 : g ws' (b + 1) = g ws (a + 1)) : rv ws' b = rv ws a ∧ rvT ws' b = rvT ws a ∧ rvN ws' b = rvN ws a := by
  have : rv ws' b = rv ws a := by unfold rv; rw [h1, h2]
  refine ⟨this, ?_, ?_⟩
  · unfold rvT; rw [this, h1]
  · unfold rvN; rw [this, h2]
/-- what tags an object's slots may have -/
def SlT (k t : Int) : Prop := ¬ (t = 8 ∧ k ≠ 2) ∧ ¬ (t = 9 ∧ k = 3) ∧ ¬ (t ≠ 9 ∧ k = 4) ∧ ¬ (k = 2 ∧ t ≠ 0 ∧ t ≠ 8)
/-- what stays right while a cycle runs: k Roots, and the slots that D tells, lead to the half in use -/
structure GI (A : Ar) (m : List Int) (k : Int) (D : Int → Prop) : Prop where
  wf : Wf A.ws
  ln : (A.ws.length : Int) = 2 * A.semi
  se : 256 ≤ A.semi ∧ A.semi ≤ 4000
  to : A.to = 0 ∨ A.to = 1
  ml : m.length = A.ws.length
  of : ∀ q : Int, 0 ≤ q → g m q = 0 ∨ g m q = 1 ∨ g m q = 2 ∨ g m q = 3
  tp : A.to * A.semi + 1 ≤ A.top
  one : ∀ q : Int, 0 ≤ q → g m q = 1 → A.to * A.semi + 1 ≤ q ∧ hOk (g A.ws q) = true ∧ q + hs (g A.ws q) + 1 ≤ A.top ∧ (q + hs (g A.ws q) + 1 = A.top ∨ g m (q + hs (g A.ws q) + 1) = 1)
  two : ∀ q : Int, 0 ≤ q → g m q = 2 → (1 - A.to) * A.semi + 1 ≤ q ∧ hOk (g A.ws q) = true ∧ q + hs (g A.ws q) + 1 ≤ (2 - A.to) * A.semi
  thr : ∀ q : Int, 0 ≤ q → g m q = 3 → (1 - A.to) * A.semi + 1 ≤ q ∧ q < (2 - A.to) * A.semi ∧ isFw (g A.ws q) = true ∧ g m (fw (g A.ws q)) = 1
  dis : ∀ p q : Int, 0 ≤ p → p < q → (g m p = 1 ∧ g m q = 1 ∨ g m p = 2 ∧ g m q = 2) → p + hs (g A.ws p) + 1 ≤ q
  slo : ∀ p q : Int, 0 ≤ p → (g m p = 1 ∨ g m p = 2) → q ∈ slots (hk (g A.ws p)) (hs (g A.ws p)) → rv A.ws (p + q) = true ∧ (isRef (rvT A.ws (p + q)) = true → 0 ≤ rvN A.ws (p + q) ∧ g m (rvN A.ws (p + q)) ≠ 0 ∧ (g m p = 1 → D (p + q) → g m (rvN A.ws (p + q)) = 1))
  rts : ∀ i : Int, 0 ≤ i → i < (A.vs.length : Int) → isRef (rT A i) = true → 0 ≤ rN A i ∧ g m (rN A i) ≠ 0 ∧ (i < k → g m (rN A i) = 1)
  rm : A.top + S2 A.ws m A.ws.length ≤ (A.to + 1) * A.semi
  cp : 0 ≤ A.copied ∧ A.copied + S2 A.ws m A.ws.length ≤ 8000
  sc : A.cyc = true → A.scan = A.top ∨ g m A.scan = 1
  s0 : 0 ≤ A.scan
  cq : A.cyc = true → A.copied + S2 A.ws m A.ws.length ≤ A.old - ((1 - A.to) * A.semi + 1)
  slk : ∀ p q : Int, 0 ≤ p → (g m p = 1 ∨ g m p = 2) → q ∈ slots (hk (g A.ws p)) (hs (g A.ws p)) → SlT (hk (g A.ws p)) (rvT A.ws (p + q)) ∧ (isRef (rvT A.ws (p + q)) = true → hk (g A.ws (A.where_ (rvN A.ws (p + q)))) = kd (rvT A.ws (p + q)))
  rtk : ∀ i : Int, 0 ≤ i → i < (A.vs.length : Int) → (isRef (rT A i) = true → hk (g A.ws (A.where_ (rN A i))) = kd (rT A i)) ∧ ValP (rT A i) (rN A i) ∧ rT A i ≠ 8
  txt : ∀ p : Int, 0 ≤ p → (g m p = 1 ∨ g m p = 2) → hk (g A.ws p) = 1 → 0 ≤ sg (g A.ws (p + 1)) ∧ sg (g A.ws (p + 1)) ≤ 160 ∧ hs (g A.ws p) = 1 + (sg (g A.ws (p + 1)) + 7) / 8
variable {A : Ar} {m : List Int} {k : Int} {D : Int → Prop}
theorem slotsR {k q : Int} (h : hOk k = true) (hq : q ∈ slots (hk k) (hs k)) : 1 ≤ q ∧ q + 1 ≤ hs k := by
  have hz : SizeP (hk k) (hs k) := (of_decide_eq_true (show decide (HeadP _ _ _) = true from h)).1
  exact slots_in hz hq
theorem S2_mem {ws m : List Int} {x : Int} (hx : 0 ≤ x) (h2 : g m x = 2) : ∀ n : Nat, x < (n : Int) → hs (g ws x) + 1 ≤ S2 ws m n := by
  intro n
  induction n with
  | zero => intro h; omega
  | succ n ih =>
    intro h
    rw [S2]
    by_cases e : (n : Int) = x
    · rw [e, if_pos h2]; have := S2_0 ws m n; omega
    · have := ih (by omega)
      have := hs0 (g ws (n : Int))
      split <;> omega
theorem GI.hv (h : GI A m k D) : (A.to * A.semi = 0 ∧ (1 - A.to) * A.semi = A.semi ∧ (A.to + 1) * A.semi = A.semi ∧ (2 - A.to) * A.semi = 2 * A.semi) ∨ (A.to * A.semi = A.semi ∧ (1 - A.to) * A.semi = 0 ∧ (A.to + 1) * A.semi = 2 * A.semi ∧ (2 - A.to) * A.semi = A.semi) := by
  rcases h.to with e | e <;> rw [e]
  · left; refine ⟨?_, ?_, ?_, ?_⟩ <;> omega
  · right; refine ⟨?_, ?_, ?_, ?_⟩ <;> omega
theorem g_toNat (l : List Int) (p : Int) : g l p = g l ((p.toNat : Nat) : Int) := by unfold g; rw [Int.toNat_natCast]
/-- an object is copied -/
theorem GI.cpy (h : GI A m k D) (hD : ∀ x, D x → x ≤ A.top) {n : Int} (hn : 0 ≤ n) (h2 : g m n = 2) :
    ∃ m', GI (A.cpy n) m' k D ∧ (∀ q : Int, 0 ≤ q → g m' q = if q = A.top then 1 else if q = n then 3 else g m q) ∧ (A.cpy n).ws.length = A.ws.length ∧ A.top ≤ (A.cpy n).top ∧ (∀ q j : Int, 0 ≤ q → g m q = 1 → 0 ≤ j → j ≤ hs (g A.ws q) → g (A.cpy n).ws (q + j) = g A.ws (q + j)) ∧ ∀ r j : Int, 0 ≤ r → g m r ≠ 0 → 0 ≤ j → j ≤ hs (g A.ws (A.where_ r)) → g (A.cpy n).ws ((A.cpy n).where_ r + j) = g A.ws (A.where_ r + j) := by
  obtain ⟨n1, n2, n3⟩ := h.two n hn h2
  have hv := h.hv
  have hz0 := hsR _ n2
  have hrs := (rsR' n2).2.2.1
  have hS := S2_mem (ws := A.ws) hn h2 A.ws.length (by have := h.ln; omega)
  have hrm := h.rm
  have hcp := h.cp
  have hln := h.ln
  have hse := h.se
  have htp := h.tp
  have hml := h.ml
  generalize hz : hs (g A.ws n) = z at *
  have hcl : (copyW A.ws A.top n (z + 1)).length = A.ws.length := length_copyW
  have ecpy : A.cpy n = { A with ws := (copyW A.ws A.top n (z + 1)).set n.toNat (9223372036854775808 + A.top), top := A.top + (z + 1), copied := A.copied + (z + 1) } := by unfold Ar.cpy; rw [hrs]
  have gw : ∀ j : Int, 0 ≤ j → g ((copyW A.ws A.top n (z + 1)).set n.toNat (9223372036854775808 + A.top)) j = if j = n then 9223372036854775808 + A.top else if A.top ≤ j ∧ j < A.top + (z + 1) then g A.ws (n + (j - A.top)) else g A.ws j := by
    intro j hj
    rw [g_set hn (by omega) hj, g_copyW hj]
    by_cases c : j = n
    · rw [if_pos c, if_pos c]
    · rw [if_neg c, if_neg c]
      by_cases c2 : j < (A.ws.length : Int)
      · rw [if_pos c2]
      · rw [if_neg c2, if_neg (by omega), g_out (by omega)]
  generalize hws : (copyW A.ws A.top n (z + 1)).set n.toNat (9223372036854775808 + A.top) = ws' at *
  have hwl : ws'.length = A.ws.length := by rw [← hws, List.length_set, hcl]
  have gm : ∀ q : Int, 0 ≤ q → g ((m.set n.toNat 3).set A.top.toNat 1) q = if q = A.top then 1 else if q = n then 3 else g m q := by
    intro q hq
    rw [g_set (by omega) (by rw [List.length_set]; omega) hq]
    by_cases c : q = A.top
    · rw [if_pos c, if_pos c]
    · rw [if_neg c, if_neg c, g_set hn (by omega) hq]
  generalize hmm : (m.set n.toNat 3).set A.top.toNat 1 = m' at *
  have hml' : m'.length = ws'.length := by rw [← hmm, hwl]; simp [hml]
  have t0 : g m A.top ≠ 1 ∧ g m A.top ≠ 2 ∧ g m A.top ≠ 3 := by
    refine ⟨fun c => ?_, fun c => ?_, fun c => ?_⟩
    · have := h.one _ (by omega) c; have := hs0 (g A.ws A.top); omega
    · have := h.two _ (by omega) c; have := hs0 (g A.ws A.top); omega
    · have := h.thr _ (by omega) c; omega
  have k1 : ∀ q : Int, 0 ≤ q → g m q = 1 → g m' q = 1 := by
    intro q hq e; rw [gm q hq]; split
    · rfl
    · rw [if_neg (by rintro rfl; omega)]; exact e
  have k0 : ∀ q : Int, 0 ≤ q → g m q ≠ 0 → g m' q ≠ 0 := by
    intro q hq e; rw [gm q hq]; split
    · omega
    · split
      · omega
      · exact e
  have w1 : ∀ q j : Int, 0 ≤ q → g m q = 1 → 0 ≤ j → j ≤ hs (g A.ws q) → g ws' (q + j) = g A.ws (q + j) := by
    intro q j hq e hj hj2
    have := h.one q hq e
    rw [gw _ (by omega), if_neg (by omega), if_neg (by omega)]
  have w2 : ∀ q j : Int, 0 ≤ q → g m q = 2 → q ≠ n → 0 ≤ j → j ≤ hs (g A.ws q) → g ws' (q + j) = g A.ws (q + j) := by
    intro q j hq e hqn hj hj2
    have := h.two q hq e
    have hd : q + hs (g A.ws q) + 1 ≤ n ∨ n < q := by
      rcases Int.lt_or_le q n with c | c
      · exact .inl (h.dis q n hq c (.inr ⟨e, h2⟩))
      · right; omega
    rw [gw _ (by omega), if_neg (by omega), if_neg (by omega)]
  have w1' : ∀ q : Int, 0 ≤ q → g m q = 1 → g ws' q = g A.ws q := fun q hq e => by have := w1 q 0 hq e (by omega) (hs0 _); simpa using this
  have w2' : ∀ q : Int, 0 ≤ q → g m q = 2 → q ≠ n → g ws' q = g A.ws q := fun q hq e c => by have := w2 q 0 hq e c (by omega) (hs0 _); simpa using this
  have wt : ∀ j : Int, 0 ≤ j → j ≤ z → g ws' (A.top + j) = g A.ws (n + j) := by
    intro j hj hj2
    rw [gw _ (by omega), if_neg (by omega), if_pos (by omega)]; congr 1; omega
  have wt0 : g ws' A.top = g A.ws n := by have := wt 0 (by omega) (by omega); simpa using this
  have hS2 : S2 ws' m' ws'.length = S2 A.ws m A.ws.length - (z + 1) := by
    rw [hwl, S2_upd hn h2 (by rw [gm n hn, if_neg (by omega), if_pos rfl]; omega) (fun q hq hqn => ⟨?_, fun e => w2' q hq e hqn⟩), if_pos (by omega), hz]
    rw [gm q hq, if_neg hqn]
    split
    · rename_i c; subst c; omega
    · exact Iff.rfl
  have kh : ∀ r j : Int, 0 ≤ r → g m r ≠ 0 → 0 ≤ j → j ≤ hs (g A.ws (A.where_ r)) → g ws' ((if isFw (g ws' r) = true then fw (g ws' r) else r) + j) = g A.ws (A.where_ r + j) := by
    intro r j hr e hj hj2
    rcases h.of r hr with e1 | e1 | e1 | e1
    · exact absurd e1 e
    · have o := h.one r hr e1
      have ew : A.where_ r = r := by unfold Ar.where_; rw [if_neg (by show ¬ isFw (g A.ws r) = true; rw [hOk_fw o.2.1]; decide)]
      rw [ew] at hj2 ⊢
      rw [w1' r hr e1, if_neg (by rw [hOk_fw o.2.1]; decide)]
      exact w1 r j hr e1 hj hj2
    · have o := h.two r hr e1
      have ew : A.where_ r = r := by unfold Ar.where_; rw [if_neg (by show ¬ isFw (g A.ws r) = true; rw [hOk_fw o.2.1]; decide)]
      rw [ew] at hj2 ⊢
      by_cases c : r = n
      · subst c
        have e1 : g ws' r = 9223372036854775808 + A.top := by rw [gw r hr, if_pos rfl]
        have e2 : isFw (g ws' r) = true := by rw [e1]; exact decide_eq_true (by omega)
        have e3 : fw (g ws' r) = A.top := by unfold fw; rw [if_pos e2, e1]; omega
        rw [if_pos e2, e3]
        exact wt j hj (by omega)
      · rw [w2' r hr e1 c, if_neg (by rw [hOk_fw o.2.1]; decide)]
        exact w2 r j hr e1 c hj hj2
    · obtain ⟨a, b, d, f⟩ := h.thr r hr e1
      have ew : A.where_ r = fw (g A.ws r) := by unfold Ar.where_; rw [if_pos (show isFw (g A.ws r) = true from d)]
      have e4 : g ws' r = g A.ws r := by rw [gw r hr, if_neg (by rintro rfl; omega), if_neg (by omega)]
      rw [ew] at hj2 ⊢
      rw [e4, if_pos d]
      exact w1 _ j (fwR _).1 f hj hj2
  have kh0 : ∀ r : Int, 0 ≤ r → g m r ≠ 0 → g ws' (if isFw (g ws' r) = true then fw (g ws' r) else r) = g A.ws (A.where_ r) := fun r hr e => by have := kh r 0 hr e (by omega) (hs0 _); simpa using this
  rw [ecpy]
  refine ⟨m', ?_, gm, hwl, by dsimp only; omega, w1, kh⟩
  refine ⟨fun p => ?_, by rw [hwl]; exact hln, hse, h.to, hml', fun q hq => ?_, by dsimp only; omega, fun q hq e => ?_, fun q hq e => ?_, fun q hq e => ?_, fun p q hp hpq e => ?_, fun p q hp hm hq => ?_, fun i h0 h1 hr => ?_, ?_, ?_, fun c => ?_, h.s0, fun c => ?_, fun p q hp hm hq => ?_, fun i h0 h1 => ?_, fun p hp hm hk1 => ?_⟩ <;> (try dsimp only at *)
  · rw [g_toNat, gw _ (by omega)]
    split
    · omega
    · split
      · exact h.wf _
      · exact h.wf _
  · rw [gm q hq]; split
    · omega
    · split
      · omega
      · exact h.of q hq
  · rw [gm q hq] at e
    split at e
    · rename_i c; subst c
      rw [wt0, hz]
      exact ⟨htp, n2, by omega, .inl (by omega)⟩
    · split at e
      · omega
      · obtain ⟨a, b, c, d⟩ := h.one q hq e
        rw [w1' q hq e]
        refine ⟨a, b, by omega, .inr ?_⟩
        rw [gm _ (by have := hs0 (g A.ws q); omega)]
        rcases d with d | d
        · rw [if_pos d]
        · split
          · rfl
          · rw [if_neg (fun c => by rw [c] at d; omega)]; exact d
  · rw [gm q hq] at e
    split at e
    · omega
    · split at e
      · omega
      · rename_i c; rw [w2' q hq e c]; exact h.two q hq e
  · rw [gm q hq] at e
    split at e
    · omega
    · split at e
      · rename_i c; subst c
        have e1 : g ws' q = 9223372036854775808 + A.top := by rw [gw q hq, if_pos rfl]
        have e2 : isFw (g ws' q) = true := by rw [e1]; exact decide_eq_true (by omega)
        have e3 : fw (g ws' q) = A.top := by unfold fw; rw [if_pos e2, e1]; omega
        exact ⟨n1, by omega, e2, by rw [e3, gm _ (by omega), if_pos rfl]⟩
      · rename_i c1 c
        obtain ⟨a, b, d, f⟩ := h.thr q hq e
        have e1 : g ws' q = g A.ws q := by rw [gw q hq, if_neg c, if_neg (by omega)]
        rw [e1]; exact ⟨a, b, d, k1 _ (fwR _).1 f⟩
  · have hq0 : 0 ≤ q := by omega
    rw [gm p hp, gm q hq0] at e
    by_cases cq : q = A.top
    · rw [if_pos cq] at e
      by_cases cp : p = A.top
      · omega
      · rw [if_neg cp] at e
        by_cases cn : p = n
        · rw [if_pos cn] at e; omega
        · rw [if_neg cn] at e
          have e1 : g m p = 1 := by omega
          rw [w1' p hp e1]; have := h.one p hp e1; omega
    · rw [if_neg cq] at e
      by_cases cp : p = A.top
      · rw [if_pos cp] at e
        by_cases cn : q = n
        · rw [if_pos cn] at e; omega
        · rw [if_neg cn] at e
          have e1 : g m q = 1 := by omega
          have := h.one q hq0 e1; have := hs0 (g A.ws q); omega
      · rw [if_neg cp] at e
        by_cases cn : p = n
        · rw [if_pos cn] at e; omega
        · rw [if_neg cn] at e
          by_cases cn2 : q = n
          · rw [if_pos cn2] at e; omega
          · rw [if_neg cn2] at e
            have hd := h.dis p q hp hpq e
            rcases e with ⟨e1, -⟩ | ⟨e1, -⟩
            · rw [w1' p hp e1]; exact hd
            · rw [w2' p hp e1 cn]; exact hd
  · by_cases cp : p = A.top
    · subst cp
      rw [wt0] at hq
      have hq2 := slotsR n2 hq
      rw [hz] at hq2
      obtain ⟨r1, r2, r3⟩ := rv_congr (ws := A.ws) (ws' := ws') (a := n + q) (b := A.top + q) (wt q (by omega) (by omega)) (by rw [Int.add_assoc, Int.add_assoc]; exact wt (q + 1) (by omega) (by omega))
      rw [r1, r2, r3]
      obtain ⟨s1, s2⟩ := h.slo n q hn (.inr h2) hq
      refine ⟨s1, fun hr => ?_⟩
      obtain ⟨s3, s4, -⟩ := s2 hr
      refine ⟨s3, k0 _ s3 s4, fun _ d => ?_⟩
      have := hD _ d; omega
    · have cn : p ≠ n := by
        rintro rfl
        rw [gm p hp, if_neg cp, if_pos rfl] at hm; omega
      rw [gm p hp, if_neg cp, if_neg cn] at hm
      have ww : ∀ j : Int, 0 ≤ j → j ≤ hs (g A.ws p) → g ws' (p + j) = g A.ws (p + j) := by
        intro j hj hj2
        rcases hm with e | e
        · exact w1 p j hp e hj hj2
        · exact w2 p j hp e cn hj hj2
      have wp : g ws' p = g A.ws p := by have := ww 0 (by omega) (hs0 _); simpa using this
      rw [wp] at hq
      have hok : hOk (g A.ws p) = true := by rcases hm with e | e
                                             · exact (h.one p hp e).2.1
                                             · exact (h.two p hp e).2.1
      have hq2 := slotsR hok hq
      obtain ⟨r1, r2, r3⟩ := rv_congr (ws := A.ws) (ws' := ws') (a := p + q) (b := p + q) (ww q (by omega) (by omega)) (by rw [Int.add_assoc]; exact ww (q + 1) (by omega) (by omega))
      rw [r1, r2, r3]
      obtain ⟨s1, s2⟩ := h.slo p q hp hm hq
      refine ⟨s1, fun hr => ?_⟩
      obtain ⟨s3, s4, s5⟩ := s2 hr
      refine ⟨s3, k0 _ s3 s4, fun e d => k1 _ s3 (s5 ?_ d)⟩
      rw [gm p hp, if_neg cp, if_neg cn] at e; exact e
  · obtain ⟨s3, s4, s5⟩ := h.rts i h0 h1 hr
    exact ⟨s3, k0 _ s3 s4, fun d => k1 _ s3 (s5 d)⟩
  · rw [hS2]; omega
  · rw [hS2]; omega
  · rcases h.sc c with e | e
    · right; rw [e, gm _ (by omega), if_pos rfl]
    · exact .inr (k1 _ h.s0 e)
  · rw [hS2]; have := h.cq c; omega
  · by_cases cp : p = A.top
    · subst cp
      rw [wt0] at hq ⊢
      have hq2 := slotsR n2 hq
      rw [hz] at hq2
      obtain ⟨r1, r2, r3⟩ := rv_congr (ws := A.ws) (ws' := ws') (a := n + q) (b := A.top + q) (wt q (by omega) (by omega)) (by rw [Int.add_assoc, Int.add_assoc]; exact wt (q + 1) (by omega) (by omega))
      rw [r2, r3]
      obtain ⟨s1, s2⟩ := h.slk n q hn (.inr h2) hq
      refine ⟨s1, fun hr => ?_⟩
      obtain ⟨s3, s4, -⟩ := (h.slo n q hn (.inr h2) hq).2 hr
      exact (congrArg hk (kh0 _ s3 s4)).trans (s2 hr)
    · have cn : p ≠ n := by
        rintro rfl
        rw [gm p hp, if_neg cp, if_pos rfl] at hm; omega
      rw [gm p hp, if_neg cp, if_neg cn] at hm
      have ww : ∀ j : Int, 0 ≤ j → j ≤ hs (g A.ws p) → g ws' (p + j) = g A.ws (p + j) := by
        intro j hj hj2
        rcases hm with e | e
        · exact w1 p j hp e hj hj2
        · exact w2 p j hp e cn hj hj2
      have wp : g ws' p = g A.ws p := by have := ww 0 (by omega) (hs0 _); simpa using this
      rw [wp] at hq ⊢
      have hok : hOk (g A.ws p) = true := by rcases hm with e | e
                                             · exact (h.one p hp e).2.1
                                             · exact (h.two p hp e).2.1
      have hq2 := slotsR hok hq
      obtain ⟨r1, r2, r3⟩ := rv_congr (ws := A.ws) (ws' := ws') (a := p + q) (b := p + q) (ww q (by omega) (by omega)) (by rw [Int.add_assoc]; exact ww (q + 1) (by omega) (by omega))
      rw [r2, r3]
      obtain ⟨s1, s2⟩ := h.slk p q hp hm hq
      refine ⟨s1, fun hr => ?_⟩
      obtain ⟨s3, s4, -⟩ := (h.slo p q hp hm hq).2 hr
      exact (congrArg hk (kh0 _ s3 s4)).trans (s2 hr)
  · obtain ⟨s1, s2, s3⟩ := h.rtk i h0 h1
    refine ⟨fun hr => ?_, s2, s3⟩
    obtain ⟨s4, s5, -⟩ := h.rts i h0 h1 hr
    exact (congrArg hk (kh0 _ s4 s5)).trans (s1 hr)
  · by_cases cp : p = A.top
    · subst cp
      rw [wt0] at hk1 ⊢
      rw [wt 1 (by omega) (by omega)]
      exact h.txt n hn (.inr h2) hk1
    · have cn : p ≠ n := by
        rintro rfl
        rw [gm p hp, if_neg cp, if_pos rfl] at hm; omega
      rw [gm p hp, if_neg cp, if_neg cn] at hm
      have ww : ∀ j : Int, 0 ≤ j → j ≤ hs (g A.ws p) → g ws' (p + j) = g A.ws (p + j) := by
        intro j hj hj2
        rcases hm with e | e
        · exact w1 p j hp e hj hj2
        · exact w2 p j hp e cn hj hj2
      have wp : g ws' p = g A.ws p := by have := ww 0 (by omega) (hs0 _); simpa using this
      have hok : hOk (g A.ws p) = true := by rcases hm with e | e
                                             · exact (h.one p hp e).2.1
                                             · exact (h.two p hp e).2.1
      rw [wp] at hk1 ⊢
      rw [ww 1 (by omega) (by have := hsR _ hok; omega)]
      exact h.txt p hp hm hk1
end Go.Proofs.YtepddopgmhdllaaGreat.Eng
namespace Go.Proofs.YtepddopgmhdllaaGreat.Eng
open Go Go.RowKit Go.Proofs.YtepddopgmhdllaaGreat.Sl Go.Proofs.YtepddopgmhdllaaGreat.Ar Go.Proofs.YtepddopgmhdllaaGreat.Base
set_option linter.unusedVariables false
set_option linter.unusedSimpArgs false
variable {A B : Ar} {m : List Int} {k : Int} {D : Int → Prop}
/-- what stays as it was -/
structure Kp (A : Ar) (m : List Int) (A' : Ar) (m' : List Int) : Prop where
  k0 : ∀ q : Int, 0 ≤ q → g m q ≠ 0 → g m' q ≠ 0
  k1 : ∀ q : Int, 0 ≤ q → g m q = 1 → g m' q = 1
  kw : ∀ q j : Int, 0 ≤ q → g m q = 1 → 0 ≤ j → j ≤ hs (g A.ws q) → g A'.ws (q + j) = g A.ws (q + j)
  kh : ∀ r j : Int, 0 ≤ r → g m r ≠ 0 → 0 ≤ j → j ≤ hs (g A.ws (A.where_ r)) → g A'.ws (A'.where_ r + j) = g A.ws (A.where_ r + j)
  tp : A.top ≤ A'.top
  ln : A'.ws.length = A.ws.length
  to : A'.to = A.to
  se : A'.semi = A.semi
  cy : A'.cyc = A.cyc
  sc : A'.scan = A.scan
  ol : A'.old = A.old
  sr : A'.serial = A.serial
  vs : A'.vs = A.vs
theorem Kp.rfl' : Kp A m A m := ⟨fun _ _ h => h, fun _ _ h => h, fun _ _ _ _ _ _ => rfl, fun _ _ _ _ _ _ => rfl, Int.le_refl _, rfl, rfl, rfl, rfl, rfl, rfl, rfl, rfl⟩
theorem GI.inTo1 (h : GI A m k D) {n : Int} (hn : 0 ≤ n) (h1 : g m n = 1) : A.inTo n = true := by
  have := h.one n hn h1
  have hv := h.hv
  have h0 := h.se
  have hr := h.rm
  have := S2_0 A.ws m A.ws.length
  have := hs0 (g A.ws n)
  refine decide_eq_true ?_
  have p : (0 : Int) < A.semi := by omega
  have a : A.to ≤ n / A.semi := (Int.le_ediv_iff_mul_le p).2 (by omega)
  have b : n / A.semi < A.to + 1 := (Int.ediv_lt_iff_lt_mul p).2 (by omega)
  omega
theorem GI.inTo0 (h : GI A m k D) {n : Int} (hn : 0 ≤ n) (h1 : g m n = 2 ∨ g m n = 3) : A.inTo n = false := by
  have hv := h.hv
  have h0 := h.se
  have p : (0 : Int) < A.semi := by omega
  have hb : (1 - A.to) * A.semi + 1 ≤ n ∧ n < (2 - A.to) * A.semi := by
    rcases h1 with e | e
    · have := h.two n hn e; have := hs0 (g A.ws n); omega
    · have := h.thr n hn e; omega
  refine decide_eq_false ?_
  have a : 1 - A.to ≤ n / A.semi := (Int.le_ediv_iff_mul_le p).2 (by omega)
  have b : n / A.semi < 2 - A.to := (Int.ediv_lt_iff_lt_mul p).2 (by omega)
  have := h.to
  omega
theorem GI.lt (h : GI A m k D) {n : Int} (hn : 0 ≤ n) (h1 : g m n ≠ 0) : 1 ≤ n ∧ n < (A.ws.length : Int) := by
  have := g_range h1 hn
  have hm := h.ml
  have hv := h.hv
  have hse := h.se
  refine ⟨?_, by omega⟩
  rcases h.of n hn with e | e | e | e
  · exact absurd e h1
  · have := h.one n hn e; omega
  · have := h.two n hn e; omega
  · have := h.thr n hn e; omega
/-- a value is forwarded -/
theorem GI.fwd (h : GI A m k D) (hD : ∀ x, D x → x ≤ A.top) {t n : Int} (hr : isRef t = true → 0 ≤ n ∧ g m n ≠ 0) :
    ∃ m', GI (A.fwd t n).1 m' k D ∧ Kp A m (A.fwd t n).1 m' ∧ (isRef t = true → 0 ≤ (A.fwd t n).2 ∧ g m' (A.fwd t n).2 = 1 ∧ ∀ j : Int, 0 ≤ j → j ≤ hs (g A.ws (A.where_ n)) → g (A.fwd t n).1.ws ((A.fwd t n).2 + j) = g A.ws (A.where_ n + j)) ∧ (isRef t ≠ true → (A.fwd t n).2 = n) := by
  by_cases ht : isRef t = true
  · obtain ⟨hn, h0⟩ := hr ht
    rcases h.of n hn with e | e | e | e
    · exact absurd e h0
    · have : A.fwd t n = (A, n) := by unfold Ar.fwd; rw [if_neg (by rw [h.inTo1 hn e]; simp)]
      rw [this]
      have ew : A.where_ n = n := by unfold Ar.where_; rw [if_neg (by show ¬ isFw (g A.ws n) = true; rw [hOk_fw (h.one n hn e).2.1]; decide)]
      exact ⟨m, h, Kp.rfl', fun _ => ⟨hn, e, fun j _ _ => by rw [ew]⟩, fun c => absurd ht c⟩
    · have : A.fwd t n = (A.cpy n, A.top) := by unfold Ar.fwd; rw [if_pos ⟨ht, h.inTo0 hn (.inl e)⟩, if_neg (by rw [hOk_fw (h.two n hn e).2.1]; decide)]
      rw [this]
      obtain ⟨m', h', gm, hl, htp, kw, kh⟩ := h.cpy hD hn e
      have hv := h.hv
      have hse := h.se
      have := h.tp
      refine ⟨m', h', ⟨fun q hq c => ?_, fun q hq c => ?_, kw, kh, htp, hl, rfl, rfl, rfl, rfl, rfl, rfl, rfl⟩, fun _ => ⟨by dsimp only; omega, ?_, fun j a b => ?_⟩, fun c => absurd ht c⟩
      · rw [gm q hq]; split
        · omega
        · split
          · omega
          · exact c
      · rw [gm q hq]; split
        · rfl
        · rw [if_neg (by rintro rfl; omega)]; exact c
      · dsimp only; rw [gm _ (by omega), if_pos rfl]
      · have hk := kh n j hn (by omega) a b
        have hne : ¬ n = A.top := by
          rintro rfl
          have := h.two _ hn e; have := h.rm; have := S2_0 A.ws m A.ws.length; have := hs0 (g A.ws A.top); have := S2_mem (ws := A.ws) hn e A.ws.length (by have := h.lt hn (by omega); omega); omega
        have h1 := h'.thr n hn (by rw [gm n hn, if_neg hne, if_pos rfl])
        have e3 : (A.cpy n).where_ n = A.top := by
          have hlt := h.lt hn (by omega)
          have e1 : g (A.cpy n).ws n = 9223372036854775808 + A.top := by
            show g ((copyW A.ws A.top n (rs (g A.ws n) + 1)).set n.toNat (9223372036854775808 + A.top)) n = _
            rw [g_set hn (by rw [length_copyW]; omega) hn, if_pos rfl]
          unfold Ar.where_
          rw [if_pos (show isFw (g (A.cpy n).ws n) = true from h1.2.2.1)]
          show fw (g (A.cpy n).ws n) = _
          have := h1.2.2.1
          unfold fw; rw [if_pos this, e1]; omega
        rw [e3] at hk; exact hk
    · have h3 := h.thr n hn e
      have : A.fwd t n = (A, fw (g A.ws n)) := by unfold Ar.fwd; rw [if_pos ⟨ht, h.inTo0 hn (.inr e)⟩, if_pos h3.2.2.1]
      rw [this]
      have ew : A.where_ n = fw (g A.ws n) := by unfold Ar.where_; rw [if_pos (show isFw (g A.ws n) = true from h3.2.2.1)]
      exact ⟨m, h, Kp.rfl', fun _ => ⟨(fwR _).1, h3.2.2.2, fun j _ _ => by rw [ew]⟩, fun c => absurd ht c⟩
  · have : A.fwd t n = (A, n) := by unfold Ar.fwd; rw [if_neg (fun c => ht c.1)]
    rw [this]
    exact ⟨m, h, Kp.rfl', fun c => absurd c ht, fun _ => rfl⟩
theorem S2_congr {ws ws' m : List Int} (h : ∀ q : Int, 0 ≤ q → g m q = 2 → g ws' q = g ws q) : ∀ n : Nat, S2 ws' m n = S2 ws m n := by
  intro n
  induction n with
  | zero => rfl
  | succ n ih =>
    rw [S2, S2, ih]
    by_cases e : g m (n : Int) = 2
    · rw [h _ (by omega) e]
    · rw [if_neg e, if_neg e]
theorem slots_par : ∀ (f : Nat) (i s q : Int), q ∈ slotsFrom f i s → (q - i) % 2 = 0 := by
  intro f
  induction f with
  | zero => intro i s q h; simp [slotsFrom] at h
  | succ f ih =>
    intro i s q h
    rw [slotsFrom] at h
    split at h
    · rcases List.mem_cons.1 h with e | e
      · subst e; omega
      · have := ih _ _ _ e; omega
    · simp at h
theorem w64_sg {x : Int} (h : 0 ≤ x ∧ x < 18446744073709551616) : w64 (sg x) = x := by unfold w64 sg; split <;> omega
theorem sg_w64 {x : Int} (h : 0 ≤ x ∧ x < 9223372036854775808) : sg (w64 x) = x := by unfold w64 sg; rw [Int.emod_eq_of_lt h.1 (by omega), if_pos h.2]
theorem w64_r (x : Int) : 0 ≤ w64 x ∧ w64 x < 18446744073709551616 := by unfold w64; omega
/-- a slot of an object of the half in use is written -/
theorem GI.setS (h : GI A m k D) {p q n' : Int} (hp0 : 0 ≤ p) (hp : g m p = 1) (hq : q ∈ slots (hk (g A.ws p)) (hs (g A.ws p))) (hn1 : isRef (rvT A.ws (p + q)) = true → 0 ≤ n' ∧ g m n' = 1 ∧ hk (g A.ws n') = kd (rvT A.ws (p + q))) (hn2 : isRef (rvT A.ws (p + q)) ≠ true → n' = rvN A.ws (p + q)) :
    GI { A with ws := A.ws.set (p + q + 1).toNat (w64 n') } m k (fun x => D x ∨ x = p + q) := by
  obtain ⟨o1, o2, o3, o4⟩ := h.one p hp0 hp
  have hqr := slotsR o2 hq
  have hv := h.hv
  have hse := h.se
  have hln := h.ln
  have hrm := h.rm
  have hS0 := S2_0 A.ws m A.ws.length
  have gw : ∀ j : Int, 0 ≤ j → g (A.ws.set (p + q + 1).toNat (w64 n')) j = if j = p + q + 1 then w64 n' else g A.ws j := fun j hj => g_set (by omega) (by omega) hj
  have hwl : (A.ws.set (p + q + 1).toNat (w64 n')).length = A.ws.length := List.length_set
  generalize A.ws.set (p + q + 1).toNat (w64 n') = ws' at *
  have w1 : ∀ r j : Int, 0 ≤ r → g m r = 1 → r ≠ p → 0 ≤ j → j ≤ hs (g A.ws r) → g ws' (r + j) = g A.ws (r + j) := by
    intro r j hr e hrp hj hj2
    rw [gw _ (by omega), if_neg]
    rcases Int.lt_or_le r p with c | c
    · have := h.dis r p hr c (.inl ⟨e, hp⟩); omega
    · have := h.dis p r hp0 (by omega) (.inl ⟨hp, e⟩); omega
  have w2 : ∀ r j : Int, 0 ≤ r → g m r = 2 → 0 ≤ j → j ≤ hs (g A.ws r) → g ws' (r + j) = g A.ws (r + j) := by
    intro r j hr e hj hj2
    have := h.two r hr e
    rw [gw _ (by omega), if_neg (by omega)]
  have wh : ∀ r : Int, 0 ≤ r → (g m r = 1 ∨ g m r = 2) → g ws' r = g A.ws r := by
    intro r hr e
    have := hs0 (g A.ws r)
    rcases e with e | e
    · by_cases c : r = p
      · subst c; rw [gw _ hr, if_neg (by omega)]
      · have := w1 r 0 hr e c (by omega) (by omega); simpa using this
    · have := w2 r 0 hr e (by omega) (by omega); simpa using this
  have kh0 : ∀ r : Int, 0 ≤ r → g m r ≠ 0 → g ws' (if isFw (g ws' r) = true then fw (g ws' r) else r) = g A.ws (A.where_ r) := by
    intro r hr e
    rcases h.of r hr with e1 | e1 | e1 | e1
    · exact absurd e1 e
    · have ew : A.where_ r = r := by unfold Ar.where_; rw [if_neg (by show ¬ isFw (g A.ws r) = true; rw [hOk_fw (h.one r hr e1).2.1]; decide)]
      rw [ew, wh r hr (.inl e1), if_neg (by rw [hOk_fw (h.one r hr e1).2.1]; decide), wh r hr (.inl e1)]
    · have ew : A.where_ r = r := by unfold Ar.where_; rw [if_neg (by show ¬ isFw (g A.ws r) = true; rw [hOk_fw (h.two r hr e1).2.1]; decide)]
      rw [ew, wh r hr (.inr e1), if_neg (by rw [hOk_fw (h.two r hr e1).2.1]; decide), wh r hr (.inr e1)]
    · obtain ⟨a, b, d, f⟩ := h.thr r hr e1
      have ew : A.where_ r = fw (g A.ws r) := by unfold Ar.where_; rw [if_pos (show isFw (g A.ws r) = true from d)]
      have e4 : g ws' r = g A.ws r := by rw [gw r hr, if_neg (by omega)]
      rw [ew, e4, if_pos d, wh _ (fwR _).1 (.inl f)]
  have hs2 : S2 ws' m ws'.length = S2 A.ws m A.ws.length := by rw [hwl]; exact S2_congr (fun r hr e => wh r hr (.inr e)) _
  refine ⟨fun r => ?_, by rw [hwl]; exact hln, hse, h.to, by rw [hwl]; exact h.ml, h.of, h.tp, fun r hr e => ?_, fun r hr e => ?_, fun r hr e => ?_, fun a b ha hab e => ?_, fun r q' hr hm hq' => ?_, h.rts, by rw [hs2]; exact hrm, by rw [hs2]; exact h.cp, h.sc, h.s0, by rw [hs2]; exact h.cq, fun r q' hr hm hq' => ?_, fun i h0 h1 => ?_, fun r hr hm hk1 => ?_⟩ <;> (try dsimp only at *)
  · rw [g_toNat, gw _ (by omega)]
    split
    · exact w64_r _
    · exact h.wf _
  · rw [wh r hr (.inl e)]; exact h.one r hr e
  · rw [wh r hr (.inr e)]; exact h.two r hr e
  · have h3 := h.thr r hr e
    rw [gw r hr, if_neg (by omega)]; exact h3
  · rw [wh a ha (by omega)]; exact h.dis a b ha hab e
  · rw [wh r hr hm] at hq'
    obtain ⟨s1, s2⟩ := h.slo r q' hr hm hq'
    by_cases c : r = p ∧ q' = q
    · obtain ⟨rfl, rfl⟩ := c
      have e0 : g ws' (r + q') = g A.ws (r + q') := by rw [gw _ (by omega), if_neg (by omega)]
      have e1 : g ws' (r + q' + 1) = w64 n' := by rw [gw _ (by omega), if_pos rfl]
      have et : rvT A.ws (r + q') = g A.ws (r + q') := by unfold rvT; rw [if_pos s1]
      by_cases hr' : isRef (rvT A.ws (r + q')) = true
      · obtain ⟨n1, n2⟩ := hn1 hr'
        obtain ⟨l1, l2⟩ := h.lt n1 (by omega)
        have hval : rv ws' (r + q') = true := by
          rw [rv_eq, e0, e1, sg_w64 ⟨n1, by omega⟩]
          rw [rv_eq] at s1
          have s1 := of_decide_eq_true (show decide (ValP _ _) = true from s1)
          have hk := kindOf_ne.1 (of_decide_eq_true (show decide (kd _ ≠ 0) = true from hr'))
          rw [et] at hk
          refine decide_eq_true ?_
          unfold ValP at s1 ⊢
          omega
        have en : rvN ws' (r + q') = n' := by unfold rvN; rw [if_pos hval, e1, sg_w64 ⟨n1, by omega⟩]
        refine ⟨hval, fun _ => ?_⟩
        rw [en]; exact ⟨n1, by omega, fun _ _ => n2.1⟩
      · have e2 : w64 n' = g A.ws (r + q' + 1) := by
          rw [hn2 hr']; unfold rvN; rw [if_pos s1, w64_sg (h.wf _)]
        obtain ⟨r1, r2, r3⟩ := rv_congr (ws := A.ws) (ws' := ws') (a := r + q') (b := r + q') e0 (by rw [e1, e2])
        rw [r1, r2, r3]
        exact ⟨s1, fun c => absurd c hr'⟩
    · have hok : hOk (g A.ws r) = true := by
        rcases hm with e | e
        · exact (h.one r hr e).2.1
        · exact (h.two r hr e).2.1
      have hqr' := slotsR hok hq'
      have ww : g ws' (r + q') = g A.ws (r + q') ∧ g ws' (r + q' + 1) = g A.ws (r + q' + 1) := by
        by_cases cr : r = p
        · subst cr
          have hpq : q' ≠ q := fun e => c ⟨rfl, e⟩
          have p1 := slots_par _ _ _ _ hq
          have p2 := slots_par _ _ _ _ hq'
          exact ⟨by rw [gw _ (by omega), if_neg (by omega)], by rw [gw _ (by omega), if_neg (by omega)]⟩
        · rw [Int.add_assoc]
          rcases hm with e | e
          · exact ⟨w1 r q' hr e cr (by omega) (by omega), w1 r (q' + 1) hr e cr (by omega) (by omega)⟩
          · exact ⟨w2 r q' hr e (by omega) (by omega), w2 r (q' + 1) hr e (by omega) (by omega)⟩
      obtain ⟨r1, r2, r3⟩ := rv_congr (ws := A.ws) (ws' := ws') ww.1 ww.2
      rw [r1, r2, r3]
      refine ⟨s1, fun hr' => ?_⟩
      obtain ⟨s3, s4, s5⟩ := s2 hr'
      refine ⟨s3, s4, fun e d => ?_⟩
      rcases d with d | d
      · exact s5 e d
      · exfalso
        rcases Int.lt_trichotomy r p with cr | cr | cr
        · have := h.dis r p hr cr (.inl ⟨e, hp⟩); omega
        · exact c ⟨cr, by omega⟩
        · have := h.dis p r hp0 cr (.inl ⟨hp, e⟩); omega
  · rw [wh r hr hm] at hq' ⊢
    obtain ⟨s1, s2⟩ := h.slk r q' hr hm hq'
    by_cases c : r = p ∧ q' = q
    · obtain ⟨rfl, rfl⟩ := c
      have sv := (h.slo r q' hr hm hq').1
      have e0 : g ws' (r + q') = g A.ws (r + q') := by rw [gw _ (by omega), if_neg (by omega)]
      have e1 : g ws' (r + q' + 1) = w64 n' := by rw [gw _ (by omega), if_pos rfl]
      have et : rvT A.ws (r + q') = g A.ws (r + q') := by unfold rvT; rw [if_pos sv]
      by_cases hr' : isRef (rvT A.ws (r + q')) = true
      · obtain ⟨n1, n2, n3⟩ := hn1 hr'
        obtain ⟨l1, l2⟩ := h.lt n1 (by omega)
        have hval : rv ws' (r + q') = true := by
          rw [rv_eq, e0, e1, sg_w64 ⟨n1, by omega⟩]
          rw [rv_eq] at sv
          have sv := of_decide_eq_true (show decide (ValP _ _) = true from sv)
          have hk := kindOf_ne.1 (of_decide_eq_true (show decide (kd _ ≠ 0) = true from hr'))
          rw [et] at hk
          refine decide_eq_true ?_
          unfold ValP at sv ⊢
          omega
        have en : rvN ws' (r + q') = n' := by unfold rvN; rw [if_pos hval, e1, sg_w64 ⟨n1, by omega⟩]
        have et' : rvT ws' (r + q') = rvT A.ws (r + q') := by rw [et]; unfold rvT; rw [if_pos hval, e0]
        rw [et']
        refine ⟨s1, fun _ => ?_⟩
        rw [en]
        have ew : A.where_ n' = n' := by unfold Ar.where_; rw [if_neg (by show ¬ isFw (g A.ws n') = true; rw [hOk_fw (h.one n' n1 n2).2.1]; decide)]
        have := kh0 n' n1 (by omega)
        rw [ew] at this
        exact (congrArg hk this).trans n3
      · have e2 : w64 n' = g A.ws (r + q' + 1) := by
          rw [hn2 hr']; unfold rvN; rw [if_pos sv, w64_sg (h.wf _)]
        obtain ⟨r1, r2, r3⟩ := rv_congr (ws := A.ws) (ws' := ws') (a := r + q') (b := r + q') e0 (by rw [e1, e2])
        rw [r2, r3]
        exact ⟨s1, fun c => absurd c hr'⟩
    · have hok : hOk (g A.ws r) = true := by
        rcases hm with e | e
        · exact (h.one r hr e).2.1
        · exact (h.two r hr e).2.1
      have hqr' := slotsR hok hq'
      have ww : g ws' (r + q') = g A.ws (r + q') ∧ g ws' (r + q' + 1) = g A.ws (r + q' + 1) := by
        by_cases cr : r = p
        · subst cr
          have hpq : q' ≠ q := fun e => c ⟨rfl, e⟩
          have p1 := slots_par _ _ _ _ hq
          have p2 := slots_par _ _ _ _ hq'
          exact ⟨by rw [gw _ (by omega), if_neg (by omega)], by rw [gw _ (by omega), if_neg (by omega)]⟩
        · rw [Int.add_assoc]
          rcases hm with e | e
          · exact ⟨w1 r q' hr e cr (by omega) (by omega), w1 r (q' + 1) hr e cr (by omega) (by omega)⟩
          · exact ⟨w2 r q' hr e (by omega) (by omega), w2 r (q' + 1) hr e (by omega) (by omega)⟩
      obtain ⟨r1, r2, r3⟩ := rv_congr (ws := A.ws) (ws' := ws') ww.1 ww.2
      rw [r2, r3]
      refine ⟨s1, fun hr' => ?_⟩
      obtain ⟨s3, s4, -⟩ := (h.slo r q' hr hm hq').2 hr'
      exact (congrArg hk (kh0 _ s3 s4)).trans (s2 hr')
  · obtain ⟨s1, s2, s3⟩ := h.rtk i h0 h1
    refine ⟨fun hr => ?_, s2, s3⟩
    obtain ⟨s4, s5, -⟩ := h.rts i h0 h1 hr
    exact (congrArg hk (kh0 _ s4 s5)).trans (s1 hr)
  · rw [wh r hr hm] at hk1 ⊢
    have hok : hOk (g A.ws r) = true := by
      rcases hm with e | e
      · exact (h.one r hr e).2.1
      · exact (h.two r hr e).2.1
    have h1 := (hsR _ hok).1
    have : g ws' (r + 1) = g A.ws (r + 1) := by
      by_cases cr : r = p
      · subst cr; rw [gw _ (by omega), if_neg (by omega)]
      · rcases hm with e | e
        · exact w1 r 1 hr e cr (by omega) h1
        · exact w2 r 1 hr e (by omega) h1
    rw [this]; exact h.txt r hr hm hk1
theorem GI.mono {D' : Int → Prop} (h : GI A m k D) (hD : ∀ p q : Int, 0 ≤ p → g m p = 1 → q ∈ slots (hk (g A.ws p)) (hs (g A.ws p)) → D' (p + q) → D (p + q)) : GI A m k D' :=
  { h with slo := fun p q hp hm hq => ⟨(h.slo p q hp hm hq).1, fun hr => ⟨((h.slo p q hp hm hq).2 hr).1, ((h.slo p q hp hm hq).2 hr).2.1, fun e d => ((h.slo p q hp hm hq).2 hr).2.2 e (hD p q hp e hq d)⟩⟩ }
end Go.Proofs.YtepddopgmhdllaaGreat.Eng
namespace Go.Proofs.YtepddopgmhdllaaGreat.Eng
open Go Go.RowKit Go.Proofs.YtepddopgmhdllaaGreat.Sl Go.Proofs.YtepddopgmhdllaaGreat.Ar Go.Proofs.YtepddopgmhdllaaGreat.Base
set_option linter.unusedVariables false
set_option linter.unusedSimpArgs false
variable {A B : Ar} {m m' : List Int} {k : Int} {D : Int → Prop}
/-- between two objects -/
abbrev SI (A : Ar) (m : List Int) : Prop := GI A m (A.vs.length : Int) (fun x => A.cyc = true → x < A.scan)
/-- within the object at Scan, its first i slots gone over -/
structure SL (A : Ar) (B : Ar) (m' : List Int) (i : Int) : Prop where
  gi : GI B m' (A.vs.length : Int) (fun x => x < A.scan ∨ ∃ j : Int, 0 ≤ j ∧ j < i ∧ x = A.scan + g A.sls j)
  k1 : g m' A.scan = 1
  hw : g B.ws A.scan = g A.ws A.scan
  sz : A.scan + hs (g A.ws A.scan) + 1 ≤ B.top
  ok : hOk (g A.ws A.scan) = true
  ln : B.ws.length = A.ws.length
  to : B.to = A.to
  se : B.semi = A.semi
  cy : B.cyc = A.cyc
  sc : B.scan = A.scan
  ol : B.old = A.old
  sr : B.serial = A.serial
  vs : B.vs = A.vs
theorem sls_eq (h : hOk (g A.ws A.scan) = true) : A.sls = slots (hk (g A.ws A.scan)) (hs (g A.ws A.scan)) := by
  unfold Ar.sls; rw [(rsR' h).2.2.1, (rsR' h).2.2.2.1]
theorem SI.at_ (h : SI A m) (hc : A.cyc = true) (hs : A.scan ≠ A.top) : g m A.scan = 1 := (h.sc hc).resolve_left hs
theorem SL.zero (h : SI A m) (hc : A.cyc = true) (hs : A.scan ≠ A.top) : SL A A m 0 := by
  have h1 := SI.at_ h hc hs
  have ho := h.one _ h.s0 h1
  exact ⟨h.mono (fun p q _ _ _ d _ => by
    rcases d with d | ⟨j, a, b, -⟩
    · exact d
    · omega), h1, rfl, ho.2.2.1, ho.2.1, rfl, rfl, rfl, rfl, rfl, rfl, rfl, rfl⟩
theorem fwd_same (t n : Int) : (A.fwd t n).1.to = A.to ∧ (A.fwd t n).1.semi = A.semi ∧ (A.fwd t n).1.cyc = A.cyc ∧ (A.fwd t n).1.scan = A.scan ∧ (A.fwd t n).1.old = A.old ∧ (A.fwd t n).1.serial = A.serial ∧ (A.fwd t n).1.vs = A.vs := by
  unfold Ar.fwd
  split
  · split <;> exact ⟨rfl, rfl, rfl, rfl, rfl, rfl, rfl⟩
  · exact ⟨rfl, rfl, rfl, rfl, rfl, rfl, rfl⟩
/-- what the walk needs of a slot -/
theorem SL.slot {i : Int} (h : SL A B m' i) (h0 : 0 ≤ i) (h1 : i < (A.sls.length : Int)) : rv B.ws (A.scan + g A.sls i) = true ∧ (1 ≤ g A.sls i ∧ g A.sls i + 1 ≤ hs (g A.ws A.scan)) ∧ (isRef (rvT B.ws (A.scan + g A.sls i)) = true → 0 ≤ rvN B.ws (A.scan + g A.sls i) ∧ g m' (rvN B.ws (A.scan + g A.sls i)) ≠ 0) := by
  have hm := g_mem h0 h1
  have hm' : g A.sls i ∈ slots (hk (g B.ws A.scan)) (hs (g B.ws A.scan)) := by rw [h.hw, ← sls_eq h.ok]; exact hm
  have := h.gi.slo A.scan (g A.sls i) (by rw [← h.sc]; exact h.gi.s0) (.inl h.k1) hm'
  refine ⟨this.1, ?_, fun hr => ⟨(this.2 hr).1, (this.2 hr).2.1⟩⟩
  have := slotsR (by rw [h.hw]; exact h.ok) hm'
  rw [h.hw] at this; exact this
theorem SL.hD {i : Int} (h : SL A B m' i) (h1 : i ≤ (A.sls.length : Int)) : ∀ x, (x < A.scan ∨ ∃ j : Int, 0 ≤ j ∧ j < i ∧ x = A.scan + g A.sls j) → x ≤ B.top := by
  rintro x (d | ⟨j, a, b, rfl⟩)
  · have := hs0 (g A.ws A.scan); have := h.sz; omega
  · have hm := g_mem a (show j < (A.sls.length : Int) by omega)
    have hm' : g A.sls j ∈ slots (hk (g A.ws A.scan)) (hs (g A.ws A.scan)) := by rw [← sls_eq h.ok]; exact hm
    have := slotsR h.ok hm'
    have := h.sz
    omega
theorem SL.step {i : Int} (h : SL A B m' i) (h0 : 0 ≤ i) (h1 : i < (A.sls.length : Int)) : ∃ m'', SL A (B.fwS (A.scan + g A.sls i)) m'' (i + 1) := by
  obtain ⟨hr, hq, hl⟩ := h.slot h0 h1
  have hm := g_mem h0 h1
  have hp0 : 0 ≤ A.scan := by rw [← h.sc]; exact h.gi.s0
  obtain ⟨m2, g2, kp, c1, c2⟩ := h.gi.fwd (h.hD (by omega)) hl
  obtain ⟨e1, e2, e3, e4, e5, e6, e7⟩ := fwd_same (A := B) (rvT B.ws (A.scan + g A.sls i)) (rvN B.ws (A.scan + g A.sls i))
  have hb := h.hw
  have w0 : g (B.fwd (rvT B.ws (A.scan + g A.sls i)) (rvN B.ws (A.scan + g A.sls i))).1.ws A.scan = g A.ws A.scan := by
    have := kp.kw A.scan 0 hp0 h.k1 (by omega) (hs0 _)
    rw [← hb]; simpa using this
  have wq : ∀ j : Int, 0 ≤ j → j ≤ hs (g A.ws A.scan) → g (B.fwd (rvT B.ws (A.scan + g A.sls i)) (rvN B.ws (A.scan + g A.sls i))).1.ws (A.scan + j) = g B.ws (A.scan + j) := fun j a b => kp.kw A.scan j hp0 h.k1 a (by rw [hb]; exact b)
  obtain ⟨r1, r2, r3⟩ := rv_congr (wq (g A.sls i) (by omega) (by omega)) (by rw [Int.add_assoc]; exact wq (g A.sls i + 1) (by omega) (by omega))
  have hset := g2.setS (p := A.scan) (q := g A.sls i) (n' := (B.fwd (rvT B.ws (A.scan + g A.sls i)) (rvN B.ws (A.scan + g A.sls i))).2) hp0 (kp.k1 _ hp0 h.k1) (by rw [w0, ← sls_eq h.ok]; exact hm)
    (by
      rw [r2]
      intro hr'
      obtain ⟨x1, x2, x3⟩ := c1 hr'
      refine ⟨x1, x2, ?_⟩
      have x4 := x3 0 (by omega) (hs0 _)
      rw [Int.add_zero, Int.add_zero] at x4
      rw [x4]
      exact (h.gi.slk A.scan (g A.sls i) hp0 (.inl h.k1) (by rw [hb, ← sls_eq h.ok]; exact hm)).2 hr') (by rw [r2, r3]; exact c2)
  have ht := kp.tp
  have hln := kp.ln
  unfold Ar.fwS
  generalize (B.fwd (rvT B.ws (A.scan + g A.sls i)) (rvN B.ws (A.scan + g A.sls i))) = F at *
  refine ⟨m2, hset.mono ?_, kp.k1 _ hp0 h.k1, ?_, by have := h.sz; dsimp only; omega, h.ok, by dsimp only; rw [List.length_set, hln, h.ln], e1.trans h.to, e2.trans h.se, e3.trans h.cy, e4.trans h.sc, e5.trans h.ol, e6.trans h.sr, e7.trans h.vs⟩
  · rintro p q - - - (d | ⟨j, a, b, d⟩)
    · exact .inl (.inl d)
    · by_cases c : j = i
      · subst c; exact .inr d
      · exact .inl (.inr ⟨j, a, by omega, d⟩)
  · dsimp only
    have hlt := (g2.lt hp0 (by rw [kp.k1 _ hp0 h.k1]; omega)).2
    have hln2 := g2.ln
    have hone := g2.one _ hp0 (kp.k1 _ hp0 h.k1)
    have hv := g2.hv
    have hrm := g2.rm
    have := S2_0 F.1.ws m2 F.1.ws.length
    rw [w0] at hone
    rw [g_set (by omega) (by omega) hp0, if_neg (by omega), w0]
theorem SL.done (h : SL A B m' (A.sls.length : Int)) (hc : A.cyc = true) : SI { B with scan := A.scan + rs (g A.ws A.scan) + 1 } m' := by
  have hp0 : 0 ≤ A.scan := by rw [← h.sc]; exact h.gi.s0
  have hrs := (rsR' h.ok).2.2.1
  have ho := h.gi.one _ hp0 h.k1
  rw [h.hw] at ho
  have hG := h.gi
  rw [← h.vs] at hG
  refine GI.mono (D := fun x => x < A.scan ∨ ∃ j : Int, 0 ≤ j ∧ j < (A.sls.length : Int) ∧ x = A.scan + g A.sls j) ?_ ?_
  · exact { hG with sc := fun _ => by dsimp only; rw [hrs]; exact ho.2.2.2, s0 := by dsimp only; rw [hrs]; have := hs0 (g A.ws A.scan); omega }
  · intro p q hp e hq d
    dsimp only at e hq d
    have d := d (h.cy.trans hc)
    rw [hrs] at d
    rcases Int.lt_trichotomy p A.scan with c | c | c
    · left
      have := hG.dis p A.scan hp c (.inl ⟨e, h.k1⟩)
      have := slotsR (hG.one p hp e).2.1 hq
      omega
    · right
      subst c
      rw [h.hw, ← sls_eq h.ok] at hq
      obtain ⟨j, a, b, c⟩ := g_ex hq
      exact ⟨j, a, b, by rw [c]⟩
    · have := hG.dis A.scan p hp0 c (.inl ⟨h.k1, e⟩)
      rw [h.hw] at this
      have := slotsR (hG.one p hp e).2.1 hq
      omega
theorem SI.over (h : SI A m) : SI A.over m := by
  unfold Ar.over
  split
  · rename_i c
    refine GI.mono (D := fun x => A.cyc = true → x < A.scan) ?_ ?_
    · have := h.cp
      have := S2_0 A.ws m A.ws.length
      exact { h with cp := ⟨by dsimp only; omega, by dsimp only; omega⟩, sc := fun d => (by cases d), s0 := by dsimp only; omega, cq := fun d => (by cases d) }
    · intro p q hp e hq _ _
      have := h.one p hp e
      have := slotsR this.2.1 hq
      omega
  · exact h
theorem over_ne (h : A.over.cyc = true) : A.over = A ∧ A.scan ≠ A.top := by
  unfold Ar.over at h ⊢
  split at h
  · cases h
  · rename_i c; rw [if_neg c]; exact ⟨rfl, fun d => c ⟨h, d⟩⟩
/-- one object is gone over -/
theorem fwI_all : ∀ (f : Nat) (i : Int) (B : Ar) (m' : List Int), SL A B m' i → 0 ≤ i → i ≤ (A.sls.length : Int) → (A.sls.length : Int) - i < (f : Int) → ∃ m'', SL A (Ar.fwI A.scan A.sls f i B) m'' (A.sls.length : Int) := by
  intro f
  induction f with
  | zero => intro i B m' _ _ _ h; omega
  | succ f ih =>
    intro i B m' h h0 h1 h2
    rw [Ar.fwI]
    split
    · rename_i c
      obtain ⟨m2, g2⟩ := h.step h0 c
      exact ih _ _ _ g2 (by omega) (by omega) (by omega)
    · rename_i c
      have : i = (A.sls.length : Int) := by omega
      subst this; exact ⟨m', h⟩
theorem SI.fwO (h : SI A m) (hc : A.cyc = true) (hs : A.scan ≠ A.top) : ∃ m', SI A.fwO m' ∧ A.scan + 2 ≤ A.fwO.scan ∧ A.fwO.to = A.to ∧ A.fwO.semi = A.semi ∧ A.fwO.ws.length = A.ws.length ∧ A.fwO.vs = A.vs := by
  obtain ⟨m2, g2⟩ := fwI_all (A.sls.length + 1) 0 A m (SL.zero h hc hs) (by omega) (by omega) (by omega)
  have := g2.done hc
  have hh := hsR _ g2.ok
  have hrs := (rsR' g2.ok).2.2.1
  exact ⟨m2, this, by unfold Ar.fwO; dsimp only; omega, g2.to, g2.se, g2.ln, g2.vs⟩
theorem over_same : A.over.to = A.to ∧ A.over.semi = A.semi ∧ A.over.ws = A.ws ∧ A.over.vs = A.vs ∧ A.over.top = A.top := by
  unfold Ar.over; split <;> exact ⟨rfl, rfl, rfl, rfl, rfl⟩
theorem SI.lt (h : SI A m) (hc : A.cyc = true) : A.to * A.semi + 1 ≤ A.scan ∧ A.scan ≤ A.top ∧ A.top ≤ (A.to + 1) * A.semi := by
  have := S2_0 A.ws m A.ws.length
  have := h.rm
  have := h.tp
  rcases h.sc hc with e | e
  · omega
  · have := h.one _ h.s0 e
    have := hs0 (g A.ws A.scan)
    omega
/-- the number of steps that is allowed makes no difference, where it is large -/
theorem stp_n : ∀ (f : Nat) (A : Ar) (m : List Int) (d n n' : Int), SI A m → (A.cyc = true → A.scan ≠ A.top) → (A.cyc = true → d + ((A.to + 1) * A.semi - A.scan) ≤ n ∧ d + ((A.to + 1) * A.semi - A.scan) ≤ n') → Ar.stp f A d n = Ar.stp f A d n' := by
  intro f
  induction f with
  | zero => intro A m d n n' _ _ _; rfl
  | succ f ih =>
    intro A m d n n' h hs hb
    rw [Ar.stp, Ar.stp]
    by_cases hc : A.cyc = true
    · have hl := SI.lt h hc
      have := hs hc
      have := hb hc
      rw [if_pos ⟨hc, by omega⟩, if_pos ⟨hc, by omega⟩]
      obtain ⟨m2, g2, e1, e2, e3, -⟩ := h.fwO hc (hs hc)
      refine ih _ m2 _ _ _ g2.over (fun c => ?_) (fun c => ?_)
      · obtain ⟨a, b⟩ := over_ne c; rw [a]; exact b
      · obtain ⟨a, b⟩ := over_ne c
        rw [a, e2, e3]; omega
    · rw [if_neg (fun c => hc c.1), if_neg (fun c => hc c.1)]
theorem stp_all : ∀ (f : Nat) (A : Ar) (m : List Int) (d n : Int), SI A m → (A.cyc = true → A.scan ≠ A.top) → ∃ m', SI (Ar.stp f A d n).1 m' ∧ (Ar.stp f A d n).1.to = A.to ∧ (Ar.stp f A d n).1.semi = A.semi ∧ (Ar.stp f A d n).1.ws.length = A.ws.length ∧ (Ar.stp f A d n).1.vs = A.vs ∧ ((A.cyc = true → (A.to + 1) * A.semi - A.scan < (f : Int) ∧ d + ((A.to + 1) * A.semi - A.scan) ≤ n) → (Ar.stp f A d n).1.cyc = false) := by
  intro f
  induction f with
  | zero =>
    intro A m d n h hs
    refine ⟨m, h, rfl, rfl, rfl, rfl, fun c => ?_⟩
    show A.cyc = false
    cases e : A.cyc with
    | false => rfl
    | true => have := (c e).1; have := SI.lt h e; omega
  | succ f ih =>
    intro A m d n h hs
    rw [Ar.stp]
    by_cases hc : A.cyc = true ∧ d < n
    · rw [if_pos hc]
      obtain ⟨m2, g2, e1, e2, e3, e4, e5⟩ := h.fwO hc.1 (hs hc.1)
      obtain ⟨o1, o2, o3, o4, o5⟩ := over_same (A := A.fwO)
      obtain ⟨m3, g3, f1, f2, f3, f4, f5⟩ := ih A.fwO.over m2 (d + 1) n g2.over (fun c => by obtain ⟨a, b⟩ := over_ne c; rw [a]; exact b)
      refine ⟨m3, g3, f1.trans (o1.trans e2), f2.trans (o2.trans e3), f3.trans ((congrArg List.length o3).trans e4), f4.trans (o4.trans e5), fun c => f5 fun c2 => ?_⟩
      obtain ⟨a, b⟩ := over_ne c2
      have := c hc.1
      rw [a, e2, e3]; omega
    · rw [if_neg hc]
      refine ⟨m, h, rfl, rfl, rfl, rfl, fun c => ?_⟩
      cases e : A.cyc with
      | false => rfl
      | true => have := c e; have := SI.lt h e; exact absurd ⟨e, by have := hs e; omega⟩ hc
theorem SI.fin (h : SI A m) : ∃ m', SI A.fin.1 m' ∧ A.fin.1.cyc = false ∧ A.fin.1.vs = A.vs ∧ A.fin.1.ws.length = A.ws.length := by
  obtain ⟨o1, o2, o3, o4, o5⟩ := over_same (A := A)
  obtain ⟨m3, g3, f1, f2, f3, f4, f5⟩ := stp_all 8001 A.over m 0 8000 h.over (fun c => by obtain ⟨a, b⟩ := over_ne c; rw [a]; exact b)
  refine ⟨m3, g3, f5 fun c => ?_, f4.trans o4, f3.trans (congrArg List.length o3)⟩
  have := SI.lt h.over c
  have := h.over.hv
  have := h.over.se
  omega
theorem SI.fin_n (h : SI A m) {n : Int} (hn : (A.ws.length : Int) ≤ n) : Ar.stp 8001 A.over 0 n = A.fin := by
  refine stp_n _ _ m _ _ _ h.over (fun c => by obtain ⟨a, b⟩ := over_ne c; rw [a]; exact b) (fun c => ?_)
  obtain ⟨o1, o2, o3, o4, o5⟩ := over_same (A := A)
  have := SI.lt h.over c
  have := h.over.hv
  have := h.over.se
  have := h.ln
  rw [o1, o2] at *
  omega
/-! ### a cycle begins -/
def flM (m : List Int) : List Int := m.map fun x => if x = 1 then 2 else 0
theorem g_flM (m : List Int) (q : Int) : g (flM m) q = if g m q = 1 then 2 else 0 := by
  unfold g flM
  rw [List.getD_eq_getElem?_getD, List.getD_eq_getElem?_getD, List.getElem?_map]
  cases e : m[q.toNat]? with
  | none => simp
  | some x => simp
theorem SI.fl0 (h : SI A m) (hc : A.cyc = false) : GI A.fl0 (flM m) 0 (fun x => x < A.fl0.scan) := by
  have hv := h.hv
  have hse := h.se
  have hln := h.ln
  have hto := h.to
  have htp := h.tp
  have hrm := h.rm
  have hS0 := S2_0 A.ws m A.ws.length
  have g1 : ∀ q : Int, g (flM m) q ≠ 1 := fun q e => by rw [g_flM] at e; split at e <;> omega
  have g3 : ∀ q : Int, g (flM m) q ≠ 3 := fun q e => by rw [g_flM] at e; split at e <;> omega
  have g2 : ∀ q : Int, g (flM m) q = 2 → g m q = 1 := fun q e => by rw [g_flM] at e; split at e <;> omega
  have g2' : ∀ q : Int, g m q = 1 → g (flM m) q ≠ 0 := fun q e => by rw [g_flM, if_pos e]; omega
  have e1 : (1 - (1 - A.to)) * A.semi = A.to * A.semi := by rw [show 1 - (1 - A.to) = A.to by omega]
  have e2 : (2 - (1 - A.to)) * A.semi = (A.to + 1) * A.semi := by rw [show 2 - (1 - A.to) = A.to + 1 by omega]
  have e3 : (1 - A.to + 1) * A.semi = (2 - A.to) * A.semi := by rw [show 1 - A.to + 1 = 2 - A.to by omega]
  have hsum : S2 A.ws (flM m) A.ws.length ≤ A.top - (A.to * A.semi + 1) :=
    (S2_dis (lo := A.to * A.semi + 1) (hi := A.top) htp (fun p hp e => by have := h.one p hp (g2 p e); exact ⟨this.1, this.2.2.1⟩) (fun p q hp hpq e e' => h.dis p q hp hpq (.inl ⟨g2 p e, g2 q e'⟩)) A.ws.length).1
  have hS0' := S2_0 A.ws (flM m) A.ws.length
  have hst : A.fl0.top = (1 - A.to) * A.semi + 1 := rfl
  refine ⟨h.wf, h.ln, h.se, by show 1 - A.to = 0 ∨ 1 - A.to = 1; omega, by show (flM m).length = A.ws.length; rw [← h.ml]; simp [flM], fun q hq => ?_, by rw [hst]; exact Int.le_refl _, fun q hq e => absurd e (g1 q), fun q hq e => ?_, fun q hq e => absurd e (g3 q), fun p q hp hpq e => ?_, fun p q hp hm hq => ?_, fun i h0 h1 hr => ?_, ?_, ?_, fun _ => .inl rfl, ?_, fun _ => ?_, fun p q hp hm hq => ?_, fun i h0 h1 => h.rtk i h0 h1, fun p hp hm hk1 => ?_⟩
  · rw [g_flM]; split <;> omega
  · have := h.one q hq (g2 q e)
    show (1 - (1 - A.to)) * A.semi + 1 ≤ q ∧ _ ∧ q + hs (g A.ws q) + 1 ≤ (2 - (1 - A.to)) * A.semi
    rw [e1, e2]; exact ⟨this.1, this.2.1, by omega⟩
  · rcases e with e | e
    · exact absurd e.1 (g1 p)
    · exact h.dis p q hp hpq (.inl ⟨g2 p e.1, g2 q e.2⟩)
  · have hm1 : g m p = 1 := by
      rcases hm with e | e
      · exact absurd e (g1 p)
      · exact g2 p e
    obtain ⟨s1, s2⟩ := h.slo p q hp (.inl hm1) hq
    refine ⟨s1, fun hr => ?_⟩
    obtain ⟨s3, s4, s5⟩ := s2 hr
    refine ⟨s3, g2' _ (s5 hm1 (fun c => by rw [hc] at c; cases c)), fun e => absurd e (g1 p)⟩
  · obtain ⟨s3, s4, s5⟩ := h.rts i h0 h1 hr
    exact ⟨s3, g2' _ (s5 h1), fun c => by omega⟩
  · show (1 - A.to) * A.semi + 1 + S2 A.ws (flM m) A.ws.length ≤ (1 - A.to + 1) * A.semi
    rw [e3]; omega
  · show (0 : Int) ≤ 0 ∧ 0 + S2 A.ws (flM m) A.ws.length ≤ 8000
    omega
  · show 0 ≤ (1 - A.to) * A.semi + 1
    omega
  · show 0 + S2 A.ws (flM m) A.ws.length ≤ A.top - ((1 - (1 - A.to)) * A.semi + 1)
    rw [e1]; omega
  · have hm1 : g m p = 1 := by
      rcases hm with e | e
      · exact absurd e (g1 p)
      · exact g2 p e
    exact h.slk p q hp (.inl hm1) hq
  · have hm1 : g m p = 1 := by
      rcases hm with e | e
      · exact absurd e (g1 p)
      · exact g2 p e
    exact h.txt p hp (.inl hm1) hk1
/-- the Roots below i are forwarded -/
structure RL (A : Ar) (B : Ar) (m' : List Int) (i : Int) : Prop where
  gi : GI B m' i (fun x => x < A.scan)
  cy : B.cyc = true
  sc : B.scan = A.scan
  ln : B.ws.length = A.ws.length
  vl : B.vs.length = A.vs.length
  to : B.to = A.to
  se : B.semi = A.semi
  tp : A.scan ≤ B.top
theorem getD_set2 {vs : List (Int × Int)} {i j : Int} {v : Int × Int} (h0 : 0 ≤ i) (h1 : i < (vs.length : Int)) (hj : 0 ≤ j) : (vs.set i.toNat v).getD j.toNat (0, 0) = if j = i then v else vs.getD j.toNat (0, 0) := by
  rw [List.getD_eq_getElem?_getD, List.getD_eq_getElem?_getD, List.getElem?_set]
  by_cases c : j = i
  · subst c; rw [if_pos rfl, if_pos (by omega), if_pos rfl]; rfl
  · rw [if_neg (by omega), if_neg c]
theorem RL.step {i : Int} (h : RL A B m' i) (h0 : 0 ≤ i) (h1 : i < (A.vs.length : Int)) : ∃ m'', RL A (B.fwR i) m'' (i + 1) := by
  have hv := h.vl
  have hr := fun hr => (h.gi.rts i h0 (by omega) hr)
  obtain ⟨m2, g2, kp, c1, c2⟩ := h.gi.fwd (fun x hx => by have := h.tp; omega) (t := rT B i) (n := rN B i) (fun hk => ⟨(hr hk).1, (hr hk).2.1⟩)
  obtain ⟨e1, e2, e3, e4, e5, e6, e7⟩ := fwd_same (A := B) (rT B i) (rN B i)
  refine ⟨m2, ?_, e3.trans h.cy, e4.trans h.sc, kp.ln.trans h.ln, by show (B.vs.set _ _).length = _; rw [List.length_set, hv], e1.trans h.to, e2.trans h.se, by have := kp.tp; have := h.tp; show A.scan ≤ (B.fwd (rT B i) (rN B i)).1.top; omega⟩
  have hg : ∀ j : Int, 0 ≤ j → (B.fwR i).vs.getD j.toNat (0, 0) = if j = i then (rT B i, (B.fwd (rT B i) (rN B i)).2) else B.vs.getD j.toNat (0, 0) := fun j hj => getD_set2 h0 (by omega) hj
  have hvl : (B.fwR i).vs.length = B.vs.length := List.length_set
  have hrts : ∀ j : Int, 0 ≤ j → j < ((B.fwR i).vs.length : Int) → isRef (rT (B.fwR i) j) = true → 0 ≤ rN (B.fwR i) j ∧ g m2 (rN (B.fwR i) j) ≠ 0 ∧ (j < i + 1 → g m2 (rN (B.fwR i) j) = 1) := by
    intro j j0 j1 hk
    have hj := hg j j0
    by_cases c : j = i
    · rw [if_pos c] at hj
      have hk1 : isRef (rT B i) = true := by rw [show rT (B.fwR i) j = rT B i from by show ((B.fwR i).vs.getD j.toNat (0, 0)).1 = _; rw [hj]] at hk; exact hk
      have := c1 hk1
      rw [show rN (B.fwR i) j = (B.fwd (rT B i) (rN B i)).2 from by show ((B.fwR i).vs.getD j.toNat (0, 0)).2 = _; rw [hj]]
      exact ⟨this.1, by omega, fun _ => this.2.1⟩
    · rw [if_neg c] at hj
      have hk1 : isRef (rT B j) = true := by rw [show rT (B.fwR i) j = rT B j from by show ((B.fwR i).vs.getD j.toNat (0, 0)).1 = _; rw [hj]] at hk; exact hk
      rw [hvl] at j1
      obtain ⟨s3, s4, s5⟩ := h.gi.rts j j0 j1 hk1
      rw [show rN (B.fwR i) j = rN B j from by show ((B.fwR i).vs.getD j.toNat (0, 0)).2 = _; rw [hj]]
      exact ⟨s3, kp.k0 _ s3 s4, fun d => kp.k1 _ s3 (s5 (by omega))⟩
  have hrtk : ∀ j : Int, 0 ≤ j → j < ((B.fwR i).vs.length : Int) → (isRef (rT (B.fwR i) j) = true → hk (g (B.fwR i).ws ((B.fwR i).where_ (rN (B.fwR i) j))) = kd (rT (B.fwR i) j)) ∧ ValP (rT (B.fwR i) j) (rN (B.fwR i) j) ∧ rT (B.fwR i) j ≠ 8 := by
    intro j j0 j1
    have hj := hg j j0
    by_cases c : j = i
    · rw [if_pos c] at hj
      have eT : rT (B.fwR i) j = rT B i := by show ((B.fwR i).vs.getD j.toNat (0, 0)).1 = _; rw [hj]
      have eN : rN (B.fwR i) j = (B.fwd (rT B i) (rN B i)).2 := by show ((B.fwR i).vs.getD j.toNat (0, 0)).2 = _; rw [hj]
      obtain ⟨s1, s2, s3⟩ := h.gi.rtk i h0 (by omega)
      rw [eT, eN]
      refine ⟨fun hk1 => ?_, ?_, s3⟩
      · obtain ⟨x1, x2, x3⟩ := c1 hk1
        have x4 := x3 0 (by omega) (hs0 _)
        rw [Int.add_zero, Int.add_zero] at x4
        have ew : (B.fwR i).where_ (B.fwd (rT B i) (rN B i)).2 = (B.fwd (rT B i) (rN B i)).2 := by
          unfold Ar.where_; rw [if_neg (by show ¬ isFw (g (B.fwd (rT B i) (rN B i)).1.ws _) = true; rw [hOk_fw (g2.one _ x1 x2).2.1]; decide)]
        rw [ew]
        show hk (g (B.fwd (rT B i) (rN B i)).1.ws _) = _
        rw [x4]; exact s1 hk1
      · by_cases hk1 : isRef (rT B i) = true
        · obtain ⟨x1, x2, -⟩ := c1 hk1
          have := (g2.lt x1 (by omega)).1
          have hk := kindOf_ne.1 (of_decide_eq_true (show decide (kd _ ≠ 0) = true from hk1))
          unfold ValP at s2 ⊢
          omega
        · rw [c2 hk1]; exact s2
    · rw [if_neg c] at hj
      have eT : rT (B.fwR i) j = rT B j := by show ((B.fwR i).vs.getD j.toNat (0, 0)).1 = _; rw [hj]
      have eN : rN (B.fwR i) j = rN B j := by show ((B.fwR i).vs.getD j.toNat (0, 0)).2 = _; rw [hj]
      rw [hvl] at j1
      obtain ⟨s1, s2, s3⟩ := h.gi.rtk j j0 j1
      rw [eT, eN]
      refine ⟨fun hk1 => ?_, s2, s3⟩
      obtain ⟨s4, s5, -⟩ := h.gi.rts j j0 j1 hk1
      have x4 := kp.kh _ 0 s4 s5 (by omega) (hs0 _)
      rw [Int.add_zero, Int.add_zero] at x4
      exact (congrArg hk x4).trans (s1 hk1)
  exact { g2 with rts := hrts, rtk := hrtk }
theorem RL.done (h : RL A B m' (A.vs.length : Int)) : SI B m' := by
  have := h.gi
  rw [← h.vl] at this
  exact this.mono (fun p q _ _ _ d => by rw [← h.sc]; exact d h.cy)
theorem RL.zero (h : SI A m) (hc : A.cyc = false) : RL A.fl0 A.fl0 (flM m) 0 := ⟨h.fl0 hc, rfl, rfl, rfl, rfl, rfl, rfl, Int.le_refl _⟩
theorem flR_all : ∀ (f : Nat) (i : Int) (B : Ar) (m' : List Int), RL A B m' i → 0 ≤ i → i ≤ (A.vs.length : Int) → (A.vs.length : Int) - i < (f : Int) → ∃ m'', RL A (Ar.flR f i B) m'' (A.vs.length : Int) := by
  intro f
  induction f with
  | zero => intro i B m' _ _ _ h; omega
  | succ f ih =>
    intro i B m' h h0 h1 h2
    rw [Ar.flR]
    split
    · rename_i c
      obtain ⟨m2, g2⟩ := h.step h0 (by have := h.vl; omega)
      exact ih _ _ _ g2 (by omega) (by have := h.vl; omega) (by omega)
    · rename_i c
      have : i = (A.vs.length : Int) := by have := h.vl; omega
      subst this; exact ⟨m', h⟩
theorem SI.flip (h : SI A m) (hc : A.cyc = false) : ∃ m', SI A.flip m' ∧ A.flip.ws.length = A.ws.length ∧ A.flip.vs.length = A.vs.length := by
  obtain ⟨m2, g2⟩ := flR_all (A := A.fl0) (A.vs.length + 1) 0 A.fl0 _ (RL.zero h hc) (by omega) (by show (0 : Int) ≤ (A.vs.length : Int); omega) (by show (A.vs.length : Int) - 0 < _; omega)
  obtain ⟨o1, o2, o3, o4, o5⟩ := over_same (A := Ar.flR (A.vs.length + 1) 0 A.fl0)
  refine ⟨m2, g2.done.over, ?_, ?_⟩
  · unfold Ar.flip; rw [o3]; exact g2.ln
  · unfold Ar.flip; rw [o4]; exact g2.vl
end Go.Proofs.YtepddopgmhdllaaGreat.Eng
namespace Go.Proofs.YtepddopgmhdllaaGreat.Eng
open Go Go.RowKit Go.Proofs.YtepddopgmhdllaaGreat.Sl Go.Proofs.YtepddopgmhdllaaGreat.Ar Go.Proofs.YtepddopgmhdllaaGreat.Base
set_option linter.unusedVariables false
set_option linter.unusedSimpArgs false
variable {A : Ar} {m : List Int}
theorem S2_cm {ws m m' : List Int} (h : ∀ q : Int, 0 ≤ q → (g m' q = 2 ↔ g m q = 2)) : ∀ n : Nat, S2 ws m' n = S2 ws m n := by
  intro n
  induction n with
  | zero => rfl
  | succ n ih =>
    rw [S2, S2, ih]
    by_cases e : g m (n : Int) = 2
    · rw [if_pos e, if_pos ((h _ (by omega)).2 e)]
    · rw [if_neg e, if_neg (fun c => e ((h _ (by omega)).1 c))]
theorem S2_none {ws m : List Int} (h : ∀ q : Int, 0 ≤ q → g m q ≠ 2) : ∀ n : Nat, S2 ws m n = 0 := by
  intro n
  induction n with
  | zero => rfl
  | succ n ih => rw [S2, ih, if_neg (h _ (by omega))]; rfl
theorem gset {m : List Int} {p v : Int} (hp : 0 ≤ p) (hl : p < (m.length : Int)) (q : Int) (hq : 0 ≤ q) : g (m.set p.toNat v) q = if q = p then v else g m q := g_set hp hl hq
theorem tile1_ch : ∀ (f : Nat) (p : Int) (m m' : List Int), 0 ≤ p → A.top ≤ (m.length : Int) → (∀ q : Int, p ≤ q → g m q ≠ 1) → A.tile1 f p m = some m' →
    (p = A.top ∨ g m' p = 1) ∧ (∀ q : Int, 0 ≤ q → q < p → g m' q = g m q) ∧ ∀ q : Int, p ≤ q → g m' q = 1 → (q + hs (g A.ws q) + 1 = A.top ∨ g m' (q + hs (g A.ws q) + 1) = 1) ∧ ∀ r : Int, q < r → g m' r = 1 → q + hs (g A.ws q) + 1 ≤ r := by
  intro f
  induction f with
  | zero => intro p m m' _ _ _ h; cases h
  | succ f ih =>
    intro p m m' hp hl hn h
    rw [Ar.tile1] at h
    simp only [Ar.w] at h
    split at h
    · cases h
      rename_i c
      exact ⟨.inl c, fun _ _ _ => rfl, fun q hq e => absurd e (hn q hq)⟩
    split at h
    · rename_i c0 c
      obtain ⟨c1, c2, c3⟩ := c
      have hh := hsR _ c1
      have gs := gset (m := m) (v := 1) hp (by omega)
      obtain ⟨i1, i2, i3⟩ := ih _ _ _ (by omega) (by rw [List.length_set]; exact hl) (fun q hq => by rw [gs q (by omega), if_neg (by omega)]; exact hn q (by omega)) h
      have hb : ∀ q : Int, 0 ≤ q → q < p + hs (g A.ws p) + 1 → q ≠ p → g m' q = g m q := fun q a b c => by rw [i2 q a b, gs q a, if_neg c]
      have hpp : g m' p = 1 := by rw [i2 p hp (by omega), gs p hp, if_pos rfl]
      refine ⟨.inr hpp, fun q a b => hb q a (by omega) (by omega), fun q a b => ?_⟩
      rcases Int.lt_or_le q (p + hs (g A.ws p) + 1) with c | c
      · by_cases e : q = p
        · subst e
          refine ⟨i1, fun r hr er => ?_⟩
          rcases Int.lt_or_le r (q + hs (g A.ws q) + 1) with d | d
          · have := hb r (by omega) d (by omega)
            rw [this] at er
            exact absurd er (hn r (by omega))
          · exact d
        · rw [hb q (by omega) c e] at b
          exact absurd b (hn q a)
      · exact i3 q c b
    · cases h
theorem tile2_ch : ∀ (f : Nat) (p : Int) (m m' : List Int) (led : List Bool) (s s' : Int), 0 ≤ p → p ≤ A.old → A.old ≤ (m.length : Int) → (∀ q : Int, p ≤ q → g m q ≠ 2) → A.tile2 f p m led s = some (m', s') →
    (∀ q : Int, 0 ≤ q → (q < p ∨ A.old ≤ q) → g m' q = g m q) ∧ (∀ q r : Int, p ≤ q → q < r → g m' q = 2 → g m' r = 2 → q + hs (g A.ws q) + 1 ≤ r) ∧ ∀ n : Nat, A.old ≤ (n : Int) → S2 A.ws m' n + s' = S2 A.ws m n + s + (A.old - p) := by
  intro f
  induction f with
  | zero => intro p m m' led s s' _ _ _ _ h; cases h
  | succ f ih =>
    intro p m m' led s s' hp hpo hl hn h
    rw [Ar.tile2] at h
    simp only [Ar.w] at h
    split at h
    · cases h
      rename_i c
      exact ⟨fun _ _ _ => rfl, fun q r a b c => absurd c (hn q a), fun n _ => by omega⟩
    rename_i c0
    split at h
    · rename_i c1
      have hh := hsR _ c1
      split at h
      · rename_i c2
        have gs := gset (m := m) (v := 2) hp (by omega)
        obtain ⟨i1, i2, i3⟩ := ih _ _ _ _ _ _ (by omega) c2.2 (by rw [List.length_set]; exact hl) (fun q hq => by rw [gs q (by omega), if_neg (by omega)]; exact hn q (by omega)) h
        refine ⟨fun q a b => ?_, fun q r a b c d => ?_, fun n hn2 => ?_⟩
        · rw [i1 q a (by omega), gs q a, if_neg (by omega)]
        · rcases Int.lt_or_le q (p + hs (g A.ws p) + 1) with e | e
          · by_cases e2 : q = p
            · subst e2
              rcases Int.lt_or_le r (q + hs (g A.ws q) + 1) with d2 | d2
              · rw [i1 r (by omega) (.inl d2), gs r (by omega), if_neg (by omega)] at d
                exact absurd d (hn r (by omega))
              · exact d2
            · rw [i1 q (by omega) (.inl e), gs q (by omega), if_neg e2] at c
              exact absurd c (hn q a)
          · exact i2 q r e b c d
        · have := i3 n hn2
          have h2 := S2_upd (ws := A.ws) (m := m.set p.toNat 2) (ws' := A.ws) (m' := m) (x := p) hp (by rw [gs p hp, if_pos rfl]) (hn p (Int.le_refl _)) (fun q a b => ⟨by rw [gs q a, if_neg b], fun _ => rfl⟩) n
          rw [if_pos (by omega)] at h2
          omega
      · cases h
    · split at h
      · rename_i c1 c2
        have hr := rsR (g A.ws (fw (g A.ws p)))
        have c5 : p + rs (g A.ws (fw (g A.ws p))) + 1 ≤ A.old := c2.2.2.2.2
        have gs := gset (m := m) (v := 3) hp (by omega)
        have hsz : A.sz (fw (g A.ws p)) = rs (g A.ws (fw (g A.ws p))) := rfl
        obtain ⟨i1, i2, i3⟩ := ih _ _ _ _ _ _ (by rw [hsz]; omega) (by rw [hsz]; omega) (by rw [List.length_set]; exact hl) (fun q hq => by rw [hsz] at hq; rw [gs q (by omega), if_neg (by omega)]; exact hn q (by omega)) h
        rw [hsz] at i1 i2 i3
        refine ⟨fun q a b => ?_, fun q r a b c d => ?_, fun n hn2 => ?_⟩
        · rw [i1 q a (by omega), gs q a, if_neg (by omega)]
        · rcases Int.lt_or_le q (p + rs (g A.ws (fw (g A.ws p))) + 1) with e | e
          · rw [i1 q (by omega) (.inl e), gs q (by omega)] at c
            split at c
            · omega
            · exact absurd c (hn q a)
          · exact i2 q r e b c d
        · have := i3 n hn2
          have h2 := S2_cm (ws := A.ws) (m := m) (m' := m.set p.toNat 3) (fun q a => by
            rw [gs q a]; split
            · rename_i e; subst e; exact ⟨fun c => by omega, fun c => absurd c (hn q (Int.le_refl _))⟩
            · exact Iff.rfl) n
          omega
      · cases h
/-- a right arena -/
theorem okSI (h : OkP A m) (hw : Wf A.ws) : SI A m := by
  obtain ⟨n1, n2, n3, n4, n5, n6, n7⟩ := h.num
  have hln : (A.ws.length : Int) = 2 * A.semi := n2
  have hto : A.to = 0 ∨ A.to = 1 := by omega
  have hv : (A.to * A.semi = 0 ∧ (1 - A.to) * A.semi = A.semi ∧ (A.to + 1) * A.semi = A.semi ∧ (2 - A.to) * A.semi = 2 * A.semi) ∨ (A.to * A.semi = A.semi ∧ (1 - A.to) * A.semi = 0 ∧ (A.to + 1) * A.semi = 2 * A.semi ∧ (2 - A.to) * A.semi = A.semi) := by
    rcases hto with e | e <;> rw [e]
    · left; refine ⟨?_, ?_, ?_, ?_⟩ <;> omega
    · right; refine ⟨?_, ?_, ?_, ?_⟩ <;> omega
  unfold Ar.start at n6 n7
  have hml := h.MP.len
  have hmi := h.mi
  have m1 := hmi.one
  have m2 := hmi.two
  have m3 := hmi.three
  unfold Ar.start at m1 m2 m3
  -- the marks
  have key : (∀ q : Int, 0 ≤ q → g m q = 1 → (q + hs (g A.ws q) + 1 = A.top ∨ g m (q + hs (g A.ws q) + 1) = 1) ∧ ∀ r : Int, q < r → g m r = 1 → q + hs (g A.ws q) + 1 ≤ r) ∧
      (∀ q r : Int, 0 ≤ q → q < r → g m q = 2 → g m r = 2 → q + hs (g A.ws q) + 1 ≤ r) ∧
      (A.cyc = true → S2 A.ws m A.ws.length + A.copied = A.old - ((1 - A.to) * A.semi + 1) ∧ (A.scan = A.top ∨ 0 ≤ A.scan ∧ g m A.scan = 1)) := by
    have hm := h.mks
    unfold Ar.marks at hm
    have hzl : A.zeros.length = A.ws.length := by simp [Ar.zeros]
    split at hm
    · cases hm
    rename_i ma ea
    have hst : A.start A.to = A.to * A.semi + 1 := rfl
    have t1 := tile1_ch _ _ _ _ (by rw [hst]; omega) (by rw [hzl]; omega) (fun q _ => by rw [zeros_g]; omega) ea
    have t0 := (tile1_inv _ _ _ _ ⟨by simp [Ar.zeros], fun q _ => .inl (zeros_g q), fun q _ e => (by rw [zeros_g] at e; omega), fun q _ e => (by rw [zeros_g] at e; omega), fun q _ e => (by rw [zeros_g] at e; omega)⟩ (fun q _ => by rw [zeros_g]; omega) (by rw [hst]; omega) (Int.le_refl _) ea)
    split at hm
    · cases hm
      rename_i hc
      refine ⟨fun q hq e => t1.2.2 q (by rw [hst]; exact (m1 q hq e).1) e, fun q r hq _ e => absurd e (t0.2 q hq).1, fun c => by rw [hc] at c; cases c⟩
    · rename_i hc
      have hc : A.cyc = true := by simpa using hc
      rw [if_pos hc] at n7
      split at hm
      · cases hm
      rename_i mb sb eb
      split at hm
      · rename_i hcs
        cases hm
        have hst2 : A.start (1 - A.to) = (1 - A.to) * A.semi + 1 := rfl
        have hmal := t0.1.len
        have t2 := tile2_ch _ _ _ _ _ _ _ (by rw [hst2]; omega) (by rw [hst2]; omega) (by rw [hmal]; omega) (fun q hq => (t0.2 q (by rw [hst2] at hq; omega)).1) eb
        rw [hst2] at t2
        have h1 : ∀ q : Int, A.to * A.semi + 1 ≤ q → q ≤ (A.to + 1) * A.semi → g m q = g ma q := fun q a b => t2.1 q (by omega) (by omega)
        refine ⟨fun q hq e => ?_, fun q r hq a b c => t2.2.1 q r (m2 q hq b).1 a b c, fun _ => ⟨?_, hcs.2.imp id (fun d => ⟨d.1, d.2.2⟩)⟩⟩
        · have q1 := m1 q hq e
          have hh := hs0 (g A.ws q)
          rw [h1 q (by omega) (by omega)] at e
          obtain ⟨x1, x2⟩ := t1.2.2 q (by rw [hst]; omega) e
          refine ⟨x1.imp id (fun d => by rw [h1 _ (by omega) (by omega)]; exact d), fun r hr er => x2 r hr ?_⟩
          have := m1 r (by omega) er
          have := hs0 (g A.ws r)
          rw [h1 r (by omega) (by omega)] at er; exact er
        · have := t2.2.2 A.ws.length (by omega)
          rw [S2_none (fun q hq => (t0.2 q hq).1)] at this
          have := hcs.1
          omega
      · cases hm
  obtain ⟨kA, kB, kC⟩ := key
  have hcy : (∃ q : Int, 0 ≤ q ∧ (g m q = 2 ∨ g m q = 3)) → A.cyc = true := h.mi2
  have hold : A.cyc = true → A.old ≤ (2 - A.to) * A.semi := fun c => by rw [if_pos c] at n7; exact n7.1.2
  have hS0 := S2_0 A.ws m A.ws.length
  have hS : A.cyc = false → S2 A.ws m A.ws.length = 0 := fun c => S2_none (fun q hq e => by rw [hcy ⟨q, hq, .inl e⟩] at c; cases c) _
  refine ⟨hw, hln, n1, hto, hml, hmi.of, n6.1, fun q hq e => ?_, fun q hq e => ?_, fun q hq e => ?_, fun p q hp hpq e => ?_, fun p q hp hm hq => ?_, fun i h0 h1 hr => ?_, ?_, ?_, fun c => (kC c).2.imp id (fun d => d.2), ?_, fun c => ?_, fun p q hp hm hq => ?_, fun i h0 h1 => ?_, fun p hp hm hk1 => ?_⟩
  · have := m1 q hq e
    exact ⟨this.1, this.2.2.1, this.2.2.2, (kA q hq e).1⟩
  · have := m2 q hq e
    have := hold (hcy ⟨q, hq, .inl e⟩)
    exact ⟨by omega, by simp_all, by omega⟩
  · have := m3 q hq e
    have := hold (hcy ⟨q, hq, .inr e⟩)
    exact ⟨by omega, by omega, by simp_all, by simp_all⟩
  · rcases e with ⟨a, b⟩ | ⟨a, b⟩
    · exact (kA p hp a).2 q hpq b
    · exact kB p q hp hpq a b
  · have hpl : p < (A.ws.length : Int) := by have := g_range (m := m) (q := p) (by omega) hp; omega
    have hok := (h.MP.ok p hp hpl hm).2.1
    have hs := obj_slot (h.ob p hp hpl hm) (by rw [(rsR' hok).2.2.1, (rsR' hok).2.2.2.1]; exact hq)
    obtain ⟨c1, c2, -⟩ := slotOk_iff.1 hs
    refine ⟨c1, fun hr => ?_⟩
    have hk := of_decide_eq_true (show decide (kd _ ≠ 0) = true from hr)
    have hl := leads_of c2 hk
    refine ⟨(rvP A.ws (p + q)).2 hk, hl.2.1, fun e d => ?_⟩
    have hfr : A.fromOf m p = 1 := by
      unfold Ar.fromOf
      rw [if_neg (by omega), if_neg]
      rintro ⟨a, b⟩
      have := d a
      have := slotsR hok hq
      omega
    rw [hfr] at c2
    unfold Ar.leads at c2
    rw [if_pos hr] at c2
    split at c2
    · have := of_decide_eq_true c2
      omega
    · cases c2
  · have hk := of_decide_eq_true (show decide (kd _ ≠ 0) = true from hr)
    obtain ⟨a, b, c, -⟩ := h.root h0 h1 hk
    exact ⟨a, by omega, fun _ => c⟩
  · cases hc : A.cyc with
    | false => rw [hS hc]; omega
    | true =>
      rw [if_pos hc] at n7
      have := (kC hc).1
      omega
  · cases hc : A.cyc with
    | false =>
      rw [hS hc]
      rw [if_neg (by rw [hc]; decide)] at n7
      omega
    | true =>
      rw [if_pos hc] at n7
      have := (kC hc).1
      omega
  · cases hc : A.cyc with
    | false =>
      rw [if_neg (by rw [hc]; decide)] at n7
      omega
    | true =>
      rcases (kC hc).2 with e | e
      · omega
      · exact e.1
  · have := (kC c).1; omega
  · have hpl : p < (A.ws.length : Int) := by have := g_range (m := m) (q := p) (by omega) hp; omega
    have hok := (h.MP.ok p hp hpl hm).2.1
    have hr := rsR' hok
    have hsl := obj_slot (h.ob p hp hpl hm) (by rw [hr.2.2.1, hr.2.2.2.1]; exact hq)
    obtain ⟨c1, c2, c3, c4, c5⟩ := slotOk_iff.1 hsl
    rw [hr.2.2.2.1] at c3 c4 c5
    refine ⟨⟨c3, c4, c5, fun c => ?_⟩, fun hrf => ?_⟩
    · obtain ⟨t1, t2, t3⟩ := h.tab hp hpl hm (by rw [hr.2.2.2.1]; exact c.1)
      have hz : SizeP (hk (g A.ws p)) (hs (g A.ws p)) := (of_decide_eq_true (show decide (HeadP _ _ _) = true from hok)).1
      have h3 : hs (g A.ws p) = 3 := by unfold SizeP at hz; omega
      rw [c.1, h3] at hq
      have hq2 : q = 2 := by
        have : slots 2 3 = [2] := by decide
        rw [this] at hq; simpa using hq
      subst hq2
      rcases t3 with e | e
      · exact c.2.1 e.1
      · exact c.2.2 e.1
    · have hk := of_decide_eq_true (show decide (kd _ ≠ 0) = true from hrf)
      have hl := leads_of c2 hk
      rw [h.MP.len] at hl
      have hw := h.MP.wh _ ((rvP A.ws (p + q)).2 hk) hl.1 hl.2.1
      have h7 := h.MP.ok _ hw.1 hw.2.1 hw.2.2
      rw [← (rsR' h7.2.1).2.2.2.1]; exact hl.2.2
  · obtain ⟨a, b, c⟩ := h.rt i h0 h1
    refine ⟨fun hrf => ?_, a, b⟩
    have hk := of_decide_eq_true (show decide (kd _ ≠ 0) = true from hrf)
    obtain ⟨a, b, c, d, e, f, -⟩ := h.root h0 h1 hk
    rw [d, ← (rsR' f).2.2.2.1]; exact e
  · have hpl : p < (A.ws.length : Int) := by have := g_range (m := m) (q := p) (by omega) hp; omega
    have hok := (h.MP.ok p hp hpl hm).2.1
    have hr := rsR' hok
    have ho := h.ob p hp hpl hm
    unfold Ar.object Ar.kn Ar.sz Ar.w at ho
    rw [Bool.and_eq_true, if_pos (by rw [hr.2.2.2.1]; exact hk1)] at ho
    have hst := of_decide_eq_true (show decide _ = true from ho.2)
    simp only [Ar.w] at hst
    rw [hr.2.2.1] at hst
    exact ⟨hst.1.1, hst.1.2, hst.2.1⟩
end Go.Proofs.YtepddopgmhdllaaGreat.Eng
namespace Go.Proofs.YtepddopgmhdllaaGreat.Ar
def Ar.putV (A : Ar) (a t n : Int) : Ar := { A with ws := (A.ws.set a.toNat (w64 t)).set (a + 1).toNat (w64 n) }
/-- a value is loaded: it is forwarded while a cycle runs -/
def Ar.ld (A : Ar) (a : Int) : Ar := if A.cyc = true then A.fwS a else A
def Ar.ldN (A : Ar) (a : Int) : Int := if A.cyc = true then (A.fwd (rvT A.ws a) (rvN A.ws a)).2 else rvN A.ws a
def Ar.col (A : Ar) : Ar := A.fin.1.flip.fin.1
end Go.Proofs.YtepddopgmhdllaaGreat.Ar
namespace Go.Proofs.YtepddopgmhdllaaGreat.Eng
open Go Go.RowKit Go.Proofs.YtepddopgmhdllaaGreat.Sl Go.Proofs.YtepddopgmhdllaaGreat.Ar Go.Proofs.YtepddopgmhdllaaGreat.Base
set_option linter.unusedVariables false
set_option linter.unusedSimpArgs false
variable {A : Ar} {m : List Int} {k : Int} {D : Int → Prop}
structure FP (A : Ar) (t n : Int) : Prop where
  wf : Wf A.ws
  len : A.ws.length ≤ 8000
  se : 256 ≤ A.semi ∧ A.semi ≤ 4000
  to : A.to = 0 ∨ A.to = 1
  tp : 0 ≤ A.top ∧ A.top ≤ 8000
  cp : 0 ≤ A.copied ∧ A.copied ≤ 8000
  rf : isRef t = true → (0 ≤ n ∧ n < A.ws.length) ∧ inB n (A.start (1 - A.to)) ((1 - A.to + 1) * A.semi - 1) = !(A.inTo n) ∧
    (A.inTo n = false → isFw (g A.ws n) = false → hOk (g A.ws n) = true ∧ n + hs (g A.ws n) + 1 ≤ A.ws.length ∧ A.top + hs (g A.ws n) + 1 ≤ A.ws.length ∧ (n + hs (g A.ws n) + 1 ≤ A.top ∨ A.top + hs (g A.ws n) + 1 ≤ n) ∧ A.copied + hs (g A.ws n) + 1 ≤ 8000)
theorem GI.fp (h : GI A m k D) {t n : Int} (hr : isRef t = true → 0 ≤ n ∧ g m n ≠ 0) : FP A t n := by
  have hv := h.hv
  have hse := h.se
  have hln := h.ln
  have htp := h.tp
  have hrm := h.rm
  have hcp := h.cp
  have hS := S2_0 A.ws m A.ws.length
  refine ⟨h.wf, by omega, hse, h.to, by omega, by omega, fun ht => ?_⟩
  obtain ⟨hn, h0⟩ := hr ht
  have hlt := h.lt hn h0
  have e1 : A.start (1 - A.to) = (1 - A.to) * A.semi + 1 := rfl
  have e2 : (1 - A.to + 1) * A.semi = (2 - A.to) * A.semi := by rw [show 1 - A.to + 1 = 2 - A.to by omega]
  refine ⟨⟨hn, hlt.2⟩, ?_, fun hi hf => ?_⟩
  · rcases h.of n hn with e | e | e | e
    · exact absurd e h0
    · have o := h.one n hn e
      have := hs0 (g A.ws n)
      rw [h.inTo1 hn e, e1, e2]
      exact decide_eq_false (by omega)
    · have o := h.two n hn e
      have := hs0 (g A.ws n)
      rw [h.inTo0 hn (.inl e), e1, e2]
      exact decide_eq_true (by omega)
    · have o := h.thr n hn e
      rw [h.inTo0 hn (.inr e), e1, e2]
      exact decide_eq_true (by omega)
  · rcases h.of n hn with e | e | e | e
    · exact absurd e h0
    · rw [h.inTo1 hn e] at hi; cases hi
    · have o := h.two n hn e
      have := S2_mem (ws := A.ws) hn e A.ws.length (by omega)
      exact ⟨o.2.1, by omega, by omega, by omega, by omega⟩
    · have o := h.thr n hn e
      rw [o.2.2.1] at hf; cases hf
theorem copyW_0 {ws : List Int} {q n : Int} : copyW ws q n 0 = ws := by
  apply g_ext length_copyW
  intro j h0 h1
  rw [length_copyW] at h1
  rw [g_copyW h0, if_pos h1, if_neg (by omega)]
theorem copyW_succ {ws : List Int} {q n i z : Int} (hq : 0 ≤ q) (hn : 0 ≤ n) (hi : 0 ≤ i) (hz : i < z) (h1 : q + z ≤ ws.length) (h2 : n + z ≤ ws.length) (hd : n + z ≤ q ∨ q + z ≤ n) :
    (copyW ws q n i).set (q + i).toNat (g (copyW ws q n i) (n + i)) = copyW ws q n (i + 1) := by
  apply g_ext (by rw [List.length_set, length_copyW, length_copyW])
  intro j h0 h3
  rw [List.length_set, length_copyW] at h3
  have a1 : g (copyW ws q n i) j = if q ≤ j ∧ j < q + i then g ws (n + (j - q)) else g ws j := by rw [g_copyW h0, if_pos h3]
  have a2 : g (copyW ws q n (i + 1)) j = if q ≤ j ∧ j < q + (i + 1) then g ws (n + (j - q)) else g ws j := by rw [g_copyW h0, if_pos h3]
  have a3 : g (copyW ws q n i) (n + i) = g ws (n + i) := by rw [g_copyW (by omega), if_pos (by omega), if_neg (by omega)]
  rw [g_set (by omega) (by rw [length_copyW]; omega) h0, a1, a2, a3]
  by_cases c : j = q + i
  · rw [if_pos c, if_pos (by omega)]; congr 1; omega
  · rw [if_neg c]
    by_cases c2 : q ≤ j ∧ j < q + i
    · rw [if_pos c2, if_pos (by omega)]
    · rw [if_neg c2, if_neg (by omega)]
theorem set_same {ws : List Int} {i : Int} (h0 : 0 ≤ i) (h1 : i < ws.length) : ws.set i.toNat (g ws i) = ws := by
  apply g_ext List.length_set
  intro j h2 h3
  rw [List.length_set] at h3
  rw [g_set h0 h1 h2]
  split
  · rename_i e; rw [e]
  · rfl
theorem w64_id {x : Int} (h : 0 ≤ x ∧ x < 18446744073709551616) : w64 x = x := by unfold w64; omega
theorem rv_w64 {ws : List Int} {p : Int} (hw : Wf ws) (h : rv ws p = true) : w64 (rvT ws p) = g ws p ∧ w64 (rvN ws p) = g ws (p + 1) := by
  unfold rvT rvN; rw [if_pos h, if_pos h]
  exact ⟨w64_id (hw p), w64_sg (hw (p + 1))⟩
/-- what was there is put back -/
theorem putV_same (hw : Wf A.ws) {p : Int} (h : rv A.ws p = true) (h0 : 0 ≤ p) (h1 : p + 1 < (A.ws.length : Int)) : A.putV p (rvT A.ws p) (rvN A.ws p) = A := by
  unfold Ar.putV
  rw [(rv_w64 hw h).1, (rv_w64 hw h).2, set_same h0 (by omega), set_same (by omega) (by omega)]
/-- the first of two words is as it was -/
theorem putV_tag (hw : Wf A.ws) {p t n : Int} (h : g A.ws p = w64 t) (h0 : 0 ≤ p) (h1 : p + 1 < (A.ws.length : Int)) : A.putV p t n = { A with ws := A.ws.set (p + 1).toNat (w64 n) } := by
  unfold Ar.putV
  rw [← h, set_same h0 (by omega)]
end Go.Proofs.YtepddopgmhdllaaGreat.Eng
