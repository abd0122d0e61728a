/- Plain: what is reached from Roots. -/
import Derived.Test.YtgjangoglconiaaJ4
import Derived.Test.YtgjangoglconiaaT0
namespace Go.Proofs.Ytgjangoglconiaa.Ar
open Go.Proofs.Ytgjangoglconiaa.Eng
abbrev St := List Bool × List Int
def come (s : St) (p : Int) : St := if s.1.getD p.toNat false = true then s else (s.1.set p.toNat true, s.2 ++ [p])
def Ar.comeV (A : Ar) (s : St) (t n : Int) : St := if isRef t = true then come s (A.where_ n) else s
def Ar.rcv (A : Ar) : Nat → Int → St → St
  | 0, _, s => s
  | f + 1, i, s => if i < (A.vs.length : Int) then A.rcv f (i + 1) (A.comeV s (A.vs.getD i.toNat (0, 0)).1 (A.vs.getD i.toNat (0, 0)).2) else s
def Ar.scv (A : Ar) (p : Int) (sl : List Int) : Nat → Int → St → St
  | 0, _, s => s
  | f + 1, i, s => if i < (sl.length : Int) then A.scv p sl f (i + 1) (A.comeV s (rvT A.ws (p + g sl i)) (rvN A.ws (p + g sl i))) else s
def Ar.objC (A : Ar) (p : Int) (s : St) : St := A.scv p (slots (rk (g A.ws p)) (rs (g A.ws p))) ((slots (rk (g A.ws p)) (rs (g A.ws p))).length + 1) 0 s
def Ar.bfs (A : Ar) : Nat → Int → St → St
  | 0, _, s => s
  | f + 1, i, s => if i < (s.2.length : Int) then A.bfs f (i + 1) (A.objC (g s.2 i) s) else s
def Ar.st0 (A : Ar) : St := (A.falses, [])
def Ar.st1 (A : Ar) : St := A.rcv (A.vs.length + 1) 0 A.st0
def Ar.st2 (A : Ar) : St := A.bfs (A.ws.length + 1) 0 A.st1
def Ar.sumL (A : Ar) (l : List Int) : Int := l.foldl (fun n p => n + rs (g A.ws p) + 1) 0
def Ar.reachR (A : Ar) : Int := if A.ok = true then A.sumL A.st2.2 else 0
end Go.Proofs.Ytgjangoglconiaa.Ar
namespace Go.Proofs.Ytgjangoglconiaa.Eng
open Go Go.RowKit Go.Proofs.Ytgjangoglconiaa.Sl Go.Proofs.Ytgjangoglconiaa.Ar Go.Proofs.Ytgjangoglconiaa.Base
set_option linter.unusedVariables false
set_option linter.unusedSimpArgs false
variable {A : Ar} {m : List Int}
/-- a place that may be come to -/
def Mk (A : Ar) (m : List Int) (p : Int) : Prop := 0 ≤ p ∧ p < (A.ws.length : Int) ∧ (g m p = 1 ∨ g m p = 2)
structure StP (A : Ar) (m : List Int) (s : St) : Prop where
  len : s.1.length = A.ws.length
  cnt : s.2.length = s.1.count true
  mks : ∀ p ∈ s.2, Mk A m p
theorem StP.le {s : St} (h : StP A m s) : s.2.length ≤ A.ws.length := by
  rw [h.cnt, ← h.len]; exact List.count_le_length
theorem count_set : ∀ (l : List Bool) (i : Nat), i < l.length → l.getD i false = false → (l.set i true).count true = l.count true + 1 := by
  intro l
  induction l with
  | nil => intro i h; simp at h
  | cons b l ih =>
    intro i h h2
    cases i with
    | zero => simp at h2; subst h2; simp
    | succ i =>
      simp only [List.set_cons_succ, List.count_cons]
      rw [ih i (by simpa using h) (by simpa using h2)]
      omega
theorem StP.come {s : St} (h : StP A m s) {p : Int} (hp : Mk A m p) : StP A m (come s p) := by
  unfold Ar.come
  split
  · exact h
  · rename_i hc
    refine ⟨by simp [h.len], ?_, fun q hq => ?_⟩
    · have := count_set s.1 p.toNat (by rw [h.len]; have := hp.1; have := hp.2.1; omega) (by simpa using hc)
      simp only [List.length_append, List.length_cons, List.length_nil]
      rw [this, h.cnt]
    · rcases List.mem_append.1 hq with hq | hq
      · exact h.mks q hq
      · rw [List.mem_singleton.1 hq]; exact hp
theorem StP.comeV {s : St} (h : StP A m s) {t n : Int} (hp : isRef t = true → Mk A m (A.where_ n)) : StP A m (A.comeV s t n) := by
  unfold Ar.comeV; split
  · rename_i c; exact h.come (hp c)
  · exact h
theorem come_pre (s : St) (p : Int) : s.2 <+: (come s p).2 := by
  unfold come; split
  · exact List.prefix_rfl
  · exact List.prefix_append _ _
theorem comeV_pre (s : St) (t n : Int) : s.2 <+: (A.comeV s t n).2 := by
  unfold Ar.comeV; split
  · exact come_pre _ _
  · exact List.prefix_rfl
theorem scv_pre (p : Int) (sl : List Int) : ∀ (f : Nat) (i : Int) (s : St), s.2 <+: (A.scv p sl f i s).2 := by
  intro f
  induction f with
  | zero => intro i s; exact List.prefix_rfl
  | succ f ih =>
    intro i s
    rw [Ar.scv]; split
    · exact (comeV_pre _ _ _).trans (ih _ _)
    · exact List.prefix_rfl
theorem g_pre {xs ys : List Int} (h : xs <+: ys) {i : Int} (h0 : 0 ≤ i) (hi : i < (xs.length : Int)) : g ys i = g xs i := by
  obtain ⟨zs, rfl⟩ := h
  unfold g
  rw [List.getD_eq_getElem?_getD, List.getD_eq_getElem?_getD, List.getElem?_append_left (by omega)]
theorem take_pre {xs ys : List Int} (h : xs <+: ys) {n : Nat} (hi : n ≤ xs.length) : ys.take n = xs.take n := by
  obtain ⟨zs, rfl⟩ := h
  rw [List.take_append_of_le_length hi]
theorem sumL_snoc (l : List Int) (p : Int) : A.sumL (l ++ [p]) = A.sumL l + rs (g A.ws p) + 1 := by
  unfold Ar.sumL; rw [List.foldl_append]; rfl
theorem sumL_take {l : List Int} {i : Int} (h0 : 0 ≤ i) (hi : i < (l.length : Int)) : A.sumL (l.take (i + 1).toNat) = A.sumL (l.take i.toNat) + rs (g A.ws (g l i)) + 1 := by
  have hl : i.toNat < l.length := by omega
  rw [show (i + 1).toNat = i.toNat + 1 by omega, List.take_succ_eq_append_getElem hl, sumL_snoc]
  congr 4
  unfold g; rw [List.getD_eq_getElem?_getD, List.getElem?_eq_getElem hl]; rfl
theorem sumL_r (l : List Int) : 0 ≤ A.sumL l ∧ A.sumL l ≤ 65536 * (l.length : Int) := by
  have key : ∀ (l : List Int) (a : Int), a ≤ l.foldl (fun n p => n + rs (g A.ws p) + 1) a ∧ l.foldl (fun n p => n + rs (g A.ws p) + 1) a ≤ a + 65536 * (l.length : Int) := by
    intro l
    induction l with
    | nil => intro a; simp
    | cons p l ih =>
      intro a
      have := ih (a + rs (g A.ws p) + 1)
      have := rsR (g A.ws p)
      simp only [List.foldl_cons, List.length_cons]
      omega
  have := key l 0
  unfold Ar.sumL; omega
theorem rcv_step {f : Nat} {i : Int} {s : St} (h : i < (A.vs.length : Int)) (hf : (A.vs.length : Int) - i < (f : Int)) : ∃ f', f = f' + 1 ∧ A.rcv f i s = A.rcv f' (i + 1) (A.comeV s (A.vs.getD i.toNat (0, 0)).1 (A.vs.getD i.toNat (0, 0)).2) := by
  cases f with
  | zero => omega
  | succ f => exact ⟨f, rfl, by rw [Ar.rcv, if_pos h]⟩
theorem rcv_end {f : Nat} {i : Int} {s : St} (h : ¬ i < (A.vs.length : Int)) : A.rcv f i s = s := by
  cases f with
  | zero => rfl
  | succ f => rw [Ar.rcv, if_neg h]
theorem scv_step {p : Int} {sl : List Int} {f : Nat} {i : Int} {s : St} (h : i < (sl.length : Int)) (hf : (sl.length : Int) - i < (f : Int)) : ∃ f', f = f' + 1 ∧ A.scv p sl f i s = A.scv p sl f' (i + 1) (A.comeV s (rvT A.ws (p + g sl i)) (rvN A.ws (p + g sl i))) := by
  cases f with
  | zero => omega
  | succ f => exact ⟨f, rfl, by rw [Ar.scv, if_pos h]⟩
theorem scv_end {p : Int} {sl : List Int} {f : Nat} {i : Int} {s : St} (h : ¬ i < (sl.length : Int)) : A.scv p sl f i s = s := by
  cases f with
  | zero => rfl
  | succ f => rw [Ar.scv, if_neg h]
theorem bfs_step {f : Nat} {i : Int} {s : St} (h : i < (s.2.length : Int)) (hf : (A.ws.length : Int) - i < (f : Int)) (hl : s.2.length ≤ A.ws.length) : ∃ f', f = f' + 1 ∧ A.bfs f i s = A.bfs f' (i + 1) (A.objC (g s.2 i) s) := by
  cases f with
  | zero => omega
  | succ f => exact ⟨f, rfl, by rw [Ar.bfs, if_pos h]⟩
theorem bfs_end {f : Nat} {i : Int} {s : St} (h : ¬ i < (s.2.length : Int)) : A.bfs f i s = s := by
  cases f with
  | zero => rfl
  | succ f => rw [Ar.bfs, if_neg h]
/-- where a Root leads -/
theorem OkP.mkRoot (h : OkP A m) {i : Int} (h0 : 0 ≤ i) (h1 : i < (A.vs.length : Int)) (hk : isRef (A.vs.getD i.toNat (0, 0)).1 = true) : Mk A m (A.where_ (A.vs.getD i.toNat (0, 0)).2) ∧ A.where_ (A.vs.getD i.toNat (0, 0)).2 = (A.vs.getD i.toNat (0, 0)).2 ∧ PlaceP A (A.vs.getD i.toNat (0, 0)).2 := by
  have := h.root h0 h1 (of_decide_eq_true hk)
  dsimp only [rN] at this
  obtain ⟨a, b, c, d, e, f, k, l, o⟩ := this
  exact ⟨⟨by rw [d]; exact a, by rw [d]; exact b, by rw [d]; exact .inl c⟩, d, l⟩
/-- where a slot leads -/
theorem OkP.mkSlot (h : OkP A m) {p q : Int} (hp : Mk A m p) (hq : q ∈ slots (rk (g A.ws p)) (rs (g A.ws p))) : rv A.ws (p + q) = true ∧ (isRef (rvT A.ws (p + q)) = true → (0 ≤ rvN A.ws (p + q) ∧ rvN A.ws (p + q) < (A.ws.length : Int)) ∧ Mk A m (A.where_ (rvN A.ws (p + q))) ∧ PlaceP A (rvN A.ws (p + q))) := by
  have ho := h.ob p hp.1 hp.2.1 hp.2.2
  have hs := obj_slot ho hq
  obtain ⟨c1, c2, -⟩ := slotOk_iff.1 hs
  refine ⟨c1, fun hk => ?_⟩
  have hk := of_decide_eq_true (show decide (kd _ ≠ 0) = true from hk)
  have hl := leads_of c2 hk
  rw [h.MP.len] at hl
  have h0 := (rvP A.ws (p + q)).2 hk
  have hw := h.MP.wh _ h0 hl.1 hl.2.1
  exact ⟨⟨h0, hl.1⟩, ⟨hw.1, hw.2.1, hw.2.2⟩, h.pl _ h0 hl.1 hl.2.1⟩
end Go.Proofs.Ytgjangoglconiaa.Eng
