/- Plain: what ShapeOf hands back. -/
import Derived.Test.YtfhihnonafklbaaBkJ3
import Derived.Test.YtfhihnonafklbaaAM
namespace Go.Proofs.Ytfhihnonafklbaa.Ar
open Go.Proofs.Ytfhihnonafklbaa.Eng
/-- a place is come to -/
def shPut (P : List Int) (p : Int) : List Int := if p ∈ P then P else P ++ [p]
/-- a value told by the number of what it leads to; the places come to then -/
def Ar.shV (A : Ar) (P : List Int) (v : Int × Int) : List Int × (Int × Int) := if isRef v.1 = true then (shPut P (A.where_ v.2), (v.1, ix P (A.where_ v.2))) else (P, v)
/-- a node -/
structure ND where
  k : Int
  s : Int
  n : Int
  m : Int
  tx : List Int
  sl : List (Int × Int)
def Ar.shS (A : Ar) (p : Int) : List Int → List Int × List (Int × Int) → List Int × List (Int × Int)
  | [], S => S
  | q :: L, S => A.shS p L ((A.shV S.1 (rvT A.ws (p + q), rvN A.ws (p + q))).1, S.2 ++ [(A.shV S.1 (rvT A.ws (p + q), rvN A.ws (p + q))).2])
def Ar.shRs (A : Ar) : List (Int × Int) → List Int × List (Int × Int) → List Int × List (Int × Int)
  | [], S => S
  | v :: L, S => A.shRs L ((A.shV S.1 v).1, S.2 ++ [(A.shV S.1 v).2])
def Ar.shL (A : Ar) (p : Int) : List Int := if rk (g A.ws p) = 6 then (slots (rk (g A.ws p)) (rs (g A.ws p))).take (sg (g A.ws (p + 2)) + 1).toNat else slots (rk (g A.ws p)) (rs (g A.ws p))
def Ar.shN (A : Ar) (P : List Int) (p : Int) : List Int × ND :=
  ((A.shS p (A.shL p) (P, [])).1, ⟨rk (g A.ws p), rn (g A.ws p), if rk (g A.ws p) = 2 ∨ rk (g A.ws p) = 4 ∨ rk (g A.ws p) = 6 then sg (g A.ws (p + 1)) else 0, if rk (g A.ws p) = 6 then sg (g A.ws (p + 2)) else 0, if rk (g A.ws p) = 1 then A.text p else [], (A.shS p (A.shL p) (P, [])).2⟩)
def Ar.shNs (A : Ar) : Nat → Int → List Int → List ND → List Int × List ND
  | 0, _, P, o => (P, o)
  | f + 1, i, P, o => if i < (P.length : Int) then A.shNs f (i + 1) (A.shN P (g P i)).1 (o ++ [(A.shN P (g P i)).2]) else (P, o)
def Ar.shape (A : Ar) : List (Int × Int) × List ND := ((A.shRs A.vs ([], [])).2, (A.shNs (A.ws.length + 1) 0 (A.shRs A.vs ([], [])).1 []).2)
def Ar.shapeR (A : Ar) : (List (Int × Int) × List ND) × Bool := if A.ok = true then (A.shape, true) else (([], []), false)
end Go.Proofs.Ytfhihnonafklbaa.Ar
namespace Go.Proofs.Ytfhihnonafklbaa.Eng
open Go Go.RowKit Go.Proofs.Ytfhihnonafklbaa.Sl Go.Proofs.Ytfhihnonafklbaa.Ar Go.Proofs.Ytfhihnonafklbaa.Base
set_option linter.unusedVariables false
set_option linter.unusedSimpArgs false
variable {A : Ar} {m : List Int}
/-- a place of an object -/
def MkO (A : Ar) (m : List Int) (p : Int) : Prop := 0 ≤ p ∧ p < (A.ws.length : Int) ∧ (g m p = 1 ∨ g m p = 2)
theorem OkP.rootV (h : OkP A m) {i : Int} (h0 : 0 ≤ i) (h1 : i < (A.vs.length : Int)) (hk : isRef (A.vs.getD i.toNat (0, 0)).1 = true) : (0 ≤ (A.vs.getD i.toNat (0, 0)).2 ∧ (A.vs.getD i.toNat (0, 0)).2 < (A.ws.length : Int)) ∧ MkO A m (A.where_ (A.vs.getD i.toNat (0, 0)).2) ∧ PlaceP A (A.vs.getD i.toNat (0, 0)).2 := by
  have := h.root h0 h1 (of_decide_eq_true hk)
  dsimp only [rN] at this
  obtain ⟨a, b, c, d, e, f, k, l, o⟩ := this
  exact ⟨⟨a, b⟩, ⟨by rw [d]; exact a, by rw [d]; exact b, by rw [d]; exact .inl c⟩, l⟩
theorem OkP.slotV (h : OkP A m) {p q : Int} (hp : MkO A m p) (hq : q ∈ slots (rk (g A.ws p)) (rs (g A.ws p))) : rv A.ws (p + q) = true ∧ (isRef (rvT A.ws (p + q)) = true → (0 ≤ rvN A.ws (p + q) ∧ rvN A.ws (p + q) < (A.ws.length : Int)) ∧ MkO A m (A.where_ (rvN A.ws (p + q))) ∧ PlaceP A (rvN A.ws (p + q))) := by
  have ho := h.ob p hp.1 hp.2.1 hp.2.2
  have hs := obj_slot ho hq
  obtain ⟨c1, c2, -⟩ := slotOk_iff.1 hs
  refine ⟨c1, fun hk => ?_⟩
  have hk := of_decide_eq_true (show decide (kd _ ≠ 0) = true from hk)
  have hl := leads_of c2 hk
  rw [h.MP.len] at hl
  have h0 := (rvP A.ws (p + q)).2 hk
  have hw := h.MP.wh _ h0 hl.1 hl.2.1
  exact ⟨⟨h0, hl.1⟩, ⟨hw.1, hw.2.1, hw.2.2⟩, h.pl _ h0 hl.1 hl.2.1⟩
/-- places of objects, each once -/
structure Pls (A : Ar) (m P : List Int) : Prop where
  nd : P.Nodup
  mo : ∀ p ∈ P, MkO A m p
theorem Pls.nil : Pls A m [] := ⟨List.nodup_nil, fun p h => by cases h⟩
theorem pigS : ∀ (n k : Nat) (f : Nat → Nat), (∀ j, j < k → f j < n) → (∀ i j, i < k → j < k → f i = f j → i = j) → k ≤ n := by
  intro n
  induction n with
  | zero =>
    intro k f h _
    cases k with
    | zero => omega
    | succ k => have := h 0 (by omega); omega
  | succ n ih =>
    intro k f h hi
    cases k with
    | zero => omega
    | succ k =>
      have := ih k (fun j => if f j = n then f k else f j) (fun j hj => by
        have h1 := h j (by omega)
        have h2 := h k (by omega)
        split
        · rename_i e
          have : f k ≠ n := fun e2 => by have := hi j k (by omega) (by omega) (by omega); omega
          omega
        · omega) (fun i j hi1 hj1 e => by
        split at e
        · split at e
          · exact hi i j (by omega) (by omega) (by omega)
          · have := hi k j (by omega) (by omega) e; omega
        · split at e
          · have := hi i k (by omega) (by omega) e; omega
          · exact hi i j (by omega) (by omega) e)
      omega
theorem Pls.le {P : List Int} (h : Pls A m P) : P.length ≤ A.ws.length := by
  refine pigS A.ws.length P.length (fun j => (P.getD j 0).toNat) (fun j hj => ?_) (fun i j hi hj e => ?_)
  · have := h.mo (P.getD j 0) (by rw [List.getD_eq_getElem?_getD, List.getElem?_eq_getElem hj]; exact List.getElem_mem hj)
    have a := this.1
    have b := this.2.1
    omega
  · rw [List.getD_eq_getElem?_getD, List.getD_eq_getElem?_getD, List.getElem?_eq_getElem hi, List.getElem?_eq_getElem hj] at e
    simp only [Option.getD_some] at e
    have a := (h.mo _ (List.getElem_mem hi)).1
    have b := (h.mo _ (List.getElem_mem hj)).1
    have e2 : P[i] = P[j] := by omega
    have c := h.nd.idxOf_getElem i hi
    have d := h.nd.idxOf_getElem j hj
    rw [e2] at c
    omega
theorem Pls.put {P : List Int} (h : Pls A m P) {p : Int} (hp : MkO A m p) : Pls A m (shPut P p) := by
  unfold shPut
  split
  · exact h
  · rename_i c
    refine ⟨?_, fun q hq => ?_⟩
    · rw [List.nodup_append]
      refine ⟨h.nd, by simp, fun a ha b hb => ?_⟩
      rw [List.mem_singleton] at hb
      rintro rfl
      exact c (hb ▸ ha)
    · rcases List.mem_append.1 hq with a | a
      · exact h.mo q a
      · rw [List.mem_singleton] at a; subst a; exact hp
/-- a value that may be told -/
def VOk (A : Ar) (m : List Int) (v : Int × Int) : Prop := isRef v.1 = true → (0 ≤ v.2 ∧ v.2 < (A.ws.length : Int)) ∧ MkO A m (A.where_ v.2) ∧ PlaceP A v.2
theorem Pls.v {P : List Int} (h : Pls A m P) {v : Int × Int} (hv : VOk A m v) : Pls A m (A.shV P v).1 := by
  unfold Ar.shV
  split
  · rename_i c; exact h.put (hv c).2.1
  · exact h
theorem OkP.vRoot (h : OkP A m) {i : Int} (h0 : 0 ≤ i) (h1 : i < (A.vs.length : Int)) : VOk A m (A.vs.getD i.toNat (0, 0)) := fun c => h.rootV h0 h1 c
theorem shPut_pre (P : List Int) (p : Int) : P <+: shPut P p := by
  unfold shPut; split
  · exact List.prefix_refl _
  · exact List.prefix_append _ _
theorem shV_pre (P : List Int) (v : Int × Int) : P <+: (A.shV P v).1 := by
  unfold Ar.shV; split
  · exact shPut_pre _ _
  · exact List.prefix_refl _
theorem g_preS {xs ys : List Int} (h : xs <+: ys) {i : Int} (h0 : 0 ≤ i) (hi : i < (xs.length : Int)) : g ys i = g xs i := by
  obtain ⟨t, rfl⟩ := h
  unfold g
  rw [List.getD_eq_getElem?_getD, List.getD_eq_getElem?_getD, List.getElem?_append_left (by omega)]
theorem dropStep {α : Type} [Inhabited α] {l : List α} {i : Int} (h0 : 0 ≤ i) (h1 : i < (l.length : Int)) (d : α) : l.drop i.toNat = l.getD i.toNat d :: l.drop (i + 1).toNat := by
  have hl : i.toNat < l.length := by omega
  rw [List.drop_eq_getElem_cons hl, List.getD_eq_getElem?_getD, List.getElem?_eq_getElem hl, show (i + 1).toNat = i.toNat + 1 by omega]; rfl
/-- how many slots a node of an object tells -/
theorem shL_sub {p q : Int} (h : q ∈ A.shL p) : q ∈ slots (rk (g A.ws p)) (rs (g A.ws p)) := by
  unfold Ar.shL at h
  split at h
  · exact List.mem_of_mem_take h
  · exact h
end Go.Proofs.Ytfhihnonafklbaa.Eng
