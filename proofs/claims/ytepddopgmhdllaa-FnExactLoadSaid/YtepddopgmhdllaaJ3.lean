/- Plain: what is known of a right arena. -/
import Derived.Test.YtepddopgmhdllaaJ2
namespace Go.Proofs.Ytepddopgmhdllaa.Eng
open Go Go.RowKit Go.Proofs.Ytepddopgmhdllaa.Sl Go.Proofs.Ytepddopgmhdllaa.Ar Go.Proofs.Ytepddopgmhdllaa.Base
set_option linter.unusedVariables false
set_option linter.unusedSimpArgs false
variable {A : Ar}
abbrev rT (A : Ar) (i : Int) : Int := (A.vs.getD i.toNat (0, 0)).1
abbrev rN (A : Ar) (i : Int) : Int := (A.vs.getD i.toNat (0, 0)).2
/-- what is known of a right arena -/
structure OkP (A : Ar) (m : List Int) : Prop where
  num : A.numbersP
  mks : A.marks = some m
  MP : MarkP A m
  ob : ObjP A m
  mi : MI A m
  mi2 : (∃ q : Int, 0 ≤ q ∧ (g m q = 2 ∨ g m q = 3)) → A.cyc = true
  pl : ∀ n : Int, 0 ≤ n → n < A.ws.length → g m n ≠ 0 → PlaceP A n
  con : Ar.content A m = true
  rt : ∀ i : Int, 0 ≤ i → i < (A.vs.length : Int) → ValP (rT A i) (rN A i) ∧ rT A i ≠ 8 ∧ A.leads m (rT A i) (rN A i) 1 = true
theorem okP_of (h : A.ok = true) : ∃ m, OkP A m := by
  obtain ⟨hn, m, hm, hs, hc⟩ := ok_parts h
  have hI := MI_of hn hm
  have hM := markP_of hn hm
  unfold Ar.content at hc
  simp only [Bool.and_eq_true] at hc
  refine ⟨m, hn, hm, hM, (objs_iff hM.len).1 hc.1.1, hI.1, hI.2, fun n h0 h1 h2 => placeP_of hn hI.1 (fun d => oldP hn (hI.2 d)) h0 h2, by unfold Ar.content; rw [hc.1.1, hc.1.2, hc.2]; rfl, fun i h0 h1 => ?_⟩
  have := rootsAll.1 hc.2 i h0 h1
  unfold Ar.rootOk at this
  simp only [Bool.and_eq_true, Bool.not_eq_true', decide_eq_false_iff_not] at this
  exact ⟨of_decide_eq_true (show decide _ = true from this.1.1), this.1.2, this.2⟩
variable {m : List Int}
theorem OkP.lens (h : OkP A m) : (512 ≤ A.ws.length ∧ A.ws.length ≤ 8000) ∧ (A.to = 0 ∨ A.to = 1) ∧ (256 ≤ A.semi ∧ A.semi ≤ 4000) ∧ A.vs.length ≤ 24 := by
  have := numF h.num
  exact ⟨this.2.2.2.2.2.1, this.2.2.2.2.2.2.1, this.2.2.2.2.2.2.2, h.num.2.2.2.2.1⟩
/-- a Root that is a reference leads to an object of the half in use -/
theorem OkP.root (h : OkP A m) {i : Int} (h0 : 0 ≤ i) (h1 : i < (A.vs.length : Int)) (hk : kd (rT A i) ≠ 0) :
    0 ≤ rN A i ∧ rN A i < (A.ws.length : Int) ∧ g m (rN A i) = 1 ∧ A.where_ (rN A i) = rN A i ∧ rk (g A.ws (rN A i)) = kd (rT A i) ∧ hOk (g A.ws (rN A i)) = true ∧ rN A i + hs (g A.ws (rN A i)) < (A.ws.length : Int) ∧ PlaceP A (rN A i) ∧ A.object m (rN A i) = true := by
  obtain ⟨hv, h8, hl⟩ := h.rt i h0 h1
  have hn0 := valP_n hv hk
  unfold Ar.leads isRef at hl
  rw [if_pos (by simpa using hk)] at hl
  split at hl
  · rename_i hlt
    have hl := of_decide_eq_true hl
    rw [h.MP.len] at hlt
    have h1' : g m (rN A i) = 1 := by omega
    have hok := h.MP.ok _ hn0 hlt (.inl h1')
    have hw : A.where_ (rN A i) = rN A i := by unfold Ar.where_; rw [if_neg (by rw [hOk_fw hok.2.1]; decide)]
    refine ⟨hn0, hlt, h1', hw, ?_, hok.2.1, hok.2.2, h.pl _ hn0 hlt (by omega), h.ob _ hn0 hlt (.inl h1')⟩
    have := hl.2
    rw [hw] at this; exact this
  · cases hl
theorem kd3 : kd 3 = 1 := rfl
theorem OkP.rootKey (h : OkP A m) {i : Int} (h0 : 0 ≤ i) (h1 : i < (A.vs.length : Int)) : KeyP A (rT A i) (rN A i) := by
  refine ⟨fun hk => ?_, fun h3 => ?_⟩
  · obtain ⟨a, b, c, d, -⟩ := h.root h0 h1 hk
    exact ⟨a, b, by rw [d]; exact a, by rw [d]; exact b⟩
  · have hk : kd (rT A i) ≠ 0 := by rw [h3]; decide
    obtain ⟨a, b, c, d, e, f, k, l, ho⟩ := h.root h0 h1 hk
    have hr := rsR' f
    have e1 : rk (g A.ws (rN A i)) = 1 := by rw [e, h3]; rfl
    unfold Ar.object Ar.kn Ar.sz Ar.w at ho
    rw [Bool.and_eq_true, if_pos e1] at ho
    have hst := of_decide_eq_true (show decide _ = true from ho.2)
    simp only [Ar.w] at hst
    rw [d]
    exact ⟨a, by omega, by omega, by omega, by omega⟩
theorem OkP.rootPl (h : OkP A m) {i : Int} (h0 : 0 ≤ i) (h1 : i < (A.vs.length : Int)) (hk : kd (rT A i) ≠ 0) : PlaceP A (rN A i) := (h.root h0 h1 hk).2.2.2.2.2.2.2.1
end Go.Proofs.Ytepddopgmhdllaa.Eng
