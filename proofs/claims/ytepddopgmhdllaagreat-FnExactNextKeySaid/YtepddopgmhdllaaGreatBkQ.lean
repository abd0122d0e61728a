/- Plain: a place for an object is asked for. -/
import Derived.Test.YtepddopgmhdllaaGreatBkG
namespace Go.Proofs.YtepddopgmhdllaaGreat.Ar
open Go.Proofs.YtepddopgmhdllaaGreat.Base
def zeroW (ws : List Int) (p k : Int) : List Int := (List.range ws.length).map fun (j : Nat) => if p ≤ (j : Int) ∧ (j : Int) < p + k then 0 else g ws (j : Int)
/-- the word of a head -/
def hWord (k s n : Int) : Int := k + s * 16 + n * 1048576
/-- how many words are free -/
def Ar.fr (A : Ar) : Int := (A.to + 1) * A.semi - A.top - (if A.cyc = true then A.old - (1 - A.to) * A.semi - 1 - A.copied else 0)
def Ar.ask1 (A : Ar) : Ar := if A.cyc = true then (Ar.stp 8001 A.over 0 2).1 else if A.semi - 1 < 2 * (A.top - (A.to * A.semi + 1)) then (Ar.stp 8001 A.flip.over 0 2).1 else A
def Ar.ask2 (A : Ar) (n : Int) : Ar := if A.ask1.fr < n then A.ask1.col else A.ask1
def Ar.born (A : Ar) (k : Int) : Int := if BornP k then A.serial else 0
def Ar.mkO (A : Ar) (k s : Int) : Ar := { A with ws := zeroW (A.ws.set A.top.toNat (hWord k s (A.born k))) (A.top + 1) s, top := A.top + (s + 1), serial := if BornP k then A.serial + 1 else A.serial }
/-- the arena behind it, the place, the code -/
def Ar.ask (A : Ar) (k s : Int) : Ar × Int × Int :=
  if A.semi - 1 < s + 1 then (A, 0, 2) else if (A.ask2 (s + 1)).fr < s + 1 then (A.ask2 (s + 1), 0, 2) else ((A.ask2 (s + 1)).mkO k s, (A.ask2 (s + 1)).top, 0)
/-- a table that is made -/
def Ar.tabR (A : Ar) (s : Int) : Ar × Int :=
  if (A.ask 2 3).2.2 = 0 then ({ (A.ask 2 3).1 with vs := (A.ask 2 3).1.vs.set s.toNat (4, (A.ask 2 3).2.1) }, 0) else ((A.ask 2 3).1, (A.ask 2 3).2.2)
end Go.Proofs.YtepddopgmhdllaaGreat.Ar
namespace Go.Proofs.YtepddopgmhdllaaGreat.Eng
open Go Go.RowKit Go.Proofs.YtepddopgmhdllaaGreat.Sl Go.Proofs.YtepddopgmhdllaaGreat.Ar Go.Proofs.YtepddopgmhdllaaGreat.Base
set_option linter.unusedVariables false
set_option linter.unusedSimpArgs false
variable {A : Ar} {m : List Int}
theorem list_g {l l' : List Int} (h : l.length = l'.length) (hg : ∀ q : Int, 0 ≤ q → g l q = g l' q) : l = l' := by
  apply List.ext_getElem h
  intro i h1 h2
  have := hg (i : Int) (by omega)
  unfold g at this
  rw [List.getD_eq_getElem?_getD, List.getD_eq_getElem?_getD, Int.toNat_natCast, List.getElem?_eq_getElem h1, List.getElem?_eq_getElem h2] at this
  exact this
theorem length_zeroW {ws : List Int} {p k : Int} : (zeroW ws p k).length = ws.length := by simp [zeroW]
theorem g_zeroW {ws : List Int} {p k j : Int} (hj : 0 ≤ j) : g (zeroW ws p k) j = if p ≤ j ∧ j < p + k then 0 else g ws j := by
  by_cases c : j < (ws.length : Int)
  · have hl : j.toNat < ws.length := by omega
    have e : ((j.toNat : Nat) : Int) = j := by omega
    have : g (zeroW ws p k) j = if p ≤ j ∧ j < p + k then 0 else g ws j := by
      show List.getD _ _ _ = _
      unfold zeroW
      rw [List.getD_eq_getElem?_getD, List.getElem?_map, List.getElem?_range hl]
      simp only [Option.map_some, Option.getD_some, e]
    exact this
  · rw [g_out (by rw [length_zeroW]; omega), g_out (by omega)]; split <;> rfl
theorem zeroW_0 {ws : List Int} {p : Int} (hp : 0 ≤ p) : zeroW ws p 0 = ws := by
  apply List.ext_getElem (by rw [length_zeroW])
  intro i h1 h2
  have e1 := g_zeroW (ws := ws) (p := p) (k := 0) (j := (i : Int)) (by omega)
  rw [if_neg (by omega)] at e1
  unfold g at e1
  rw [List.getD_eq_getElem?_getD, List.getD_eq_getElem?_getD, Int.toNat_natCast, List.getElem?_eq_getElem h1, List.getElem?_eq_getElem h2] at e1
  exact e1
theorem zeroW_succ {ws : List Int} {p k : Int} (hp : 0 ≤ p) (hk : 0 ≤ k) (hl : p + k < (ws.length : Int)) : (zeroW ws p k).set (p + k).toNat 0 = zeroW ws p (k + 1) := by
  apply List.ext_getElem (by rw [List.length_set, length_zeroW, length_zeroW])
  intro i h1 h2
  have e1 := g_set (xs := zeroW ws p k) (i := p + k) (j := (i : Int)) (u := 0) (by omega) (by rw [length_zeroW]; omega) (by omega)
  rw [g_zeroW (by omega)] at e1
  have e2 := g_zeroW (ws := ws) (p := p) (k := k + 1) (j := (i : Int)) (by omega)
  have e3 : g ((zeroW ws p k).set (p + k).toNat 0) (i : Int) = g (zeroW ws p (k + 1)) (i : Int) := by
    rw [e1, e2]
    by_cases c : (i : Int) = p + k
    · rw [if_pos c, if_pos (by omega)]
    · rw [if_neg c]
      by_cases d : p ≤ (i : Int) ∧ (i : Int) < p + k
      · rw [if_pos d, if_pos (by omega)]
      · rw [if_neg d, if_neg (by omega)]
  unfold g at e3
  rw [List.getD_eq_getElem?_getD, List.getD_eq_getElem?_getD, Int.toNat_natCast, List.getElem?_eq_getElem h1, List.getElem?_eq_getElem h2] at e3
  exact e3
theorem SI.stp2 (h : SI A m) : ∃ m', SI (Ar.stp 8001 A.over 0 2).1 m' ∧ (Ar.stp 8001 A.over 0 2).1.semi = A.semi ∧ (Ar.stp 8001 A.over 0 2).1.ws.length = A.ws.length ∧ (Ar.stp 8001 A.over 0 2).1.vs.length = A.vs.length := by
  obtain ⟨o1, o2, o3, o4, o5⟩ := over_same (A := A)
  obtain ⟨m', h1, h2, h3, h4, h5, -⟩ := stp_all 8001 A.over m 0 2 h.over (fun c => by obtain ⟨a, b⟩ := over_ne c; rw [a]; exact b)
  exact ⟨m', h1, by rw [h3, o2], by rw [h4, o3], by rw [h5, o4]⟩
theorem SI.semi2 (h : SI A m) : A.semi = (A.ws.length : Int) / 2 := by have := h.ln; omega
theorem SI.ask1 (h : SI A m) : ∃ m', SI A.ask1 m' ∧ A.ask1.ws.length = A.ws.length ∧ A.ask1.vs.length = A.vs.length := by
  unfold Ar.ask1
  split
  · obtain ⟨m', a, b, c, d⟩ := h.stp2; exact ⟨m', a, c, d⟩
  · rename_i hc
    split
    · obtain ⟨m1, a1, b1, c1⟩ := h.flip (by simpa using hc)
      obtain ⟨m', a, b, c, d⟩ := a1.stp2; exact ⟨m', a, by rw [c, b1], by rw [d, c1]⟩
    · exact ⟨m, h, rfl, rfl⟩
theorem SI.col (h : SI A m) : ∃ m', SI A.col m' ∧ A.col.ws.length = A.ws.length ∧ A.col.vs.length = A.vs.length := by
  obtain ⟨m1, h1, c1, v1, l1⟩ := h.fin
  obtain ⟨m2, h2, l2, v2⟩ := h1.flip c1
  obtain ⟨m3, h3, c3, v3, l3⟩ := h2.fin
  exact ⟨m3, h3, by unfold Ar.col; rw [l3, l2, l1], by unfold Ar.col; rw [v3, v2, v1]⟩
theorem SI.ask2 (h : SI A m) (n : Int) : ∃ m', SI (A.ask2 n) m' ∧ (A.ask2 n).ws.length = A.ws.length ∧ (A.ask2 n).vs.length = A.vs.length := by
  obtain ⟨m1, h1, l1, v1⟩ := h.ask1
  unfold Ar.ask2
  split
  · obtain ⟨m2, h2, l2, v2⟩ := h1.col; exact ⟨m2, h2, by rw [l2, l1], by rw [v2, v1]⟩
  · exact ⟨m1, h1, l1, v1⟩
/-- where there are so many words free, so many stand behind Top -/
theorem SI.room (h : SI A m) {n : Int} (hf : ¬ A.fr < n) : A.top + n ≤ (A.to + 1) * A.semi ∧ A.to * A.semi + 1 ≤ A.top ∧ A.top + n ≤ (A.ws.length : Int) ∧ 1 ≤ A.top := by
  have hv := h.hv
  have hse := h.se
  have hln := h.ln
  have htp := h.tp
  have hS := S2_0 A.ws m A.ws.length
  unfold Ar.fr at hf
  split at hf
  · rename_i c
    have := h.cq c
    omega
  · omega
end Go.Proofs.YtepddopgmhdllaaGreat.Eng
namespace Go.Proofs.YtepddopgmhdllaaGreat.Eng
open Go Go.RowKit Go.Proofs.YtepddopgmhdllaaGreat.Sl Go.Proofs.YtepddopgmhdllaaGreat.Ar Go.Proofs.YtepddopgmhdllaaGreat.Base
set_option linter.unusedVariables false
set_option linter.unusedSimpArgs false
variable {A : Ar} {m : List Int}
theorem fr_fwd {B : Ar} (hc : B.cyc = true) (t n : Int) : (B.fwd t n).1.fr = B.fr ∧ (B.fwd t n).1.cyc = true := by
  refine ⟨?_, (fwd_same (A := B) t n).2.2.1.trans hc⟩
  unfold Ar.fwd
  split
  · split
    · rfl
    · unfold Ar.fr Ar.cpy
      dsimp only
      rw [if_pos hc, if_pos hc]; omega
  · rfl
theorem fr_fwI {p : Int} {sl : List Int} : ∀ (f : Nat) (i : Int) (B : Ar), B.cyc = true → (Ar.fwI p sl f i B).fr = B.fr ∧ (Ar.fwI p sl f i B).cyc = true := by
  intro f
  induction f with
  | zero => intro i B h; exact ⟨rfl, h⟩
  | succ f ih =>
    intro i B h
    rw [Ar.fwI]
    split
    · have h1 := fr_fwd h (rvT B.ws (p + g sl i)) (rvN B.ws (p + g sl i))
      have h2 := ih (i + 1) (B.fwS (p + g sl i)) h1.2
      exact ⟨h2.1.trans h1.1, h2.2⟩
    · exact ⟨rfl, h⟩
theorem fr_flR : ∀ (f : Nat) (i : Int) (B : Ar), B.cyc = true → (Ar.flR f i B).fr = B.fr ∧ (Ar.flR f i B).cyc = true := by
  intro f
  induction f with
  | zero => intro i B h; exact ⟨rfl, h⟩
  | succ f ih =>
    intro i B h
    rw [Ar.flR]
    split
    · have h1 := fr_fwd h (rT B i) (rN B i)
      have h2 := ih (i + 1) (B.fwR i) h1.2
      exact ⟨h2.1.trans h1.1, h2.2⟩
    · exact ⟨rfl, h⟩
theorem SI.fr_over (h : SI A m) : A.fr ≤ A.over.fr := by
  unfold Ar.over
  split
  · rename_i c
    have := h.cq c.1
    have hS := S2_0 A.ws m A.ws.length
    unfold Ar.fr
    dsimp only
    rw [if_pos c.1, if_neg (by decide)]; omega
  · exact Int.le_refl _
theorem fr_stp : ∀ (f : Nat) (A : Ar) (m : List Int) (d n : Int), SI A m → (A.cyc = true → A.scan ≠ A.top) → A.fr ≤ (Ar.stp f A d n).1.fr := by
  intro f
  induction f with
  | zero => intro A m d n h hs; exact Int.le_refl _
  | succ f ih =>
    intro A m d n h hs
    rw [Ar.stp]
    by_cases hc : A.cyc = true ∧ d < n
    · rw [if_pos hc]
      obtain ⟨m2, g2, -⟩ := h.fwO hc.1 (hs hc.1)
      have h1 : A.fwO.fr = A.fr := (fr_fwI (p := A.scan) (sl := A.sls) (A.sls.length + 1) 0 A hc.1).1
      have h2 := g2.fr_over
      have h3 := ih A.fwO.over m2 (d + 1) n g2.over (fun c => by obtain ⟨a, b⟩ := over_ne c; rw [a]; exact b)
      omega
    · rw [if_neg hc]; exact Int.le_refl _
theorem SI.fr_stpO (h : SI A m) (n : Int) : A.fr ≤ (Ar.stp 8001 A.over 0 n).1.fr := by
  have h1 := h.fr_over
  have h2 := fr_stp 8001 A.over m 0 n h.over (fun c => by obtain ⟨a, b⟩ := over_ne c; rw [a]; exact b)
  omega
theorem SI.fr_flip (h : SI A m) (hc : A.cyc = false) : A.fr ≤ A.flip.fr := by
  have h0 : A.fl0.fr = A.fr := by
    unfold Ar.fr Ar.fl0 Ar.start
    dsimp only
    rw [if_pos rfl, if_neg (by rw [hc]; decide)]
    rcases h.to with e | e <;> rw [e] <;> omega
  have h1 := (fr_flR (A.vs.length + 1) 0 A.fl0 rfl).1
  obtain ⟨m2, g2⟩ := flR_all (A := A.fl0) (A.vs.length + 1) 0 A.fl0 (flM m) (RL.zero h hc) (by omega) (by show (0 : Int) ≤ (A.vs.length : Int); omega) (by show (A.vs.length : Int) - 0 < _; omega)
  have h2 := (RL.done g2).fr_over
  show _ ≤ (Ar.flR (A.vs.length + 1) 0 A.fl0).over.fr
  omega
theorem SI.fr_fin (h : SI A m) : A.fr ≤ A.fin.1.fr := h.fr_stpO _
theorem SI.fr_col (h : SI A m) : A.fr ≤ A.col.fr := by
  obtain ⟨m1, h1, c1, v1, l1⟩ := h.fin
  obtain ⟨m2, h2, l2, v2⟩ := h1.flip c1
  have a := h.fr_fin
  have b := h1.fr_flip c1
  have c := h2.fr_fin
  unfold Ar.col; omega
theorem SI.fr_ask1 (h : SI A m) : A.fr ≤ A.ask1.fr := by
  unfold Ar.ask1
  split
  · exact h.fr_stpO _
  · rename_i hc
    have hc : A.cyc = false := by simpa using hc
    split
    · obtain ⟨m1, h1, -⟩ := h.flip hc
      have a := h.fr_flip hc
      have b := h1.fr_stpO 2
      omega
    · exact Int.le_refl _
theorem SI.fr_ask2 (h : SI A m) (n : Int) : A.fr ≤ (A.ask2 n).fr := by
  obtain ⟨m1, h1, -⟩ := h.ask1
  have a := h.fr_ask1
  unfold Ar.ask2
  split
  · have := h1.fr_col; omega
  · exact a
theorem fr_mk {k s : Int} : (A.mkO k s).fr = A.fr - (s + 1) := by
  unfold Ar.fr Ar.mkO
  dsimp only
  omega
/-- where there are so many words free, there is a place -/
theorem SI.ask_done (h : SI A m) {k s : Int} (h1 : s + 1 ≤ A.semi - 1) (h2 : s + 1 ≤ A.fr) : A.ask k s = ((A.ask2 (s + 1)).mkO k s, (A.ask2 (s + 1)).top, 0) := by
  have := h.fr_ask2 (s + 1)
  unfold Ar.ask
  rw [if_neg (by omega), if_neg (by omega)]
end Go.Proofs.YtepddopgmhdllaaGreat.Eng
