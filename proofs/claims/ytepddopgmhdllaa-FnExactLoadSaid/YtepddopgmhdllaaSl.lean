/- Words of this claim's own: what is known of the blocks that a call has made (Sat), block by block, and the walk's steps over them. -/
import Derived.WalkKit
import Derived.Below
import Derived.Deep.Draws
import Derived.Laws.MakeOwn
import Derived.Laws.OwnMore
namespace Go.Proofs.Ytepddopgmhdllaa.Sl
open Go Go.RowKit
set_option linter.unusedVariables false
set_option linter.unusedSimpArgs false

abbrev HL := List (Nat × Obj)
/-- Each block of H is one of the call's own and holds just that; what was there when the call began has not turned. -/
structure Sat (w0 : World) (H : HL) (w : World) : Prop where
  bel : Below w0.heap.size w0 w
  nd : (H.map Prod.fst).Nodup
  get : ∀ p, p ∈ H → w0.heap.size ≤ p.1 ∧ w.heap[p.1]? = some p.2
inductive At : HL → Nat → Obj → Prop
  | here {H : HL} {b : Nat} {o : Obj} : At ((b, o) :: H) b o
  | there {H : HL} {b : Nat} {o : Obj} {p : Nat × Obj} : At H b o → At (p :: H) b o
inductive Up : HL → Nat → Obj → Obj → HL → Prop
  | here {H : HL} {b : Nat} {o o' : Obj} : Up ((b, o) :: H) b o o' ((b, o') :: H)
  | there {H H' : HL} {b : Nat} {o o' : Obj} {p : Nat × Obj} : Up H b o o' H' → Up (p :: H) b o o' (p :: H')
inductive Tk : HL → Nat → Obj → HL → Prop
  | here {H : HL} {b : Nat} {o : Obj} : Tk ((b, o) :: H) b o H
  | there {H R : HL} {b : Nat} {o : Obj} {p : Nat × Obj} : Tk H b o R → Tk (p :: H) b o (p :: R)
inductive Ex : HL → HL → HL → Prop
  | nil {H : HL} : Ex H [] H
  | cons {H H1 L R : HL} {b : Nat} {o : Obj} : Tk H b o H1 → Ex H1 L R → Ex H ((b, o) :: L) R

theorem At.mem {H : HL} {b : Nat} {o : Obj} (h : At H b o) : (b, o) ∈ H := by
  induction h with
  | here => exact List.mem_cons_self
  | there _ ih => exact List.mem_cons_of_mem _ ih
theorem Up.at {H H' : HL} {b : Nat} {o o' : Obj} (h : Up H b o o' H') : At H b o := by
  induction h with
  | here => exact .here
  | there _ ih => exact .there ih
theorem Up.at' {H H' : HL} {b : Nat} {o o' : Obj} (h : Up H b o o' H') : At H' b o' := by
  induction h with
  | here => exact .here
  | there _ ih => exact .there ih
theorem Up.keys {H H' : HL} {b : Nat} {o o' : Obj} (h : Up H b o o' H') : H'.map Prod.fst = H.map Prod.fst := by
  induction h with
  | here => rfl
  | there _ ih => simp [ih]
theorem Up.get {H H' : HL} {b : Nat} {o o' : Obj} (h : Up H b o o' H') (nd : (H.map Prod.fst).Nodup) {p : Nat × Obj} (hp : p ∈ H') :
    p = (b, o') ∨ (p ∈ H ∧ p.1 ≠ b) := by
  induction h with
  | @here H b o o' =>
    rcases List.mem_cons.1 hp with rfl | hp
    · exact .inl rfl
    · refine .inr ⟨List.mem_cons_of_mem _ hp, fun e => ?_⟩
      simp only [List.map_cons, List.nodup_cons] at nd
      exact nd.1 (e ▸ List.mem_map_of_mem hp)
  | @there H H' b o o' q h ih =>
    simp only [List.map_cons, List.nodup_cons] at nd
    rcases List.mem_cons.1 hp with rfl | hp
    · refine .inr ⟨List.mem_cons_self, fun e => nd.1 ?_⟩
      rw [e]; exact List.mem_map_of_mem (f := Prod.fst) h.at.mem
    · rcases ih nd.2 hp with h | ⟨h1, h2⟩
      · exact .inl h
      · exact .inr ⟨List.mem_cons_of_mem _ h1, h2⟩
theorem Tk.perm {H R : HL} {b : Nat} {o : Obj} (h : Tk H b o R) : H.Perm ((b, o) :: R) := by
  induction h with
  | here => exact .refl _
  | @there H R b o p h ih => exact ((List.Perm.cons p ih).trans (List.Perm.swap _ _ _))
theorem Ex.perm {H L R : HL} (h : Ex H L R) : H.Perm (L ++ R) := by
  induction h with
  | nil => exact .refl _
  | @cons H H1 L R b o ht _ ih => exact ht.perm.trans (List.Perm.cons _ ih)

section
variable {w0 w w' : World} {H H' L R : HL} {b : Nat} {o o' : Obj}
theorem Sat.start (w : World) : Sat w [] w := ⟨Below.refl _ _, by simp, fun p hp => by simp at hp⟩
theorem Sat.perm (h : Sat w0 H w) (p : H.Perm H') : Sat w0 H' w :=
  ⟨h.bel, (p.map Prod.fst).nodup_iff.1 h.nd, fun q hq => h.get q (p.mem_iff.2 hq)⟩
theorem Sat.ex (h : Sat w0 H w) (e : Ex H L R) : Sat w0 (L ++ R) w := h.perm e.perm
theorem Sat.drop {p : Nat × Obj} (h : Sat w0 (p :: H) w) : Sat w0 H w :=
  ⟨h.bel, by have := h.nd; simp only [List.map_cons, List.nodup_cons] at this; exact this.2, fun q hq => h.get q (List.mem_cons_of_mem _ hq)⟩
theorem Sat.tail {n : Nat} (h : Sat w0 H w) : Sat w0 (H.drop n) w := by
  induction n generalizing H with
  | zero => simpa using h
  | succ n ih =>
    cases H with
    | nil => simpa using h
    | cons p H => simpa using ih h.drop
theorem Sat.block (h : Sat w0 H w) (ha : At H b o) : w.heap[b]? = some o := (h.get _ ha.mem).2
theorem Sat.lt (h : Sat w0 H w) (ha : At H b o) : b < w.heap.size := (Array.getElem?_eq_some_iff.1 (h.block ha)).1
theorem Sat.base (h : Sat w0 H w) (ha : At H b o) : w0.heap.size ≤ b := (h.get _ ha.mem).1
theorem Sat.cell {cs : Array Value} {t : TypeId} {fr : Nat × Nat} (h : Sat w0 H w) (ha : At H b (.cells cs t fr)) (i : Nat) : w.cell? ⟨b, i, none⟩ = cs[i]? := by
  simp [World.cell?, h.block ha]
theorem Sat.alloc (h : Sat w0 H w) (o : Obj) : Sat w0 ((w.heap.size, o) :: H) (w.alloc o) := by
  refine ⟨h.bel.alloc h.bel.size o, ?_, fun p hp => ?_⟩
  · simp only [List.map_cons, List.nodup_cons]
    refine ⟨fun hm => ?_, h.nd⟩
    obtain ⟨p, hp, e⟩ := List.mem_map.1 hm
    have := (Array.getElem?_eq_some_iff.1 (h.get p hp).2).1
    omega
  · rcases List.mem_cons.1 hp with rfl | hp
    · refine ⟨h.bel.size, ?_⟩
      show (w.heap.push o)[w.heap.size]? = some o
      simp
    · obtain ⟨h1, h2⟩ := h.get p hp
      have := (Array.getElem?_eq_some_iff.1 h2).1
      exact ⟨h1, by rw [Below.heap_alloc _ _ _ this]; exact h2⟩
theorem Sat.drew (h : Sat w0 H w) : Sat w0 H w.drew := ⟨h.bel.drew, h.nd, h.get⟩
theorem Sat.drewN (h : Sat w0 H w) (n : Nat) : Sat w0 H (w.drewN n) := ⟨⟨h.bel.os, h.bel.tape, h.bel.output, h.bel.size, h.bel.block⟩, h.nd, h.get⟩
/-- The world with block b turned to o'. -/
theorem Sat.turn (h : Sat w0 H w) (u : Up H b o o' H') (hos : w'.os = w.os) (ht : w'.tape = w.tape) (ho : w'.output = w.output) (hs : w'.heap.size = w.heap.size)
    (hb : w'.heap[b]? = some o') (hk : ∀ k, k ≠ b → w'.heap[k]? = w.heap[k]?) : Sat w0 H' w' := by
  have hbase := h.base u.at
  refine ⟨h.bel.trans ⟨hos, ht, ho, by omega, fun k hk' => hk k (by omega)⟩, by rw [u.keys]; exact h.nd, fun p hp => ?_⟩
  rcases u.get h.nd hp with rfl | ⟨h1, h2⟩
  · exact ⟨hbase, hb⟩
  · obtain ⟨h3, h4⟩ := h.get p h1
    exact ⟨h3, by rw [hk _ h2]; exact h4⟩
theorem Sat.setCell {cs : Array Value} {t : TypeId} {fr : Nat × Nat} (h : Sat w0 H w) {i : Nat} {v : Value} (u : Up H b (.cells cs t fr) (.cells (cs.setIfInBounds i v) t fr) H') :
    Sat w0 H' (w.setCell ⟨b, i, none⟩ v) := by
  have hb := h.block u.at
  refine h.turn u rfl rfl rfl (by simp [World.setCell]) ?_ (fun k hk => Below.heap_setCell _ _ _ _ hk)
  simp [World.setCell, Array.getElem?_modify, hb]
theorem Sat.setRow {cs cs' : Array Value} {t : TypeId} {fr : Nat × Nat} (h : Sat w0 H w) (u : Up H b (.cells cs t fr) (.cells cs' t fr) H') :
    Sat w0 H' (w.setRow b cs') := by
  have hb := h.block u.at
  refine h.turn u rfl rfl rfl (by simp [World.setRow]) ?_ (fun k hk => ?_)
  · simp [World.setRow, Array.getElem?_modify, hb]
  · simp only [World.setRow, Array.getElem?_modify]; rw [if_neg (by omega)]
end
end Go.Proofs.Ytepddopgmhdllaa.Sl
