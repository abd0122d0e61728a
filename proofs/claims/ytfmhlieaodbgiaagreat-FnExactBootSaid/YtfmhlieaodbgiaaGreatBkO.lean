/- Words of this claim's own: what is known of the blocks that a call has made (Sat), block by block, and the walk's steps over them. -/
import Derived.WalkKit
import Derived.Below
import Derived.Deep.Draws
import Derived.Laws.MakeOwn
import Derived.Laws.OwnMore
import Derived.Deep.Quiet
import Derived.Deep.LoopGhost
import Derived.KernelRfl
import Derived.IntWalk
import Derived.Laws.Rows
import Derived.Laws.Cells
import Derived.Laws.CopyRow
import Derived.Still
namespace Go.Proofs.YtfmhlieaodbgiaaGreat.Sl
open Go Go.RowKit
set_option linter.unusedVariables false
set_option linter.unusedSimpArgs false

abbrev HL := List (Nat × Obj)
/-- Each block of H is one of the call's own and holds just that; what was there when the call began has not turned. -/
structure Sat (w0 : World) (H : HL) (w : World) : Prop where
  bel : Below w0.heap.size w0 w
  nd : (H.map Prod.fst).Nodup
  get : ∀ p, p ∈ H → w0.heap.size ≤ p.1 ∧ w.heap[p.1]? = some p.2
inductive At : HL → Nat → Obj → Prop
  | here {H : HL} {b : Nat} {o : Obj} : At ((b, o) :: H) b o
  | there {H : HL} {b : Nat} {o : Obj} {p : Nat × Obj} : At H b o → At (p :: H) b o
inductive Up : HL → Nat → Obj → Obj → HL → Prop
  | here {H : HL} {b : Nat} {o o' : Obj} : Up ((b, o) :: H) b o o' ((b, o') :: H)
  | there {H H' : HL} {b : Nat} {o o' : Obj} {p : Nat × Obj} : Up H b o o' H' → Up (p :: H) b o o' (p :: H')
inductive Tk : HL → Nat → Obj → HL → Prop
  | here {H : HL} {b : Nat} {o : Obj} : Tk ((b, o) :: H) b o H
  | there {H R : HL} {b : Nat} {o : Obj} {p : Nat × Obj} : Tk H b o R → Tk (p :: H) b o (p :: R)
inductive Ex : HL → HL → HL → Prop
  | nil {H : HL} : Ex H [] H
  | cons {H H1 L R : HL} {b : Nat} {o : Obj} : Tk H b o H1 → Ex H1 L R → Ex H ((b, o) :: L) R

theorem At.mem {H : HL} {b : Nat} {o : Obj} (h : At H b o) : (b, o) ∈ H := by
  induction h with
  | here => exact List.mem_cons_self
  | there _ ih => exact List.mem_cons_of_mem _ ih
theorem Up.at {H H' : HL} {b : Nat} {o o' : Obj} (h : Up H b o o' H') : At H b o := by
  induction h with
  | here => exact .here
  | there _ ih => exact .there ih
theorem Up.at' {H H' : HL} {b : Nat} {o o' : Obj} (h : Up H b o o' H') : At H' b o' := by
  induction h with
  | here => exact .here
  | there _ ih => exact .there ih
theorem Up.keys {H H' : HL} {b : Nat} {o o' : Obj} (h : Up H b o o' H') : H'.map Prod.fst = H.map Prod.fst := by
  induction h with
  | here => rfl
  | there _ ih => simp [ih]
theorem Up.get {H H' : HL} {b : Nat} {o o' : Obj} (h : Up H b o o' H') (nd : (H.map Prod.fst).Nodup) {p : Nat × Obj} (hp : p ∈ H') :
    p = (b, o') ∨ (p ∈ H ∧ p.1 ≠ b) := by
  induction h with
  | @here H b o o' =>
    rcases List.mem_cons.1 hp with rfl | hp
    · exact .inl rfl
    · refine .inr ⟨List.mem_cons_of_mem _ hp, fun e => ?_⟩
      simp only [List.map_cons, List.nodup_cons] at nd
      exact nd.1 (e ▸ List.mem_map_of_mem hp)
  | @there H H' b o o' q h ih =>
    simp only [List.map_cons, List.nodup_cons] at nd
    rcases List.mem_cons.1 hp with rfl | hp
    · refine .inr ⟨List.mem_cons_self, fun e => nd.1 ?_⟩
      rw [e]; exact List.mem_map_of_mem (f := Prod.fst) h.at.mem
    · rcases ih nd.2 hp with h | ⟨h1, h2⟩
      · exact .inl h
      · exact .inr ⟨List.mem_cons_of_mem _ h1, h2⟩
theorem Tk.perm {H R : HL} {b : Nat} {o : Obj} (h : Tk H b o R) : H.Perm ((b, o) :: R) := by
  induction h with
  | here => exact .refl _
  | @there H R b o p h ih => exact ((List.Perm.cons p ih).trans (List.Perm.swap _ _ _))
theorem Ex.perm {H L R : HL} (h : Ex H L R) : H.Perm (L ++ R) := by
  induction h with
  | nil => exact .refl _
  | @cons H H1 L R b o ht _ ih => exact ht.perm.trans (List.Perm.cons _ ih)

section
variable {w0 w w' : World} {H H' L R : HL} {b : Nat} {o o' : Obj}
theorem Sat.start (w : World) : Sat w [] w := ⟨Below.refl _ _, by simp, fun p hp => by simp at hp⟩
theorem Sat.perm (h : Sat w0 H w) (p : H.Perm H') : Sat w0 H' w :=
  ⟨h.bel, (p.map Prod.fst).nodup_iff.1 h.nd, fun q hq => h.get q (p.mem_iff.2 hq)⟩
theorem Sat.ex (h : Sat w0 H w) (e : Ex H L R) : Sat w0 (L ++ R) w := h.perm e.perm
theorem Sat.drop {p : Nat × Obj} (h : Sat w0 (p :: H) w) : Sat w0 H w :=
  ⟨h.bel, by have := h.nd; simp only [List.map_cons, List.nodup_cons] at this; exact this.2, fun q hq => h.get q (List.mem_cons_of_mem _ hq)⟩
theorem Sat.tail {n : Nat} (h : Sat w0 H w) : Sat w0 (H.drop n) w := by
  induction n generalizing H with
  | zero => simpa using h
  | succ n ih =>
    cases H with
    | nil => simpa using h
    | cons p H => simpa using ih h.drop
theorem Sat.block (h : Sat w0 H w) (ha : At H b o) : w.heap[b]? = some o := (h.get _ ha.mem).2
theorem Sat.lt (h : Sat w0 H w) (ha : At H b o) : b < w.heap.size := (Array.getElem?_eq_some_iff.1 (h.block ha)).1
theorem Sat.base (h : Sat w0 H w) (ha : At H b o) : w0.heap.size ≤ b := (h.get _ ha.mem).1
theorem Sat.cell {cs : Array Value} {t : TypeId} {fr : Nat × Nat} (h : Sat w0 H w) (ha : At H b (.cells cs t fr)) (i : Nat) : w.cell? ⟨b, i, none⟩ = cs[i]? := by
  simp [World.cell?, h.block ha]
theorem Sat.alloc (h : Sat w0 H w) (o : Obj) : Sat w0 ((w.heap.size, o) :: H) (w.alloc o) := by
  refine ⟨h.bel.alloc h.bel.size o, ?_, fun p hp => ?_⟩
  · simp only [List.map_cons, List.nodup_cons]
    refine ⟨fun hm => ?_, h.nd⟩
    obtain ⟨p, hp, e⟩ := List.mem_map.1 hm
    have := (Array.getElem?_eq_some_iff.1 (h.get p hp).2).1
    omega
  · rcases List.mem_cons.1 hp with rfl | hp
    · refine ⟨h.bel.size, ?_⟩
      show (w.heap.push o)[w.heap.size]? = some o
      simp
    · obtain ⟨h1, h2⟩ := h.get p hp
      have := (Array.getElem?_eq_some_iff.1 h2).1
      exact ⟨h1, by rw [Below.heap_alloc _ _ _ this]; exact h2⟩
theorem Sat.drew (h : Sat w0 H w) : Sat w0 H w.drew := ⟨h.bel.drew, h.nd, h.get⟩
theorem Sat.drewN (h : Sat w0 H w) (n : Nat) : Sat w0 H (w.drewN n) := ⟨⟨h.bel.os, h.bel.tape, h.bel.output, h.bel.size, h.bel.block⟩, h.nd, h.get⟩
/-- The world with block b turned to o'. -/
theorem Sat.turn (h : Sat w0 H w) (u : Up H b o o' H') (hos : w'.os = w.os) (ht : w'.tape = w.tape) (ho : w'.output = w.output) (hs : w'.heap.size = w.heap.size)
    (hb : w'.heap[b]? = some o') (hk : ∀ k, k ≠ b → w'.heap[k]? = w.heap[k]?) : Sat w0 H' w' := by
  have hbase := h.base u.at
  refine ⟨h.bel.trans ⟨hos, ht, ho, by omega, fun k hk' => hk k (by omega)⟩, by rw [u.keys]; exact h.nd, fun p hp => ?_⟩
  rcases u.get h.nd hp with rfl | ⟨h1, h2⟩
  · exact ⟨hbase, hb⟩
  · obtain ⟨h3, h4⟩ := h.get p h1
    exact ⟨h3, by rw [hk _ h2]; exact h4⟩
theorem Sat.setCell {cs : Array Value} {t : TypeId} {fr : Nat × Nat} (h : Sat w0 H w) {i : Nat} {v : Value} (u : Up H b (.cells cs t fr) (.cells (cs.setIfInBounds i v) t fr) H') :
    Sat w0 H' (w.setCell ⟨b, i, none⟩ v) := by
  have hb := h.block u.at
  refine h.turn u rfl rfl rfl (by simp [World.setCell]) ?_ (fun k hk => Below.heap_setCell _ _ _ _ hk)
  simp [World.setCell, Array.getElem?_modify, hb]
theorem Sat.setRow {cs cs' : Array Value} {t : TypeId} {fr : Nat × Nat} (h : Sat w0 H w) (u : Up H b (.cells cs t fr) (.cells cs' t fr) H') :
    Sat w0 H' (w.setRow b cs') := by
  have hb := h.block u.at
  refine h.turn u rfl rfl rfl (by simp [World.setRow]) ?_ (fun k hk => ?_)
  · simp [World.setRow, Array.getElem?_modify, hb]
  · simp only [World.setRow, Array.getElem?_modify]; rw [if_neg (by omega)]
end
end Go.Proofs.YtfmhlieaodbgiaaGreat.Sl
namespace Go.Proofs.YtfmhlieaodbgiaaGreat.Eng
open Go Go.RowKit Go.Proofs.YtfmhlieaodbgiaaGreat.Sl
set_option linter.unusedVariables false
set_option linter.unusedSimpArgs false

abbrev Env := List (Nat × Value)
def look : Env → Nat → Option Value
  | [], _ => none
  | (k, v) :: E, t => bif Nat.beq k t then some v else look E t
def ev (E : Env) : Operand → Option Value
  | .tmp t => look E t
  | .const v => some v
  | .func f => some (.func (.func f) #[] #[])
  | .global g => some (.pointer (some ⟨g, 0, none⟩))
def evs (E : Env) : List Operand → Option (List Value)
  | [] => some []
  | x :: xs => match ev E x, evs E xs with
    | some v, some vs => some (v :: vs)
    | _, _ => none
def upd (E : Env) : Option Tmp → Value → Env
  | some t, v => (t, v) :: E
  | none, _ => E
def okDst (N : Nat) : Option Tmp → Bool
  | some t => Nat.blt t N
  | none => true
structure Holds (N : Nat) (E : Env) (a : Act) : Prop where
  sz : a.tmps.size = N
  df : a.defers = []
  at_ : ∀ t v, look E t = some v → a.tmps[t]? = some v
section
variable {N : Nat} {E F : Env} {a : Act} {x : Operand} {v : Value}
theorem Holds.eval (h : Holds N E a) (hx : ev E x = some v) : a.eval x = v := by
  cases x with
  | tmp t => have := h.at_ t v hx; simp [Act.eval, Array.getD_eq_getD_getElem?, this]
  | const u => simpa [ev, Act.eval] using hx
  | global g => simpa [ev, Act.eval] using hx
  | func f => simpa [ev, Act.eval] using hx
theorem Holds.evals (h : Holds N E a) {xs : List Operand} {vs : List Value} (hx : evs E xs = some vs) : xs.map a.eval = vs := by
  induction xs generalizing vs with
  | nil => simpa [evs] using hx.symm
  | cons x xs ih =>
    unfold evs at hx
    cases h1 : ev E x with
    | none => simp [h1] at hx
    | some u =>
      cases h2 : evs E xs with
      | none => simp [h1, h2] at hx
      | some us =>
        simp only [h1, h2, Option.some.injEq] at hx
        subst hx
        simp [h.eval h1, ih h2]
theorem Holds.upd (h : Holds N E a) {d : Option Tmp} (hd : okDst N d = true) (v : Value) : Holds N (upd E d v) (a.put d v) := by
  cases d with
  | none => exact h
  | some t =>
    have ht : t < N := by simpa [okDst, Nat.blt_eq] using hd
    refine ⟨by simp [Act.put, h.sz], by simp [Act.put, h.df], fun u w hu => ?_⟩
    simp only [Act.put, Array.getElem?_setIfInBounds]
    simp only [Eng.upd, look] at hu
    cases hb : Nat.beq t u with
    | true =>
      have e : t = u := Nat.eq_of_beq_eq_true hb
      rw [hb] at hu
      simp only [cond_true, Option.some.injEq] at hu
      subst e; subst hu
      rw [if_pos rfl, if_pos (by rw [h.sz]; exact ht)]
    | false =>
      have e : t ≠ u := Nat.ne_of_beq_eq_false hb
      rw [hb] at hu
      rw [if_neg e]
      exact h.at_ u w hu
theorem Holds.put (h : Holds N E a) {d : Option Tmp} {t : Tmp} (hd : d = some t) (ht : Nat.blt t N = true) (v : Value) : Holds N ((t, v) :: E) (a.put d v) := by
  subst hd; exact h.upd (d := some t) ht v
theorem Holds.know (h : Holds N E a) {t : Tmp} {v : Value} (ht : look E t = some v) : Holds N ((t, v) :: E) a := by
  refine ⟨h.sz, h.df, fun u w hu => ?_⟩
  simp only [look] at hu
  cases hb : Nat.beq t u with
  | true =>
    have e : t = u := Nat.eq_of_beq_eq_true hb
    rw [hb] at hu
    simp only [cond_true, Option.some.injEq] at hu
    subst e; subst hu
    exact h.at_ _ _ ht
  | false => rw [hb] at hu; exact h.at_ u w hu
end
/-- What F says, E says. -/
def Sub (E : Env) : Env → Prop
  | [] => True
  | (t, v) :: F => look E t = some v ∧ Sub E F
theorem Holds.sub {N : Nat} {E F : Env} {a : Act} (h : Holds N E a) (s : Sub E F) : Holds N F a := by
  refine ⟨h.sz, h.df, fun t v hv => ?_⟩
  induction F with
  | nil => simp [look] at hv
  | cons p F ih =>
    obtain ⟨k, u⟩ := p
    obtain ⟨h1, h2⟩ := s
    simp only [look] at hv
    cases hb : Nat.beq k t with
    | true =>
      have e := Nat.eq_of_beq_eq_true hb
      rw [hb] at hv
      simp only [cond_true, Option.some.injEq] at hv
      subst e; subst hv
      exact h.at_ _ _ h1
    | false => rw [hb] at hv; exact ih h2 hv
def wantE (ops : Array Oper) (E : Env) (o : Oper) : Option Bool :=
  match o.guard with
  | none => some true
  | some (j, want) =>
    match (ops[j]?).bind (·.dst) with
    | some t => match look E t with
      | some (.bool b) => some (b == want)
      | some (.tuple _) => some false
      | _ => none
    | none => some false
theorem wanted_of {N : Nat} {E : Env} {a : Act} {ops : Array Oper} {o : Oper} {b : Bool} (h : Holds N E a) (hw : wantE ops E o = some b) : Region.wanted o (yielded ops a.tmps) = b := by
  unfold wantE at hw
  unfold Region.wanted
  cases hg : o.guard with
  | none => rw [hg] at hw; simpa using hw
  | some p =>
    obtain ⟨j, want⟩ := p
    rw [hg] at hw
    simp only at hw ⊢
    unfold yielded
    cases hd : (ops[j]?).bind (·.dst) with
    | none => rw [hd] at hw; simp at hw ⊢; exact hw
    | some t =>
      rw [hd] at hw
      simp only [Option.bind_some] at hw ⊢
      cases hl : look E t with
      | none => rw [hl] at hw; simp at hw
      | some v =>
        rw [hl] at hw
        rw [h.at_ t v hl]
        cases v <;> simp_all
/-! ### heaplets: forgetting, reordering -/
inductive Cv : HL → HL → Prop
  | refl {H : HL} : Cv H H
  | skip {H L : HL} {p : Nat × Obj} : Cv H L → Cv (p :: H) L
  | take {H H1 L : HL} {b : Nat} {o : Obj} : Tk H b o H1 → Cv H1 L → Cv H ((b, o) :: L)
theorem Cv.sat {w0 w : World} {H L : HL} (c : Cv H L) (h : Sat w0 H w) : Sat w0 L w := by
  induction c generalizing w with
  | refl => exact h
  | skip _ ih => exact ih h.drop
  | @take H H1 L b o tk c ih =>
    have h1 := h.perm tk.perm
    have h2 := ih h1.drop
    refine ⟨h2.bel, ?_, fun p hp => ?_⟩
    · simp only [List.map_cons, List.nodup_cons]
      refine ⟨fun hm => ?_, h2.nd⟩
      obtain ⟨q, hq, e⟩ := List.mem_map.1 hm
      have hd := h1.nd
      simp only [List.map_cons, List.nodup_cons] at hd
      apply hd.1
      have : ∀ {H L : HL}, Cv H L → ∀ k, k ∈ L.map Prod.fst → k ∈ H.map Prod.fst := by
        intro H L c
        induction c with
        | refl => exact fun _ h => h
        | skip _ ih => exact fun k hk => List.mem_map.2 (by obtain ⟨q, hq, e⟩ := List.mem_map.1 (ih k hk); exact ⟨q, List.mem_cons_of_mem _ hq, e⟩)
        | @take H H1 L b o tk c ih =>
          intro k hk
          simp only [List.map_cons, List.mem_cons] at hk
          have hp := tk.perm.map Prod.fst
          rw [hp.mem_iff]
          rcases hk with rfl | hk
          · simp
          · exact List.mem_cons_of_mem _ (ih k hk)
      exact this c b (e ▸ List.mem_map_of_mem (f := Prod.fst) hq)
    · rcases List.mem_cons.1 hp with rfl | hp
      · exact h1.get _ List.mem_cons_self
      · exact h2.get p hp
/-! ### code -/
abbrev Post := Exit → Env → HL → Prop
def lift (N : Nat) (w0 : World) (R : Post) : Exit → Act → World → Prop := fun e a w => ∃ E H, Holds N E a ∧ Sat w0 H w ∧ R e E H
section
variable (P : Program) (N : Nat) (w0 : World)
structure W (c : Code) (E : Env) (H : HL) (R : Post) : Prop where
  out : ∀ a w, Holds N E a → Sat w0 H w → c.wp P (lift N w0 R) a w
structure L (ops : Array Oper) (l : List Oper) (E : Env) (H : HL) (R : Post) : Prop where
  out : ∀ a w, Holds N E a → Sat w0 H w → wpList P ops (lift N w0 R) l a w
structure OpV (o : Oper) (E : Env) (H : HL) (v : Value) : Prop where
  out : ∀ a w, Holds N E a → Sat w0 H w → (execOp a.eval o).run P w = .ok (.value v) w
/-- A call: it returns v, the blocks are H'. -/
structure Fn (f : FuncId) (args : Array Value) (H : HL) (S : Value → HL → Prop) : Prop where
  is_ : ∃ fn, P.funcs[f]? = some fn ∧ (fn.name == "runtime.NumGoroutine") = false ∧ fn.body.isSome = true
  out : ∀ w, Sat w0 H w → Calls P f args w fun e w' => ∃ v H', e = .returned v ∧ Sat w0 H' w' ∧ S v H'
inductive seqR (y : Code) (R : Post) : Post
  | normal {E : Env} {H : HL} : W P N w0 y E H R → seqR y R .normal E H
  | ret {E : Env} {H : HL} : R .ret E H → seqR y R .ret E H
  | exit {id : Nat} {E : Env} {H : HL} : R (.exit id) E H → seqR y R (.exit id) E H
inductive blockR (id : Nat) (R : Post) : Post
  | normal {E : Env} {H : HL} : R .normal E H → blockR id R .normal E H
  | ret {E : Env} {H : HL} : R .ret E H → blockR id R .ret E H
  | here {E : Env} {H : HL} : R .normal E H → blockR id R (.exit id) E H
  | exit {i : Nat} {E : Env} {H : HL} : Nat.beq i id = false → R (.exit i) E H → blockR id R (.exit i) E H
inductive loopR {α : Type} (E' : α → Env) (H' : α → HL) (good : α → Prop) (μ : α → Nat) (n : Nat) (R : Post) : Post
  | again {E : Env} {H : HL} (y : α) : good y → μ y < n → Sub E (E' y) → Cv H (H' y) → loopR E' H' good μ n R .normal E H
  | ret {E : Env} {H : HL} : R .ret E H → loopR E' H' good μ n R .ret E H
  | exit {i : Nat} {E : Env} {H : HL} : R (.exit i) E H → loopR E' H' good μ n R (.exit i) E H
structure RetV (fn : Func) (E : Env) (H : HL) (v : Value) : Prop where
  out : ∀ a w, Holds N E a → Sat w0 H w → (results fn a.tmps).run P w = .ok v w
inductive retR (fn : Func) (S : Value → HL → Prop) : Post
  | end_ {E : Env} {H : HL} (v : Value) (H' : HL) : RetV P N w0 fn E H v → Cv H H' → S v H' → retR fn S .normal E H
  | ret {E : Env} {H : HL} (v : Value) (H' : HL) : RetV P N w0 fn E H v → Cv H H' → S v H' → retR fn S .ret E H
/-- A place between two pieces of code: what is known there. -/
inductive midR (E2 : Env) (H2 : HL) : Post
  | at_ {E : Env} {H : HL} : Sub E E2 → Cv H H2 → midR E2 H2 .normal E H
end
section
variable {P : Program} {N : Nat} {w0 : World} {E F : Env} {H H' H1 : HL} {R R' : Post} {ops : Array Oper} {rest : List Oper} {o : Oper} {v : Value}
theorem W_sub {c : Code} (s : Sub E F) (cv : Cv H H') (h : W P N w0 c F H' R) : W P N w0 c E H R := ⟨fun a w ha hs => h.out a w (ha.sub s) (cv.sat hs)⟩
theorem W_mono {c : Code} (hr : ∀ e E H, R e E H → R' e E H) (h : W P N w0 c E H R) : W P N w0 c E H R' :=
  ⟨fun a w ha hs => wp_mono (h.out a w ha hs) fun _ _ _ ⟨E, H, h1, h2, h3⟩ => ⟨E, H, h1, h2, hr _ _ _ h3⟩⟩
theorem W_seq {x y : Code} (h : W P N w0 x E H (seqR P N w0 y R)) : W P N w0 (.seq x y) E H R := ⟨fun a w ha hs => by
  refine wp_seq (wp_mono (h.out a w ha hs) ?_)
  rintro e a w ⟨E, H, h1, h2, h3⟩
  cases h3 with
  | normal h3 => exact h3.out a w h1 h2
  | ret h3 => exact ⟨E, H, h1, h2, h3⟩
  | exit h3 => exact ⟨E, H, h1, h2, h3⟩⟩
theorem W_mid {x y : Code} (E2 : Env) (H2 : HL) (h : W P N w0 x E H (midR E2 H2)) (h' : W P N w0 y E2 H2 R) : W P N w0 (.seq x y) E H R :=
  W_seq (W_mono (fun e E H q => by cases q with | at_ s cv => exact .normal (W_sub s cv h')) h)
theorem W_block {id : Nat} {c : Code} (h : W P N w0 c E H (blockR id R)) : W P N w0 (.block id c) E H R := ⟨fun a w ha hs => by
  refine wp_block (wp_mono (h.out a w ha hs) ?_)
  rintro e a w ⟨E, H, h1, h2, h3⟩
  cases h3 with
  | normal h3 => exact ⟨E, H, h1, h2, h3⟩
  | ret h3 => exact ⟨E, H, h1, h2, h3⟩
  | here h3 => simp only [Exit.inBlock, if_true]; exact ⟨E, H, h1, h2, h3⟩
  | exit hi h3 =>
    have := Nat.ne_of_beq_eq_false hi
    simp only [Exit.inBlock, if_neg this]; exact ⟨E, H, h1, h2, h3⟩⟩
theorem W_exit {id : Nat} (h : R (.exit id) E H) : W P N w0 (.exit id) E H R := ⟨fun a w ha hs => wp_exit ⟨E, H, ha, hs, h⟩⟩
theorem W_skip (h : R .normal E H) : W P N w0 .skip E H R := ⟨fun a w ha hs => wp_skip ⟨E, H, ha, hs, h⟩⟩
theorem W_ret (h : R .ret E H) : W P N w0 .ret E H R := ⟨fun a w ha hs => wp_ret ⟨E, H, ha, hs, h⟩⟩
theorem W_cond {c : Operand} {x y : Code} {t : Bool} (hc : ev E c = some (.bool t)) (h1 : t = true → W P N w0 x E H R) (h2 : t = false → W P N w0 y E H R) :
    W P N w0 (.cond c x y) E H R := ⟨fun a w ha hs => wp_cond_split (ha.eval hc) (fun h => (h1 h).out a w ha hs) (fun h => (h2 h).out a w ha hs)⟩
theorem W_cond1 {c : Operand} {x y : Code} (hc : ev E c = some (.bool true)) (h1 : W P N w0 x E H R) : W P N w0 (.cond c x y) E H R :=
  ⟨fun a w ha hs => wp_cond_true (ha.eval hc) (h1.out a w ha hs)⟩
theorem W_cond0 {c : Operand} {x y : Code} (hc : ev E c = some (.bool false)) (h1 : W P N w0 y E H R) : W P N w0 (.cond c x y) E H R :=
  ⟨fun a w ha hs => wp_cond_false (ha.eval hc) (h1.out a w ha hs)⟩
theorem W_condP {c : Operand} {x y : Code} {p : Prop} [Decidable p] (hc : ev E c = some (.bool (decide p))) (h1 : p → W P N w0 x E H R) (h2 : ¬ p → W P N w0 y E H R) :
    W P N w0 (.cond c x y) E H R := W_cond hc (fun h => h1 (of_decide_eq_true h)) (fun h => h2 (of_decide_eq_false h))
theorem W_condN {c : Operand} {x y : Code} {t : Bool} (hc : ev E c = some (.bool (!t))) (h1 : t = false → W P N w0 x E H R) (h2 : t = true → W P N w0 y E H R) :
    W P N w0 (.cond c x y) E H R := W_cond hc (fun h => h1 (by simpa using h)) (fun h => h2 (by simpa using h))
theorem W_condNP {c : Operand} {x y : Code} {p : Prop} [Decidable p] (hc : ev E c = some (.bool (!(decide p)))) (h1 : ¬ p → W P N w0 x E H R) (h2 : p → W P N w0 y E H R) :
    W P N w0 (.cond c x y) E H R := W_cond hc (fun h => h1 (by simpa using h)) (fun h => h2 (by simpa using h))
theorem W_region {id : Nat} {l : List Oper} (h : L P N w0 l.toArray l E H R) : W P N w0 (.region id l.toArray false) E H R := ⟨fun a w ha hs => wp_region_lit (h.out a w ha hs)⟩
theorem W_loop {c : Code} {α : Type} (E' : α → Env) (H' : α → HL) (good : α → Prop) (μ : α → Nat) (x : α) (hx : good x) (s : Sub E (E' x)) (cv : Cv H (H' x))
    (round : ∀ x, good x → W P N w0 c (E' x) (H' x) (loopR E' H' good μ (μ x) R)) : W P N w0 (.loop c) E H R := ⟨fun a w ha hs => by
  refine wp_loop_ghost (fun n a w => ∃ x, good x ∧ Holds N (E' x) a ∧ Sat w0 (H' x) w ∧ μ x = n) (μ x) ⟨x, hx, ha.sub s, cv.sat hs, rfl⟩ ?_
  rintro n a w ⟨x, hx, ha, hs, rfl⟩
  refine wp_mono ((round x hx).out a w ha hs) ?_
  rintro e a' w' ⟨E, H, h1, h2, h3⟩
  cases h3 with
  | again y hy hlt sy cy => exact ⟨μ y, hlt, y, hy, h1.sub sy, cy.sat h2, rfl⟩
  | ret h3 => exact ⟨E, H, h1, h2, h3⟩
  | exit h3 => exact ⟨E, H, h1, h2, h3⟩⟩
/-! results -/
theorem ret0 {fn : Func} (h : fn.results = #[]) : RetV P N w0 fn E H (.tuple #[]) := ⟨fun a w ha hs => by simp [results, h]⟩
theorem ret1 {fn : Func} {t : Tmp} {v : Value} (h : fn.results = #[.tmp t]) (hv : look E t = some v) : RetV P N w0 fn E H v := ⟨fun a w ha hs => by
  rw [results_tmp h, Array.getD_eq_getD_getElem?, ha.at_ t v hv]; rfl⟩
theorem ret2 {fn : Func} {t u : Tmp} {v v' : Value} (h : fn.results = #[.tmp t, .tmp u]) (hv : look E t = some v) (hv' : look E u = some v') : RetV P N w0 fn E H (.tuple #[v, v']) := ⟨fun a w ha hs => by
  rw [results_tmp2 h, Array.getD_eq_getD_getElem?, Array.getD_eq_getD_getElem?, ha.at_ t v hv, ha.at_ u v' hv']; rfl⟩
theorem ret3 {fn : Func} {t u s : Tmp} {v v' v'' : Value} (h : fn.results = #[.tmp t, .tmp u, .tmp s]) (hv : look E t = some v) (hv' : look E u = some v') (hv'' : look E s = some v'') :
    RetV P N w0 fn E H (.tuple #[v, v', v'']) := ⟨fun a w ha hs => by
  simp [results, h, Array.getD_eq_getD_getElem?, ha.at_ t v hv, ha.at_ u v' hv', ha.at_ s v'' hv'']⟩
/-! a function -/
def argE : Nat → List Value → Env
  | _, [] => []
  | i, v :: vs => (i, v) :: argE (i + 1) vs
theorem argE_look (vs : List Value) : ∀ (i t : Nat) (v : Value), look (argE i vs) t = some v → i ≤ t ∧ vs[t - i]? = some v := by
  induction vs with
  | nil => intro i t v h; simp [argE, look] at h
  | cons u vs ih =>
    intro i t v h
    simp only [argE, look] at h
    cases hb : Nat.beq i t with
    | true =>
      have e := Nat.eq_of_beq_eq_true hb
      rw [hb] at h
      simp only [cond_true, Option.some.injEq] at h
      subst e; subst h
      simp
    | false =>
      rw [hb] at h
      obtain ⟨h1, h2⟩ := ih (i + 1) t v h
      refine ⟨by omega, ?_⟩
      rw [show t - i = (t - (i + 1)) + 1 by omega]
      simpa using h2
theorem enter {fn : Func} {c : Code} {f : FuncId} {args : List Value} {S : Value → HL → Prop} (hf : P.funcs[f]? = some fn) (hn : (fn.name == "runtime.NumGoroutine") = false) (hb : fn.body = some c)
    (hN : fn.ntmps = N) (hl : args.length ≤ N) (h : W P N w0 c (argE 0 args) H (retR P N w0 fn S)) : Fn P w0 f args.toArray H S := by
  refine ⟨⟨fn, hf, hn, by simp [hb]⟩, fun w hs => ?_⟩
  refine calls_of_wp hf hb ?_
  refine wp_mono (h.out _ w ⟨?_, rfl, fun t v hv => ?_⟩ hs) ?_
  · simp [hN]; omega
  · obtain ⟨_, h2⟩ := argE_look args 0 t v hv
    have ht : t < args.length := by have := (List.getElem?_eq_some_iff.1 h2).1; omega
    rw [Array.getElem?_append_left (by simpa using ht)]
    simpa using h2
  · rintro e a w ⟨E, H, h1, h2, h3⟩
    cases h3 with
    | end_ v H' hv cv hS => exact ⟨h1.df, v, hv.out a w h1 h2, v, H', rfl, cv.sat h2, hS⟩
    | ret v H' hv cv hS => exact ⟨h1.df, v, hv.out a w h1 h2, v, H', rfl, cv.sat h2, hS⟩
section
variable {fn : Func} {c : Code} {f : FuncId} {S : Value → HL → Prop} (hf : P.funcs[f]? = some fn) (hn : (fn.name == "runtime.NumGoroutine") = false) (hb : fn.body = some c) (hN : fn.ntmps = N) {a b d e g : Value}
include hf hn hb hN
theorem enter0 (h : W P N w0 c [] H (retR P N w0 fn S)) : Fn P w0 f #[] H S := enter (args := []) hf hn hb hN (Nat.zero_le _) h
theorem enter1 (hl : Nat.ble 1 N = true) (h : W P N w0 c [(0, a)] H (retR P N w0 fn S)) : Fn P w0 f #[a] H S := enter (args := [a]) hf hn hb hN (Nat.le_of_ble_eq_true hl) h
theorem enter2 (hl : Nat.ble 2 N = true) (h : W P N w0 c [(0, a), (1, b)] H (retR P N w0 fn S)) : Fn P w0 f #[a, b] H S := enter (args := [a, b]) hf hn hb hN (Nat.le_of_ble_eq_true hl) h
theorem enter3 (hl : Nat.ble 3 N = true) (h : W P N w0 c [(0, a), (1, b), (2, d)] H (retR P N w0 fn S)) : Fn P w0 f #[a, b, d] H S := enter (args := [a, b, d]) hf hn hb hN (Nat.le_of_ble_eq_true hl) h
theorem enter4 (hl : Nat.ble 4 N = true) (h : W P N w0 c [(0, a), (1, b), (2, d), (3, e)] H (retR P N w0 fn S)) : Fn P w0 f #[a, b, d, e] H S := enter (args := [a, b, d, e]) hf hn hb hN (Nat.le_of_ble_eq_true hl) h
theorem enter5 (hl : Nat.ble 5 N = true) (h : W P N w0 c [(0, a), (1, b), (2, d), (3, e), (4, g)] H (retR P N w0 fn S)) : Fn P w0 f #[a, b, d, e, g] H S := enter (args := [a, b, d, e, g]) hf hn hb hN (Nat.le_of_ble_eq_true hl) h
end
theorem Fn.mono {f : FuncId} {args : Array Value} {S S' : Value → HL → Prop} (h : Fn P w0 f args H S) (hs : ∀ v H', S v H' → S' v H') : Fn P w0 f args H S' :=
  ⟨h.1, fun w hw => (h.2 w hw).mono fun _ _ ⟨v, H', e, h1, h2⟩ => ⟨v, H', e, h1, hs _ _ h2⟩⟩
/-- The same call where more blocks are known, or in another order. -/
theorem Fn.conv {f : FuncId} {args : Array Value} {S : Value → HL → Prop} (cv : Cv H H') (h : Fn P w0 f args H' S) : Fn P w0 f args H S := ⟨h.1, fun w hw => h.2 w (cv.sat hw)⟩
/-! ### a list of operations -/
theorem L_nil {l : Array Oper} (h : R .normal E H) : L P N w0 l [] E H R := ⟨fun a w ha hs => ⟨E, H, ha, hs, h⟩⟩
theorem L_val {t : Tmp} (hw : wantE ops E o = some true) (hd : o.dst = some t) (ht : Nat.blt t N = true) (hv : OpV P N w0 o E H v) (hk : L P N w0 ops rest ((t, v) :: E) H R) : L P N w0 ops (o :: rest) E H R := by
    refine ⟨fun a w ha hs => ?_⟩
    refine wpList_step fun K hK => ?_
    rw [if_pos (wanted_of ha hw)]
    unfold Oper.wp
    rw [hv.out a w ha hs]
    exact hK _ _ ((hk).out _ _ (ha.put hd ht v) hs)
theorem L_skip {t : Tmp} (hw : wantE ops E o = some false) (hd : o.dst = some t) (ht : Nat.blt t N = true) (hk : L P N w0 ops rest ((t, undef) :: E) H R) : L P N w0 ops (o :: rest) E H R := by
    refine ⟨fun a w ha hs => ?_⟩
    refine wpList_step fun K hK => ?_
    rw [wanted_of ha hw]
    exact hK _ _ ((hk).out _ _ (ha.put hd ht undef) hs)
theorem L_know {j : Nat} {want : Bool} {t : Tmp} {b : Bool} (_hg : o.guard = some (j, want)) (_ht : (ops[j]?).bind (·.dst) = some t) (hl : look E t = some (.bool b)) (h1 : b = true → L P N w0 ops (o :: rest) ((t, .bool true) :: E) H R)
    (h0 : b = false → L P N w0 ops (o :: rest) ((t, .bool false) :: E) H R) : L P N w0 ops (o :: rest) E H R := by
  refine ⟨fun a w ha hs => ?_⟩
  cases b with
  | true => exact (h1 rfl).out a w (ha.know hl) hs
  | false => exact (h0 rfl).out a w (ha.know hl) hs
theorem L_knowP {j : Nat} {want : Bool} {t : Tmp} {p : Prop} [Decidable p] (hg : o.guard = some (j, want)) (ht : (ops[j]?).bind (·.dst) = some t) (hl : look E t = some (.bool (decide p))) (h1 : p → L P N w0 ops (o :: rest) ((t, .bool true) :: E) H R)
    (h0 : ¬ p → L P N w0 ops (o :: rest) ((t, .bool false) :: E) H R) : L P N w0 ops (o :: rest) E H R := L_know hg ht hl (fun h => h1 (of_decide_eq_true h)) (fun h => h0 (of_decide_eq_false h))
theorem L_knowN {j : Nat} {want : Bool} {t : Tmp} {p : Prop} [Decidable p] (hg : o.guard = some (j, want)) (ht : (ops[j]?).bind (·.dst) = some t) (hl : look E t = some (.bool (!(decide p)))) (h1 : ¬ p → L P N w0 ops (o :: rest) ((t, .bool true) :: E) H R)
    (h0 : p → L P N w0 ops (o :: rest) ((t, .bool false) :: E) H R) : L P N w0 ops (o :: rest) E H R := L_know hg ht hl (fun h => h1 (by simpa using h)) (fun h => h0 (by simpa using h))
theorem L_knowB {j : Nat} {want : Bool} {t : Tmp} {c : Bool} (hg : o.guard = some (j, want)) (ht : (ops[j]?).bind (·.dst) = some t) (hl : look E t = some (.bool (!c))) (h1 : c = false → L P N w0 ops (o :: rest) ((t, .bool true) :: E) H R)
    (h0 : c = true → L P N w0 ops (o :: rest) ((t, .bool false) :: E) H R) : L P N w0 ops (o :: rest) E H R := L_know hg ht hl (fun h => h1 (by simpa using h)) (fun h => h0 (by simpa using h))
/-- An operation that turns the blocks. -/
theorem L_eff {t : Tmp} {S : Value → HL → Prop} (hw : wantE ops E o = some true) (hd : o.dst = some t) (ht : Nat.blt t N = true)
    (hr : ∀ a w, Holds N E a → Sat w0 H w → ∃ v w' H', (execOp a.eval o).run P w = .ok (.value v) w' ∧ Sat w0 H' w' ∧ S v H')
    (hk : ∀ v H', S v H' → L P N w0 ops rest ((t, v) :: E) H' R) : L P N w0 ops (o :: rest) E H R := by
  refine ⟨fun a w ha hs => ?_⟩
  refine wpList_step fun K hK => ?_
  rw [if_pos (wanted_of ha hw)]
  obtain ⟨v, w', H', e, h1, h2⟩ := hr a w ha hs
  unfold Oper.wp
  rw [e]
  exact hK _ _ ((hk v H' h2).out _ _ (ha.put hd ht v) h1)
theorem L_effU (hw : wantE ops E o = some true) (hd : o.dst = none)
    (hr : ∀ a w, Holds N E a → Sat w0 H w → ∃ w', (execOp a.eval o).run P w = .ok .skip w' ∧ Sat w0 H' w')
    (hk : L P N w0 ops rest E H' R) : L P N w0 ops (o :: rest) E H R := ⟨fun a w ha hs => by
  refine wpList_step fun K hK => ?_
  rw [if_pos (wanted_of ha hw)]
  obtain ⟨w', e, h1⟩ := hr a w ha hs
  unfold Oper.wp
  rw [e]
  refine hK _ _ (hk.out _ _ ?_ h1)
  rw [hd]; exact ha⟩
theorem run_call {f : FuncId} {fn : Func} {args : Array Value} (hf : P.funcs[f]? = some fn) (hn : (fn.name == "runtime.NumGoroutine") = false) (hb : fn.body.isSome = true) (w : World) :
    (callFunc f args).run P w = .ok (.enter f args) w := by
  have hb' : fn.body.isNone = false := by cases h : fn.body <;> simp_all
  unfold callFunc
  simp only [program, Bind.bind, Sem.bind, Sem.run, hf, hn, hb', pure, if_false, Bool.false_eq_true]
theorem run_callop {a : Act} {f : FuncId} {as : Array Operand} {ts : Array TypeId} {args : List Value} {x : Operand} {first captured : Array Value} {w : World}
    (ho : o.op = .call { callee := .value x, args := as, argTypes := ts }) (hx : a.eval x = .func (.func f) first captured) (ha : as.toList.map a.eval = args)
    (hc : ∃ fn, P.funcs[f]? = some fn ∧ (fn.name == "runtime.NumGoroutine") = false ∧ fn.body.isSome = true) :
    (execOp a.eval o).run P w = .ok (.enter f (first ++ args.toArray ++ captured)) w := by
  obtain ⟨fn, h1, h2, h3⟩ := hc
  have e : as.map a.eval = args.toArray := by rw [← ha, ← Array.toList_map, Array.toArray_toList]
  have hr := run_call (P := P) h1 h2 h3 (args := first ++ args.toArray ++ captured) w
  have he : execOp a.eval o = callFunc f (first ++ args.toArray ++ captured) := by
    unfold execOp
    rw [ho]
    simp only [resolve, Deferred.ofValue, hx]
    show (callFunc f (first ++ as.map a.eval ++ captured)) = _
    rw [e]
  rw [he]; exact hr
theorem L_call {t : Tmp} {f : FuncId} {as : Array Operand} {ts : Array TypeId} {args : List Value} {S : Value → HL → Prop} (hw : wantE ops E o = some true) (hd : o.dst = some t) (ht : Nat.blt t N = true)
    (ho : o.op = .call { callee := .value (.func f), args := as, argTypes := ts }) (ha : evs E as.toList = some args) (hf : Fn P w0 f args.toArray H S)
    (hk : ∀ v H', S v H' → L P N w0 ops rest ((t, v) :: E) H' R) : L P N w0 ops (o :: rest) E H R := by
  refine ⟨fun a w hh hs => ?_⟩
  refine wpList_step fun K hK => ?_
  rw [if_pos (wanted_of hh hw)]
  unfold Oper.wp
  rw [run_callop (x := .func f) (first := #[]) (captured := #[]) ho rfl (hh.evals ha) hf.is_]
  simp only [Array.empty_append, Array.append_empty]
  rw [Oper.upon_enter]
  refine (hf.out w hs).mono ?_
  rintro e w' ⟨v, H', rfl, h1, h2⟩
  exact hK _ _ ((hk v H' h2).out _ _ (hh.put hd ht v) h1)
theorem L_call0 {f : FuncId} {as : Array Operand} {ts : Array TypeId} {args : List Value} {S : Value → HL → Prop} (hw : wantE ops E o = some true) (hd : o.dst = none)
    (ho : o.op = .call { callee := .value (.func f), args := as, argTypes := ts }) (ha : evs E as.toList = some args) (hf : Fn P w0 f args.toArray H S)
    (hk : ∀ v H', S v H' → L P N w0 ops rest E H' R) : L P N w0 ops (o :: rest) E H R := by
  refine ⟨fun a w hh hs => ?_⟩
  refine wpList_step fun K hK => ?_
  rw [if_pos (wanted_of hh hw)]
  unfold Oper.wp
  rw [run_callop (x := .func f) (first := #[]) (captured := #[]) ho rfl (hh.evals ha) hf.is_]
  simp only [Array.empty_append, Array.append_empty]
  rw [Oper.upon_enter]
  refine (hf.out w hs).mono ?_
  rintro e w' ⟨v, H', rfl, h1, h2⟩
  exact hK _ _ ((hk v H' h2).out _ _ (by rw [hd]; exact hh) h1)
theorem L_callv {t' : Tmp} {f : FuncId} {as : Array Operand} {ts : Array TypeId} {t : Tmp} {first captured : Array Value} {args : List Value} {S : Value → HL → Prop} (hw : wantE ops E o = some true) (hd : o.dst = some t') (ht : Nat.blt t' N = true)
    (ho : o.op = .call { callee := .value (.tmp t), args := as, argTypes := ts }) (hx : look E t = some (.func (.func f) first captured)) (ha : evs E as.toList = some args) (hf : Fn P w0 f (first ++ args.toArray ++ captured) H S)
    (hk : ∀ v H', S v H' → L P N w0 ops rest ((t', v) :: E) H' R) : L P N w0 ops (o :: rest) E H R := by
  refine ⟨fun a w hh hs => ?_⟩
  refine wpList_step fun K hK => ?_
  rw [if_pos (wanted_of hh hw)]
  unfold Oper.wp
  rw [run_callop (x := .tmp t) (first := first) (captured := captured) ho (hh.eval (x := .tmp t) hx) (hh.evals ha) hf.is_]
  rw [Oper.upon_enter]
  refine (hf.out w hs).mono ?_
  rintro e w' ⟨v, H', rfl, h1, h2⟩
  exact hK _ _ ((hk v H' h2).out _ _ (hh.put hd ht v) h1)
/-! ### a region that draws its order: reads and calls that leave the blocks as they are -/
structure QL (P : Program) (N : Nat) (w0 : World) (ops : Array Oper) (l : List Oper) (E : Env) (H : HL) (R : Post) : Prop where
  out : ∀ a, Holds N E a → wpQuiet P ops (Sat w0 H) (fun a' => ∀ w', Sat w0 H w' → lift N w0 R .normal a' w') l a
def quietB (l : List Oper) : Bool := l.all fun o => match o.op with
  | .store .. => false
  | .alloc _ => false
  | .box .. => false
  | .mapUpdate .. => false
  | .buildSlice .. => false
  | .makeSlice .. => false
  | .makeMap .. => false
  | _ => true
theorem W_regionQ {id : Nat} {l : List Oper} (_hq : quietB l = true) (hm : P.follows .mixedOrders = true) (hB : Region.lexB .any l.toArray = true) (h : QL P N w0 l.toArray l E H R) :
    W P N w0 (.region id l.toArray true) E H R := ⟨fun a w ha hs =>
  wp_region_quiet (C := Sat w0 H) hm hB hs.drew (by simpa using h.out a ha)⟩
theorem Q_nil {l : Array Oper} (h : R .normal E H) : QL P N w0 l [] E H R := ⟨fun a ha => wpQuiet_nil fun w' hs => ⟨E, H, ha, hs, h⟩⟩
theorem Q_val {t : Tmp} (hw : wantE ops E o = some true) (hd : o.dst = some t) (ht : Nat.blt t N = true) (hv : OpV P N w0 o E H v) (hk : QL P N w0 ops rest ((t, v) :: E) H R) : QL P N w0 ops (o :: rest) E H R := by
  refine ⟨fun a ha => ?_⟩
  refine wpQuiet_step fun K hK => ?_
  rw [if_pos (wanted_of ha hw)]
  refine ⟨v, fun w hs => ?_, hK _ ((hk).out _ (ha.put hd ht v))⟩
  unfold Oper.quietAt
  rw [hv.out a w ha hs]
  exact ⟨rfl, rfl⟩
theorem Q_skip {t : Tmp} (hw : wantE ops E o = some false) (hd : o.dst = some t) (ht : Nat.blt t N = true) (hk : QL P N w0 ops rest ((t, undef) :: E) H R) : QL P N w0 ops (o :: rest) E H R := by
  refine ⟨fun a ha => ?_⟩
  refine wpQuiet_step fun K hK => ?_
  rw [wanted_of ha hw]
  exact hK _ ((hk).out _ (ha.put hd ht undef))
theorem Q_know {j : Nat} {want : Bool} {t : Tmp} {b : Bool} (_hg : o.guard = some (j, want)) (_ht : (ops[j]?).bind (·.dst) = some t) (hl : look E t = some (.bool b)) (h1 : b = true → QL P N w0 ops (o :: rest) ((t, .bool true) :: E) H R)
    (h0 : b = false → QL P N w0 ops (o :: rest) ((t, .bool false) :: E) H R) : QL P N w0 ops (o :: rest) E H R := by
  refine ⟨fun a ha => ?_⟩
  cases b with
  | true => exact (h1 rfl).out a (ha.know hl)
  | false => exact (h0 rfl).out a (ha.know hl)
theorem Q_knowP {j : Nat} {want : Bool} {t : Tmp} {p : Prop} [Decidable p] (hg : o.guard = some (j, want)) (ht : (ops[j]?).bind (·.dst) = some t) (hl : look E t = some (.bool (decide p))) (h1 : p → QL P N w0 ops (o :: rest) ((t, .bool true) :: E) H R)
    (h0 : ¬ p → QL P N w0 ops (o :: rest) ((t, .bool false) :: E) H R) : QL P N w0 ops (o :: rest) E H R := Q_know hg ht hl (fun h => h1 (of_decide_eq_true h)) (fun h => h0 (of_decide_eq_false h))
theorem Q_knowN {j : Nat} {want : Bool} {t : Tmp} {p : Prop} [Decidable p] (hg : o.guard = some (j, want)) (ht : (ops[j]?).bind (·.dst) = some t) (hl : look E t = some (.bool (!(decide p)))) (h1 : ¬ p → QL P N w0 ops (o :: rest) ((t, .bool true) :: E) H R)
    (h0 : p → QL P N w0 ops (o :: rest) ((t, .bool false) :: E) H R) : QL P N w0 ops (o :: rest) E H R := Q_know hg ht hl (fun h => h1 (by simpa using h)) (fun h => h0 (by simpa using h))
theorem Q_knowB {j : Nat} {want : Bool} {t : Tmp} {c : Bool} (hg : o.guard = some (j, want)) (ht : (ops[j]?).bind (·.dst) = some t) (hl : look E t = some (.bool (!c))) (h1 : c = false → QL P N w0 ops (o :: rest) ((t, .bool true) :: E) H R)
    (h0 : c = true → QL P N w0 ops (o :: rest) ((t, .bool false) :: E) H R) : QL P N w0 ops (o :: rest) E H R := Q_know hg ht hl (fun h => h1 (by simpa using h)) (fun h => h0 (by simpa using h))
theorem Q_call {t : Tmp} {f : FuncId} {as : Array Operand} {ts : Array TypeId} {args : List Value} (hw : wantE ops E o = some true) (hd : o.dst = some t) (ht : Nat.blt t N = true)
    (ho : o.op = .call { callee := .value (.func f), args := as, argTypes := ts }) (ha : evs E as.toList = some args) (hf : Fn P w0 f args.toArray H (fun u H' => u = v ∧ H' = H))
    (hk : QL P N w0 ops rest ((t, v) :: E) H R) : QL P N w0 ops (o :: rest) E H R := by
  refine ⟨fun a hh => ?_⟩
  refine wpQuiet_step fun K hK => ?_
  rw [if_pos (wanted_of hh hw)]
  refine ⟨v, fun w hs => ?_, hK _ ((hk).out _ (hh.put hd ht v))⟩
  unfold Oper.quietAt
  rw [run_callop (x := .func f) (first := #[]) (captured := #[]) ho rfl (hh.evals ha) hf.is_]
  simp only [Array.empty_append, Array.append_empty]
  refine ⟨rfl, (hf.out w hs).mono ?_⟩
  rintro e w' ⟨u, H', rfl, h1, rfl, rfl⟩
  exact ⟨rfl, h1⟩
end
end Go.Proofs.YtfmhlieaodbgiaaGreat.Eng
namespace Go.Proofs.YtfmhlieaodbgiaaGreat.Eng
open Go Go.RowKit Go.Proofs.YtfmhlieaodbgiaaGreat.Sl
set_option linter.unusedVariables false
set_option linter.unusedSimpArgs false

/-! ### types, as the operations ask of them -/
def aggD : TypeDesc → Bool
  | .struct _ => true
  | .array _ _ => true
  | _ => false
class TInt (P : Program) (T : TypeId) (k : outParam IntKind) : Prop where
  out : P.underlying T = some (.int k)
class TOne (P : Program) (T : TypeId) : Prop where
  agg : ∃ d, P.underlying T = some d ∧ aggD d = false
  size : (P.info? T).map (·.size) = some 1
class TAgg (P : Program) (T : TypeId) (n : outParam Nat) : Prop where
  agg : ∃ d, P.underlying T = some d ∧ aggD d = true
  size : (P.info? T).map (·.size) = some n
class TSlice (P : Program) (T : TypeId) (e : outParam TypeId) (n : outParam Nat) : Prop where
  out : P.underlying T = some (.slice e)
  size : (P.info? e).map (·.size) = some n
/-- field i of a struct: its cells begin at off; one cell -/
class TField (P : Program) (T : TypeId) (i : Nat) (off : outParam Nat) : Prop where
  out : ∃ fs f d, P.underlying T = some (.struct fs) ∧ fs[i]? = some f ∧ f.offset = off ∧ P.underlying f.type = some d ∧ aggD d = false ∧ (P.info? f.type).map (·.size) = some 1
/-- a field of several cells -/
class TFieldN (P : Program) (T : TypeId) (i : Nat) (off n : outParam Nat) : Prop where
  out : ∃ fs f d, P.underlying T = some (.struct fs) ∧ fs[i]? = some f ∧ f.offset = off ∧ P.underlying f.type = some d ∧ aggD d = true ∧ (P.info? f.type).map (·.size) = some n ∧ n ≠ 0
class TMap (P : Program) (T : TypeId) (K E : outParam TypeId) : Prop where
  out : P.underlying T = some (.map K E)
class TStr (P : Program) (T : TypeId) : Prop where
  out : P.underlying T = some .string
class TBool (P : Program) (T : TypeId) : Prop where
  out : P.underlying T = some .bool
section
variable {P : Program}
def fieldB (P : Program) (T : TypeId) (i off n : Nat) (b : Bool) : Bool :=
  match P.underlying T with
  | some (.struct fs) => match fs[i]? with
    | some f => (f.offset == off) && (match P.underlying f.type with | some d => aggD d == b | none => false) && ((P.info? f.type).map (·.size) == some n)
    | none => false
  | _ => false
theorem field_any {T : TypeId} {i off n : Nat} {b : Bool} (h : fieldB P T i off n b = true) :
    ∃ fs f d, P.underlying T = some (.struct fs) ∧ fs[i]? = some f ∧ f.offset = off ∧ P.underlying f.type = some d ∧ aggD d = b ∧ (P.info? f.type).map (·.size) = some n := by
  unfold fieldB at h
  split at h
  · rename_i fs hu
    split at h
    · rename_i f hf
      simp only [Bool.and_eq_true] at h
      obtain ⟨⟨h1, h2⟩, h3⟩ := h
      split at h2
      · rename_i d hd
        exact ⟨fs, f, d, hu, hf, by simpa using h1, hd, by simpa using h2, by simpa using h3⟩
      · simp at h2
    · simp at h
  · simp at h
theorem field_of {T : TypeId} {i off : Nat} (h : fieldB P T i off 1 false = true) :
    ∃ fs f d, P.underlying T = some (.struct fs) ∧ fs[i]? = some f ∧ f.offset = off ∧ P.underlying f.type = some d ∧ aggD d = false ∧ (P.info? f.type).map (·.size) = some 1 := field_any h
theorem fieldN_of {T : TypeId} {i off n : Nat} (h : (fieldB P T i off n true && !(n == 0)) = true) :
    ∃ fs f d, P.underlying T = some (.struct fs) ∧ fs[i]? = some f ∧ f.offset = off ∧ P.underlying f.type = some d ∧ aggD d = true ∧ (P.info? f.type).map (·.size) = some n ∧ n ≠ 0 := by
  simp only [Bool.and_eq_true] at h
  obtain ⟨fs, f, d, h1, h2, h3, h4, h5, h6⟩ := field_any h.1
  exact ⟨fs, f, d, h1, h2, h3, h4, h5, h6, by simpa using h.2⟩
def aggB (P : Program) (T : TypeId) (b : Bool) : Bool := match P.underlying T with
  | some d => aggD d == b
  | none => false
theorem aggB_of {T : TypeId} {b : Bool} (h : aggB P T b = true) : ∃ d, P.underlying T = some d ∧ aggD d = b := by
  unfold aggB at h
  split at h
  · rename_i d hd; exact ⟨d, hd, by simpa using h⟩
  · simp at h
theorem agg_of {T : TypeId} (h : aggB P T true = true) : ∃ d, P.underlying T = some d ∧ aggD d = true := aggB_of h
theorem one_of {T : TypeId} (h : aggB P T false = true) : ∃ d, P.underlying T = some d ∧ aggD d = false := aggB_of h
theorem run_isAgg {T : TypeId} {d : TypeDesc} {b : Bool} (h : P.underlying T = some d) (hd : aggD d = b) (w : World) : (isAgg T).run P w = .ok b w := by
  unfold isAgg
  rw [Sem.run_bind, run_underlying h w]
  cases d <;> simp_all [aggD]
theorem run_sizeOf {T : TypeId} {n : Nat} (h : (P.info? T).map (·.size) = some n) (w : World) : (sizeOf T).run P w = .ok n w := by
  cases hq : P.info? T with
  | none => simp [hq] at h
  | some i =>
    have : i.size = n := by simpa [hq] using h
    simp [sizeOf, typeInfo, hq, this]
theorem run_v {s : Sem Value} {v : Value} {w w' : World} (h : s.run P w = .ok v w') : ((do pure (Next.value (← s))) : Sem Next).run P w = .ok (.value v) w' := by
  simp [h]
theorem run_u {s : Sem Unit} {w w' : World} (h : s.run P w = .ok () w') : ((do s; pure Next.skip) : Sem Next).run P w = .ok .skip w' := by
  simp [h]
theorem add_none (b o i : Nat) : (⟨b, o, none⟩ : Addr).add i = ⟨b, o + i, none⟩ := by unfold Addr.add; split <;> simp_all
end
section
variable {P : Program} {N : Nat} {w0 : World} {E : Env} {H H' : HL} {o : Oper} {x y z : Operand} {T T2 : TypeId} {v vx vy : Value} {k : IntKind} {a b : Int}
theorem ov_move (ho : o.op = .move x) (hx : ev E x = some v) : OpV P N w0 o E H v := by
  refine ⟨fun a w ha hs => ?_⟩
  unfold execOp; rw [ho]; simp [ha.eval hx]
theorem ov_assign (ho : o.op = .assign x) (hx : ev E x = some v) : OpV P N w0 o E H v := by
  refine ⟨fun a w ha hs => ?_⟩
  unfold execOp; rw [ho]; simp [ha.eval hx]
theorem ov_pick1 (ho : o.op = .pick x y z) (hx : ev E x = some (.bool true)) (hy : ev E y = some v) : OpV P N w0 o E H v := by
  refine ⟨fun a w ha hs => ?_⟩
  unfold execOp; rw [ho]; simp [ha.eval hx, ha.eval hy, asBool]
theorem ov_pick0 (ho : o.op = .pick x y z) (hx : ev E x = some (.bool false)) (hz : ev E z = some v) : OpV P N w0 o E H v := by
  refine ⟨fun a w ha hs => ?_⟩
  unfold execOp; rw [ho]; simp [ha.eval hx, ha.eval hz, asBool]
theorem ov_bin {op : BinOp} (ho : o.op = .binOp op T x y T2) (hx : ev E x = some vx) (hy : ev E y = some vy)
    (hr : ∀ w, ((do eqGuard op T x y vx vy; binOp op T vx vy) : Sem Value).run P w = .ok v w) : OpV P N w0 o E H v := by
  refine ⟨fun a w ha hs => ?_⟩
  unfold execOp; rw [ho]
  refine run_v ?_
  rw [ha.eval hx, ha.eval hy]
  exact hr w
theorem ov_lt (ho : o.op = .binOp .lss T x y T2) (hx : ev E x = some (.int k a)) (hy : ev E y = some (.int k b)) : OpV P N w0 o E H (.bool (decide (a < b))) := ov_bin ho hx hy fun w => by simp [eqGuard, binOp, Op.intCmp]
theorem ov_le (ho : o.op = .binOp .leq T x y T2) (hx : ev E x = some (.int k a)) (hy : ev E y = some (.int k b)) : OpV P N w0 o E H (.bool (decide (a ≤ b))) := ov_bin ho hx hy fun w => by simp [eqGuard, binOp, Op.intCmp]
theorem ov_gt (ho : o.op = .binOp .gtr T x y T2) (hx : ev E x = some (.int k a)) (hy : ev E y = some (.int k b)) : OpV P N w0 o E H (.bool (decide (b < a))) := ov_bin ho hx hy fun w => by simp [eqGuard, binOp, Op.intCmp]
theorem ov_ge (ho : o.op = .binOp .geq T x y T2) (hx : ev E x = some (.int k a)) (hy : ev E y = some (.int k b)) : OpV P N w0 o E H (.bool (decide (b ≤ a))) := ov_bin ho hx hy fun w => by simp [eqGuard, binOp, Op.intCmp]
theorem ov_eq (ho : o.op = .binOp .eql T x y T2) (hx : ev E x = some (.int k a)) (hy : ev E y = some (.int k b)) : OpV P N w0 o E H (.bool (decide (a = b))) := ov_bin ho hx hy fun w => by
  simp [eqGuard, binOp, Op.intCmp]; rfl
theorem ov_ne (ho : o.op = .binOp .neq T x y T2) (hx : ev E x = some (.int k a)) (hy : ev E y = some (.int k b)) : OpV P N w0 o E H (.bool (!(decide (a = b)))) := ov_bin ho hx hy fun w => by
  simp [eqGuard, binOp, Op.intCmp]; rfl
theorem ov_eqs {s t : ByteArray} (ho : o.op = .binOp .eql T x y T2) (hx : ev E x = some (.string s)) (hy : ev E y = some (.string t)) : OpV P N w0 o E H (.bool (decide (s.toList = t.toList))) := ov_bin ho hx hy fun w => by
  simp [eqGuard, binOp, Op.stringOp]; exact Bool.eq_iff_iff.2 (by simp)
theorem ov_nes {s t : ByteArray} (ho : o.op = .binOp .neq T x y T2) (hx : ev E x = some (.string s)) (hy : ev E y = some (.string t)) : OpV P N w0 o E H (.bool (!(decide (s.toList = t.toList)))) := ov_bin ho hx hy fun w => by
  simp [eqGuard, binOp, Op.stringOp]; exact Bool.eq_iff_iff.2 (by simp)
theorem run_eqb [TBool P T] (c d : Bool) (w : World) : (Op.equal T (.bool c) (.bool d)).run P w = .ok (c == d) w := by
  have : Op.maxDepth = 9999 + 1 := rfl
  unfold Op.equal
  rw [this]
  unfold Op.equalIn
  simp [run_underlying (TBool.out (P := P) (T := T))]
theorem ov_neb [TBool P T] {c d : Bool} (ho : o.op = .binOp .neq T x y T2) (hx : ev E x = some (.bool c)) (hy : ev E y = some (.bool d)) : OpV P N w0 o E H (.bool (c != d)) := ov_bin ho hx hy fun w => by
  show ((do pure ⟨⟩; do pure (.bool (!(← Op.equal T (.bool c) (.bool d)))) : Sem Value)).run P w = _
  simp only [Sem.run_bind, Sem.run_pure, Result.andThen_ok, run_eqb]; rfl
theorem ov_eqb [TBool P T] {c d : Bool} (ho : o.op = .binOp .eql T x y T2) (hx : ev E x = some (.bool c)) (hy : ev E y = some (.bool d)) : OpV P N w0 o E H (.bool (c == d)) := ov_bin ho hx hy fun w => by
  show ((do pure ⟨⟩; do pure (.bool (← Op.equal T (.bool c) (.bool d))) : Sem Value)).run P w = _
  simp only [Sem.run_bind, Sem.run_pure, Result.andThen_ok, run_eqb]
theorem ov_add (ho : o.op = .binOp .add T x y T2) (hx : ev E x = some (.int .i64 a)) (hy : ev E y = some (.int .i64 b)) (h : -9223372036854775808 ≤ a + b ∧ a + b ≤ 9223372036854775807) : OpV P N w0 o E H (.int .i64 (a + b)) :=
  ov_bin ho hx hy fun w => by simp [eqGuard, binOp, Op.intArith, IntWalk.i64_in _ h]
theorem ov_sub (ho : o.op = .binOp .sub T x y T2) (hx : ev E x = some (.int .i64 a)) (hy : ev E y = some (.int .i64 b)) (h : -9223372036854775808 ≤ a - b ∧ a - b ≤ 9223372036854775807) : OpV P N w0 o E H (.int .i64 (a - b)) :=
  ov_bin ho hx hy fun w => by simp [eqGuard, binOp, Op.intArith, IntWalk.i64_in _ h]
theorem ov_mul (ho : o.op = .binOp .mul T x y T2) (hx : ev E x = some (.int .i64 a)) (hy : ev E y = some (.int .i64 b)) (h : -9223372036854775808 ≤ a * b ∧ a * b ≤ 9223372036854775807) : OpV P N w0 o E H (.int .i64 (a * b)) :=
  ov_bin ho hx hy fun w => by simp [eqGuard, binOp, Op.intArith, IntWalk.i64_in _ h]
theorem ov_addw (ho : o.op = .binOp .add T x y T2) (hx : ev E x = some (.int k a)) (hy : ev E y = some (.int k b)) : OpV P N w0 o E H (.int k (k.wrap (a + b))) :=
  ov_bin ho hx hy fun w => by simp [eqGuard, binOp, Op.intArith]
theorem ov_mulw (ho : o.op = .binOp .mul T x y T2) (hx : ev E x = some (.int k a)) (hy : ev E y = some (.int k b)) : OpV P N w0 o E H (.int k (k.wrap (a * b))) :=
  ov_bin ho hx hy fun w => by simp [eqGuard, binOp, Op.intArith]
theorem ov_quo (ho : o.op = .binOp .quo T x y T2) (hx : ev E x = some (.int .i64 a)) (hy : ev E y = some (.int .i64 b)) (h0 : 0 ≤ a ∧ a ≤ 9223372036854775807) (hb : 0 < b) : OpV P N w0 o E H (.int .i64 (a / b)) :=
  ov_bin ho hx hy fun w => by
    have hle : a / b ≤ a := Int.ediv_le_self _ h0.1
    have hge : 0 ≤ a / b := Int.ediv_nonneg h0.1 (Int.le_of_lt hb)
    have hne : b ≠ 0 := by omega
    simp [eqGuard, binOp, Op.intDiv, hne, Int.tdiv_eq_ediv_of_nonneg h0.1, IntWalk.i64_in (a / b) ⟨by omega, by omega⟩]
theorem ov_rem (ho : o.op = .binOp .rem T x y T2) (hx : ev E x = some (.int k a)) (hy : ev E y = some (.int k b)) (h0 : 0 ≤ a) (hb : 0 < b) : OpV P N w0 o E H (.int k (a % b)) :=
  ov_bin ho hx hy fun w => by
    have hne : b ≠ 0 := by omega
    simp [eqGuard, binOp, Op.intDiv, hne, Int.tmod_eq_emod_of_nonneg h0]
theorem ov_shr (ho : o.op = .binOp .shr T x y T2) {k2 : IntKind} (hx : ev E x = some (.int k a)) (hy : ev E y = some (.int k2 b)) (hb : 0 ≤ b) (hb2 : b ≤ k.bits) : OpV P N w0 o E H (.int k (a / 2 ^ b.toNat)) :=
  ov_bin ho hx hy fun w => by
    have hn : ¬ b < 0 := by omega
    have hm : min b.toNat k.bits = b.toNat := Nat.min_eq_left (by omega)
    have hp : (0 : Int) ≤ 2 ^ b.toNat := Int.le_of_lt (Int.pow_pos (by omega))
    simp [eqGuard, binOp, Op.shift, hn, hm, Int.fdiv_eq_ediv_of_nonneg _ hp]
theorem ov_shl (ho : o.op = .binOp .shl T x y T2) {k2 : IntKind} (hx : ev E x = some (.int k a)) (hy : ev E y = some (.int k2 b)) (hb : 0 ≤ b) (hb2 : b ≤ k.bits) : OpV P N w0 o E H (.int k (k.wrap (a * 2 ^ b.toNat))) :=
  ov_bin ho hx hy fun w => by
    have hn : ¬ b < 0 := by omega
    have hm : min b.toNat k.bits = b.toNat := Nat.min_eq_left (by omega)
    simp [eqGuard, binOp, Op.shift, hn, hm]
theorem ov_and (ho : o.op = .binOp .and T x y T2) (hx : ev E x = some (.int k a)) (hy : ev E y = some (.int k b)) : OpV P N w0 o E H (.int k (bits .and k a b)) :=
  ov_bin ho hx hy fun w => by simp [eqGuard, binOp, Op.intBits, bits]
theorem ov_or (ho : o.op = .binOp .or T x y T2) (hx : ev E x = some (.int k a)) (hy : ev E y = some (.int k b)) : OpV P N w0 o E H (.int k (bits .or k a b)) :=
  ov_bin ho hx hy fun w => by simp [eqGuard, binOp, Op.intBits, bits]
theorem ov_andNot (ho : o.op = .binOp .andNot T x y T2) (hx : ev E x = some (.int k a)) (hy : ev E y = some (.int k b)) : OpV P N w0 o E H (.int k (bits .andNot k a b)) :=
  ov_bin ho hx hy fun w => by simp [eqGuard, binOp, Op.intBits, bits]
theorem ov_not {c : Bool} (ho : o.op = .unOp .not T x) (hx : ev E x = some (.bool c)) : OpV P N w0 o E H (.bool (!c)) := by
  refine ⟨fun a w ha hs => ?_⟩
  unfold execOp; rw [ho]; refine run_v ?_; rw [ha.eval hx]; simp [Op.unary]
theorem ov_conv {k' : IntKind} [TInt P T2 k'] [TInt P T k] (ho : o.op = .convert T T2 x) (hx : ev E x = some (.int k a)) : OpV P N w0 o E H (.int k' (k'.wrap a)) := by
  refine ⟨fun a w ha hs => ?_⟩
  unfold execOp; rw [ho]; refine run_v ?_; rw [ha.eval hx]
  simp [convert, run_underlying (TInt.out (P := P) (T := T)), run_underlying (TInt.out (P := P) (T := T2)), Conv.intToInt]
theorem ov_convi [TInt P T2 .i64] [TInt P T k] (ho : o.op = .convert T T2 x) (hx : ev E x = some (.int k a)) (h : -9223372036854775808 ≤ a ∧ a ≤ 9223372036854775807) : OpV P N w0 o E H (.int .i64 a) := by
  have := ov_conv (P := P) (N := N) (w0 := w0) (E := E) (H := H) ho hx
  rwa [IntWalk.i64_in _ h] at this
theorem exec_builtin {b : Builtin} {xs : Array Operand} {ats : Array TypeId} (ρ : Operand → Value) (ho : o.op = .call { callee := .builtin b, args := xs, argTypes := ats }) :
    execOp ρ o = builtin b ats o.type (xs.map fun | .const _ => true | _ => false) (xs.map ρ) := by
  cases o
  cases ho
  rfl
theorem ov_len {e : TypeId} {n : Nat} [TSlice P T e n] {l m : Nat} {b : Option Addr} (ho : o.op = .call { callee := .builtin .len, args := #[x], argTypes := #[T] }) (hx : ev E x = some (.slice b l m)) :
    OpV P N w0 o E H (.int .i64 (l : Int)) := by
  refine ⟨fun a w ha hs => ?_⟩
  rw [exec_builtin _ ho]
  refine run_v ?_
  have e : a.eval x = .slice b l m := ha.eval hx
  simp [Builtin.len_, run_underlying (TSlice.out (P := P) (T := T)), e, goInt]
theorem ov_lens [TStr P T] {s : ByteArray} (ho : o.op = .call { callee := .builtin .len, args := #[x], argTypes := #[T] }) (hx : ev E x = some (.string s)) :
    OpV P N w0 o E H (.int .i64 (s.size : Int)) := by
  refine ⟨fun a w ha hs => ?_⟩
  rw [exec_builtin _ ho]
  refine run_v ?_
  have e : a.eval x = .string s := ha.eval hx
  simp [Builtin.len_, run_underlying (TStr.out (P := P) (T := T)), e, goInt]
theorem ov_extract {i : Nat} {vs : Array Value} (ho : o.op = .extract x i) (hx : ev E x = some (.tuple vs)) (hv : vs.toList[i]? = some v) : OpV P N w0 o E H v := by
  refine ⟨fun a w ha hs => ?_⟩
  rw [Array.getElem?_toList] at hv
  unfold execOp; rw [ho]; refine run_v ?_; rw [ha.eval hx]; simp [Instr.extract, hv]
theorem ov_field {i off : Nat} [TField P T i off] {cs : Array Value} (ho : o.op = .field T x i) (hx : ev E x = some (.agg cs)) (hv : cs.toList[off]? = some v) : OpV P N w0 o E H v := by
  refine ⟨fun a w ha hs => ?_⟩
  rw [Array.getElem?_toList] at hv
  obtain ⟨fs, f, d, h1, h2, h3, h4, h5, h6⟩ := TField.out (P := P) (T := T) (i := i) (off := off)
  unfold execOp; rw [ho]; refine run_v ?_; rw [ha.eval hx]
  simp [Instr.field, run_underlying h1, h2, asAgg, part, run_isAgg h4 h5, h3, hv]
theorem ov_fieldN {i off n : Nat} [TFieldN P T i off n] {cs : Array Value} (ho : o.op = .field T x i) (hx : ev E x = some (.agg cs)) : OpV P N w0 o E H (.agg (cs.extract off (off + n))) := by
  refine ⟨fun a w ha hs => ?_⟩
  obtain ⟨fs, f, d, h1, h2, h3, h4, h5, h6, h7⟩ := TFieldN.out (P := P) (T := T) (i := i) (off := off) (n := n)
  unfold execOp; rw [ho]; refine run_v ?_; rw [ha.eval hx]
  simp [Instr.field, run_underlying h1, h2, asAgg, part, run_isAgg h4 h5, h3, run_sizeOf h6]
theorem ov_fieldAddr {i off : Nat} [TField P T i off] {b c : Nat} (ho : o.op = .fieldAddr T x i) (hx : ev E x = some (.pointer (some ⟨b, c, none⟩))) : OpV P N w0 o E H (.pointer (some ⟨b, c + off, none⟩)) := by
  refine ⟨fun a w ha hs => ?_⟩
  obtain ⟨fs, f, d, h1, h2, h3, h4, h5, h6⟩ := TField.out (P := P) (T := T) (i := i) (off := off)
  unfold execOp; rw [ho]; refine run_v ?_; rw [ha.eval hx]
  simp [Instr.fieldAt, run_underlying h1, h2, Instr.sureAddr, fieldPlace, run_sizeOf h6, h3, add_none]
theorem ov_fieldAddrN {i off n : Nat} [TFieldN P T i off n] {b c : Nat} (ho : o.op = .fieldAddr T x i) (hx : ev E x = some (.pointer (some ⟨b, c, none⟩))) : OpV P N w0 o E H (.pointer (some ⟨b, c + off, none⟩)) := by
  refine ⟨fun a w ha hs => ?_⟩
  obtain ⟨fs, f, d, h1, h2, h3, h4, h5, h6, h7⟩ := TFieldN.out (P := P) (T := T) (i := i) (off := off) (n := n)
  unfold execOp; rw [ho]; refine run_v ?_; rw [ha.eval hx]
  simp [Instr.fieldAt, run_underlying h1, h2, Instr.sureAddr, fieldPlace, run_sizeOf h6, h7, h3, add_none]
theorem ov_nil {p : Addr} (ho : o.op = .nilCheck x) (hx : ev E x = some (.pointer (some p))) : OpV P N w0 o E H (.pointer (some p)) := by
  refine ⟨fun a w ha hs => ?_⟩
  unfold execOp; rw [ho]; simp [ha.eval hx]
theorem ov_idx {e : TypeId} {n : Nat} [TSlice P T e n] {bk of l m : Nat} (ho : o.op = .indexAddr T x y) (hx : ev E x = some (.slice (some ⟨bk, of, none⟩) l m)) (hy : ev E y = some (.int k a)) (h : 0 ≤ a ∧ a < (l : Int)) :
    OpV P N w0 o E H (.pointer (some ⟨bk, of + a.toNat * n, none⟩)) := by
  refine ⟨fun A w ha hs => ?_⟩
  unfold execOp; rw [ho]; refine run_v ?_; rw [ha.eval hx, ha.eval hy]
  have h2 : 0 ≤ a ∧ a < (l : Int) := h
  simp [Instr.indexAt, run_underlying (TSlice.out (P := P) (T := T)), asIntOf, h2.1, h2.2, run_sizeOf (TSlice.size (P := P) (T := T)), add_none]
theorem ov_ld {bk i : Nat} {cs : Array Value} {t : TypeId} {fr : Nat × Nat} [TOne P T] (ho : o.op = .load T x) (hx : ev E x = some (.pointer (some ⟨bk, i, none⟩))) (hA : At H bk (.cells cs t fr)) (hv : cs.toList[i]? = some v) : OpV P N w0 o E H v := by
  refine ⟨fun A w ha hs => ?_⟩
  rw [Array.getElem?_toList] at hv
  obtain ⟨d, h1, h2⟩ := TOne.agg (P := P) (T := T)
  unfold execOp; rw [ho]; refine run_v ?_; rw [ha.eval hx]
  have hc : w.cell? ⟨bk, i, none⟩ = some v := by rw [hs.cell hA]; exact hv
  simp [Instr.loadAt, Instr.sureAddr, loadVar, run_isAgg h1 h2, hc]
theorem run_loadCells_ext {bk i n : Nat} {cs : Array Value} {t : TypeId} {fr : Nat × Nat} {w : World} (hs : Sat w0 H w) (hA : At H bk (.cells cs t fr)) (hl : i + n ≤ cs.size) :
    (loadCells ⟨bk, i, none⟩ n).run P w = .ok (cs.extract i (i + n)) w := by
  have hlen : (cs.extract i (i + n)).toList.length = n := by simp; omega
  have := run_loadCells_list (P := P) w ⟨bk, i, none⟩ (cs.extract i (i + n)).toList (fun j v hj => by
    rw [add_none, hs.cell hA]
    have hj' : (cs.extract i (i + n))[j]? = some v := by rw [Array.getElem?_toList] at hj; exact hj
    rw [Array.getElem?_extract] at hj'
    split at hj'
    · exact hj'
    · simp at hj')
  rw [hlen, Array.toArray_toList] at this
  exact this
theorem ov_ldN {bk i n : Nat} {cs : Array Value} {t : TypeId} {fr : Nat × Nat} [TAgg P T n] (ho : o.op = .load T x) (hx : ev E x = some (.pointer (some ⟨bk, i, none⟩))) (hA : At H bk (.cells cs t fr)) (hl : i + n ≤ cs.size) :
    OpV P N w0 o E H (.agg ((cs.toList.drop i).take n).toArray) := by
  refine ⟨fun A w ha hs => ?_⟩
  obtain ⟨d, h1, h2⟩ := TAgg.agg (P := P) (T := T)
  have he : ((cs.toList.drop i).take n).toArray = cs.extract i (i + n) := by
    apply Array.toList_inj.1; simp
  rw [he]
  unfold execOp; rw [ho]; refine run_v ?_; rw [ha.eval hx]
  simp [Instr.loadAt, Instr.sureAddr, loadVar, run_isAgg h1 h2, run_sizeOf (TAgg.size (P := P) (T := T)), run_loadCells_ext hs hA hl]
theorem ov_build {parts : Array (Nat × Operand)} {vs : List Value} {cells : Array Value} (ho : o.op = .build T parts) (hp : evs E (parts.toList.map (·.2)) = some vs)
    (hb : P.built T (List.zip (parts.toList.map (·.1)) vs) = some cells) : OpV P N w0 o E H (.agg cells) := by
  refine ⟨fun A w ha hs => ?_⟩
  unfold execOp; rw [ho]; refine run_v (run_build w T _ cells ?_)
  have : (parts.map fun (i, x) => (i, A.eval x)).toList = List.zip (parts.toList.map (·.1)) vs := by
    rw [← ha.evals hp, Array.toList_map]
    generalize parts.toList = l
    induction l with
    | nil => rfl
    | cons p l ih => obtain ⟨i, x⟩ := p; simp only [List.map_cons, List.zip_cons_cons, ih]
  rw [this]; exact hb
theorem ov_func {fn : Go.Fn} {first cap : Array Operand} {vs us : List Value} (ho : o.op = .makeFunc fn first cap) (h1 : evs E first.toList = some vs) (h2 : evs E cap.toList = some us) : OpV P N w0 o E H (.func fn vs.toArray us.toArray) := by
  refine ⟨fun A w ha hs => ?_⟩
  unfold execOp; rw [ho]
  have e1 : first.map A.eval = vs.toArray := by rw [← ha.evals h1, ← Array.toList_map, Array.toArray_toList]
  have e2 : cap.map A.eval = us.toArray := by rw [← ha.evals h2, ← Array.toList_map, Array.toArray_toList]
  simp [Instr.makeFunc, e1, e2]
/-! ### operations that turn the blocks -/
variable {ops : Array Oper} {rest : List Oper} {R : Post}
theorem L_box {t : Tmp} (hw : wantE ops E o = some true) (hd : o.dst = some t) (ht : Nat.blt t N = true) (ho : o.op = .box T x) (hx : ev E x = some v)
    (hk : ∀ b, L P N w0 ops rest ((t, .pointer (some ⟨b, 0, none⟩)) :: E) ((b, .cells v.cells T (0, 0)) :: H) R) : L P N w0 ops (o :: rest) E H R :=
  L_eff (S := fun u H' => ∃ b, u = .pointer (some ⟨b, 0, none⟩) ∧ H' = (b, .cells v.cells T (0, 0)) :: H) hw hd ht (fun A w ha hs => by
    refine ⟨.pointer (some ⟨w.heap.size, 0, none⟩), w.alloc (.cells v.cells T (0, 0)), (w.heap.size, .cells v.cells T (0, 0)) :: H, ?_, hs.alloc _, _, rfl, rfl⟩
    unfold execOp; rw [ho]; refine run_v ?_; rw [ha.eval hx]; rfl) (fun u H' ⟨b, e1, e2⟩ => by subst e1; subst e2; exact hk b)
theorem L_st {bk i : Nat} {cs : Array Value} {t : TypeId} [TOne P T] (hw : wantE ops E o = some true) (hd : o.dst = none) (ho : o.op = .store T x y) (hx : ev E x = some (.pointer (some ⟨bk, i, none⟩))) (hy : ev E y = some v)
    (h1 : v.oneCell' = true) (hU : Up H bk (.cells cs t (0, 0)) (.cells (cs.setIfInBounds i v) t (0, 0)) H') (hi : i < cs.size)
    (hk : L P N w0 ops rest E H' R) : L P N w0 ops (o :: rest) E H R :=
  L_effU hw hd (fun A w ha hs => by
    refine ⟨w.setCell ⟨bk, i, none⟩ v, ?_, hs.setCell hU⟩
    have hc : w.cell? ⟨bk, i, none⟩ = some cs[i] := by rw [hs.cell hU.at]; simp [hi]
    have hf : w.frozen? ⟨bk, i, none⟩ = false := by simp [World.frozen?, hs.block hU.at]
    have hcs : v.cells = #[v] := by cases v <;> first | rfl | simp [Value.oneCell'] at h1
    have h0 : (⟨bk, i, none⟩ : Addr).add 0 = ⟨bk, i, none⟩ := by simp [Addr.add]
    unfold execOp; rw [ho]; refine run_u ?_; rw [ha.eval hx, ha.eval hy]
    simp [Instr.storeAt, Instr.sureAddr, storeVar, hcs, run_sizeOf (TOne.size (P := P) (T := T)), storeCells, h0, run_store P w _ v _ h1, hc, hf]) hk
/-- several cells at once -/
def putAt (cs : Array Value) : Nat → List Value → Array Value
  | _, [] => cs
  | i, v :: vs => putAt (cs.setIfInBounds i v) (i + 1) vs
theorem size_putAt (vs : List Value) : ∀ (cs : Array Value) (i : Nat), (putAt cs i vs).size = cs.size := by
  induction vs with
  | nil => intros; rfl
  | cons v vs ih => intro cs i; simp [putAt, ih]
theorem up_self {H H' : HL} {b : Nat} {o o' : Obj} (u : Up H b o o' H') (e : o = o') : H' = H := by
  induction u with
  | here => subst e; rfl
  | there _ ih => rw [ih e]
theorem run_storeCells_putAt {bk : Nat} {t : TypeId} (vs : List Value) : ∀ (j : Nat) (i : Nat) (cs : Array Value) (w : World) (H H' : HL), Sat w0 H w → Up H bk (.cells cs t (0, 0)) (.cells (putAt cs (i + j) vs) t (0, 0)) H' → i + j + vs.length ≤ cs.size →
    (∀ v ∈ vs, v.oneCell' = true) → ∃ w', (storeCells ⟨bk, i, none⟩ vs j).run P w = .ok () w' ∧ Sat w0 H' w' := by
  have twice : ∀ {H H' : HL} {b : Nat} {o o1 o2 : Obj}, Up H b o o2 H' → ∃ H1, Up H b o o1 H1 ∧ Up H1 b o1 o2 H' := by
    intro H H' b o o1 o2 u
    induction u with
    | here => exact ⟨_, .here, .here⟩
    | there _ ih => obtain ⟨H1, u1, u2⟩ := ih; exact ⟨_, .there u1, .there u2⟩
  induction vs with
  | nil =>
    intro j i cs w H H' hs hU _ _
    exact ⟨w, by simp [storeCells], by rw [up_self hU rfl]; exact hs⟩
  | cons v vs ih =>
    intro j i cs w H H' hs hU hl h1
    obtain ⟨H1, u1, u2⟩ := twice (o1 := .cells (cs.setIfInBounds (i + j) v) t (0, 0)) hU
    have hi : i + j < cs.size := by simp at hl; omega
    have hc : w.cell? ⟨bk, i + j, none⟩ = some cs[i + j] := by rw [hs.cell hU.at]; simp [hi]
    have hf : w.frozen? ⟨bk, i + j, none⟩ = false := by simp [World.frozen?, hs.block hU.at]
    obtain ⟨w', e, h2⟩ := ih (j + 1) i (cs.setIfInBounds (i + j) v) (w.setCell ⟨bk, i + j, none⟩ v) H1 H' (hs.setCell u1) u2 (by simp at hl ⊢; omega) (fun x hx => h1 x (by simp [hx]))
    refine ⟨w', ?_, h2⟩
    simp [storeCells, add_none, run_store P w _ v _ (h1 v (by simp)), hc, hf, e]
theorem L_stN {bk i n : Nat} {cs us : Array Value} {t : TypeId} [TAgg P T n] (hw : wantE ops E o = some true) (hd : o.dst = none) (ho : o.op = .store T x y) (hx : ev E x = some (.pointer (some ⟨bk, i, none⟩))) (hy : ev E y = some (.agg us))
    (hn : us.toList.length = n) (h1 : us.toList.all (·.oneCell') = true) (hU : Up H bk (.cells cs t (0, 0)) (.cells (putAt cs i us.toList) t (0, 0)) H') (hi : i + n ≤ cs.size)
    (hk : L P N w0 ops rest E H' R) : L P N w0 ops (o :: rest) E H R :=
  L_effU hw hd (fun A w ha hs => by
    obtain ⟨w', e, h2⟩ := run_storeCells_putAt (P := P) us.toList 0 i cs w H H' hs hU (by omega) (fun v hv => List.all_eq_true.1 h1 v hv)
    have hn' : us.size = n := by simpa using hn
    refine ⟨w', ?_, h2⟩
    unfold execOp; rw [ho]; refine run_u ?_; rw [ha.eval hx, ha.eval hy]
    simp [Instr.storeAt, Instr.sureAddr, storeVar, Value.cells, hn', run_sizeOf (TAgg.size (P := P) (T := T)), e]) hk
/-- the zero value of a new variable -/
class TZero (P : Program) (T : TypeId) (z : outParam Value) : Prop where
  out : (P.info? T).map (·.zero) = some (some z)
theorem run_zero {z : Value} [TZero P T z] (w : World) : (zeroValue T).run P w = .ok z w := by
  have h := TZero.out (P := P) (T := T) (z := z)
  cases hq : P.info? T with
  | none => simp [hq] at h
  | some i =>
    have : i.zero = some z := by simpa [hq] using h
    simp [zeroValue, typeInfo, hq, this]
theorem L_alloc {t : Tmp} {z : Value} [TZero P T z] (hw : wantE ops E o = some true) (hd : o.dst = some t) (ht : Nat.blt t N = true) (ho : o.op = .alloc T)
    (hk : ∀ b, L P N w0 ops rest ((t, .pointer (some ⟨b, 0, none⟩)) :: E) ((b, .cells z.cells T (0, 0)) :: H) R) : L P N w0 ops (o :: rest) E H R :=
  L_eff (S := fun u H' => ∃ b, u = .pointer (some ⟨b, 0, none⟩) ∧ H' = (b, .cells z.cells T (0, 0)) :: H) hw hd ht (fun A w ha hs => by
    refine ⟨.pointer (some ⟨w.heap.size, 0, none⟩), w.alloc (.cells z.cells T (0, 0)), (w.heap.size, .cells z.cells T (0, 0)) :: H, ?_, hs.alloc _, _, rfl, rfl⟩
    unfold execOp; rw [ho]; refine run_v ?_
    show ((do let zero ← zeroValue T; pure (.pointer (some (← newVar T zero)))) : Sem Value).run P w = _
    simp only [Sem.run_bind, run_zero, Result.andThen_ok]
    rfl) (fun u H' ⟨b, e1, e2⟩ => by subst e1; subst e2; exact hk b)
theorem retC {fn : Func} {t n bk : Nat} {cs : Array Value} {ty : TypeId} {fr : Nat × Nat} [TAgg P T n] (h : fn.results = #[.cell t T]) (hv : look E t = some (.pointer (some ⟨bk, 0, none⟩))) (hA : At H bk (.cells cs ty fr)) (hn : cs.size = n) :
    RetV P N w0 fn E H (.agg cs) := by
  refine ⟨fun a w ha hs => ?_⟩
  obtain ⟨d, h1, h2⟩ := TAgg.agg (P := P) (T := T)
  have hl := run_loadCells_ext (P := P) (i := 0) (n := n) hs hA (by omega)
  have he : cs.extract 0 (0 + n) = cs := by rw [Nat.zero_add, ← hn]; simp
  rw [he] at hl
  simp [results, h, Array.getD_eq_getD_getElem?, ha.at_ t _ hv, asAddr, loadVar, run_isAgg h1 h2, run_sizeOf (TAgg.size (P := P) (T := T)), hl]
theorem retCT {fn : Func} {t u n bk : Nat} {cs : Array Value} {ty : TypeId} {fr : Nat × Nat} [TAgg P T n] (h : fn.results = #[.cell t T, .tmp u]) (hv : look E t = some (.pointer (some ⟨bk, 0, none⟩))) (hA : At H bk (.cells cs ty fr)) (hn : cs.size = n)
    (hu : look E u = some v) : RetV P N w0 fn E H (.tuple #[.agg cs, v]) := by
  refine ⟨fun a w ha hs => ?_⟩
  obtain ⟨d, h1, h2⟩ := TAgg.agg (P := P) (T := T)
  have hl := run_loadCells_ext (P := P) (i := 0) (n := n) hs hA (by omega)
  have he : cs.extract 0 (0 + n) = cs := by rw [Nat.zero_add, ← hn]; simp
  rw [he] at hl
  simp [results, h, Array.getD_eq_getD_getElem?, ha.at_ t _ hv, ha.at_ u _ hu, asAddr, loadVar, run_isAgg h1 h2, run_sizeOf (TAgg.size (P := P) (T := T)), hl]
/-! ### a struct of fields of one cell each -/
class TFlat (P : Program) (T : TypeId) (z : outParam (List Value)) : Prop where
  zero : (P.info? T).map (·.zero) = some (some (.agg z.toArray))
  flat : (match P.underlying T with
    | some (.struct fs) => (fs.toList.mapM fun f => (P.info? f.type).map fun i => (f.offset, i.size)) == some ((List.range z.length).map fun i => (i, 1))
    | _ => false) = true
def setParts : List Value → List (Nat × Value) → List Value
  | z, [] => z
  | z, (i, v) :: ps => setParts (z.set i v) ps
theorem length_setParts (ps : List (Nat × Value)) : ∀ z : List Value, (setParts z ps).length = z.length := by
  induction ps with
  | nil => intro z; rfl
  | cons p ps ih => intro z; simp [setParts, ih]
theorem fill_one (n : Nat) (place : Nat → Option (Nat × Nat)) (hp : ∀ i, i < n → place i = some (i, 1)) (ps : List (Nat × Value)) : ∀ z : List Value, z.length = n → (∀ p ∈ ps, p.1 < n ∧ p.2.cells = #[p.2]) →
    Instr.fill place z.toArray ps = some (setParts z ps).toArray := by
  induction ps with
  | nil => intro z _ _; rfl
  | cons p ps ih =>
    intro z hz h
    obtain ⟨i, v⟩ := p
    obtain ⟨h1, h2⟩ := h (i, v) (by simp)
    simp only at h1 h2
    have hc : ¬ (v.cells.size ≠ 1 ∨ i + v.cells.size > z.toArray.size) := by simp [h2]; omega
    unfold Instr.fill
    simp only [hp i h1]
    rw [if_neg (by simpa using hc)]
    have : (v.cells.zipIdx.foldl (fun cs (c, j) => cs.setIfInBounds (i + j) c) z.toArray) = (z.set i v).toArray := by simp [h2]
    rw [this]
    exact ih (z.set i v) (by simpa using hz) (fun p hp => h p (by simp [hp]))
theorem built_flat {z : List Value} [TFlat P T z] (ps : List (Nat × Value)) (h : ∀ p ∈ ps, p.1 < z.length ∧ p.2.cells = #[p.2]) : P.built T ps = some (setParts z ps).toArray := by
  have h1 := TFlat.zero (P := P) (T := T) (z := z)
  have h2 := TFlat.flat (P := P) (T := T) (z := z)
  unfold Program.built
  cases hq : P.info? T with
  | none => simp [hq] at h1
  | some i =>
    have hz : i.zero = some (.agg z.toArray) := by simpa [hq] using h1
    cases hu : P.underlying T with
    | none => simp [hu] at h2
    | some d =>
      cases d <;> simp [hu] at h2
      case struct fs =>
        simp only [hz]
        rw [h2]
        simp only
        refine fill_one z.length _ (fun i hi => ?_) ps z rfl h
        simp [hi]
theorem cells_one {v : Value} (h : v.oneCell' = true) : v.cells = #[v] := by cases v <;> first | rfl | simp [Value.oneCell'] at h
theorem ov_build0 {z : List Value} [TFlat P T z] (ho : o.op = .build T #[]) : OpV P N w0 o E H (.agg z.toArray) :=
  ov_build ho (vs := []) rfl (built_flat (P := P) (T := T) [] (fun p hp => by simp at hp))
theorem ov_build2 {z : List Value} [TFlat P T z] {i j : Nat} {u w : Value} (ho : o.op = .build T #[(i, x), (j, y)]) (hx : ev E x = some u) (hy : ev E y = some w) (h1 : u.oneCell' = true) (h2 : w.oneCell' = true)
    (hi : Nat.blt i z.length = true) (hj : Nat.blt j z.length = true) {cs : List Value} (hc : setParts z [(i, u), (j, w)] = cs) : OpV P N w0 o E H (.agg cs.toArray) := by
  subst hc
  refine ov_build ho (vs := [u, w]) (by simp [evs, hx, hy]) (built_flat (P := P) (T := T) _ (fun p hp => ?_))
  simp at hp hi hj
  rcases hp with rfl | rfl
  · exact ⟨hi, cells_one h1⟩
  · exact ⟨hj, cells_one h2⟩
theorem ov_build1 {z : List Value} [TFlat P T z] {i : Nat} {u : Value} (ho : o.op = .build T #[(i, x)]) (hx : ev E x = some u) (h1 : u.oneCell' = true)
    (hi : Nat.blt i z.length = true) {cs : List Value} (hc : setParts z [(i, u)] = cs) : OpV P N w0 o E H (.agg cs.toArray) := by
  subst hc
  refine ov_build ho (vs := [u]) (by simp [evs, hx]) (built_flat (P := P) (T := T) _ (fun p hp => ?_))
  simp at hp hi
  subst hp
  exact ⟨hi, cells_one h1⟩
theorem ov_build3 {z : List Value} [TFlat P T z] {i j k : Nat} {u w s : Value} {q : Operand} (ho : o.op = .build T #[(i, x), (j, y), (k, q)]) (hx : ev E x = some u) (hy : ev E y = some w) (hq : ev E q = some s) (h1 : u.oneCell' = true) (h2 : w.oneCell' = true) (h3 : s.oneCell' = true)
    (hi : Nat.blt i z.length = true) (hj : Nat.blt j z.length = true) (hk : Nat.blt k z.length = true) {cs : List Value} (hc : setParts z [(i, u), (j, w), (k, s)] = cs) : OpV P N w0 o E H (.agg cs.toArray) := by
  subst hc
  refine ov_build ho (vs := [u, w, s]) (by simp [evs, hx, hy, hq]) (built_flat (P := P) (T := T) _ (fun p hp => ?_))
  simp at hp hi hj hk
  rcases hp with rfl | rfl | rfl
  · exact ⟨hi, cells_one h1⟩
  · exact ⟨hj, cells_one h2⟩
  · exact ⟨hk, cells_one h3⟩
theorem ov_build2' {z : List Value} [TFlat P T z] {u w : Value} (ho : o.op = .build T #[(0, x), (1, y)]) (hz : z.length = 2) (hx : ev E x = some u) (hy : ev E y = some w) (h1 : u.oneCell' = true) (h2 : w.oneCell' = true) :
    OpV P N w0 o E H (.agg #[u, w]) :=
  ov_build2 ho hx hy h1 h2 (by rw [hz]; rfl) (by rw [hz]; rfl) (cs := [u, w]) (by
    match z, hz with
    | [_, _], _ => rfl)
theorem ov_build3' {z : List Value} [TFlat P T z] {u w s : Value} {q : Operand} (ho : o.op = .build T #[(0, x), (1, y), (2, q)]) (hz : z.length = 3) (hx : ev E x = some u) (hy : ev E y = some w) (hq : ev E q = some s) (h1 : u.oneCell' = true) (h2 : w.oneCell' = true) (h3 : s.oneCell' = true) :
    OpV P N w0 o E H (.agg #[u, w, s]) :=
  ov_build3 ho hx hy hq h1 h2 h3 (by rw [hz]; rfl) (by rw [hz]; rfl) (by rw [hz]; rfl) (cs := [u, w, s]) (by
    match z, hz with
    | [_, _, _], _ => rfl)
/-- a whole block -/
theorem ov_ldW {bk n : Nat} {cs : Array Value} {t : TypeId} {fr : Nat × Nat} [TAgg P T n] (ho : o.op = .load T x) (hx : ev E x = some (.pointer (some ⟨bk, 0, none⟩))) (hA : At H bk (.cells cs t fr)) (hl : cs.toList.length = n) :
    OpV P N w0 o E H (.agg cs) := by
  have h := ov_ldN (P := P) (N := N) (w0 := w0) (E := E) (H := H) (o := o) (i := 0) (n := n) ho hx hA (by simp at hl; omega)
  have e : ((cs.toList.drop 0).take n).toArray = cs := by
    rw [List.drop_zero, ← hl, List.take_length]
  rwa [e] at h
theorem L_stW {bk n : Nat} {cs us : Array Value} {t : TypeId} [TAgg P T n] (hw : wantE ops E o = some true) (hd : o.dst = none) (ho : o.op = .store T x y) (hx : ev E x = some (.pointer (some ⟨bk, 0, none⟩))) (hy : ev E y = some (.agg us))
    (hn : us.toList.length = n) (h1 : us.toList.all (·.oneCell') = true) (hU : Up H bk (.cells cs t (0, 0)) (.cells us t (0, 0)) H') (hi : cs.toList.length = n)
    (hk : L P N w0 ops rest E H' R) : L P N w0 ops (o :: rest) E H R := by
  have key : ∀ (vs : List Value) (i : Nat) (cs : Array Value), i + vs.length = cs.size → putAt cs i vs = (cs.toList.take i ++ vs).toArray := by
    intro vs
    induction vs with
    | nil => intro i cs h; apply Array.toList_inj.1; simp at h; simp only [putAt, List.append_nil]; rw [List.take_of_length_le (by simp; omega)]
    | cons v vs ih =>
      intro i cs h
      simp only [putAt]
      rw [ih (i + 1) _ (by simp at h ⊢; omega)]
      apply Array.toList_inj.1
      apply List.ext_getElem?
      intro k
      have hlt : i < cs.size := by simp at h; omega
      simp only [Array.toList_setIfInBounds, List.getElem?_append, List.length_take, List.length_set, Array.length_toList, List.getElem?_take, List.getElem?_set, show min (i + 1) cs.size = i + 1 by omega, show min i cs.size = i by omega]
      by_cases hk : k < i
      · simp [hk, show k < i + 1 by omega, show i ≠ k by omega]
      · by_cases hk2 : k = i
        · subst hk2; simp [hlt]
        · simp [hk, show ¬ k < i + 1 by omega, show k - i = (k - (i + 1)) + 1 by omega]
  have e : putAt cs 0 us.toList = us := by
    rw [key us.toList 0 cs (by simp at hn hi ⊢; omega)]
    simp
  exact L_stN (i := 0) hw hd ho hx hy hn h1 (by rw [e]; exact hU) (by simp at hi; omega) hk
end
class TInfo (P : Program) (T : TypeId) (z : outParam Value) (n bytes : outParam Nat) : Prop where
  out : (P.info? T).map (fun i => (i.zero, i.size, i.bytes)) = some (some z, n, bytes)
end Go.Proofs.YtfmhlieaodbgiaaGreat.Eng
namespace Go.Proofs.YtfmhlieaodbgiaaGreat.Eng
open Go Go.RowKit Go.Proofs.YtfmhlieaodbgiaaGreat.Sl
set_option linter.unusedVariables false
set_option linter.unusedSimpArgs false
section
variable {P : Program} {ops : Array Oper} {C : World → Prop}
def noQ : Exit → Act → World → Prop := fun _ _ _ => False
def opC (P : Program) (ops : Array Oper) (i : Nat) (K : Act → World → Prop) (a : Act) (w : World) : Prop :=
  match ops[i]? with
  | none => K a w
  | some o => if Region.wanted o (yielded ops a.tmps) then o.wp P a w K noQ else K (a.put o.dst undef) w
def wpC (P : Program) (ops : Array Oper) (C : World → Prop) (Q : Act → World → Prop) : Nat → Array Bool → Act → World → Prop
  | 0, listed, a, w => C w ∧ Region.ready .any ops listed = [] ∧ Q a w
  | n + 1, listed, a, w => C w ∧ (Region.ready .any ops listed = [] → Q a w) ∧ ∀ i ∈ Region.ready .any ops listed, opC P ops i (wpC P ops C Q n (listed.setIfInBounds i true)) a w
theorem wpC_in {Q : Act → World → Prop} : ∀ {n : Nat} {listed : Array Bool} {a : Act} {w : World}, wpC P ops C Q n listed a w → C w
  | 0, _, _, _, h => h.1
  | _ + 1, _, _, _, h => h.1
theorem upon_mono {o : Oper} {a : Act} {K K' : Act → World → Prop} {Q : Exit → Act → World → Prop} {r : Result Next} (hk : ∀ a w, K a w → K' a w) (h : o.upon P a K noQ r) : o.upon P a K' Q r := by
  cases r with
  | ok n w =>
    cases n <;> simp only [Oper.upon] at h ⊢ <;> try exact hk _ _ h
    case enter f args =>
      refine h.mono fun e w' he => ?_
      cases e with
      | returned v => exact hk _ _ he
      | panicked c => exact he.elim
      | outgrown => obtain ⟨_, _, h⟩ := he; exact h.elim
    case row r args => exact h.mono fun v w' he => hk _ _ he
  | halt x w =>
    cases x <;> simp only [Oper.upon] at h ⊢
    exact h.elim
theorem opC_mono {i : Nat} {K K' : Act → World → Prop} {a : Act} {w : World} (hk : ∀ a w, K a w → K' a w) (h : opC P ops i K a w) : opC P ops i K' a w := by
  unfold opC at *
  split
  · rename_i ho; simp only [ho] at h; exact hk _ _ h
  · rename_i o ho
    simp only [ho] at h
    split
    · rename_i hw; simp only [hw, if_true] at h; exact upon_mono hk h
    · rename_i hw; simp only [hw] at h; exact hk _ _ h
theorem wpAny_of_C {Q : Act → World → Prop} {Q' : Exit → Act → World → Prop} (hQ : ∀ a w, Q a w → Q' .normal a w) : ∀ (n : Nat) (listed : Array Bool) (a : Act) (w : World), wpC P ops C Q n listed a w → wpAny P .any ops Q' n listed a w
  | 0, _, _, _, h => ⟨h.2.1, hQ _ _ h.2.2⟩
  | n + 1, listed, a, w, h => ⟨fun e => hQ _ _ (h.2.1 e), fun i hi => by
      have := h.2.2 i hi
      unfold opC at this
      unfold wpOp
      split
      · rename_i ho; simp only [ho] at this; exact wpAny_of_C hQ n _ _ _ this
      · rename_i o ho
        simp only [ho] at this
        split
        · rename_i hw; simp only [hw, if_true] at this; exact .inl (upon_mono (fun a w => wpAny_of_C hQ n _ a w) this)
        · rename_i hw; simp only [hw] at this; exact wpAny_of_C hQ n _ _ _ this⟩
/-- In this state, in every world of the class, the operation yields v and leaves the world alone. -/
def YC (P : Program) (ops : Array Oper) (C : World → Prop) (o : Oper) (v : Value) (a : Act) : Prop :=
  (Region.wanted o (yielded ops a.tmps) = true ∧ ∀ w, C w → (execOp a.eval o).run P w = .ok (.value v) w) ∨ (Region.wanted o (yielded ops a.tmps) = false ∧ v = undef)
theorem YC.op {i : Nat} {o : Oper} {v : Value} {a : Act} {w : World} (hi : ops[i]? = some o) (hy : YC P ops C o v a) (hC : C w) {K : Act → World → Prop} (h : K (a.put o.dst v) w) : opC P ops i K a w := by
  unfold opC
  simp only [hi]
  rcases hy with ⟨hw, hv⟩ | ⟨hw, rfl⟩
  · simp only [hw, if_true, Oper.wp, hv w hC, Oper.upon]; exact h
  · simp only [hw, Bool.false_eq_true, if_false]; exact h
theorem YC.same {o : Oper} {v : Value} {a a' : Act} (hy : YC P ops C o v a) (he : execOp a'.eval o = execOp a.eval o) (hw : Region.wanted o (yielded ops a'.tmps) = Region.wanted o (yielded ops a.tmps)) : YC P ops C o v a' := by
  unfold YC at *
  rw [he, hw]
  exact hy
theorem opC_put {j : Nat} {oi oj : Oper} {v : Value} (hj : ops[j]? = some oj) (hap : oi.apart ops oj = true) (hsi : ∀ cs b, oi.op ≠ .select cs b) (hsj : ∀ cs b, oj.op ≠ .select cs b)
    {K : Act → World → Prop} {a : Act} {w : World} (hy : YC P ops C oi v a) (h : opC P ops j K (a.put oi.dst v) w) : opC P ops j (fun a' w' => YC P ops C oi v a' ∧ K (a'.put oi.dst v) w') a w := by
  obtain ⟨h1, h2, h3⟩ := Oper.apart_spec hap
  have keep : ∀ (a : Act), YC P ops C oi v a → ∀ u, YC P ops C oi v (a.put oj.dst u) := fun a hy u =>
    hy.same (execOp_put oi hsi a oj.dst u h3) (wanted_put oi a oj.dst u h3)
  unfold opC at *
  simp only [hj] at *
  rw [wanted_put oj a oi.dst v h1] at h
  split
  · rename_i hw
    simp only [hw, if_true] at h
    unfold Oper.wp at *
    rw [execOp_put oj hsj a oi.dst v h1] at h
    generalize (execOp a.eval oj).run P w = r at *
    cases r with
    | ok n w' =>
      cases n <;> simp only [Oper.upon] at h ⊢
      case value u => exact ⟨keep a hy u, by rw [← Act.put_comm a v u h2]; exact h⟩
      case skip => exact ⟨keep a hy _, by rw [← Act.put_comm a v undef h2]; exact h⟩
      case defer d =>
        refine ⟨?_, ?_⟩
        · exact (hy.same (a' := { a with defers := d :: a.defers }) rfl rfl).same (execOp_put oi hsi _ oj.dst undef h3) (wanted_put oi _ oj.dst undef h3)
        · rw [← Act.put_comm _ v undef h2]; rw [← Act.put_defers]; exact h
      case enter f args =>
        refine h.mono fun e w'' he => ?_
        cases e with
        | returned u => exact ⟨keep a hy u, by rw [← Act.put_comm a v u h2]; exact he⟩
        | panicked c => exact he.elim
        | outgrown => obtain ⟨_, _, h⟩ := he; exact h.elim
      case row r args => exact h.mono fun u w'' he => ⟨keep a hy u, by rw [← Act.put_comm a v u h2]; exact he⟩
    | halt x w' =>
      cases x <;> simp only [Oper.upon] at h ⊢
      exact h.elim
  · rename_i hw
    simp only [hw] at h
    exact ⟨keep a hy _, by rw [← Act.put_comm a v undef h2]; exact h⟩
theorem wpC_first {Q : Act → World → Prop} {i : Nat} {oi : Oper} {v : Value} (hi : ops[i]? = some oi) (hsel : ∀ (j : Nat) (o : Oper) cs b, ops[j]? = some o → o.op ≠ .select cs b) :
    ∀ (n : Nat) (listed : Array Bool) (a : Act) (w : World),
      (∀ j oj, ops[j]? = some oj → j ≠ i → listed.getD j true = false → (∀ e ∈ oj.after, Region.binds .any e = true → e.on ≠ i) → oi.apart ops oj = true) →
      i ∈ Region.ready .any ops listed → YC P ops C oi v a → C w →
      wpC P ops C Q n (listed.setIfInBounds i true) (a.put oi.dst v) w → wpC P ops C Q (n + 1) listed a w := by
  intro n
  induction n with
  | zero =>
    intro listed a w _ hr hy hC H
    refine ⟨hC, fun h => (by rw [h] at hr; cases hr), fun j hj => ?_⟩
    by_cases hji : j = i
    · subst hji; exact hy.op hi hC H
    · have := ready_mono hj hji
      rw [H.2.1] at this
      cases this
  | succ n ih =>
    intro listed a w hfree hr hy hC H
    refine ⟨hC, fun h => (by rw [h] at hr; cases hr), fun j hj => ?_⟩
    by_cases hji : j = i
    · subst hji; exact hy.op hi hC H
    · have h1 := H.2.2 j (ready_mono hj hji)
      obtain ⟨hjun, oj, hoj, hall⟩ := mem_ready.1 hj
      have hnot : ∀ e ∈ oj.after, Region.binds .any e = true → e.on ≠ i := fun e he hb heq => by
        have h1 := hall e he hb
        have h0 := (mem_ready.1 hr).1
        rw [heq] at h1
        rcases Nat.lt_or_ge i listed.size with h' | h'
        · simp [h'] at h0 h1; rw [h0] at h1; cases h1
        · simp [Array.getElem?_eq_none h'] at h1
      have h2 := opC_put hoj (hfree j oj hoj hji hjun hnot) (fun cs b => hsel i oi cs b hi) (fun cs b => hsel j oj cs b hoj) hy h1
      have hfree' : ∀ k ok, ops[k]? = some ok → k ≠ i → (listed.setIfInBounds j true).getD k true = false →
          (∀ e ∈ ok.after, Region.binds .any e = true → e.on ≠ i) → oi.apart ops ok = true := fun k ok hk hki hun hno => by
        refine hfree k ok hk hki ?_ hno
        by_cases hjk : j = k
        · subst hjk; exact hjun
        · rw [getD_set_ne true hjk] at hun; exact hun
      refine opC_mono (fun a' w' h3 => ih (listed.setIfInBounds j true) a' w' hfree' (ready_mono hr (Ne.symm hji)) h3.1 (wpC_in h3.2) ?_) h2
      rw [Array.setIfInBounds_comm _ _ hji]
      exact h3.2
end
section
variable {P : Program} {N : Nat} {w0 : World} {E F : Env} {H H' D : HL} {R : Post} {ops : Array Oper} {o : Oper} {v : Value} {n i j : Nat} {listed : Array Bool}
/-- Whatever order is picked from here on; D: the blocks that every operation keeps. -/
structure A (P : Program) (N : Nat) (w0 : World) (ops : Array Oper) (D : HL) (n : Nat) (listed : Array Bool) (E : Env) (H : HL) (R : Post) : Prop where
  out : ∀ a w, Holds N E a → Sat w0 H w → wpC P ops (Sat w0 D) (fun a w => lift N w0 R .normal a w) n listed a w
structure O (P : Program) (N : Nat) (w0 : World) (ops : Array Oper) (D : HL) (n : Nat) (listed : Array Bool) (o : Oper) (E : Env) (H : HL) (R : Post) : Prop where
  out : ∀ a w, Holds N E a → Sat w0 H w → if Region.wanted o (yielded ops a.tmps) then o.wp P a w (wpC P ops (Sat w0 D) (fun a w => lift N w0 R .normal a w) n listed) noQ
    else wpC P ops (Sat w0 D) (fun a w => lift N w0 R .normal a w) n listed (a.put o.dst undef) w
theorem W_regionA {id : Nat} {l : List Oper} (hm : P.follows .mixedOrders = true) (h : A P N w0 l.toArray D l.length (Array.replicate l.length false) E H R) : W P N w0 (.region id l.toArray true) E H R := by
    refine ⟨fun a w ha hs => ?_⟩
    refine wp_region_any hm ?_
    have := h.out a { w with drawn := w.drawn + 1 } ha hs.drew
    simpa using wpAny_of_C (fun _ _ q => q) _ _ _ _ this
def firstB (ops : Array Oper) (listed : Array Bool) (i : Nat) : Bool := Region.noSelect ops && (Region.ready .any ops listed).contains i && Region.free .any ops listed i
theorem A_val {t : Tmp} (i : Nat) (ho : ops[i]? = some o) (hB : firstB ops listed i = true) (hw : wantE ops E o = some true) (hd : o.dst = some t) (ht : Nat.blt t N = true) (cv : Cv H D) (hv : OpV P N w0 o E D v)
    (hk : A P N w0 ops D n (listed.setIfInBounds i true) ((t, v) :: E) H R) : A P N w0 ops D (n + 1) listed E H R := by
  refine ⟨fun a w ha hs => ?_⟩
  simp only [firstB, Bool.and_eq_true] at hB
  refine wpC_first ho (Region.noSelect_spec hB.1.1) n listed a w (Region.free_spec ho hB.2) (by simpa using hB.1.2) (.inl ⟨wanted_of ha hw, fun w hC => hv.out a w ha hC⟩) (cv.sat hs) ?_
  exact hk.out _ _ (ha.put hd ht v) hs
theorem A_skip {t : Tmp} (i : Nat) (ho : ops[i]? = some o) (hB : firstB ops listed i = true) (hw : wantE ops E o = some false) (hd : o.dst = some t) (ht : Nat.blt t N = true) (cv : Cv H D)
    (hk : A P N w0 ops D n (listed.setIfInBounds i true) ((t, undef) :: E) H R) : A P N w0 ops D (n + 1) listed E H R := by
  refine ⟨fun a w ha hs => ?_⟩
  simp only [firstB, Bool.and_eq_true] at hB
  refine wpC_first ho (Region.noSelect_spec hB.1.1) n listed a w (Region.free_spec ho hB.2) (by simpa using hB.1.2) (.inr ⟨wanted_of ha hw, rfl⟩) (cv.sat hs) ?_
  exact hk.out _ _ (ha.put hd ht undef) hs
theorem A_know {t : Tmp} {b : Bool} (i : Nat) {j : Nat} {want : Bool} (_ho : ops[i]? = some o) (_hg : o.guard = some (j, want)) (_ht : (ops[j]?).bind (·.dst) = some t) (hl : look E t = some (.bool b)) (h1 : b = true → A P N w0 ops D n listed ((t, .bool true) :: E) H R)
    (h0 : b = false → A P N w0 ops D n listed ((t, .bool false) :: E) H R) : A P N w0 ops D n listed E H R := by
  refine ⟨fun a w ha hs => ?_⟩
  cases b with
  | true => exact (h1 rfl).out a w (ha.know hl) hs
  | false => exact (h0 rfl).out a w (ha.know hl) hs
theorem A_nil (hr : Region.ready .any ops listed = []) (cv : Cv H D) (h : R .normal E H) : A P N w0 ops D n listed E H R := by
  refine ⟨fun a w ha hs => ?_⟩
  cases n with
  | zero => exact ⟨cv.sat hs, hr, E, H, ha, hs, h⟩
  | succ n => exact ⟨cv.sat hs, fun _ => ⟨E, H, ha, hs, h⟩, fun i hi => by rw [hr] at hi; cases hi⟩
theorem A_one (hr : Region.ready .any ops listed = [i]) (cv : Cv H D) (ho : ops[i]? = some o) (h : O P N w0 ops D n (listed.setIfInBounds i true) o E H R) : A P N w0 ops D (n + 1) listed E H R := by
  refine ⟨fun a w ha hs => ?_⟩
  refine ⟨cv.sat hs, fun e => (by rw [hr] at e; cases e), fun k hk => ?_⟩
  rw [hr, List.mem_singleton] at hk
  subst hk
  unfold opC
  simp only [ho]
  exact h.out a w ha hs
theorem A_two {o' : Oper} (hr : Region.ready .any ops listed = [i, j]) (cv : Cv H D) (ho : ops[i]? = some o) (ho' : ops[j]? = some o') (h : O P N w0 ops D n (listed.setIfInBounds i true) o E H R)
    (h' : O P N w0 ops D n (listed.setIfInBounds j true) o' E H R) : A P N w0 ops D (n + 1) listed E H R := by
  refine ⟨fun a w ha hs => ?_⟩
  refine ⟨cv.sat hs, fun e => (by rw [hr] at e; cases e), fun k hk => ?_⟩
  rw [hr] at hk
  unfold opC
  rcases List.mem_cons.1 hk with rfl | hk
  · simp only [ho]; exact h.out a w ha hs
  · rw [List.mem_singleton] at hk
    subst hk
    simp only [ho']; exact h'.out a w ha hs
theorem O_val {t : Tmp} (hw : wantE ops E o = some true) (hd : o.dst = some t) (ht : Nat.blt t N = true) (hv : OpV P N w0 o E H v) (hk : A P N w0 ops D n listed ((t, v) :: E) H R) : O P N w0 ops D n listed o E H R := by
  refine ⟨fun a w ha hs => ?_⟩
  rw [if_pos (wanted_of ha hw)]
  unfold Oper.wp
  rw [hv.out a w ha hs]
  exact hk.out _ _ (ha.put hd ht v) hs
theorem O_skip {t : Tmp} (hw : wantE ops E o = some false) (hd : o.dst = some t) (ht : Nat.blt t N = true) (hk : A P N w0 ops D n listed ((t, undef) :: E) H R) : O P N w0 ops D n listed o E H R := by
  refine ⟨fun a w ha hs => ?_⟩
  rw [wanted_of ha hw]
  exact hk.out _ _ (ha.put hd ht undef) hs
/-- What L's steps say of one operation, said of it here. -/
theorem O_of_L (h : ∀ (S : Post), (∀ E' H', A P N w0 ops D n listed E' H' R → S .normal E' H') → L P N w0 ops [o] E H S) : O P N w0 ops D n listed o E H R := by
  refine ⟨fun a w ha hs => ?_⟩
  have h1 := (h (fun e E' H' => e = .normal ∧ A P N w0 ops D n listed E' H' R) (fun _ _ q => ⟨rfl, q⟩)).out a w ha hs
  have key : ∀ a' w', wpList P ops (lift N w0 fun e E' H' => e = .normal ∧ A P N w0 ops D n listed E' H' R) [] a' w' → wpC P ops (Sat w0 D) (fun a w => lift N w0 R .normal a w) n listed a' w' := by
    rintro a' w' ⟨E', H', h2, h3, _, h4⟩
    exact h4.out a' w' h2 h3
  have noout : ∀ a w, ¬ lift N w0 (fun e E' H' => e = .normal ∧ A P N w0 ops D n listed E' H' R) .outgrown a w := by
    rintro a w ⟨_, _, _, _, h, _⟩; cases h
  have nopan : ∀ c a w, ¬ lift N w0 (fun e E' H' => e = .normal ∧ A P N w0 ops D n listed E' H' R) (.panic c) a w := by
    rintro c a w ⟨_, _, _, _, h, _⟩; cases h
  unfold wpList at h1
  split
  · rename_i hw
    rw [if_pos hw] at h1
    rcases h1 with h1 | ⟨_, a', w', h1⟩
    · unfold Oper.wp at *
      generalize (execOp a.eval o).run P w = r at *
      cases r with
      | ok x w' =>
        cases x <;> simp only [Oper.upon] at h1 ⊢ <;> try exact key _ _ h1
        case enter f args =>
          refine h1.mono fun e w' he => ?_
          cases e with
          | returned v => exact key _ _ he
          | panicked c => exact (nopan _ _ _ he).elim
          | outgrown => obtain ⟨a', w', he⟩ := he; exact (noout _ _ he).elim
        case row r args => exact h1.mono fun v w' he => key _ _ he
      | halt x w' =>
        cases x <;> simp only [Oper.upon] at h1 ⊢
        exact (nopan _ _ _ h1).elim
    · exact (noout _ _ h1).elim
  · rename_i hw
    rw [if_neg hw] at h1
    exact key _ _ h1
end
end Go.Proofs.YtfmhlieaodbgiaaGreat.Eng
