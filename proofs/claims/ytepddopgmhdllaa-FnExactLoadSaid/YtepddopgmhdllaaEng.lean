/- The walk's steps over what is known of some slots (Env) and of the call's own blocks (HL): one law a form of code, one law a form of operation. -/
import Derived.Test.YtepddopgmhdllaaSl
import Derived.Deep.Quiet
import Derived.Deep.LoopGhost
import Derived.KernelRfl
namespace Go.Proofs.Ytepddopgmhdllaa.Eng
open Go Go.RowKit Go.Proofs.Ytepddopgmhdllaa.Sl
set_option linter.unusedVariables false
set_option linter.unusedSimpArgs false

abbrev Env := List (Nat × Value)
def look : Env → Nat → Option Value
  | [], _ => none
  | (k, v) :: E, t => bif Nat.beq k t then some v else look E t
def ev (E : Env) : Operand → Option Value
  | .tmp t => look E t
  | .const v => some v
  | .func f => some (.func (.func f) #[] #[])
  | .global g => some (.pointer (some ⟨g, 0, none⟩))
def evs (E : Env) : List Operand → Option (List Value)
  | [] => some []
  | x :: xs => match ev E x, evs E xs with
    | some v, some vs => some (v :: vs)
    | _, _ => none
def upd (E : Env) : Option Tmp → Value → Env
  | some t, v => (t, v) :: E
  | none, _ => E
def okDst (N : Nat) : Option Tmp → Bool
  | some t => Nat.blt t N
  | none => true
structure Holds (N : Nat) (E : Env) (a : Act) : Prop where
  sz : a.tmps.size = N
  df : a.defers = []
  at_ : ∀ t v, look E t = some v → a.tmps[t]? = some v
section
variable {N : Nat} {E F : Env} {a : Act} {x : Operand} {v : Value}
theorem Holds.eval (h : Holds N E a) (hx : ev E x = some v) : a.eval x = v := by
  cases x with
  | tmp t => have := h.at_ t v hx; simp [Act.eval, Array.getD_eq_getD_getElem?, this]
  | const u => simpa [ev, Act.eval] using hx
  | global g => simpa [ev, Act.eval] using hx
  | func f => simpa [ev, Act.eval] using hx
theorem Holds.evals (h : Holds N E a) {xs : List Operand} {vs : List Value} (hx : evs E xs = some vs) : xs.map a.eval = vs := by
  induction xs generalizing vs with
  | nil => simpa [evs] using hx.symm
  | cons x xs ih =>
    unfold evs at hx
    cases h1 : ev E x with
    | none => simp [h1] at hx
    | some u =>
      cases h2 : evs E xs with
      | none => simp [h1, h2] at hx
      | some us =>
        simp only [h1, h2, Option.some.injEq] at hx
        subst hx
        simp [h.eval h1, ih h2]
theorem Holds.upd (h : Holds N E a) {d : Option Tmp} (hd : okDst N d = true) (v : Value) : Holds N (upd E d v) (a.put d v) := by
  cases d with
  | none => exact h
  | some t =>
    have ht : t < N := by simpa [okDst, Nat.blt_eq] using hd
    refine ⟨by simp [Act.put, h.sz], by simp [Act.put, h.df], fun u w hu => ?_⟩
    simp only [Act.put, Array.getElem?_setIfInBounds]
    simp only [Eng.upd, look] at hu
    cases hb : Nat.beq t u with
    | true =>
      have e : t = u := Nat.eq_of_beq_eq_true hb
      rw [hb] at hu
      simp only [cond_true, Option.some.injEq] at hu
      subst e; subst hu
      rw [if_pos rfl, if_pos (by rw [h.sz]; exact ht)]
    | false =>
      have e : t ≠ u := Nat.ne_of_beq_eq_false hb
      rw [hb] at hu
      rw [if_neg e]
      exact h.at_ u w hu
theorem Holds.put (h : Holds N E a) {d : Option Tmp} {t : Tmp} (hd : d = some t) (ht : Nat.blt t N = true) (v : Value) : Holds N ((t, v) :: E) (a.put d v) := by
  subst hd; exact h.upd (d := some t) ht v
theorem Holds.know (h : Holds N E a) {t : Tmp} {v : Value} (ht : look E t = some v) : Holds N ((t, v) :: E) a := by
  refine ⟨h.sz, h.df, fun u w hu => ?_⟩
  simp only [look] at hu
  cases hb : Nat.beq t u with
  | true =>
    have e : t = u := Nat.eq_of_beq_eq_true hb
    rw [hb] at hu
    simp only [cond_true, Option.some.injEq] at hu
    subst e; subst hu
    exact h.at_ _ _ ht
  | false => rw [hb] at hu; exact h.at_ u w hu
end
/-- What F says, E says. -/
def Sub (E : Env) : Env → Prop
  | [] => True
  | (t, v) :: F => look E t = some v ∧ Sub E F
theorem Holds.sub {N : Nat} {E F : Env} {a : Act} (h : Holds N E a) (s : Sub E F) : Holds N F a := by
  refine ⟨h.sz, h.df, fun t v hv => ?_⟩
  induction F with
  | nil => simp [look] at hv
  | cons p F ih =>
    obtain ⟨k, u⟩ := p
    obtain ⟨h1, h2⟩ := s
    simp only [look] at hv
    cases hb : Nat.beq k t with
    | true =>
      have e := Nat.eq_of_beq_eq_true hb
      rw [hb] at hv
      simp only [cond_true, Option.some.injEq] at hv
      subst e; subst hv
      exact h.at_ _ _ h1
    | false => rw [hb] at hv; exact ih h2 hv
def wantE (ops : Array Oper) (E : Env) (o : Oper) : Option Bool :=
  match o.guard with
  | none => some true
  | some (j, want) =>
    match (ops[j]?).bind (·.dst) with
    | some t => match look E t with
      | some (.bool b) => some (b == want)
      | some (.tuple _) => some false
      | _ => none
    | none => some false
theorem wanted_of {N : Nat} {E : Env} {a : Act} {ops : Array Oper} {o : Oper} {b : Bool} (h : Holds N E a) (hw : wantE ops E o = some b) : Region.wanted o (yielded ops a.tmps) = b := by
  unfold wantE at hw
  unfold Region.wanted
  cases hg : o.guard with
  | none => rw [hg] at hw; simpa using hw
  | some p =>
    obtain ⟨j, want⟩ := p
    rw [hg] at hw
    simp only at hw ⊢
    unfold yielded
    cases hd : (ops[j]?).bind (·.dst) with
    | none => rw [hd] at hw; simp at hw ⊢; exact hw
    | some t =>
      rw [hd] at hw
      simp only [Option.bind_some] at hw ⊢
      cases hl : look E t with
      | none => rw [hl] at hw; simp at hw
      | some v =>
        rw [hl] at hw
        rw [h.at_ t v hl]
        cases v <;> simp_all
/-! ### heaplets: forgetting, reordering -/
inductive Cv : HL → HL → Prop
  | refl {H : HL} : Cv H H
  | skip {H L : HL} {p : Nat × Obj} : Cv H L → Cv (p :: H) L
  | take {H H1 L : HL} {b : Nat} {o : Obj} : Tk H b o H1 → Cv H1 L → Cv H ((b, o) :: L)
theorem Cv.sat {w0 w : World} {H L : HL} (c : Cv H L) (h : Sat w0 H w) : Sat w0 L w := by
  induction c generalizing w with
  | refl => exact h
  | skip _ ih => exact ih h.drop
  | @take H H1 L b o tk c ih =>
    have h1 := h.perm tk.perm
    have h2 := ih h1.drop
    refine ⟨h2.bel, ?_, fun p hp => ?_⟩
    · simp only [List.map_cons, List.nodup_cons]
      refine ⟨fun hm => ?_, h2.nd⟩
      obtain ⟨q, hq, e⟩ := List.mem_map.1 hm
      have hd := h1.nd
      simp only [List.map_cons, List.nodup_cons] at hd
      apply hd.1
      have : ∀ {H L : HL}, Cv H L → ∀ k, k ∈ L.map Prod.fst → k ∈ H.map Prod.fst := by
        intro H L c
        induction c with
        | refl => exact fun _ h => h
        | skip _ ih => exact fun k hk => List.mem_map.2 (by obtain ⟨q, hq, e⟩ := List.mem_map.1 (ih k hk); exact ⟨q, List.mem_cons_of_mem _ hq, e⟩)
        | @take H H1 L b o tk c ih =>
          intro k hk
          simp only [List.map_cons, List.mem_cons] at hk
          have hp := tk.perm.map Prod.fst
          rw [hp.mem_iff]
          rcases hk with rfl | hk
          · simp
          · exact List.mem_cons_of_mem _ (ih k hk)
      exact this c b (e ▸ List.mem_map_of_mem (f := Prod.fst) hq)
    · rcases List.mem_cons.1 hp with rfl | hp
      · exact h1.get _ List.mem_cons_self
      · exact h2.get p hp
/-! ### code -/
abbrev Post := Exit → Env → HL → Prop
def lift (N : Nat) (w0 : World) (R : Post) : Exit → Act → World → Prop := fun e a w => ∃ E H, Holds N E a ∧ Sat w0 H w ∧ R e E H
section
variable (P : Program) (N : Nat) (w0 : World)
structure W (c : Code) (E : Env) (H : HL) (R : Post) : Prop where
  out : ∀ a w, Holds N E a → Sat w0 H w → c.wp P (lift N w0 R) a w
structure L (ops : Array Oper) (l : List Oper) (E : Env) (H : HL) (R : Post) : Prop where
  out : ∀ a w, Holds N E a → Sat w0 H w → wpList P ops (lift N w0 R) l a w
structure OpV (o : Oper) (E : Env) (H : HL) (v : Value) : Prop where
  out : ∀ a w, Holds N E a → Sat w0 H w → (execOp a.eval o).run P w = .ok (.value v) w
/-- A call: it returns v, the blocks are H'. -/
structure Fn (f : FuncId) (args : Array Value) (H : HL) (S : Value → HL → Prop) : Prop where
  is_ : ∃ fn, P.funcs[f]? = some fn ∧ (fn.name == "runtime.NumGoroutine") = false ∧ fn.body.isSome = true
  out : ∀ w, Sat w0 H w → Calls P f args w fun e w' => ∃ v H', e = .returned v ∧ Sat w0 H' w' ∧ S v H'
inductive seqR (y : Code) (R : Post) : Post
  | normal {E : Env} {H : HL} : W P N w0 y E H R → seqR y R .normal E H
  | ret {E : Env} {H : HL} : R .ret E H → seqR y R .ret E H
  | exit {id : Nat} {E : Env} {H : HL} : R (.exit id) E H → seqR y R (.exit id) E H
inductive blockR (id : Nat) (R : Post) : Post
  | normal {E : Env} {H : HL} : R .normal E H → blockR id R .normal E H
  | ret {E : Env} {H : HL} : R .ret E H → blockR id R .ret E H
  | here {E : Env} {H : HL} : R .normal E H → blockR id R (.exit id) E H
  | exit {i : Nat} {E : Env} {H : HL} : Nat.beq i id = false → R (.exit i) E H → blockR id R (.exit i) E H
inductive loopR {α : Type} (E' : α → Env) (H' : α → HL) (good : α → Prop) (μ : α → Nat) (n : Nat) (R : Post) : Post
  | again {E : Env} {H : HL} (y : α) : good y → μ y < n → Sub E (E' y) → Cv H (H' y) → loopR E' H' good μ n R .normal E H
  | ret {E : Env} {H : HL} : R .ret E H → loopR E' H' good μ n R .ret E H
  | exit {i : Nat} {E : Env} {H : HL} : R (.exit i) E H → loopR E' H' good μ n R (.exit i) E H
structure RetV (fn : Func) (E : Env) (H : HL) (v : Value) : Prop where
  out : ∀ a w, Holds N E a → Sat w0 H w → (results fn a.tmps).run P w = .ok v w
inductive retR (fn : Func) (S : Value → HL → Prop) : Post
  | end_ {E : Env} {H : HL} (v : Value) (H' : HL) : RetV P N w0 fn E H v → Cv H H' → S v H' → retR fn S .normal E H
  | ret {E : Env} {H : HL} (v : Value) (H' : HL) : RetV P N w0 fn E H v → Cv H H' → S v H' → retR fn S .ret E H
/-- A place between two pieces of code: what is known there. -/
inductive midR (E2 : Env) (H2 : HL) : Post
  | at_ {E : Env} {H : HL} : Sub E E2 → Cv H H2 → midR E2 H2 .normal E H
end
section
variable {P : Program} {N : Nat} {w0 : World} {E F : Env} {H H' H1 : HL} {R R' : Post} {ops : Array Oper} {rest : List Oper} {o : Oper} {v : Value}
theorem W_sub {c : Code} (s : Sub E F) (cv : Cv H H') (h : W P N w0 c F H' R) : W P N w0 c E H R := ⟨fun a w ha hs => h.out a w (ha.sub s) (cv.sat hs)⟩
theorem W_mono {c : Code} (hr : ∀ e E H, R e E H → R' e E H) (h : W P N w0 c E H R) : W P N w0 c E H R' :=
  ⟨fun a w ha hs => wp_mono (h.out a w ha hs) fun _ _ _ ⟨E, H, h1, h2, h3⟩ => ⟨E, H, h1, h2, hr _ _ _ h3⟩⟩
theorem W_seq {x y : Code} (h : W P N w0 x E H (seqR P N w0 y R)) : W P N w0 (.seq x y) E H R := ⟨fun a w ha hs => by
  refine wp_seq (wp_mono (h.out a w ha hs) ?_)
  rintro e a w ⟨E, H, h1, h2, h3⟩
  cases h3 with
  | normal h3 => exact h3.out a w h1 h2
  | ret h3 => exact ⟨E, H, h1, h2, h3⟩
  | exit h3 => exact ⟨E, H, h1, h2, h3⟩⟩
theorem W_mid {x y : Code} (E2 : Env) (H2 : HL) (h : W P N w0 x E H (midR E2 H2)) (h' : W P N w0 y E2 H2 R) : W P N w0 (.seq x y) E H R :=
  W_seq (W_mono (fun e E H q => by cases q with | at_ s cv => exact .normal (W_sub s cv h')) h)
theorem W_block {id : Nat} {c : Code} (h : W P N w0 c E H (blockR id R)) : W P N w0 (.block id c) E H R := ⟨fun a w ha hs => by
  refine wp_block (wp_mono (h.out a w ha hs) ?_)
  rintro e a w ⟨E, H, h1, h2, h3⟩
  cases h3 with
  | normal h3 => exact ⟨E, H, h1, h2, h3⟩
  | ret h3 => exact ⟨E, H, h1, h2, h3⟩
  | here h3 => simp only [Exit.inBlock, if_true]; exact ⟨E, H, h1, h2, h3⟩
  | exit hi h3 =>
    have := Nat.ne_of_beq_eq_false hi
    simp only [Exit.inBlock, if_neg this]; exact ⟨E, H, h1, h2, h3⟩⟩
theorem W_exit {id : Nat} (h : R (.exit id) E H) : W P N w0 (.exit id) E H R := ⟨fun a w ha hs => wp_exit ⟨E, H, ha, hs, h⟩⟩
theorem W_skip (h : R .normal E H) : W P N w0 .skip E H R := ⟨fun a w ha hs => wp_skip ⟨E, H, ha, hs, h⟩⟩
theorem W_ret (h : R .ret E H) : W P N w0 .ret E H R := ⟨fun a w ha hs => wp_ret ⟨E, H, ha, hs, h⟩⟩
theorem W_cond {c : Operand} {x y : Code} {t : Bool} (hc : ev E c = some (.bool t)) (h1 : t = true → W P N w0 x E H R) (h2 : t = false → W P N w0 y E H R) :
    W P N w0 (.cond c x y) E H R := ⟨fun a w ha hs => wp_cond_split (ha.eval hc) (fun h => (h1 h).out a w ha hs) (fun h => (h2 h).out a w ha hs)⟩
theorem W_cond1 {c : Operand} {x y : Code} (hc : ev E c = some (.bool true)) (h1 : W P N w0 x E H R) : W P N w0 (.cond c x y) E H R :=
  ⟨fun a w ha hs => wp_cond_true (ha.eval hc) (h1.out a w ha hs)⟩
theorem W_cond0 {c : Operand} {x y : Code} (hc : ev E c = some (.bool false)) (h1 : W P N w0 y E H R) : W P N w0 (.cond c x y) E H R :=
  ⟨fun a w ha hs => wp_cond_false (ha.eval hc) (h1.out a w ha hs)⟩
theorem W_condP {c : Operand} {x y : Code} {p : Prop} [Decidable p] (hc : ev E c = some (.bool (decide p))) (h1 : p → W P N w0 x E H R) (h2 : ¬ p → W P N w0 y E H R) :
    W P N w0 (.cond c x y) E H R := W_cond hc (fun h => h1 (of_decide_eq_true h)) (fun h => h2 (of_decide_eq_false h))
theorem W_condN {c : Operand} {x y : Code} {t : Bool} (hc : ev E c = some (.bool (!t))) (h1 : t = false → W P N w0 x E H R) (h2 : t = true → W P N w0 y E H R) :
    W P N w0 (.cond c x y) E H R := W_cond hc (fun h => h1 (by simpa using h)) (fun h => h2 (by simpa using h))
theorem W_condNP {c : Operand} {x y : Code} {p : Prop} [Decidable p] (hc : ev E c = some (.bool (!(decide p)))) (h1 : ¬ p → W P N w0 x E H R) (h2 : p → W P N w0 y E H R) :
    W P N w0 (.cond c x y) E H R := W_cond hc (fun h => h1 (by simpa using h)) (fun h => h2 (by simpa using h))
theorem W_region {id : Nat} {l : List Oper} (h : L P N w0 l.toArray l E H R) : W P N w0 (.region id l.toArray false) E H R := ⟨fun a w ha hs => wp_region_lit (h.out a w ha hs)⟩
theorem W_loop {c : Code} {α : Type} (E' : α → Env) (H' : α → HL) (good : α → Prop) (μ : α → Nat) (x : α) (hx : good x) (s : Sub E (E' x)) (cv : Cv H (H' x))
    (round : ∀ x, good x → W P N w0 c (E' x) (H' x) (loopR E' H' good μ (μ x) R)) : W P N w0 (.loop c) E H R := ⟨fun a w ha hs => by
  refine wp_loop_ghost (fun n a w => ∃ x, good x ∧ Holds N (E' x) a ∧ Sat w0 (H' x) w ∧ μ x = n) (μ x) ⟨x, hx, ha.sub s, cv.sat hs, rfl⟩ ?_
  rintro n a w ⟨x, hx, ha, hs, rfl⟩
  refine wp_mono ((round x hx).out a w ha hs) ?_
  rintro e a' w' ⟨E, H, h1, h2, h3⟩
  cases h3 with
  | again y hy hlt sy cy => exact ⟨μ y, hlt, y, hy, h1.sub sy, cy.sat h2, rfl⟩
  | ret h3 => exact ⟨E, H, h1, h2, h3⟩
  | exit h3 => exact ⟨E, H, h1, h2, h3⟩⟩
/-! results -/
theorem ret0 {fn : Func} (h : fn.results = #[]) : RetV P N w0 fn E H (.tuple #[]) := ⟨fun a w ha hs => by simp [results, h]⟩
theorem ret1 {fn : Func} {t : Tmp} {v : Value} (h : fn.results = #[.tmp t]) (hv : look E t = some v) : RetV P N w0 fn E H v := ⟨fun a w ha hs => by
  rw [results_tmp h, Array.getD_eq_getD_getElem?, ha.at_ t v hv]; rfl⟩
theorem ret2 {fn : Func} {t u : Tmp} {v v' : Value} (h : fn.results = #[.tmp t, .tmp u]) (hv : look E t = some v) (hv' : look E u = some v') : RetV P N w0 fn E H (.tuple #[v, v']) := ⟨fun a w ha hs => by
  rw [results_tmp2 h, Array.getD_eq_getD_getElem?, Array.getD_eq_getD_getElem?, ha.at_ t v hv, ha.at_ u v' hv']; rfl⟩
theorem ret3 {fn : Func} {t u s : Tmp} {v v' v'' : Value} (h : fn.results = #[.tmp t, .tmp u, .tmp s]) (hv : look E t = some v) (hv' : look E u = some v') (hv'' : look E s = some v'') :
    RetV P N w0 fn E H (.tuple #[v, v', v'']) := ⟨fun a w ha hs => by
  simp [results, h, Array.getD_eq_getD_getElem?, ha.at_ t v hv, ha.at_ u v' hv', ha.at_ s v'' hv'']⟩
/-! a function -/
def argE : Nat → List Value → Env
  | _, [] => []
  | i, v :: vs => (i, v) :: argE (i + 1) vs
theorem argE_look (vs : List Value) : ∀ (i t : Nat) (v : Value), look (argE i vs) t = some v → i ≤ t ∧ vs[t - i]? = some v := by
  induction vs with
  | nil => intro i t v h; simp [argE, look] at h
  | cons u vs ih =>
    intro i t v h
    simp only [argE, look] at h
    cases hb : Nat.beq i t with
    | true =>
      have e := Nat.eq_of_beq_eq_true hb
      rw [hb] at h
      simp only [cond_true, Option.some.injEq] at h
      subst e; subst h
      simp
    | false =>
      rw [hb] at h
      obtain ⟨h1, h2⟩ := ih (i + 1) t v h
      refine ⟨by omega, ?_⟩
      rw [show t - i = (t - (i + 1)) + 1 by omega]
      simpa using h2
theorem enter {fn : Func} {c : Code} {f : FuncId} {args : List Value} {S : Value → HL → Prop} (hf : P.funcs[f]? = some fn) (hn : (fn.name == "runtime.NumGoroutine") = false) (hb : fn.body = some c)
    (hN : fn.ntmps = N) (hl : args.length ≤ N) (h : W P N w0 c (argE 0 args) H (retR P N w0 fn S)) : Fn P w0 f args.toArray H S := by
  refine ⟨⟨fn, hf, hn, by simp [hb]⟩, fun w hs => ?_⟩
  refine calls_of_wp hf hb ?_
  refine wp_mono (h.out _ w ⟨?_, rfl, fun t v hv => ?_⟩ hs) ?_
  · simp [hN]; omega
  · obtain ⟨_, h2⟩ := argE_look args 0 t v hv
    have ht : t < args.length := by have := (List.getElem?_eq_some_iff.1 h2).1; omega
    rw [Array.getElem?_append_left (by simpa using ht)]
    simpa using h2
  · rintro e a w ⟨E, H, h1, h2, h3⟩
    cases h3 with
    | end_ v H' hv cv hS => exact ⟨h1.df, v, hv.out a w h1 h2, v, H', rfl, cv.sat h2, hS⟩
    | ret v H' hv cv hS => exact ⟨h1.df, v, hv.out a w h1 h2, v, H', rfl, cv.sat h2, hS⟩
section
variable {fn : Func} {c : Code} {f : FuncId} {S : Value → HL → Prop} (hf : P.funcs[f]? = some fn) (hn : (fn.name == "runtime.NumGoroutine") = false) (hb : fn.body = some c) (hN : fn.ntmps = N) {a b d e g : Value}
include hf hn hb hN
theorem enter0 (h : W P N w0 c [] H (retR P N w0 fn S)) : Fn P w0 f #[] H S := enter (args := []) hf hn hb hN (Nat.zero_le _) h
theorem enter1 (hl : Nat.ble 1 N = true) (h : W P N w0 c [(0, a)] H (retR P N w0 fn S)) : Fn P w0 f #[a] H S := enter (args := [a]) hf hn hb hN (Nat.le_of_ble_eq_true hl) h
theorem enter2 (hl : Nat.ble 2 N = true) (h : W P N w0 c [(0, a), (1, b)] H (retR P N w0 fn S)) : Fn P w0 f #[a, b] H S := enter (args := [a, b]) hf hn hb hN (Nat.le_of_ble_eq_true hl) h
theorem enter3 (hl : Nat.ble 3 N = true) (h : W P N w0 c [(0, a), (1, b), (2, d)] H (retR P N w0 fn S)) : Fn P w0 f #[a, b, d] H S := enter (args := [a, b, d]) hf hn hb hN (Nat.le_of_ble_eq_true hl) h
theorem enter4 (hl : Nat.ble 4 N = true) (h : W P N w0 c [(0, a), (1, b), (2, d), (3, e)] H (retR P N w0 fn S)) : Fn P w0 f #[a, b, d, e] H S := enter (args := [a, b, d, e]) hf hn hb hN (Nat.le_of_ble_eq_true hl) h
theorem enter5 (hl : Nat.ble 5 N = true) (h : W P N w0 c [(0, a), (1, b), (2, d), (3, e), (4, g)] H (retR P N w0 fn S)) : Fn P w0 f #[a, b, d, e, g] H S := enter (args := [a, b, d, e, g]) hf hn hb hN (Nat.le_of_ble_eq_true hl) h
end
theorem Fn.mono {f : FuncId} {args : Array Value} {S S' : Value → HL → Prop} (h : Fn P w0 f args H S) (hs : ∀ v H', S v H' → S' v H') : Fn P w0 f args H S' :=
  ⟨h.1, fun w hw => (h.2 w hw).mono fun _ _ ⟨v, H', e, h1, h2⟩ => ⟨v, H', e, h1, hs _ _ h2⟩⟩
/-- The same call where more blocks are known, or in another order. -/
theorem Fn.conv {f : FuncId} {args : Array Value} {S : Value → HL → Prop} (cv : Cv H H') (h : Fn P w0 f args H' S) : Fn P w0 f args H S := ⟨h.1, fun w hw => h.2 w (cv.sat hw)⟩
/-! ### a list of operations -/
theorem L_nil {l : Array Oper} (h : R .normal E H) : L P N w0 l [] E H R := ⟨fun a w ha hs => ⟨E, H, ha, hs, h⟩⟩
theorem L_val {t : Tmp} (hw : wantE ops E o = some true) (hd : o.dst = some t) (ht : Nat.blt t N = true) (hv : OpV P N w0 o E H v) (hk : L P N w0 ops rest ((t, v) :: E) H R) : L P N w0 ops (o :: rest) E H R := by
    refine ⟨fun a w ha hs => ?_⟩
    refine wpList_step fun K hK => ?_
    rw [if_pos (wanted_of ha hw)]
    unfold Oper.wp
    rw [hv.out a w ha hs]
    exact hK _ _ ((hk).out _ _ (ha.put hd ht v) hs)
theorem L_skip {t : Tmp} (hw : wantE ops E o = some false) (hd : o.dst = some t) (ht : Nat.blt t N = true) (hk : L P N w0 ops rest ((t, undef) :: E) H R) : L P N w0 ops (o :: rest) E H R := by
    refine ⟨fun a w ha hs => ?_⟩
    refine wpList_step fun K hK => ?_
    rw [wanted_of ha hw]
    exact hK _ _ ((hk).out _ _ (ha.put hd ht undef) hs)
theorem L_know {j : Nat} {want : Bool} {t : Tmp} {b : Bool} (_hg : o.guard = some (j, want)) (_ht : (ops[j]?).bind (·.dst) = some t) (hl : look E t = some (.bool b)) (h1 : b = true → L P N w0 ops (o :: rest) ((t, .bool true) :: E) H R)
    (h0 : b = false → L P N w0 ops (o :: rest) ((t, .bool false) :: E) H R) : L P N w0 ops (o :: rest) E H R := by
  refine ⟨fun a w ha hs => ?_⟩
  cases b with
  | true => exact (h1 rfl).out a w (ha.know hl) hs
  | false => exact (h0 rfl).out a w (ha.know hl) hs
theorem L_knowP {j : Nat} {want : Bool} {t : Tmp} {p : Prop} [Decidable p] (hg : o.guard = some (j, want)) (ht : (ops[j]?).bind (·.dst) = some t) (hl : look E t = some (.bool (decide p))) (h1 : p → L P N w0 ops (o :: rest) ((t, .bool true) :: E) H R)
    (h0 : ¬ p → L P N w0 ops (o :: rest) ((t, .bool false) :: E) H R) : L P N w0 ops (o :: rest) E H R := L_know hg ht hl (fun h => h1 (of_decide_eq_true h)) (fun h => h0 (of_decide_eq_false h))
theorem L_knowN {j : Nat} {want : Bool} {t : Tmp} {p : Prop} [Decidable p] (hg : o.guard = some (j, want)) (ht : (ops[j]?).bind (·.dst) = some t) (hl : look E t = some (.bool (!(decide p)))) (h1 : ¬ p → L P N w0 ops (o :: rest) ((t, .bool true) :: E) H R)
    (h0 : p → L P N w0 ops (o :: rest) ((t, .bool false) :: E) H R) : L P N w0 ops (o :: rest) E H R := L_know hg ht hl (fun h => h1 (by simpa using h)) (fun h => h0 (by simpa using h))
theorem L_knowB {j : Nat} {want : Bool} {t : Tmp} {c : Bool} (hg : o.guard = some (j, want)) (ht : (ops[j]?).bind (·.dst) = some t) (hl : look E t = some (.bool (!c))) (h1 : c = false → L P N w0 ops (o :: rest) ((t, .bool true) :: E) H R)
    (h0 : c = true → L P N w0 ops (o :: rest) ((t, .bool false) :: E) H R) : L P N w0 ops (o :: rest) E H R := L_know hg ht hl (fun h => h1 (by simpa using h)) (fun h => h0 (by simpa using h))
/-- An operation that turns the blocks. -/
theorem L_eff {t : Tmp} {S : Value → HL → Prop} (hw : wantE ops E o = some true) (hd : o.dst = some t) (ht : Nat.blt t N = true)
    (hr : ∀ a w, Holds N E a → Sat w0 H w → ∃ v w' H', (execOp a.eval o).run P w = .ok (.value v) w' ∧ Sat w0 H' w' ∧ S v H')
    (hk : ∀ v H', S v H' → L P N w0 ops rest ((t, v) :: E) H' R) : L P N w0 ops (o :: rest) E H R := by
  refine ⟨fun a w ha hs => ?_⟩
  refine wpList_step fun K hK => ?_
  rw [if_pos (wanted_of ha hw)]
  obtain ⟨v, w', H', e, h1, h2⟩ := hr a w ha hs
  unfold Oper.wp
  rw [e]
  exact hK _ _ ((hk v H' h2).out _ _ (ha.put hd ht v) h1)
theorem L_effU (hw : wantE ops E o = some true) (hd : o.dst = none)
    (hr : ∀ a w, Holds N E a → Sat w0 H w → ∃ w', (execOp a.eval o).run P w = .ok .skip w' ∧ Sat w0 H' w')
    (hk : L P N w0 ops rest E H' R) : L P N w0 ops (o :: rest) E H R := ⟨fun a w ha hs => by
  refine wpList_step fun K hK => ?_
  rw [if_pos (wanted_of ha hw)]
  obtain ⟨w', e, h1⟩ := hr a w ha hs
  unfold Oper.wp
  rw [e]
  refine hK _ _ (hk.out _ _ ?_ h1)
  rw [hd]; exact ha⟩
theorem run_call {f : FuncId} {fn : Func} {args : Array Value} (hf : P.funcs[f]? = some fn) (hn : (fn.name == "runtime.NumGoroutine") = false) (hb : fn.body.isSome = true) (w : World) :
    (callFunc f args).run P w = .ok (.enter f args) w := by
  have hb' : fn.body.isNone = false := by cases h : fn.body <;> simp_all
  unfold callFunc
  simp only [program, Bind.bind, Sem.bind, Sem.run, hf, hn, hb', pure, if_false, Bool.false_eq_true]
theorem run_callop {a : Act} {f : FuncId} {as : Array Operand} {ts : Array TypeId} {args : List Value} {x : Operand} {first captured : Array Value} {w : World}
    (ho : o.op = .call { callee := .value x, args := as, argTypes := ts }) (hx : a.eval x = .func (.func f) first captured) (ha : as.toList.map a.eval = args)
    (hc : ∃ fn, P.funcs[f]? = some fn ∧ (fn.name == "runtime.NumGoroutine") = false ∧ fn.body.isSome = true) :
    (execOp a.eval o).run P w = .ok (.enter f (first ++ args.toArray ++ captured)) w := by
  obtain ⟨fn, h1, h2, h3⟩ := hc
  have e : as.map a.eval = args.toArray := by rw [← ha, ← Array.toList_map, Array.toArray_toList]
  have hr := run_call (P := P) h1 h2 h3 (args := first ++ args.toArray ++ captured) w
  have he : execOp a.eval o = callFunc f (first ++ args.toArray ++ captured) := by
    unfold execOp
    rw [ho]
    simp only [resolve, Deferred.ofValue, hx]
    show (callFunc f (first ++ as.map a.eval ++ captured)) = _
    rw [e]
  rw [he]; exact hr
theorem L_call {t : Tmp} {f : FuncId} {as : Array Operand} {ts : Array TypeId} {args : List Value} {S : Value → HL → Prop} (hw : wantE ops E o = some true) (hd : o.dst = some t) (ht : Nat.blt t N = true)
    (ho : o.op = .call { callee := .value (.func f), args := as, argTypes := ts }) (ha : evs E as.toList = some args) (hf : Fn P w0 f args.toArray H S)
    (hk : ∀ v H', S v H' → L P N w0 ops rest ((t, v) :: E) H' R) : L P N w0 ops (o :: rest) E H R := by
  refine ⟨fun a w hh hs => ?_⟩
  refine wpList_step fun K hK => ?_
  rw [if_pos (wanted_of hh hw)]
  unfold Oper.wp
  rw [run_callop (x := .func f) (first := #[]) (captured := #[]) ho rfl (hh.evals ha) hf.is_]
  simp only [Array.empty_append, Array.append_empty]
  rw [Oper.upon_enter]
  refine (hf.out w hs).mono ?_
  rintro e w' ⟨v, H', rfl, h1, h2⟩
  exact hK _ _ ((hk v H' h2).out _ _ (hh.put hd ht v) h1)
theorem L_call0 {f : FuncId} {as : Array Operand} {ts : Array TypeId} {args : List Value} {S : Value → HL → Prop} (hw : wantE ops E o = some true) (hd : o.dst = none)
    (ho : o.op = .call { callee := .value (.func f), args := as, argTypes := ts }) (ha : evs E as.toList = some args) (hf : Fn P w0 f args.toArray H S)
    (hk : ∀ v H', S v H' → L P N w0 ops rest E H' R) : L P N w0 ops (o :: rest) E H R := by
  refine ⟨fun a w hh hs => ?_⟩
  refine wpList_step fun K hK => ?_
  rw [if_pos (wanted_of hh hw)]
  unfold Oper.wp
  rw [run_callop (x := .func f) (first := #[]) (captured := #[]) ho rfl (hh.evals ha) hf.is_]
  simp only [Array.empty_append, Array.append_empty]
  rw [Oper.upon_enter]
  refine (hf.out w hs).mono ?_
  rintro e w' ⟨v, H', rfl, h1, h2⟩
  exact hK _ _ ((hk v H' h2).out _ _ (by rw [hd]; exact hh) h1)
theorem L_callv {t' : Tmp} {f : FuncId} {as : Array Operand} {ts : Array TypeId} {t : Tmp} {first captured : Array Value} {args : List Value} {S : Value → HL → Prop} (hw : wantE ops E o = some true) (hd : o.dst = some t') (ht : Nat.blt t' N = true)
    (ho : o.op = .call { callee := .value (.tmp t), args := as, argTypes := ts }) (hx : look E t = some (.func (.func f) first captured)) (ha : evs E as.toList = some args) (hf : Fn P w0 f (first ++ args.toArray ++ captured) H S)
    (hk : ∀ v H', S v H' → L P N w0 ops rest ((t', v) :: E) H' R) : L P N w0 ops (o :: rest) E H R := by
  refine ⟨fun a w hh hs => ?_⟩
  refine wpList_step fun K hK => ?_
  rw [if_pos (wanted_of hh hw)]
  unfold Oper.wp
  rw [run_callop (x := .tmp t) (first := first) (captured := captured) ho (hh.eval (x := .tmp t) hx) (hh.evals ha) hf.is_]
  rw [Oper.upon_enter]
  refine (hf.out w hs).mono ?_
  rintro e w' ⟨v, H', rfl, h1, h2⟩
  exact hK _ _ ((hk v H' h2).out _ _ (hh.put hd ht v) h1)
/-! ### a region that draws its order: reads and calls that leave the blocks as they are -/
structure QL (P : Program) (N : Nat) (w0 : World) (ops : Array Oper) (l : List Oper) (E : Env) (H : HL) (R : Post) : Prop where
  out : ∀ a, Holds N E a → wpQuiet P ops (Sat w0 H) (fun a' => ∀ w', Sat w0 H w' → lift N w0 R .normal a' w') l a
def quietB (l : List Oper) : Bool := l.all fun o => match o.op with
  | .store .. => false
  | .alloc _ => false
  | .box .. => false
  | .mapUpdate .. => false
  | .buildSlice .. => false
  | .makeSlice .. => false
  | .makeMap .. => false
  | _ => true
theorem W_regionQ {id : Nat} {l : List Oper} (_hq : quietB l = true) (hm : P.follows .mixedOrders = true) (hB : Region.lexB .any l.toArray = true) (h : QL P N w0 l.toArray l E H R) :
    W P N w0 (.region id l.toArray true) E H R := ⟨fun a w ha hs =>
  wp_region_quiet (C := Sat w0 H) hm hB hs.drew (by simpa using h.out a ha)⟩
theorem Q_nil {l : Array Oper} (h : R .normal E H) : QL P N w0 l [] E H R := ⟨fun a ha => wpQuiet_nil fun w' hs => ⟨E, H, ha, hs, h⟩⟩
theorem Q_val {t : Tmp} (hw : wantE ops E o = some true) (hd : o.dst = some t) (ht : Nat.blt t N = true) (hv : OpV P N w0 o E H v) (hk : QL P N w0 ops rest ((t, v) :: E) H R) : QL P N w0 ops (o :: rest) E H R := by
  refine ⟨fun a ha => ?_⟩
  refine wpQuiet_step fun K hK => ?_
  rw [if_pos (wanted_of ha hw)]
  refine ⟨v, fun w hs => ?_, hK _ ((hk).out _ (ha.put hd ht v))⟩
  unfold Oper.quietAt
  rw [hv.out a w ha hs]
  exact ⟨rfl, rfl⟩
theorem Q_skip {t : Tmp} (hw : wantE ops E o = some false) (hd : o.dst = some t) (ht : Nat.blt t N = true) (hk : QL P N w0 ops rest ((t, undef) :: E) H R) : QL P N w0 ops (o :: rest) E H R := by
  refine ⟨fun a ha => ?_⟩
  refine wpQuiet_step fun K hK => ?_
  rw [wanted_of ha hw]
  exact hK _ ((hk).out _ (ha.put hd ht undef))
theorem Q_know {j : Nat} {want : Bool} {t : Tmp} {b : Bool} (_hg : o.guard = some (j, want)) (_ht : (ops[j]?).bind (·.dst) = some t) (hl : look E t = some (.bool b)) (h1 : b = true → QL P N w0 ops (o :: rest) ((t, .bool true) :: E) H R)
    (h0 : b = false → QL P N w0 ops (o :: rest) ((t, .bool false) :: E) H R) : QL P N w0 ops (o :: rest) E H R := by
  refine ⟨fun a ha => ?_⟩
  cases b with
  | true => exact (h1 rfl).out a (ha.know hl)
  | false => exact (h0 rfl).out a (ha.know hl)
theorem Q_knowP {j : Nat} {want : Bool} {t : Tmp} {p : Prop} [Decidable p] (hg : o.guard = some (j, want)) (ht : (ops[j]?).bind (·.dst) = some t) (hl : look E t = some (.bool (decide p))) (h1 : p → QL P N w0 ops (o :: rest) ((t, .bool true) :: E) H R)
    (h0 : ¬ p → QL P N w0 ops (o :: rest) ((t, .bool false) :: E) H R) : QL P N w0 ops (o :: rest) E H R := Q_know hg ht hl (fun h => h1 (of_decide_eq_true h)) (fun h => h0 (of_decide_eq_false h))
theorem Q_knowN {j : Nat} {want : Bool} {t : Tmp} {p : Prop} [Decidable p] (hg : o.guard = some (j, want)) (ht : (ops[j]?).bind (·.dst) = some t) (hl : look E t = some (.bool (!(decide p)))) (h1 : ¬ p → QL P N w0 ops (o :: rest) ((t, .bool true) :: E) H R)
    (h0 : p → QL P N w0 ops (o :: rest) ((t, .bool false) :: E) H R) : QL P N w0 ops (o :: rest) E H R := Q_know hg ht hl (fun h => h1 (by simpa using h)) (fun h => h0 (by simpa using h))
theorem Q_knowB {j : Nat} {want : Bool} {t : Tmp} {c : Bool} (hg : o.guard = some (j, want)) (ht : (ops[j]?).bind (·.dst) = some t) (hl : look E t = some (.bool (!c))) (h1 : c = false → QL P N w0 ops (o :: rest) ((t, .bool true) :: E) H R)
    (h0 : c = true → QL P N w0 ops (o :: rest) ((t, .bool false) :: E) H R) : QL P N w0 ops (o :: rest) E H R := Q_know hg ht hl (fun h => h1 (by simpa using h)) (fun h => h0 (by simpa using h))
theorem Q_call {t : Tmp} {f : FuncId} {as : Array Operand} {ts : Array TypeId} {args : List Value} (hw : wantE ops E o = some true) (hd : o.dst = some t) (ht : Nat.blt t N = true)
    (ho : o.op = .call { callee := .value (.func f), args := as, argTypes := ts }) (ha : evs E as.toList = some args) (hf : Fn P w0 f args.toArray H (fun u H' => u = v ∧ H' = H))
    (hk : QL P N w0 ops rest ((t, v) :: E) H R) : QL P N w0 ops (o :: rest) E H R := by
  refine ⟨fun a hh => ?_⟩
  refine wpQuiet_step fun K hK => ?_
  rw [if_pos (wanted_of hh hw)]
  refine ⟨v, fun w hs => ?_, hK _ ((hk).out _ (hh.put hd ht v))⟩
  unfold Oper.quietAt
  rw [run_callop (x := .func f) (first := #[]) (captured := #[]) ho rfl (hh.evals ha) hf.is_]
  simp only [Array.empty_append, Array.append_empty]
  refine ⟨rfl, (hf.out w hs).mono ?_⟩
  rintro e w' ⟨u, H', rfl, h1, rfl, rfl⟩
  exact ⟨rfl, h1⟩
end
end Go.Proofs.Ytepddopgmhdllaa.Eng
