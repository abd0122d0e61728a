/- A region that draws its order and turns the blocks: operations that only yield a value are taken first; what is left is walked in each order that is left. -/
import Derived.Test.YtepddopgmhdllaaOps
import Derived.Still
namespace Go.Proofs.Ytepddopgmhdllaa.Eng
open Go Go.RowKit Go.Proofs.Ytepddopgmhdllaa.Sl
set_option linter.unusedVariables false
set_option linter.unusedSimpArgs false
section
variable {P : Program} {ops : Array Oper} {C : World → Prop}
def noQ : Exit → Act → World → Prop := fun _ _ _ => False
def opC (P : Program) (ops : Array Oper) (i : Nat) (K : Act → World → Prop) (a : Act) (w : World) : Prop :=
  match ops[i]? with
  | none => K a w
  | some o => if Region.wanted o (yielded ops a.tmps) then o.wp P a w K noQ else K (a.put o.dst undef) w
def wpC (P : Program) (ops : Array Oper) (C : World → Prop) (Q : Act → World → Prop) : Nat → Array Bool → Act → World → Prop
  | 0, listed, a, w => C w ∧ Region.ready .any ops listed = [] ∧ Q a w
  | n + 1, listed, a, w => C w ∧ (Region.ready .any ops listed = [] → Q a w) ∧ ∀ i ∈ Region.ready .any ops listed, opC P ops i (wpC P ops C Q n (listed.setIfInBounds i true)) a w
theorem wpC_in {Q : Act → World → Prop} : ∀ {n : Nat} {listed : Array Bool} {a : Act} {w : World}, wpC P ops C Q n listed a w → C w
  | 0, _, _, _, h => h.1
  | _ + 1, _, _, _, h => h.1
theorem upon_mono {o : Oper} {a : Act} {K K' : Act → World → Prop} {Q : Exit → Act → World → Prop} {r : Result Next} (hk : ∀ a w, K a w → K' a w) (h : o.upon P a K noQ r) : o.upon P a K' Q r := by
  cases r with
  | ok n w =>
    cases n <;> simp only [Oper.upon] at h ⊢ <;> try exact hk _ _ h
    case enter f args =>
      refine h.mono fun e w' he => ?_
      cases e with
      | returned v => exact hk _ _ he
      | panicked c => exact he.elim
      | outgrown => obtain ⟨_, _, h⟩ := he; exact h.elim
    case row r args => exact h.mono fun v w' he => hk _ _ he
  | halt x w =>
    cases x <;> simp only [Oper.upon] at h ⊢
    exact h.elim
theorem opC_mono {i : Nat} {K K' : Act → World → Prop} {a : Act} {w : World} (hk : ∀ a w, K a w → K' a w) (h : opC P ops i K a w) : opC P ops i K' a w := by
  unfold opC at *
  split
  · rename_i ho; simp only [ho] at h; exact hk _ _ h
  · rename_i o ho
    simp only [ho] at h
    split
    · rename_i hw; simp only [hw, if_true] at h; exact upon_mono hk h
    · rename_i hw; simp only [hw] at h; exact hk _ _ h
theorem wpAny_of_C {Q : Act → World → Prop} {Q' : Exit → Act → World → Prop} (hQ : ∀ a w, Q a w → Q' .normal a w) : ∀ (n : Nat) (listed : Array Bool) (a : Act) (w : World), wpC P ops C Q n listed a w → wpAny P .any ops Q' n listed a w
  | 0, _, _, _, h => ⟨h.2.1, hQ _ _ h.2.2⟩
  | n + 1, listed, a, w, h => ⟨fun e => hQ _ _ (h.2.1 e), fun i hi => by
      have := h.2.2 i hi
      unfold opC at this
      unfold wpOp
      split
      · rename_i ho; simp only [ho] at this; exact wpAny_of_C hQ n _ _ _ this
      · rename_i o ho
        simp only [ho] at this
        split
        · rename_i hw; simp only [hw, if_true] at this; exact .inl (upon_mono (fun a w => wpAny_of_C hQ n _ a w) this)
        · rename_i hw; simp only [hw] at this; exact wpAny_of_C hQ n _ _ _ this⟩
/-- In this state, in every world of the class, the operation yields v and leaves the world alone. -/
def YC (P : Program) (ops : Array Oper) (C : World → Prop) (o : Oper) (v : Value) (a : Act) : Prop :=
  (Region.wanted o (yielded ops a.tmps) = true ∧ ∀ w, C w → (execOp a.eval o).run P w = .ok (.value v) w) ∨ (Region.wanted o (yielded ops a.tmps) = false ∧ v = undef)
theorem YC.op {i : Nat} {o : Oper} {v : Value} {a : Act} {w : World} (hi : ops[i]? = some o) (hy : YC P ops C o v a) (hC : C w) {K : Act → World → Prop} (h : K (a.put o.dst v) w) : opC P ops i K a w := by
  unfold opC
  simp only [hi]
  rcases hy with ⟨hw, hv⟩ | ⟨hw, rfl⟩
  · simp only [hw, if_true, Oper.wp, hv w hC, Oper.upon]; exact h
  · simp only [hw, Bool.false_eq_true, if_false]; exact h
theorem YC.same {o : Oper} {v : Value} {a a' : Act} (hy : YC P ops C o v a) (he : execOp a'.eval o = execOp a.eval o) (hw : Region.wanted o (yielded ops a'.tmps) = Region.wanted o (yielded ops a.tmps)) : YC P ops C o v a' := by
  unfold YC at *
  rw [he, hw]
  exact hy
theorem opC_put {j : Nat} {oi oj : Oper} {v : Value} (hj : ops[j]? = some oj) (hap : oi.apart ops oj = true) (hsi : ∀ cs b, oi.op ≠ .select cs b) (hsj : ∀ cs b, oj.op ≠ .select cs b)
    {K : Act → World → Prop} {a : Act} {w : World} (hy : YC P ops C oi v a) (h : opC P ops j K (a.put oi.dst v) w) : opC P ops j (fun a' w' => YC P ops C oi v a' ∧ K (a'.put oi.dst v) w') a w := by
  obtain ⟨h1, h2, h3⟩ := Oper.apart_spec hap
  have keep : ∀ (a : Act), YC P ops C oi v a → ∀ u, YC P ops C oi v (a.put oj.dst u) := fun a hy u =>
    hy.same (execOp_put oi hsi a oj.dst u h3) (wanted_put oi a oj.dst u h3)
  unfold opC at *
  simp only [hj] at *
  rw [wanted_put oj a oi.dst v h1] at h
  split
  · rename_i hw
    simp only [hw, if_true] at h
    unfold Oper.wp at *
    rw [execOp_put oj hsj a oi.dst v h1] at h
    generalize (execOp a.eval oj).run P w = r at *
    cases r with
    | ok n w' =>
      cases n <;> simp only [Oper.upon] at h ⊢
      case value u => exact ⟨keep a hy u, by rw [← Act.put_comm a v u h2]; exact h⟩
      case skip => exact ⟨keep a hy _, by rw [← Act.put_comm a v undef h2]; exact h⟩
      case defer d =>
        refine ⟨?_, ?_⟩
        · exact (hy.same (a' := { a with defers := d :: a.defers }) rfl rfl).same (execOp_put oi hsi _ oj.dst undef h3) (wanted_put oi _ oj.dst undef h3)
        · rw [← Act.put_comm _ v undef h2]; rw [← Act.put_defers]; exact h
      case enter f args =>
        refine h.mono fun e w'' he => ?_
        cases e with
        | returned u => exact ⟨keep a hy u, by rw [← Act.put_comm a v u h2]; exact he⟩
        | panicked c => exact he.elim
        | outgrown => obtain ⟨_, _, h⟩ := he; exact h.elim
      case row r args => exact h.mono fun u w'' he => ⟨keep a hy u, by rw [← Act.put_comm a v u h2]; exact he⟩
    | halt x w' =>
      cases x <;> simp only [Oper.upon] at h ⊢
      exact h.elim
  · rename_i hw
    simp only [hw] at h
    exact ⟨keep a hy _, by rw [← Act.put_comm a v undef h2]; exact h⟩
theorem wpC_first {Q : Act → World → Prop} {i : Nat} {oi : Oper} {v : Value} (hi : ops[i]? = some oi) (hsel : ∀ (j : Nat) (o : Oper) cs b, ops[j]? = some o → o.op ≠ .select cs b) :
    ∀ (n : Nat) (listed : Array Bool) (a : Act) (w : World),
      (∀ j oj, ops[j]? = some oj → j ≠ i → listed.getD j true = false → (∀ e ∈ oj.after, Region.binds .any e = true → e.on ≠ i) → oi.apart ops oj = true) →
      i ∈ Region.ready .any ops listed → YC P ops C oi v a → C w →
      wpC P ops C Q n (listed.setIfInBounds i true) (a.put oi.dst v) w → wpC P ops C Q (n + 1) listed a w := by
  intro n
  induction n with
  | zero =>
    intro listed a w _ hr hy hC H
    refine ⟨hC, fun h => (by rw [h] at hr; cases hr), fun j hj => ?_⟩
    by_cases hji : j = i
    · subst hji; exact hy.op hi hC H
    · have := ready_mono hj hji
      rw [H.2.1] at this
      cases this
  | succ n ih =>
    intro listed a w hfree hr hy hC H
    refine ⟨hC, fun h => (by rw [h] at hr; cases hr), fun j hj => ?_⟩
    by_cases hji : j = i
    · subst hji; exact hy.op hi hC H
    · have h1 := H.2.2 j (ready_mono hj hji)
      obtain ⟨hjun, oj, hoj, hall⟩ := mem_ready.1 hj
      have hnot : ∀ e ∈ oj.after, Region.binds .any e = true → e.on ≠ i := fun e he hb heq => by
        have h1 := hall e he hb
        have h0 := (mem_ready.1 hr).1
        rw [heq] at h1
        rcases Nat.lt_or_ge i listed.size with h' | h'
        · simp [h'] at h0 h1; rw [h0] at h1; cases h1
        · simp [Array.getElem?_eq_none h'] at h1
      have h2 := opC_put hoj (hfree j oj hoj hji hjun hnot) (fun cs b => hsel i oi cs b hi) (fun cs b => hsel j oj cs b hoj) hy h1
      have hfree' : ∀ k ok, ops[k]? = some ok → k ≠ i → (listed.setIfInBounds j true).getD k true = false →
          (∀ e ∈ ok.after, Region.binds .any e = true → e.on ≠ i) → oi.apart ops ok = true := fun k ok hk hki hun hno => by
        refine hfree k ok hk hki ?_ hno
        by_cases hjk : j = k
        · subst hjk; exact hjun
        · rw [getD_set_ne true hjk] at hun; exact hun
      refine opC_mono (fun a' w' h3 => ih (listed.setIfInBounds j true) a' w' hfree' (ready_mono hr (Ne.symm hji)) h3.1 (wpC_in h3.2) ?_) h2
      rw [Array.setIfInBounds_comm _ _ hji]
      exact h3.2
end
section
variable {P : Program} {N : Nat} {w0 : World} {E F : Env} {H H' D : HL} {R : Post} {ops : Array Oper} {o : Oper} {v : Value} {n i j : Nat} {listed : Array Bool}
/-- Whatever order is picked from here on; D: the blocks that every operation keeps. -/
structure A (P : Program) (N : Nat) (w0 : World) (ops : Array Oper) (D : HL) (n : Nat) (listed : Array Bool) (E : Env) (H : HL) (R : Post) : Prop where
  out : ∀ a w, Holds N E a → Sat w0 H w → wpC P ops (Sat w0 D) (fun a w => lift N w0 R .normal a w) n listed a w
structure O (P : Program) (N : Nat) (w0 : World) (ops : Array Oper) (D : HL) (n : Nat) (listed : Array Bool) (o : Oper) (E : Env) (H : HL) (R : Post) : Prop where
  out : ∀ a w, Holds N E a → Sat w0 H w → if Region.wanted o (yielded ops a.tmps) then o.wp P a w (wpC P ops (Sat w0 D) (fun a w => lift N w0 R .normal a w) n listed) noQ
    else wpC P ops (Sat w0 D) (fun a w => lift N w0 R .normal a w) n listed (a.put o.dst undef) w
theorem W_regionA {id : Nat} {l : List Oper} (hm : P.follows .mixedOrders = true) (h : A P N w0 l.toArray D l.length (Array.replicate l.length false) E H R) : W P N w0 (.region id l.toArray true) E H R := by
    refine ⟨fun a w ha hs => ?_⟩
    refine wp_region_any hm ?_
    have := h.out a { w with drawn := w.drawn + 1 } ha hs.drew
    simpa using wpAny_of_C (fun _ _ q => q) _ _ _ _ this
def firstB (ops : Array Oper) (listed : Array Bool) (i : Nat) : Bool := Region.noSelect ops && (Region.ready .any ops listed).contains i && Region.free .any ops listed i
theorem A_val {t : Tmp} (i : Nat) (ho : ops[i]? = some o) (hB : firstB ops listed i = true) (hw : wantE ops E o = some true) (hd : o.dst = some t) (ht : Nat.blt t N = true) (cv : Cv H D) (hv : OpV P N w0 o E D v)
    (hk : A P N w0 ops D n (listed.setIfInBounds i true) ((t, v) :: E) H R) : A P N w0 ops D (n + 1) listed E H R := by
  refine ⟨fun a w ha hs => ?_⟩
  simp only [firstB, Bool.and_eq_true] at hB
  refine wpC_first ho (Region.noSelect_spec hB.1.1) n listed a w (Region.free_spec ho hB.2) (by simpa using hB.1.2) (.inl ⟨wanted_of ha hw, fun w hC => hv.out a w ha hC⟩) (cv.sat hs) ?_
  exact hk.out _ _ (ha.put hd ht v) hs
theorem A_skip {t : Tmp} (i : Nat) (ho : ops[i]? = some o) (hB : firstB ops listed i = true) (hw : wantE ops E o = some false) (hd : o.dst = some t) (ht : Nat.blt t N = true) (cv : Cv H D)
    (hk : A P N w0 ops D n (listed.setIfInBounds i true) ((t, undef) :: E) H R) : A P N w0 ops D (n + 1) listed E H R := by
  refine ⟨fun a w ha hs => ?_⟩
  simp only [firstB, Bool.and_eq_true] at hB
  refine wpC_first ho (Region.noSelect_spec hB.1.1) n listed a w (Region.free_spec ho hB.2) (by simpa using hB.1.2) (.inr ⟨wanted_of ha hw, rfl⟩) (cv.sat hs) ?_
  exact hk.out _ _ (ha.put hd ht undef) hs
theorem A_know {t : Tmp} {b : Bool} (i : Nat) {j : Nat} {want : Bool} (_ho : ops[i]? = some o) (_hg : o.guard = some (j, want)) (_ht : (ops[j]?).bind (·.dst) = some t) (hl : look E t = some (.bool b)) (h1 : b = true → A P N w0 ops D n listed ((t, .bool true) :: E) H R)
    (h0 : b = false → A P N w0 ops D n listed ((t, .bool false) :: E) H R) : A P N w0 ops D n listed E H R := by
  refine ⟨fun a w ha hs => ?_⟩
  cases b with
  | true => exact (h1 rfl).out a w (ha.know hl) hs
  | false => exact (h0 rfl).out a w (ha.know hl) hs
theorem A_nil (hr : Region.ready .any ops listed = []) (cv : Cv H D) (h : R .normal E H) : A P N w0 ops D n listed E H R := by
  refine ⟨fun a w ha hs => ?_⟩
  cases n with
  | zero => exact ⟨cv.sat hs, hr, E, H, ha, hs, h⟩
  | succ n => exact ⟨cv.sat hs, fun _ => ⟨E, H, ha, hs, h⟩, fun i hi => by rw [hr] at hi; cases hi⟩
theorem A_one (hr : Region.ready .any ops listed = [i]) (cv : Cv H D) (ho : ops[i]? = some o) (h : O P N w0 ops D n (listed.setIfInBounds i true) o E H R) : A P N w0 ops D (n + 1) listed E H R := by
  refine ⟨fun a w ha hs => ?_⟩
  refine ⟨cv.sat hs, fun e => (by rw [hr] at e; cases e), fun k hk => ?_⟩
  rw [hr, List.mem_singleton] at hk
  subst hk
  unfold opC
  simp only [ho]
  exact h.out a w ha hs
theorem A_two {o' : Oper} (hr : Region.ready .any ops listed = [i, j]) (cv : Cv H D) (ho : ops[i]? = some o) (ho' : ops[j]? = some o') (h : O P N w0 ops D n (listed.setIfInBounds i true) o E H R)
    (h' : O P N w0 ops D n (listed.setIfInBounds j true) o' E H R) : A P N w0 ops D (n + 1) listed E H R := by
  refine ⟨fun a w ha hs => ?_⟩
  refine ⟨cv.sat hs, fun e => (by rw [hr] at e; cases e), fun k hk => ?_⟩
  rw [hr] at hk
  unfold opC
  rcases List.mem_cons.1 hk with rfl | hk
  · simp only [ho]; exact h.out a w ha hs
  · rw [List.mem_singleton] at hk
    subst hk
    simp only [ho']; exact h'.out a w ha hs
theorem O_val {t : Tmp} (hw : wantE ops E o = some true) (hd : o.dst = some t) (ht : Nat.blt t N = true) (hv : OpV P N w0 o E H v) (hk : A P N w0 ops D n listed ((t, v) :: E) H R) : O P N w0 ops D n listed o E H R := by
  refine ⟨fun a w ha hs => ?_⟩
  rw [if_pos (wanted_of ha hw)]
  unfold Oper.wp
  rw [hv.out a w ha hs]
  exact hk.out _ _ (ha.put hd ht v) hs
theorem O_skip {t : Tmp} (hw : wantE ops E o = some false) (hd : o.dst = some t) (ht : Nat.blt t N = true) (hk : A P N w0 ops D n listed ((t, undef) :: E) H R) : O P N w0 ops D n listed o E H R := by
  refine ⟨fun a w ha hs => ?_⟩
  rw [wanted_of ha hw]
  exact hk.out _ _ (ha.put hd ht undef) hs
/-- What L's steps say of one operation, said of it here. -/
theorem O_of_L (h : ∀ (S : Post), (∀ E' H', A P N w0 ops D n listed E' H' R → S .normal E' H') → L P N w0 ops [o] E H S) : O P N w0 ops D n listed o E H R := by
  refine ⟨fun a w ha hs => ?_⟩
  have h1 := (h (fun e E' H' => e = .normal ∧ A P N w0 ops D n listed E' H' R) (fun _ _ q => ⟨rfl, q⟩)).out a w ha hs
  have key : ∀ a' w', wpList P ops (lift N w0 fun e E' H' => e = .normal ∧ A P N w0 ops D n listed E' H' R) [] a' w' → wpC P ops (Sat w0 D) (fun a w => lift N w0 R .normal a w) n listed a' w' := by
    rintro a' w' ⟨E', H', h2, h3, _, h4⟩
    exact h4.out a' w' h2 h3
  have noout : ∀ a w, ¬ lift N w0 (fun e E' H' => e = .normal ∧ A P N w0 ops D n listed E' H' R) .outgrown a w := by
    rintro a w ⟨_, _, _, _, h, _⟩; cases h
  have nopan : ∀ c a w, ¬ lift N w0 (fun e E' H' => e = .normal ∧ A P N w0 ops D n listed E' H' R) (.panic c) a w := by
    rintro c a w ⟨_, _, _, _, h, _⟩; cases h
  unfold wpList at h1
  split
  · rename_i hw
    rw [if_pos hw] at h1
    rcases h1 with h1 | ⟨_, a', w', h1⟩
    · unfold Oper.wp at *
      generalize (execOp a.eval o).run P w = r at *
      cases r with
      | ok x w' =>
        cases x <;> simp only [Oper.upon] at h1 ⊢ <;> try exact key _ _ h1
        case enter f args =>
          refine h1.mono fun e w' he => ?_
          cases e with
          | returned v => exact key _ _ he
          | panicked c => exact (nopan _ _ _ he).elim
          | outgrown => obtain ⟨a', w', he⟩ := he; exact (noout _ _ he).elim
        case row r args => exact h1.mono fun v w' he => key _ _ he
      | halt x w' =>
        cases x <;> simp only [Oper.upon] at h1 ⊢
        exact (nopan _ _ _ h1).elim
    · exact (noout _ _ h1).elim
  · rename_i hw
    rw [if_neg hw] at h1
    exact key _ _ h1
end
end Go.Proofs.Ytepddopgmhdllaa.Eng
