/- How data that came in are read. -/
import Derived.Test.YtfmhlieaodbgiaaGreatTys
import Derived.ProofKit
import Derived.OpenShut
import Derived.ShutString
import Derived.ChangeOld
import Derived.SizedLaws
import Derived.Lib.SmallJoins
import Derived.Deep.Fields
namespace Go.Proofs.YtfmhlieaodbgiaaGreat.Opens
set_option linter.unusedVariables false
set_option linter.unusedSimpArgs false
open Go Go.RowKit Go.ChangeShapes Go.WideShapes Go.Deep

/-- how a datum lies in cells -/
structure Kd (α : Type) where
  sz : Nat
  K : World → α → List Value → Prop
def Kd.int (k : IntKind) : Kd Int := ⟨1, fun _ a cs => cs = [.int k a]⟩
def Kd.bool : Kd Bool := ⟨1, fun _ a cs => cs = [.bool a]⟩
def Kd.slice {α : Type} (e : TypeId) (d : Kd α) : Kd (List α) := ⟨1, fun w l cs => ∃ a cap, cs = [.slice a l.length cap] ∧ l.length ≤ cap ∧
  (l ≠ [] → ∃ x, a = some x ∧ ∀ (j : Nat) p, l[j]? = some p → ∃ c : List Value, c.length = d.sz ∧ d.K w p c ∧ ∀ (q : Nat) u, c[q]? = some u → w.cell? (x.add (j * d.sz + q)) = some u)⟩
def Kd.pair {α β : Type} (d : Kd α) (d' : Kd β) : Kd (α × β) := ⟨d.sz + d'.sz, fun w x cs => ∃ c c' : List Value, cs = c ++ c' ∧ d.K w x.1 c ∧ d'.K w x.2 c'⟩
/-- Whatever reads as a datum of type t reads as an a of the kind d, of which G holds. -/
def Opens {α : Type} (P : Program) (t : TypeId) (d : Kd α) (G : α → Prop) : Prop :=
  ∀ {H : Type} (enc : TypeId × Value → H) (w : World) (base : Nat) (spare : Nat → Bool) (held : Bool) (fuel : Nat) (cs : List Value) (x : DataW H × List MemPlace),
    DataW.trod enc P w base spare held fuel t cs = some x → ∃ a, d.K w a cs ∧ G a

section
variable {P : Program}
theorem opens_int {t : TypeId} {k : IntKind} (ht : P.underlying t = some (.int k)) : Opens P t (Kd.int k) (fun a => (Lit.int k a).wf = true) := by
  intro H enc w base spare held fuel cs x h
  obtain ⟨n, rfl, _, hw⟩ := DataW.trod_int ht h
  exact ⟨n, rfl, hw⟩
theorem opens_bool {t : TypeId} (ht : P.underlying t = some .bool) : Opens P t Kd.bool (fun _ => True) := by
  intro H enc w base spare held fuel cs x h
  obtain ⟨n, rfl, _⟩ := DataW.trod_bool ht h
  exact ⟨n, rfl, trivial⟩
theorem choose_list {α : Type} (n : Nat) (p : Nat → α → Prop) (h : ∀ i, i < n → ∃ a, p i a) : ∃ l : List α, l.length = n ∧ ∀ i a, l[i]? = some a → p i a := by
  induction n with
  | zero => exact ⟨[], rfl, fun i a h => by simp at h⟩
  | succ n ih =>
    obtain ⟨l, hl, hp⟩ := ih (fun i hi => h i (by omega))
    obtain ⟨a, ha⟩ := h n (by omega)
    refine ⟨l ++ [a], by simp [hl], fun i b hb => ?_⟩
    by_cases hi : i < l.length
    · rw [List.getElem?_append_left hi] at hb
      exact hp i b hb
    · have hn : i = l.length := by
        have := (List.getElem?_eq_some_iff.1 hb).1
        simp at this; omega
      subst hn
      simp at hb
      subst hb
      rw [hl]; exact ha
theorem opens_slice {α : Type} {t e : TypeId} {d : Kd α} {G : α → Prop} (ht : P.underlying t = some (.slice e)) (hs : P.cellsOf e = d.sz) (ho : Opens P e d G) :
    Opens P t (Kd.slice e d) (fun l => l.length ≤ maxLen ∧ ∀ a ∈ l, G a) := by
  intro H enc w base spare held fuel cs x h
  rcases open_slice ht h with ⟨rfl, _⟩ | ⟨a, len, cap, m, n, D, Pl, rfl, _, hl, hm, hmm, _, hi⟩
  · exact ⟨[], ⟨none, 0, rfl, Nat.le_refl _, fun h => absurd rfl h⟩, by simp, by simp⟩
  · have hlm : len ≤ m := by rw [hmm]; split <;> omega
    obtain ⟨l, hll, hp⟩ := choose_list len (fun i b => (∃ c : List Value, c.length = d.sz ∧ d.K w b c ∧ ∀ q u, c[q]? = some u → w.cell? (a.add (i * d.sz + q)) = some u) ∧ G b) (fun i hilen => by
      obtain ⟨cs', hc, ht'⟩ := hi i (by omega)
      obtain ⟨b, hk, hg⟩ := ho enc w base spare held n cs' _ ht'
      obtain ⟨_, hcl, hat⟩ := World.cells?_some hc
      rw [hs] at hcl hat
      refine ⟨b, ⟨cs', hcl, hk, fun q u hu => ?_⟩, hg⟩
      have hq : q < d.sz := by rw [← hcl]; exact (List.getElem?_eq_some_iff.1 hu).1
      have := hat q hq
      rw [Deep.add_add] at this
      rw [this, hu])
    subst hll
    refine ⟨l, ⟨some a, cap, rfl, hl, fun _ => ⟨a, rfl, fun j p hj => (hp j p hj).1⟩⟩, by omega, fun b hb => ?_⟩
    obtain ⟨j, hj⟩ := List.getElem?_of_mem hb
    exact (hp j b hj).2

/-- The fields from number i on. -/
def From {α : Type} (P : Program) (fs : Array Field) (i : Nat) (d : Kd α) (G : α → Prop) : Prop :=
  ∀ {H : Type} (enc : TypeId × Value → H) (w : World) (base : Nat) (spare : Nat → Bool) (held : Bool) (n : Nat) (cs : List Value), cs.length = fs.size →
    (∀ (j : Nat) (f : Field), fs[j]? = some f → ∃ v y, cs[j]? = some v ∧ DataW.trod enc P w base spare held n f.type [v] = some y) → ∃ a, d.K w a (cs.drop i) ∧ G a
theorem from_last {α : Type} {fs : Array Field} {i : Nat} {f : Field} {d : Kd α} {G : α → Prop} (hf : fs[i]? = some f) (hi : fs.size = i + 1) (ho : Opens P f.type d G) : From P fs i d G := by
  intro H enc w base spare held n cs hl hc
  obtain ⟨v, y, hv, ht⟩ := hc i f hf
  obtain ⟨a, hk, hg⟩ := ho enc w base spare held n _ _ ht
  have hlt : i < cs.length := (List.getElem?_eq_some_iff.1 hv).1
  have hv' : cs[i] = v := (List.getElem?_eq_some_iff.1 hv).2
  refine ⟨a, ?_, hg⟩
  rw [List.drop_eq_getElem_cons hlt, hv', List.drop_of_length_le (by omega)]
  exact hk
theorem from_step {α β : Type} {fs : Array Field} {i : Nat} {f : Field} {d : Kd α} {d' : Kd β} {G : α → Prop} {G' : β → Prop} (hf : fs[i]? = some f) (ho : Opens P f.type d G) (hr : From P fs (i + 1) d' G') :
    From P fs i (Kd.pair d d') (fun x => G x.1 ∧ G' x.2) := by
  intro H enc w base spare held n cs hl hc
  obtain ⟨b, hkb, hgb⟩ := hr enc w base spare held n cs hl hc
  obtain ⟨v, y, hv, ht⟩ := hc i f hf
  obtain ⟨a, hk, hg⟩ := ho enc w base spare held n _ _ ht
  have hlt : i < cs.length := (List.getElem?_eq_some_iff.1 hv).1
  have hv' : cs[i] = v := (List.getElem?_eq_some_iff.1 hv).2
  refine ⟨(a, b), ⟨[v], cs.drop (i + 1), ?_, hk, hkb⟩, hg, hgb⟩
  rw [List.drop_eq_getElem_cons hlt, hv']; rfl
theorem opens_struct {α : Type} {t : TypeId} {fs : Array Field} {d : Kd α} {G : α → Prop} (ht : P.underlying t = some (.struct fs)) (hone : oneCellFields P fs = true) (hC : P.cellsOf t = fs.size) (hf : From P fs 0 d G) :
    Opens P t d G := by
  intro H enc w base spare held fuel cs x h
  obtain ⟨ys, n, _, _, hlen, hyl, hy⟩ := DataW.trod_struct ht h
  have := hf enc w base spare held n cs (by rw [hlen, hC]) (fun j f hj => by
    obtain ⟨ho, hk⟩ := hone_of hone j f hj
    have hjl : j < fs.size := (Array.getElem?_eq_some_iff.1 hj).1
    have h1 := hy j f hj
    rw [ho, hk] at h1
    have hjc : j < cs.length := by rw [hlen, hC]; exact hjl
    have e : (cs.drop j).take 1 = [cs[j]] := by rw [List.drop_eq_getElem_cons hjc]; rfl
    rw [e] at h1
    have hys : ys[j]? = some (ys[j]'(by omega)) := List.getElem?_eq_getElem (by omega)
    exact ⟨_, _, List.getElem?_eq_getElem hjc, h1.trans hys⟩)
  simpa using this
theorem opens_mono {α : Type} {t : TypeId} {d : Kd α} {G G' : α → Prop} (ho : Opens P t d G) (h : ∀ a, G a → G' a) : Opens P t d G' := by
  intro H enc w base spare held fuel cs x hx
  obtain ⟨a, hk, hg⟩ := ho enc w base spare held fuel cs x hx
  exact ⟨a, hk, h a hg⟩
theorem opens_trod {α : Type} {t : TypeId} {d : Kd α} {G : α → Prop} {H : Type} {enc : TypeId × Value → H} {w : World} {base : Nat} {spare : Nat → Bool} {held : Bool} {v : Value} {D : DataW H} {ps : List MemPlace}
    (ho : Opens P t d G) (h : DataW.Trod enc P w base spare held t v D ps) : ∃ a, d.K w a v.cells.toList ∧ G a := by
  obtain ⟨fuel, hf⟩ := h
  exact ho enc w base spare held fuel _ _ hf
end
end Go.Proofs.YtfmhlieaodbgiaaGreat.Opens
