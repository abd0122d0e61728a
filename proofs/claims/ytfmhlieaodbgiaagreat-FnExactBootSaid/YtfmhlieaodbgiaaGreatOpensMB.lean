/- How a module that came in is read. -/
import Derived.Test.YtfmhlieaodbgiaaGreatOpensK
import Derived.Test.YtfmhlieaodbgiaaGreatLA
namespace Go.Proofs.YtfmhlieaodbgiaaGreat.Opens
open Go Go.RowKit Go.Deep Go.ChangeShapes Go.WideShapes Go.Proofs.YtfmhlieaodbgiaaGreat.Eng Go.Proofs.YtfmhlieaodbgiaaGreat.Ar Go.Proofs.YtfmhlieaodbgiaaGreat.Base
def Kd.string : Kd ByteArray := ⟨1, fun _ s cs => cs = [.string s]⟩
theorem opens_string {P : Program} {t : TypeId} (ht : P.underlying t = some .string) : Opens P t Kd.string (fun s => s.size ≤ maxLen) := by
  intro H enc w base spare held fuel cs x h
  obtain ⟨s, rfl, _, hs⟩ := DataW.trod_string ht h
  exact ⟨s, rfl, hs⟩
abbrev kU : Kd (Bool × Int) := Kd.pair Kd.bool (Kd.int .i64)
abbrev kI : Kd (Int × Int) := Kd.pair (Kd.int .i64) (Kd.int .i64)
abbrev PT := Int × Int × List (Bool × Int) × List (Int × Int)
abbrev kP : Kd PT := Kd.pair (Kd.int .i64) (Kd.pair (Kd.int .i64) (Kd.pair (Kd.slice 131 kU) (Kd.slice 133 kI)))
theorem opensInt : Opens Tryz.prog 3 (Kd.int .i64) (fun a => (Lit.int .i64 a).wf = true) := opens_int Tryz.underlying3
theorem opensUp : Opens Tryz.prog 131 kU (fun _ => True) :=
  opens_mono (opens_struct Tryz.underlying131 (by kernel_rfl) (by kernel_rfl) (from_step rfl (opens_bool Tryz.underlying4) (from_last rfl rfl opensInt))) (fun _ _ => trivial)
theorem opensIns : Opens Tryz.prog 133 kI (fun _ => True) :=
  opens_mono (opens_struct Tryz.underlying133 (by kernel_rfl) (by kernel_rfl) (from_step rfl opensInt (from_last rfl rfl opensInt))) (fun _ _ => trivial)
theorem opensProto : Opens Tryz.prog 77 kP (fun a => a.2.2.1.length ≤ maxLen ∧ a.2.2.2.length ≤ maxLen) :=
  opens_mono (opens_struct Tryz.underlying77 (by kernel_rfl) (by kernel_rfl)
    (from_step rfl opensInt (from_step rfl opensInt (from_step rfl (opens_slice Tryz.underlying74 (by kernel_rfl) opensUp) (from_last rfl rfl (opens_slice Tryz.underlying75 (by kernel_rfl) opensIns))))))
    (fun _ h => ⟨h.2.2.1.1, h.2.2.2.1⟩)
theorem opensModule : Opens Tryz.prog 25 (Kd.pair (Kd.slice 77 kP) (Kd.slice 9 Kd.string)) (fun x => (x.1.length ≤ maxLen ∧ ∀ p ∈ x.1, p.2.2.1.length ≤ maxLen ∧ p.2.2.2.length ≤ maxLen) ∧ (x.2.length ≤ maxLen ∧ ∀ s ∈ x.2, s.size ≤ maxLen)) :=
  opens_struct Tryz.underlying25 (by kernel_rfl) (by kernel_rfl) (from_step rfl (opens_slice Tryz.underlying22 (by kernel_rfl) opensProto) (from_last rfl rfl (opens_slice Tryz.underlying23 (by kernel_rfl) (opens_string Tryz.underlying9))))
theorem nums_str (t : ByteArray) : strOfNums (t.data.toList.map fun x => (x.toNat : Int)) = t := by
  apply ByteArray.ext
  apply Array.toList_inj.1
  rw [strOfNums_data, List.map_map]
  conv => rhs; rw [← List.map_id t.data.toList]
  apply List.map_congr_left
  intro x _
  show UInt8.ofNat ((x.toNat : Int)).toNat = x
  rw [Int.toNat_natCast]; simp
/-- for each element a companion -/
theorem pickL {α β : Type} : ∀ (xs : List α) (Q : Nat → α → β → Prop), (∀ i e, xs[i]? = some e → ∃ b, Q i e b) → ∃ l : List (α × β), l.map Prod.fst = xs ∧ ∀ i x, l[i]? = some x → Q i x.1 x.2
  | [], Q, h => ⟨[], rfl, fun i x h => by simp at h⟩
  | a :: xs, Q, h => by
    obtain ⟨b, hb⟩ := h 0 a rfl
    obtain ⟨l, hl, hq⟩ := pickL xs (fun i e b => Q (i + 1) e b) (fun i e he => h (i + 1) e (by simpa using he))
    refine ⟨(a, b) :: l, by simp [hl], fun i x hx => ?_⟩
    cases i with
    | zero => simp only [List.getElem?_cons_zero, Option.some.injEq] at hx; subst hx; exact hb
    | succ i => exact hq i x (by simpa using hx)
def toPR (p : PT) : PR := ⟨p.1, p.2.1, p.2.2.1, p.2.2.2⟩
section
variable {w : World}
theorem inUp {a : Option Addr} {xs : List (Bool × Int)} (hl : xs.length ≤ maxLen) (h : xs ≠ [] → ∃ x, a = some x ∧ ∀ (j : Nat) p, xs[j]? = some p → ∃ c : List Value, c.length = kU.sz ∧ kU.K w p c ∧ ∀ (q : Nat) u, c[q]? = some u → w.cell? (x.add (j * kU.sz + q)) = some u) : InF w 2 upC a xs := by
  refine ⟨by unfold maxLen at hl; omega, fun i e he => ?_⟩
  obtain ⟨x, hx, hc⟩ := h (fun c => by rw [c] at he; simp at he)
  refine ⟨x, hx, fun j v hv => ?_⟩
  obtain ⟨c, -, ⟨c1, c2, rfl, h1, h2⟩, hu⟩ := hc i e he
  have h1 : c1 = [.bool e.1] := h1
  have h2 : c2 = [.int .i64 e.2] := h2
  subst h1; subst h2
  rw [Deep.add_add]
  exact hu j v hv
theorem inIns {a : Option Addr} {xs : List (Int × Int)} (hl : xs.length ≤ maxLen) (h : xs ≠ [] → ∃ x, a = some x ∧ ∀ (j : Nat) p, xs[j]? = some p → ∃ c : List Value, c.length = kI.sz ∧ kI.K w p c ∧ ∀ (q : Nat) u, c[q]? = some u → w.cell? (x.add (j * kI.sz + q)) = some u) : InF w 2 inC a xs := by
  refine ⟨by unfold maxLen at hl; omega, fun i e he => ?_⟩
  obtain ⟨x, hx, hc⟩ := h (fun c => by rw [c] at he; simp at he)
  refine ⟨x, hx, fun j v hv => ?_⟩
  obtain ⟨c, -, ⟨c1, c2, rfl, h1, h2⟩, hu⟩ := hc i e he
  have h1 : c1 = [.int .i64 e.1] := h1
  have h2 : c2 = [.int .i64 e.2] := h2
  subst h1; subst h2
  rw [Deep.add_add]
  exact hu j v hv
end
/-- a module that came in -/
theorem openModule {H : Type} {enc : TypeId × Value → H} {w : World} {base : Nat} {spare : Nat → Bool} {held : Bool} {v : Value} {D : DataW H} {ps : List MemPlace} (h : DataW.Trod enc Tryz.prog w base spare held 25 v D ps) (hv : ∃ cs, v = .agg cs) :
    ∃ aP cP aT cT l tx, v = .agg #[.slice aP (List.length l) cP, .slice aT (List.length tx) cT] ∧ InM w aP aT l tx ∧ ∀ t ∈ tx, (t.length : Int) ≤ 9223372036854775807 := by
  obtain ⟨⟨ps, ts⟩, hk, ⟨hpl, hpm⟩, htl, htm⟩ := opens_trod opensModule h
  obtain ⟨_, _, e0, ⟨aP, cP, rfl, -, rP⟩, ⟨aT, cT, rfl, -, rT⟩⟩ := hk
  obtain ⟨cs, rfl⟩ := hv
  dsimp only at hpl hpm htl htm rP rT e0
  obtain ⟨l, hl, hq⟩ := pickL ps (fun i (p : PT) (ia : IA) => (∃ x, aP = some x ∧ ∀ (j : Nat) (v : Value), (ipC (toPR p, ia))[j]? = some v → w.cell? ((x.add (i * 4)).add j) = some v) ∧ InF w 2 upC ia.ua p.2.2.1 ∧ InF w 2 inC ia.ca p.2.2.2) (fun i p hp => by
    obtain ⟨x, hx, hc⟩ := rP (fun c => by rw [c] at hp; simp at hp)
    obtain ⟨c, -, ⟨c1, _, rfl, h1, c2, _, rfl, h2, c3, c4, rfl, ⟨ua, uc, h3, -, ru⟩, ⟨ca, cc, h4, -, rc⟩⟩, hu⟩ := hc i p hp
    obtain ⟨hm1, hm2⟩ := hpm p (List.mem_of_getElem? hp)
    have h1 : c1 = [.int .i64 p.1] := h1
    have h2 : c2 = [.int .i64 p.2.1] := h2
    subst h1; subst h2; subst h3; subst h4
    refine ⟨⟨ua, uc, ca, cc⟩, ⟨x, hx, fun j v hv => ?_⟩, inUp hm1 ru, inIns hm2 rc⟩
    rw [Deep.add_add]
    exact hu j v hv)
  refine ⟨aP, cP, aT, cT, l.map (fun x => (toPR x.1, x.2)), ts.map (fun t => t.data.toList.map fun x => (x.toNat : Int)), ?_, ⟨⟨?_, fun i e he => ?_⟩, ⟨?_, fun i e he => ?_⟩, fun x hx => ?_, fun t ht => ?_⟩, fun t ht => ?_⟩
  · have hll : l.length = ps.length := by rw [← hl, List.length_map]
    rw [List.length_map, List.length_map, hll]
    congr 1
    apply Array.toList_inj.1
    simpa [Value.cells] using e0
  · have hll : l.length = ps.length := by rw [← hl, List.length_map]
    rw [List.length_map, hll]; unfold maxLen at hpl; omega
  · rw [List.getElem?_map] at he
    cases hx : l[i]? with
    | none => rw [hx] at he; simp at he
    | some x =>
      rw [hx] at he
      simp only [Option.map_some, Option.some.injEq] at he
      subst he
      exact (hq i x hx).1
  · rw [List.length_map]; unfold maxLen at htl; omega
  · rw [List.getElem?_map] at he
    cases hx : ts[i]? with
    | none => rw [hx] at he; simp at he
    | some s =>
      rw [hx] at he
      simp only [Option.map_some, Option.some.injEq] at he
      subst he
      obtain ⟨x, hx2, hc⟩ := rT (fun c => by rw [c] at hx; simp at hx)
      refine ⟨x, hx2, fun j v hv => ?_⟩
      obtain ⟨c, -, hk, hu⟩ := hc i s hx
      have hk : c = [.string s] := hk
      subst hk
      rw [Deep.add_add]
      refine hu j v ?_
      unfold tsC at hv
      rw [nums_str] at hv
      exact hv
  · obtain ⟨y, hy, rfl⟩ := List.mem_map.1 hx
    obtain ⟨i, hi, hy2⟩ := List.getElem_of_mem hy
    exact (hq i y (by rw [List.getElem?_eq_getElem hi, hy2])).2
  · obtain ⟨s, -, rfl⟩ := List.mem_map.1 ht
    intro x hx
    obtain ⟨b, -, rfl⟩ := List.mem_map.1 hx
    have := b.toNat_lt
    omega
  · obtain ⟨s, hs, rfl⟩ := List.mem_map.1 ht
    have this : s.data.size ≤ maxLen := htm s hs
    rw [List.length_map]
    unfold maxLen at this
    have h2 : s.data.toList.length = s.data.size := Array.length_toList
    omega
end Go.Proofs.YtfmhlieaodbgiaaGreat.Opens
