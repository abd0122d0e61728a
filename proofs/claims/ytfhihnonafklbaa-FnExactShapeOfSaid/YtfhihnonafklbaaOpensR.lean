/- How an arena that came in is read. -/
import Derived.Test.YtfhihnonafklbaaOpensK
import Derived.Test.YtfhihnonafklbaaL1
namespace Go.Proofs.Ytfhihnonafklbaa.Opens
open Go Go.RowKit Go.Deep Go.Proofs.Ytfhihnonafklbaa.Eng Go.Proofs.Ytfhihnonafklbaa.Ar Go.Proofs.Ytfhihnonafklbaa.Base
theorem opensInt : Opens Try.prog 3 (Kd.int .i64) (fun a => (Lit.int .i64 a).wf = true) := opens_int Try.underlying3
theorem opensWord : Opens Try.prog 77 (Kd.int .u64) (fun a => (Lit.int .u64 a).wf = true) := opens_int Try.underlying77
theorem opensBool : Opens Try.prog 4 Kd.bool (fun _ => True) := opens_bool Try.underlying4
theorem opensVal : Opens Try.prog 79 (Kd.pair (Kd.int .i64) (Kd.int .i64)) (fun a => (Lit.int .i64 a.1).wf = true ∧ (Lit.int .i64 a.2).wf = true) :=
  opens_struct Try.underlying79 (by kernel_rfl) (by kernel_rfl) (from_step rfl opensInt (from_last rfl rfl opensInt))
theorem opensArena : Opens Try.prog 25 (Kd.pair (Kd.slice 77 (Kd.int .u64)) (Kd.pair (Kd.int .i64) (Kd.pair (Kd.int .i64) (Kd.pair (Kd.int .i64) (Kd.pair Kd.bool (Kd.pair (Kd.int .i64) (Kd.pair (Kd.int .i64) (Kd.pair (Kd.int .i64) (Kd.pair (Kd.int .i64) (Kd.slice 79 (Kd.pair (Kd.int .i64) (Kd.int .i64))))))))))))
    (fun x => (x.1.length ≤ maxLen ∧ ∀ a ∈ x.1, (Lit.int .u64 a).wf = true) ∧ x.2.2.2.2.2.2.2.2.2.length ≤ maxLen) :=
  opens_mono (opens_struct Try.underlying25 (by kernel_rfl) (by kernel_rfl)
    (from_step rfl (opens_slice Try.underlying22 (by kernel_rfl) opensWord) (from_step rfl opensInt (from_step rfl opensInt (from_step rfl opensInt (from_step rfl opensBool (from_step rfl opensInt (from_step rfl opensInt (from_step rfl opensInt (from_step rfl opensInt (from_last rfl rfl (opens_slice Try.underlying23 (by kernel_rfl) opensVal))))))))))))
    (fun _ h => ⟨h.1, h.2.2.2.2.2.2.2.2.2.1⟩)
theorem getD_of {α : Type} {l : List α} {d : α} {i : Nat} (h : i < l.length) : l[i]? = some (l.getD i d) := by
  rw [List.getD_eq_getElem?_getD, List.getElem?_eq_getElem h]; rfl
/-- an arena that came in -/
theorem openArena {H : Type} {enc : TypeId × Value → H} {w : World} {base : Nat} {spare : Nat → Bool} {held : Bool} {v : Value} {D : DataW H} {ps : List MemPlace} (h : DataW.Trod enc Try.prog w base spare held 25 v D ps) (hv : ∃ cs, v = .agg cs) :
    ∃ aW cW aR cR A, v = laV aW cW aR cR A ∧ InU w aW cW A.ws ∧ InV w aR cR A.vs ∧ Wf A.ws := by
  obtain ⟨⟨lW, a1, a2, a3, a4, a5, a6, a7, a8, lR⟩, hk, ⟨hW, hWf⟩, hR⟩ := opens_trod opensArena h
  obtain ⟨_, _, e0, ⟨aW, cW, rfl, -, rW⟩, _, _, rfl, rfl, _, _, rfl, rfl, _, _, rfl, rfl, _, _, rfl, rfl, _, _, rfl, rfl, _, _, rfl, rfl, _, _, rfl, rfl, _, _, rfl, rfl, aR, cR, rfl, -, rR⟩ := hk
  obtain ⟨cs, rfl⟩ := hv
  refine ⟨aW, cW, aR, cR, ⟨lW, a1, a2, a3, a4, a5, a6, a7, a8, lR⟩, ?_, ⟨?_, fun hne => ?_⟩, ⟨?_, fun hne => ?_⟩, fun p => ?_⟩
  · unfold laV
    congr 1
    apply Array.toList_inj.1
    simpa [Value.cells] using e0
  · have : lW.length ≤ maxLen := hW
    unfold maxLen at this; dsimp only; omega
  · obtain ⟨x, e, hx⟩ := rW hne
    refine ⟨x, e, fun i h0 h1 => ?_⟩
    have hi : i.toNat < lW.length := by dsimp only at h1; omega
    obtain ⟨c, hc, hk, hu⟩ := hx i.toNat _ (getD_of (d := 0) hi)
    have hk : c = [.int .u64 (lW.getD i.toNat 0)] := hk
    subst hk
    exact hu 0 _ rfl
  · have : lR.length ≤ maxLen := hR
    unfold maxLen at this; dsimp only; omega
  · obtain ⟨x, e, hx⟩ := rR hne
    refine ⟨x, e, fun i h0 h1 => ?_⟩
    have hi : i.toNat < lR.length := by dsimp only at h1; omega
    obtain ⟨c, hc, ⟨c1, c2, hk, hk1, hk2⟩, hu⟩ := hx i.toNat _ (getD_of (d := (0, 0)) hi)
    have hk1 : c1 = [.int .i64 (lR.getD i.toNat (0, 0)).1] := hk1
    have hk2 : c2 = [.int .i64 (lR.getD i.toNat (0, 0)).2] := hk2
    subst hk1; subst hk2; subst hk
    constructor
    · have := hu 0 _ rfl
      rw [Deep.add_add]; exact this
    · have := hu 1 _ rfl
      rw [Deep.add_add]; exact this
  · show 0 ≤ g lW p ∧ g lW p < 18446744073709551616
    unfold g
    rcases Nat.lt_or_ge p.toNat lW.length with c | c
    · have h2 := hWf _ (List.mem_of_getElem? (getD_of (d := 0) c))
      exact wf_u64 h2
    · rw [List.getD_eq_getElem?_getD, List.getElem?_eq_none c]; simp
end Go.Proofs.Ytfhihnonafklbaa.Opens
