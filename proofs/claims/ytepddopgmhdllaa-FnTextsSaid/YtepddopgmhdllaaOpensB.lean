/- How bytes that came in are read. -/
import Derived.Test.YtepddopgmhdllaaOpensK
import Derived.Test.YtepddopgmhdllaaBkZ
namespace Go.Proofs.Ytepddopgmhdllaa.Opens
open Go Go.RowKit Go.Deep Go.Proofs.Ytepddopgmhdllaa.Eng Go.Proofs.Ytepddopgmhdllaa.Ar Go.Proofs.Ytepddopgmhdllaa.Base
set_option linter.unusedVariables false
set_option linter.unusedSimpArgs false
theorem getD_ofB {α : Type} {l : List α} {d : α} {i : Nat} (h : i < l.length) : l[i]? = some (l.getD i d) := by
  rw [List.getD_eq_getElem?_getD, List.getElem?_eq_getElem h]; rfl
theorem wf_byte {x : Int} (h : (Lit.int .u8 x).wf = true) : 0 ≤ x ∧ x ≤ 255 := by
  have h' : (decide (IntKind.u8.min ≤ x) && decide (x ≤ IntKind.u8.max)) = true := h
  simp only [Bool.and_eq_true, decide_eq_true_eq] at h'
  exact h'
theorem opensByte : Opens Try.prog 5 (Kd.int .u8) (fun a => (Lit.int .u8 a).wf = true) := opens_int Try.underlying5
theorem openBytes {H : Type} {enc : TypeId × Value → H} {w : World} {base : Nat} {spare : Nat → Bool} {held : Bool} {a : Option Addr} {n c : Nat} {D : DataW H} {ps : List MemPlace} (h : DataW.Trod enc Try.prog w base spare held 48 (.slice a n c) D ps) :
    ∃ xs : List Int, n = xs.length ∧ InB w a c xs := by
  obtain ⟨l, hk, hl, hg⟩ := opens_trod (opens_slice Try.underlying48 (by kernel_rfl) opensByte) h
  obtain ⟨a', cap, e, -, hr⟩ := hk
  have e : [Value.slice a n c] = [.slice a' l.length cap] := e
  obtain ⟨rfl, rfl, rfl⟩ : a = a' ∧ n = l.length ∧ c = cap := by simpa using e
  refine ⟨l, rfl, ?_, fun i => ?_, fun hne => ?_⟩
  · have : l.length ≤ maxLen := hl
    unfold maxLen at this; omega
  · unfold g
    rw [List.getD_eq_getElem?_getD]
    by_cases hi : i.toNat < l.length
    · rw [List.getElem?_eq_getElem hi]
      have := wf_byte (hg _ (List.getElem_mem hi))
      show 0 ≤ l[i.toNat] ∧ l[i.toNat] ≤ 255
      omega
    · rw [List.getElem?_eq_none (by omega)]; show (0 : Int) ≤ 0 ∧ (0 : Int) ≤ 255; omega
  · obtain ⟨x, e, hx⟩ := hr hne
    refine ⟨x, e, fun i h0 h1 => ?_⟩
    have hi : i.toNat < l.length := by omega
    obtain ⟨cs, hc, hk, hu⟩ := hx i.toNat _ (getD_ofB (d := 0) hi)
    have hk : cs = [.int .u8 (l.getD i.toNat 0)] := hk
    subst hk
    exact hu 0 _ rfl
end Go.Proofs.Ytepddopgmhdllaa.Opens
