/- LibOf: the program's and the reference's answers are the same at every text. -/
import Derived.Test.YtbjfhnajlcakdaaPFnExactLibOfx1
import Derived.Test.YtbjfhnajlcakdaaBase
namespace Go.Proofs.Ytbjfhnajlcakdaa.Pure
open Go.RowKit Go.Proofs.Ytbjfhnajlcakdaa.PFnExactLibOf Go.Proofs.YtbjfhnajlcakdaaW.PrintWords Go.Proofs.YtbjfhnajlcakdaaW.PrintLast Go.Proofs.Ytbjfhnajlcakdaa.Base
namespace LibOf
/-- Both loops from one place on: the reference's list has one text more ahead. -/
theorem both (e s : ByteArray) (l : List ByteArray) (hn : l.length < 4611686018427387904) (d : Nat) : ∀ (k i : Nat), i + d = l.length → d < k →
    ∃ r : Int, slices_Index_string_string.l0 k l s (l.length : Int) (i : Int) = some r ∧ -1 ≤ r ∧ r < (l.length : Int) ∧ spec_LibOf.l0 k s (e :: l) ((i : Int) + 1) = some (r + 1) := by
  induction d with
  | zero =>
    intro k i hi hk
    obtain ⟨k, rfl⟩ : ∃ m, k = m + 1 := ⟨k - 1, by omega⟩
    simp only [slices_Index_string_string.l0, spec_LibOf.l0, List.length_cons]
    rw [if_neg (by omega), if_neg (by omega)]
    exact ⟨-1, rfl, by omega, by omega, rfl⟩
  | succ d ih =>
    intro k i hi hk
    obtain ⟨k, rfl⟩ : ∃ m, k = m + 1 := ⟨k - 1, by omega⟩
    obtain ⟨r, h1, h2, h3, h4⟩ := ih k (i + 1) (by omega) (by omega)
    have e1 : wrap64 ((i : Int) + 1) = ((i + 1 : Nat) : Int) := by unfold wrap64; omega
    have e2 : wrap64 ((i : Int) + 1 + 1) = ((i + 1 : Nat) : Int) + 1 := by unfold wrap64; omega
    have ha : i < l.length := by omega
    have t1 : rdOf ByteArray.empty l (i : Int) = l[i] := by simp [rdOf, ha]
    have t2 : rdOf ByteArray.empty (e :: l) ((i : Int) + 1) = l[i] := by
      have : ((i : Int) + 1).toNat = i + 1 := by omega
      simp [rdOf, this, ha]
    simp only [slices_Index_string_string.l0, spec_LibOf.l0, List.length_cons]
    rw [if_pos (show (i : Int) < (l.length : Int) by omega), if_pos (show 0 ≤ (i : Int) by omega), if_pos (show (i : Int) < (l.length : Int) by omega), if_pos (show (i : Int) + 1 < ((l.length + 1 : Nat) : Int) by omega), if_pos (show 0 ≤ (i : Int) + 1 by omega), t1, t2, e1, e2]
    by_cases c : s.toList = l[i].toList
    · rw [if_pos c, if_pos c.symm]
      exact ⟨i, rfl, by omega, by omega, rfl⟩
    · rw [if_neg c, if_neg (fun h => c h.symm)]
      exact ⟨r, h1, h2, h3, h4⟩
end LibOf
open LibOf
theorem FnExactLibOf : laws_FnExactLibOf.Pure := by
  intro s hs
  refine ⟨20, ?_⟩
  unfold laws_FnExactLibOf.f
  split
  · rfl
  unfold spec_LibOf.f impl_LibOf.f spec_l10Libs.f impl_libNames.f slices_Index_string_string.f
  simp only [Option.bind_some]
  obtain ⟨r, h1, h2, h3, h4⟩ := both ⟨#[]⟩ s [(⟨#[112, 114, 105, 110, 116]⟩ : ByteArray), (⟨#[116, 111, 115, 116, 114]⟩ : ByteArray), (⟨#[116, 121, 112, 101]⟩ : ByteArray), (⟨#[110, 101, 120, 116]⟩ : ByteArray), (⟨#[112, 99, 97, 108, 108]⟩ : ByteArray), (⟨#[101, 114, 114, 111, 114]⟩ : ByteArray), (⟨#[102, 97, 105, 108, 101, 100]⟩ : ByteArray), (⟨#[99, 111]⟩ : ByteArray), (⟨#[114, 101, 115, 117, 109, 101]⟩ : ByteArray), (⟨#[121, 105, 101, 108, 100]⟩ : ByteArray), (⟨#[115, 116, 97, 116, 101]⟩ : ByteArray)] (by decide) 11 20 0 (by decide) (by decide)
  simp only [List.length_cons, List.length_nil] at h1 h3 h4 ⊢
  have z : ((0 : Nat) : Int) + 1 = 1 := rfl
  rw [z] at h4
  rw [h4]
  simp only [Option.bind_some]
  have h1' : slices_Index_string_string.l0 20 _ s _ 0 = some r := h1
  rw [h1']
  simp only [Option.bind_some]
  have e : wrap64 (1 + r) = r + 1 := by unfold wrap64; omega
  rw [e, if_pos rfl]
end Go.Proofs.Ytbjfhnajlcakdaa.Pure
