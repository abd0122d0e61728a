/- IsWord: the program's and the reference's answers are the same at every text. -/
import Derived.Test.YtbjfhnajlcakdaaPFnExactIsWordx1
import Derived.Test.YtbjfhnajlcakdaaBase
namespace Go.Proofs.Ytbjfhnajlcakdaa.Pure
open Go.RowKit Go.Proofs.Ytbjfhnajlcakdaa.PFnExactIsWord Go.Proofs.YtbjfhnajlcakdaaW.PrintWords Go.Proofs.YtbjfhnajlcakdaaW.PrintLast Go.Proofs.Ytbjfhnajlcakdaa.Base
namespace IsWord
theorem in_loop (l : List ByteArray) (s : ByteArray) (hn : l.length < 4611686018427387904) (d : Nat) : ∀ (k i : Nat), i + d = l.length → d < k →
    spec_l8In.l0 k l s (i : Int) = some ((l.drop i).any fun x => decide (x.toList = s.toList)) := by
  induction d with
  | zero =>
    intro k i hi hk
    obtain ⟨k, rfl⟩ : ∃ m, k = m + 1 := ⟨k - 1, by omega⟩
    simp only [spec_l8In.l0]
    rw [if_neg (by omega), List.drop_of_length_le (by omega)]
    simp
  | succ d ih =>
    intro k i hi hk
    obtain ⟨k, rfl⟩ : ∃ m, k = m + 1 := ⟨k - 1, by omega⟩
    have e1 : wrap64 ((i : Int) + 1) = ((i + 1 : Nat) : Int) := by unfold wrap64; omega
    have ha : i < l.length := by omega
    have e2 : rdOf ByteArray.empty l (i : Int) = l[i] := by simp [rdOf, ha]
    simp only [spec_l8In.l0]
    rw [if_pos (by omega), if_pos (by omega), e1, e2, ih k (i + 1) (by omega) (by omega), List.drop_eq_getElem_cons ha, List.any_cons]
    split
    · rename_i e; simp [e]
    · rename_i e; simp [e]
theorem chain {p : Prop} [Decidable p] {b : Bool} : (if p then some true else some b) = some (decide p || b) := by split <;> simp [*]
theorem mk_toList (l : List UInt8) : (⟨l.toArray⟩ : ByteArray).toList = l := by
  have : ∀ s : ByteArray, s.toList = s.data.toList := ByteArray.toList_eq
  rw [this]
end IsWord
open IsWord
theorem FnExactIsWord : laws_FnExactIsWord.Pure := by
  intro s hs
  refine ⟨20, ?_⟩
  unfold laws_FnExactIsWord.f
  split
  · rfl
  have e : spec_IsWord.f 20 s = impl_IsWord.f s := by
    unfold spec_IsWord.f spec_l8Words.f spec_l8In.f
    simp only [Option.bind_some]
    rw [show (0 : Int) = ((0 : Nat) : Int) from rfl, in_loop _ s (by decide) 12 20 0 (by decide) (by decide)]
    simp only [Option.bind_some, List.drop_zero, List.any_cons, List.any_nil]
    unfold impl_IsWord.f
    simp only [chain, mk_toList, Bool.or_false]
    simp only [eq_comm (b := s.toList)]
  have : ∃ b, impl_IsWord.f s = some b := by
    unfold impl_IsWord.f
    simp only [chain]
    exact ⟨_, rfl⟩
  obtain ⟨b, hb⟩ := this
  rw [e, hb]
  simp
end Go.Proofs.Ytbjfhnajlcakdaa.Pure
