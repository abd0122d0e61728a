/- Slots: the program's and the reference's lists are the same, whatever the kind and the size; what is written into one is not in another. -/
import Derived.Test.YtbjfhnajlcakdaaPFnExactSlotsx4
import Derived.Test.YtbjfhnajlcakdaaBase
namespace Go.Proofs.Ytbjfhnajlcakdaa.Pure
open Go.RowKit Go.Proofs.Ytbjfhnajlcakdaa.PFnExactSlots Go.Proofs.YtbjfhnajlcakdaaW.PrintWords Go.Proofs.YtbjfhnajlcakdaaW.PrintLast Go.Proofs.Ytbjfhnajlcakdaa.Base
namespace Slots
theorem l1In (a b c : Int) : spec_l1In.f a b c = some (decide (b ≤ a ∧ a ≤ c)) := by
  unfold spec_l1In.f; split
  · exact some_decide (by omega)
  · rw [decide_eq_false (by omega)]
theorem within (a b c : Int) : impl_within.f a b c = some (decide (b ≤ a ∧ a ≤ c)) := by
  unfold impl_within.f; split
  · exact some_decide (by omega)
  · rw [decide_eq_false (by omega)]
theorem specHeadOk (k s n : Int) : spec_HeadOk.f k s n = some (decide (HeadP k s n)) := by
  unfold spec_HeadOk.f
  simp only [l1In, Option.bind_some, decide_eq_true_eq, beqd]
  by_cases h : 1 ≤ s ∧ s ≤ 25
  · rw [Int.tmod_eq_emod_of_nonneg (by omega), if_pos h]
    repeat' split
    all_goals first
      | exact some_decide (by unfold HeadP SizeP BornP; omega)
      | exact some_false (by unfold HeadP SizeP BornP; omega)
  · rw [if_neg h]
    repeat' split
    all_goals first
      | exact some_decide (by unfold HeadP SizeP BornP; omega)
      | exact some_false (by unfold HeadP SizeP BornP; omega)
theorem implSizeOk (k s : Int) : impl_sizeOk.f k s = some (decide (SizeP k s)) := by
  unfold impl_sizeOk.f
  simp only [within, Option.bind_some, decide_eq_true_eq, beqd]
  by_cases h : 1 ≤ s ∧ s ≤ 25
  · rw [Int.tmod_eq_emod_of_nonneg (by omega), if_pos h]
    repeat' split
    all_goals first
      | exact some_decide (by unfold SizeP; omega)
      | exact some_false (by unfold SizeP; omega)
      | exact some_true (by unfold SizeP; omega)
  · rw [if_neg h]
    repeat' split
    all_goals first
      | exact some_decide (by unfold SizeP; omega)
      | exact some_false (by unfold SizeP; omega)
      | exact some_true (by unfold SizeP; omega)
theorem wrap_next {i n : Nat} (h : i < n) (hn : n < 4611686018427387904) : wrap64 ((i : Int) + 1) = ((i + 1 : Nat) : Int) := by unfold wrap64; omega
theorem rd_nat (l : List Int) (i : Nat) (h : i < l.length) : rd l (i : Int) = l[i] := by simp [rd, h]
theorem eq_loop (a b : List Int) (hl : a.length = b.length) (hn : a.length < 4611686018427387904) (d : Nat) : ∀ (k i : Nat), i + d = a.length → d < k →
    laws_eqIntS.l0 k a b (i : Int) = some (decide (a.drop i = b.drop i)) := by
  induction d with
  | zero =>
    intro k i hi hk
    obtain ⟨k, rfl⟩ : ∃ m, k = m + 1 := ⟨k - 1, by omega⟩
    simp only [laws_eqIntS.l0]
    rw [if_neg (by omega), List.drop_of_length_le (by omega), List.drop_of_length_le (by omega)]
    simp
  | succ d ih =>
    intro k i hi hk
    obtain ⟨k, rfl⟩ : ∃ m, k = m + 1 := ⟨k - 1, by omega⟩
    simp only [laws_eqIntS.l0]
    rw [if_pos (by omega), if_pos (by omega), if_pos (by omega), rd_nat a i (by omega), rd_nat b i (by omega), wrap_next (by omega) hn, ih k (i + 1) (by omega) (by omega)]
    have ha : i < a.length := by omega
    have hb : i < b.length := by omega
    rw [List.drop_eq_getElem_cons ha, List.drop_eq_getElem_cons hb]
    split
    · rename_i e; rw [e]; exact congrArg some (decide_eq_decide.2 (by simp only [List.cons.injEq, true_and]))
    · rename_i e; rw [decide_eq_false (fun h => e (List.cons.inj h).1)]
theorem eq_list (a b : List Int) (hn : a.length < 4611686018427387904) (k : Nat) (hk : a.length < k) : laws_eqIntS.f k a b = some (decide (a = b)) := by
  unfold laws_eqIntS.f
  by_cases hl : a.length = b.length
  · rw [if_pos (by omega)]
    have := eq_loop a b hl hn a.length k 0 (by omega) hk
    simpa using this
  · rw [if_neg (by omega)]
    have : a ≠ b := fun e => hl (by rw [e])
    simp [this]
/-- the numbers from m on -/
def from_ (m : Int) (n : Nat) : List Int := (List.range n).map fun (j : Nat) => m + (j : Int)
theorem mark_loop (d : Nat) : ∀ (k i : Nat) (x : List Int) (m : Int), i + d = x.length → d < k → 0 ≤ m → m + (d : Int) < 4611686018427387904 → x.length < 4611686018427387904 →
    laws_markIntS.l0 k x m (i : Int) = some (m + d, x.take i ++ from_ m d) := by
  induction d with
  | zero =>
    intro k i x m hi hk h0 hm hn
    obtain ⟨k, rfl⟩ : ∃ m, k = m + 1 := ⟨k - 1, by omega⟩
    simp only [laws_markIntS.l0]
    rw [if_neg (by omega), List.take_of_length_le (by omega)]
    simp [from_]
  | succ d ih =>
    intro k i x m hi hk h0 hm hn
    obtain ⟨k, rfl⟩ : ∃ m, k = m + 1 := ⟨k - 1, by omega⟩
    simp only [laws_markIntS.l0]
    have e1 : wrap64 ((i : Int) + 1) = ((i + 1 : Nat) : Int) := by unfold wrap64; omega
    have e2 : wrap64 (m + 1) = m + 1 := by unfold wrap64; omega
    rw [if_pos (by omega), if_pos (by omega), e1, e2, ih k (i + 1) _ (m + 1) (by simp; omega) (by omega) (by omega) (by omega) (by simpa using hn)]
    simp only [Int.toNat_natCast]
    have hi' : i < (x.set i m).length := by simp; omega
    rw [List.take_succ_eq_append_getElem hi', List.getElem_set_self, List.take_set_of_le (Nat.le_refl _)]
    congr 2
    · omega
    · rw [List.append_assoc]; congr 1
      simp only [from_, List.range_succ_eq_map, List.map_cons, List.map_map, List.singleton_append]
      simp only [Int.natCast_zero, Int.add_zero, List.cons.injEq, true_and]
      apply List.map_congr_left; intro j _; simp only [Function.comp]; omega
theorem held_loop (d : Nat) : ∀ (k i : Nat) (x : List Int) (m : Int), i + d = x.length → d < k → 0 ≤ m → m + (d : Int) < 4611686018427387904 → x.length < 4611686018427387904 → x.drop i = from_ m d →
    laws_heldIntS.l0 k x m (i : Int) = some (m + d) := by
  induction d with
  | zero =>
    intro k i x m hi hk h0 hm hn hx
    obtain ⟨k, rfl⟩ : ∃ m, k = m + 1 := ⟨k - 1, by omega⟩
    simp only [laws_heldIntS.l0]
    rw [if_neg (by omega)]; simp
  | succ d ih =>
    intro k i x m hi hk h0 hm hn hx
    obtain ⟨k, rfl⟩ : ∃ m, k = m + 1 := ⟨k - 1, by omega⟩
    simp only [laws_heldIntS.l0]
    have e1 : wrap64 ((i : Int) + 1) = ((i + 1 : Nat) : Int) := by unfold wrap64; omega
    have e2 : wrap64 (m + 1) = m + 1 := by unfold wrap64; omega
    have hi' : i < x.length := by omega
    simp only [from_, List.range_succ_eq_map, List.map_cons, List.map_map] at hx
    rw [List.drop_eq_getElem_cons hi'] at hx
    simp only [List.cons.injEq, Int.natCast_zero, Int.add_zero] at hx
    rw [if_pos (by omega), if_pos (by omega), rd_nat x i hi', e1, e2, if_pos hx.1, ih k (i + 1) x (m + 1) (by omega) (by omega) (by omega) (by omega) hn ?_]
    · congr 1; omega
    · rw [hx.2, from_]
      apply List.map_congr_left; intro j _; simp only [Function.comp]; omega
theorem mark_list (x : List Int) (m : Int) (k : Nat) (hk : x.length < k) (h0 : 0 ≤ m) (hm : m + (x.length : Int) < 4611686018427387904) :
    laws_markIntS.f k x m = some (m + x.length, from_ m x.length) := by
  unfold laws_markIntS.f
  have := mark_loop x.length k 0 x m (by omega) hk h0 hm (by omega)
  simpa using this
theorem held_list (n : Nat) (m : Int) (k : Nat) (hk : n < k) (h0 : 0 ≤ m) (hm : m + (n : Int) < 4611686018427387904) :
    laws_heldIntS.f k (from_ m n) m = some (m + n) := by
  unfold laws_heldIntS.f
  have := held_loop n k 0 (from_ m n) m (by simp [from_]) hk h0 hm (by simp [from_]; omega) (by simp)
  simpa using this
/-- x, x + 2, .. : n of them -/
def steps (x : Int) : Nat → List Int
  | 0 => []
  | n + 1 => x :: steps (x + 2) n
theorem steps_length (n : Nat) : ∀ x, (steps x n).length = n := by
  induction n with
  | zero => intro x; rfl
  | succ n ih => intro x; simp [steps, ih]
theorem implLoop (s : Int) (hs : s ≤ 300) (n : Nat) : ∀ (k : Nat) (acc : List Int) (x : Int), n < k → 0 ≤ x → s ≤ x + 2 * n → x + 2 * n ≤ s + 1 ∨ n = 0 → acc.length + n < 2000 →
    impl_slots.l0 k s acc x = some (acc ++ steps x n) := by
  induction n with
  | zero =>
    intro k acc x hk h0 h1 h2 h3
    obtain ⟨k, rfl⟩ : ∃ m, k = m + 1 := ⟨k - 1, by omega⟩
    simp only [impl_slots.l0]
    rw [if_neg (by omega)]; simp [steps]
  | succ n ih =>
    intro k acc x hk h0 h1 h2 h3
    obtain ⟨k, rfl⟩ : ∃ m, k = m + 1 := ⟨k - 1, by omega⟩
    simp only [impl_slots.l0]
    rw [if_pos (by omega), if_pos (by omega), wrap64_in (by omega) (by omega), ih k (acc ++ [x]) (x + 2) (by omega) (by omega) (by omega) (by omega) (by simp; omega)]
    simp [steps]
theorem specLoop (s : Int) (hs : s ≤ 300) (n : Nat) : ∀ (k : Nat) (acc : List Int) (x : Int), n < k → 0 ≤ x → x ≤ 400 → s ≤ x + 2 * n → x + 2 * n ≤ s + 1 ∨ n = 0 → acc.length + n < 2000 →
    spec_Slots.l0 k s acc x = some (acc ++ steps x n) := by
  induction n with
  | zero =>
    intro k acc x hk h0 h00 h1 h2 h3
    obtain ⟨k, rfl⟩ : ∃ m, k = m + 1 := ⟨k - 1, by omega⟩
    simp only [spec_Slots.l0]
    rw [wrap64_in (by omega) (by omega), if_neg (by omega)]; simp [steps]
  | succ n ih =>
    intro k acc x hk h0 h00 h1 h2 h3
    obtain ⟨k, rfl⟩ : ∃ m, k = m + 1 := ⟨k - 1, by omega⟩
    simp only [spec_Slots.l0]
    rw [wrap64_in (x := x + 1) (by omega) (by omega), if_pos (by omega), if_pos (by omega), wrap64_in (by omega) (by omega), ih k (acc ++ [x]) (x + 2) (by omega) (by omega) (by omega) (by omega) (by omega) (by simp; omega)]
    simp [steps]
def many (s x : Int) : Nat := ((s - x + 1) / 2).toNat
theorem implTail (s x : Int) (hs : 0 ≤ s) (hs' : s ≤ 300) (hx : 0 ≤ x) (hx' : x ≤ 400) (k : Nat) (hk : 200 < k) : impl_slots.j2 k s x = some (steps x (many s x)) := by
  obtain ⟨k, rfl⟩ : ∃ m, k = m + 1 := ⟨k - 1, by omega⟩
  have e : wrap64 (Int.tdiv s 2) = s / 2 := by
    rw [Int.tdiv_eq_ediv_of_nonneg hs]; exact wrap64_in (by omega) (by omega)
  have hm : many s x < 200 := by unfold many; omega
  simp only [impl_slots.j2, e]
  rw [if_pos (by omega), if_pos (by omega), implLoop s hs' (many s x) k [] x (by omega) hx (by unfold many; omega) (by unfold many; omega) (by simp; omega)]
  rfl
theorem specTail (s x : Int) (hs' : s ≤ 300) (hs : 0 ≤ s) (hx : 0 ≤ x) (hx' : x ≤ 400) (k : Nat) (hk : 201 < k) : spec_Slots.j4 k s [] x = some (steps x (many s x)) := by
  obtain ⟨k, rfl⟩ : ∃ m, k = m + 1 := ⟨k - 1, by omega⟩
  have hm : many s x < 200 := by unfold many; omega
  simp only [spec_Slots.j4]
  rw [specLoop s hs' (many s x) k [] x (by omega) hx hx' (by unfold many; omega) (by unfold many; omega) (by simp; omega)]
  rfl
def slotsL (k s : Int) : List Int :=
  if SizeP k s then (if k = 2 ∨ k = 4 then steps 2 (many s 2) else if k = 3 ∨ k = 5 then steps 1 (many s 1) else if k = 6 then steps 5 (many s 5) else []) else []
theorem implSlots (a s : Int) (k : Nat) (hk : 300 < k) : impl_Slots.f k a s = some (slotsL a s) := by
  unfold impl_Slots.f slotsL
  rw [implSizeOk]; simp only [Option.bind_some, decide_eq_true_eq]
  by_cases c : SizeP a s
  · rw [if_pos c, if_pos c]
    have r : 0 ≤ s ∧ s ≤ 300 ∧ 1 ≤ a ∧ a ≤ 6 := by unfold SizeP at c; omega
    have e : impl_slots.f k a s = some (if a = 2 ∨ a = 4 then steps 2 (many s 2) else if a = 3 ∨ a = 5 then steps 1 (many s 1) else if a = 6 then steps 5 (many s 5) else []) := by
      obtain ⟨k, rfl⟩ : ∃ m, k = m + 2 := ⟨k - 2, by omega⟩
      clear c
      unfold impl_slots.f
      simp only [impl_slots.j0, impl_slots.j1, implTail s 2 r.1 r.2.1 (by omega) (by omega) (k + 1) (by omega), implTail s 1 r.1 r.2.1 (by omega) (by omega) k (by omega), implTail s 5 r.1 r.2.1 (by omega) (by omega) k (by omega), beqd, decide_eq_true_eq]
      obtain ⟨_, _, ha, hb⟩ := r
      have : a = 1 ∨ a = 2 ∨ a = 3 ∨ a = 4 ∨ a = 5 ∨ a = 6 := by omega
      rcases this with rfl | rfl | rfl | rfl | rfl | rfl <;> simp
    rw [e]; rfl
  · rw [if_neg c, if_neg c]
theorem specSlots (a s : Int) (k : Nat) (hk : 300 < k) : spec_Slots.f k a s = some (slotsL a s) := by
  have e1 : spec_Slots.f k a s = spec_Slots.j0 k a s [] (decide (BornP a)) a s 0 := by
    unfold spec_Slots.f
    simp only [Option.bind_some, beqd]
    by_cases h2 : a = 2
    · rw [if_pos h2, decide_eq_true (by unfold BornP; omega)]
    · rw [if_neg h2]
      by_cases h4 : a = 4
      · rw [if_pos h4, decide_eq_true (by unfold BornP; omega)]
      · rw [if_neg h4]; congr 1; rw [decide_eq_decide]; unfold BornP; omega
  obtain ⟨k, rfl⟩ : ∃ m, k = m + 4 := ⟨k - 4, by omega⟩
  rw [e1]
  simp only [spec_Slots.j0, spec_Slots.j1, specHeadOk, Option.bind_some, decide_eq_true_eq]
  have e2 : (if BornP a then (if HeadP a s 1 then (if a = 2 then spec_Slots.j2 (k + 2) s [] (wrap64 (s + 1)) a (a == 2) else spec_Slots.j2 (k + 2) s [] (wrap64 (s + 1)) a (a == 4)) else some [])
      else (if HeadP a s 0 then (if a = 2 then spec_Slots.j2 (k + 2) s [] (wrap64 (s + 1)) a (a == 2) else spec_Slots.j2 (k + 2) s [] (wrap64 (s + 1)) a (a == 4)) else some [])) =
      if SizeP a s then (if a = 2 then spec_Slots.j2 (k + 2) s [] (wrap64 (s + 1)) a (a == 2) else spec_Slots.j2 (k + 2) s [] (wrap64 (s + 1)) a (a == 4)) else some [] := by
    by_cases b : BornP a <;> by_cases c : SizeP a s <;> simp [HeadP, b, c]
  rw [e2]
  unfold slotsL
  by_cases c : SizeP a s
  · rw [if_pos c, if_pos c]
    have r : 0 ≤ s ∧ s ≤ 300 ∧ 1 ≤ a ∧ a ≤ 6 := by unfold SizeP at c; omega
    have ew : wrap64 (s + 1) = s + 1 := wrap64_in (by omega) (by omega)
    have e0 : steps (s + 1) (many s (s + 1)) = [] := by
      have : many s (s + 1) = 0 := by unfold many; omega
      rw [this]; rfl
    clear c e1 e2
    simp only [spec_Slots.j2, spec_Slots.j3, ew, specTail s 2 r.2.1 r.1 (by omega) (by omega) (k + 1) (by omega), specTail s 1 r.2.1 r.1 (by omega) (by omega) k (by omega), specTail s 5 r.2.1 r.1 (by omega) (by omega) k (by omega), specTail s (s + 1) r.2.1 r.1 (by omega) (by omega) k (by omega), e0, beqd, decide_eq_true_eq]
    obtain ⟨_, _, ha, hb⟩ := r
    have : a = 1 ∨ a = 2 ∨ a = 3 ∨ a = 4 ∨ a = 5 ∨ a = 6 := by omega
    rcases this with rfl | rfl | rfl | rfl | rfl | rfl <;> simp
  · rw [if_neg c, if_neg c]
theorem slotsL_length (a s : Int) : (slotsL a s).length < 200 := by
  unfold slotsL
  split
  · rename_i c
    have r : 0 ≤ s ∧ s ≤ 300 := by unfold SizeP at c; omega
    have h2 : many s 2 < 200 := by unfold many; omega
    have h1 : many s 1 < 200 := by unfold many; omega
    have h5 : many s 5 < 200 := by unfold many; omega
    split
    · rw [steps_length]; exact h2
    · split
      · rw [steps_length]; exact h1
      · split
        · rw [steps_length]; exact h5
        · simp
  · simp
end Slots
open Slots
theorem FnExactSlots : laws_FnExactSlots.Pure := by
  intro a s _ _
  refine ⟨1000, ?_⟩
  have hl := slotsL_length a s
  unfold laws_FnExactSlots.f
  rw [specSlots a s 1000 (by omega), implSlots a s 1000 (by omega)]
  simp only [Option.bind_some]
  rw [eq_list _ _ (by omega) _ (by omega)]
  simp only [Option.bind_some, decide_true, if_true]
  rw [mark_list _ 1 _ (by omega) (by omega) (by omega)]
  simp only [Option.bind_some]
  rw [held_list _ 1 _ (by omega) (by omega) (by omega)]
  simp only [Option.bind_some, if_true]
  rw [if_neg (by omega), if_neg (by omega)]
end Go.Proofs.Ytbjfhnajlcakdaa.Pure
