/- The reference's slots. -/
import Derived.Test.YtepddopgmhdllaaS2
namespace Go.Proofs.Ytepddopgmhdllaa.Eng
open Go Go.RowKit Go.Proofs.Ytepddopgmhdllaa.Sl Go.Proofs.Ytepddopgmhdllaa.Ar Go.Proofs.Ytepddopgmhdllaa.Base
set_option linter.unusedVariables false
set_option linter.unusedSimpArgs false
set_option maxRecDepth 10000
variable {w0 : World} {H : HL} {C : Cn} {A : Ar}
theorem slotsFrom_lt {f : Nat} {i s : Int} (h : i + 1 ≤ s) (hf : s - i + 2 ≤ 2 * (f : Int)) : ∃ f', f = f' + 1 ∧ slotsFrom f i s = i :: slotsFrom f' (i + 2) s := by
  cases f with
  | zero => omega
  | succ f => exact ⟨f, rfl, by rw [slotsFrom, if_pos h]⟩
theorem slotsFrom_ge {f : Nat} {i s : Int} (h : ¬ i + 1 ≤ s) : slotsFrom f i s = [] := by
  cases f with
  | zero => rfl
  | succ f => rw [slotsFrom, if_neg h]
theorem slotsLen {f : Nat} {i s : Int} : (slotsFrom f i s).length ≤ f := by
  induction f generalizing i with
  | zero => simp [slotsFrom]
  | succ f ih => 
    rw [slotsFrom]; split
    · have := ih (i := i + 2); simp; omega
    · simp
theorem Slots_c {k s : Int} (hz : SizeP k s) :
    Fn Try.prog w0 77 #[.int .i64 k, .int .i64 s] H fun v H' => ∃ b sp, v = .slice (some ⟨b, 0, none⟩) (slots k s).length ((slots k s).length + List.length sp) ∧ H' = (b, .cells (rowA .i64 (slots k s) sp) 3 (0, 0)) :: H := by
  have hs : 1 ≤ s ∧ s ≤ 256 ∧ 1 ≤ k ∧ k ≤ 6 := by unfold SizeP at hz; omega
  refine enter2 Try.func77 rfl rfl Try.ntmps77 rfl ?_
  repeat' (fail_if_success apply gAt 3); (first | (apply gL; first | refine L_nil ?_ | refine yS ?_ | refine yA fun _ => ?_ | (apply gSt; first | refine sR ?_ | refine sB ?_ | refine s1 ?_ | refine sW ?_ | refine sN ?_) | (apply gBs; first | (refine L_bs0 rfl rfl rfl rfl (fun _ => ?_)) | (refine L_bs1 rfl rfl rfl rfl rfl rfl rfl (fun _ => ?_))) | (apply gApp; apply L_appI rfl rfl rfl rfl rfl rfl; (· exact at_); (· exact tk_); (· rfl); (· omega); intro _ _) | (apply gCall; apply L_call rfl rfl rfl rfl rfl; (· first | exact l1In_c _ _ _ | exact specHeadOk_c _ _ _); rintro _ _ ⟨rfl, rfl⟩) | refine kV ?_ | ((fail_if_success (refine L_known rfl ?_)); first | refine yN (fun h => ?_) fun h => ?_ | refine yP (fun h => ?_) fun h => ?_ | refine yB (fun h => ?_) fun h => ?_ | refine yK (fun h => ?_) fun h => ?_)) | (apply gW; first | refine W_seq ?_ | refine W_region ?_ | refine W_ret ?_ | refine W_skip ?_ | refine W_block ?_ | refine W_exit ?_ | refine W_cond1 rfl ?_ | refine W_cond0 rfl ?_ | refine cN (fun h => ?_) fun h => ?_ | refine cP (fun h => ?_) fun h => ?_ | refine cB (fun h => ?_) fun h => ?_ | refine cK (fun h => ?_) fun h => ?_) | (first | refine seqR.normal ?_ | refine seqR.ret ?_ | refine seqR.exit ?_ | refine blockR.normal ?_ | refine blockR.ret ?_ | refine blockR.here ?_ | refine blockR.exit rfl ?_ | refine loopR.ret ?_ | refine loopR.exit ?_ | refine midA.ret ?_ | refine midA.exit ?_) | fail)
  refine W_midA (α := Nat × Nat × Int) (fun y => [(0, .int .i64 k), (1, .int .i64 s), (5, .slice (some ⟨y.1, 0, none⟩) 0 0), (6, .pointer (some ⟨y.2.1, 0, none⟩))]) (fun y => (y.1, .cells #[] 3 (0, 0)) :: (y.2.1, .cells #[.int .i64 k, .int .i64 s, .int .i64 y.2.2] 85 (0, 0)) :: H) (fun y => HeadP k s y.2.2) ?_ ?_
  · repeat' (first | (apply gL; first | refine L_nil ?_ | refine yS ?_ | refine yA fun _ => ?_ | (apply gSt; first | refine sR ?_ | refine sB ?_ | refine s1 ?_ | refine sW ?_ | refine sN ?_) | (apply gBs; first | (refine L_bs0 rfl rfl rfl rfl (fun _ => ?_)) | (refine L_bs1 rfl rfl rfl rfl rfl rfl rfl (fun _ => ?_))) | (apply gApp; apply L_appI rfl rfl rfl rfl rfl rfl; (· exact at_); (· exact tk_); (· rfl); (· omega); intro _ _) | (apply gCall; apply L_call rfl rfl rfl rfl rfl; (· first | exact l1In_c _ _ _ | exact specHeadOk_c _ _ _); rintro _ _ ⟨rfl, rfl⟩) | refine kV ?_ | ((fail_if_success (refine L_known rfl ?_)); first | refine yN (fun h => ?_) fun h => ?_ | refine yP (fun h => ?_) fun h => ?_ | refine yB (fun h => ?_) fun h => ?_ | refine yK (fun h => ?_) fun h => ?_)) | (apply gW; first | refine W_seq ?_ | refine W_region ?_ | refine W_ret ?_ | refine W_skip ?_ | refine W_block ?_ | refine W_exit ?_ | refine W_cond1 rfl ?_ | refine W_cond0 rfl ?_ | refine cN (fun h => ?_) fun h => ?_ | refine cP (fun h => ?_) fun h => ?_ | refine cB (fun h => ?_) fun h => ?_ | refine cK (fun h => ?_) fun h => ?_) | (first | refine seqR.normal ?_ | refine seqR.ret ?_ | refine seqR.exit ?_ | refine blockR.normal ?_ | refine blockR.ret ?_ | refine blockR.here ?_ | refine blockR.exit rfl ?_ | refine loopR.ret ?_ | refine loopR.exit ?_ | refine midA.ret ?_ | refine midA.exit ?_) | fail)
    · apply midA.mk (_, _, 1)
      · exact sub_
      · exact cvt_
      · dsimp only; exact ⟨hz, by unfold BornP; omega⟩
    · apply midA.mk (_, _, 1)
      · exact sub_
      · exact cvt_
      · dsimp only; exact ⟨hz, by unfold BornP; omega⟩
    · apply midA.mk (_, _, 1)
      · exact sub_
      · exact cvt_
      · dsimp only; exact ⟨hz, by unfold BornP; omega⟩
    · apply midA.mk (_, _, 0)
      · exact sub_
      · exact cvt_
      · dsimp only; exact ⟨hz, by unfold BornP; omega⟩
  rintro ⟨b, b', n⟩ hh
  dsimp only at hh ⊢
  repeat' (fail_if_success apply gAt 8); (first | (apply gL; first | refine L_nil ?_ | refine yS ?_ | refine yA fun _ => ?_ | (apply gSt; first | refine sR ?_ | refine sB ?_ | refine s1 ?_ | refine sW ?_ | refine sN ?_) | (apply gBs; first | (refine L_bs0 rfl rfl rfl rfl (fun _ => ?_)) | (refine L_bs1 rfl rfl rfl rfl rfl rfl rfl (fun _ => ?_))) | (apply gApp; apply L_appI rfl rfl rfl rfl rfl rfl; (· exact at_); (· exact tk_); (· rfl); (· omega); intro _ _) | (apply gCall; apply L_call rfl rfl rfl rfl rfl; (· first | exact l1In_c _ _ _ | exact specHeadOk_c _ _ _); rintro _ _ ⟨rfl, rfl⟩) | refine kV ?_ | ((fail_if_success (refine L_known rfl ?_)); first | refine yN (fun h => ?_) fun h => ?_ | refine yP (fun h => ?_) fun h => ?_ | refine yB (fun h => ?_) fun h => ?_ | refine yK (fun h => ?_) fun h => ?_)) | (apply gW; first | refine W_seq ?_ | refine W_region ?_ | refine W_ret ?_ | refine W_skip ?_ | refine W_block ?_ | refine W_exit ?_ | refine W_cond1 rfl ?_ | refine W_cond0 rfl ?_ | refine cN (fun h => ?_) fun h => ?_ | refine cP (fun h => ?_) fun h => ?_ | refine cB (fun h => ?_) fun h => ?_ | refine cK (fun h => ?_) fun h => ?_) | (first | refine seqR.normal ?_ | refine seqR.ret ?_ | refine seqR.exit ?_ | refine blockR.normal ?_ | refine blockR.ret ?_ | refine blockR.here ?_ | refine blockR.exit rfl ?_ | refine loopR.ret ?_ | refine loopR.exit ?_ | refine midA.ret ?_ | refine midA.exit ?_) | fail)
  · exact absurd hh ‹_›
  refine W_midA (α := Unit) (fun y => [(0, .int .i64 k), (1, .int .i64 s), (5, .slice (some ⟨b, 0, none⟩) 0 0), (7, .int .i64 (from_ k s))]) (fun y => (b, .cells #[] 3 (0, 0)) :: H) (fun y => True) ?_ ?_
  · repeat' (first | (apply gL; first | refine L_nil ?_ | refine yS ?_ | refine yA fun _ => ?_ | (apply gSt; first | refine sR ?_ | refine sB ?_ | refine s1 ?_ | refine sW ?_ | refine sN ?_) | (apply gBs; first | (refine L_bs0 rfl rfl rfl rfl (fun _ => ?_)) | (refine L_bs1 rfl rfl rfl rfl rfl rfl rfl (fun _ => ?_))) | (apply gApp; apply L_appI rfl rfl rfl rfl rfl rfl; (· exact at_); (· exact tk_); (· rfl); (· omega); intro _ _) | (apply gCall; apply L_call rfl rfl rfl rfl rfl; (· first | exact l1In_c _ _ _ | exact specHeadOk_c _ _ _); rintro _ _ ⟨rfl, rfl⟩) | refine kV ?_ | ((fail_if_success (refine L_known rfl ?_)); first | refine yN (fun h => ?_) fun h => ?_ | refine yP (fun h => ?_) fun h => ?_ | refine yB (fun h => ?_) fun h => ?_ | refine yK (fun h => ?_) fun h => ?_)) | (apply gW; first | refine W_seq ?_ | refine W_region ?_ | refine W_ret ?_ | refine W_skip ?_ | refine W_block ?_ | refine W_exit ?_ | refine W_cond1 rfl ?_ | refine W_cond0 rfl ?_ | refine cN (fun h => ?_) fun h => ?_ | refine cP (fun h => ?_) fun h => ?_ | refine cB (fun h => ?_) fun h => ?_ | refine cK (fun h => ?_) fun h => ?_) | (first | refine seqR.normal ?_ | refine seqR.ret ?_ | refine seqR.exit ?_ | refine blockR.normal ?_ | refine blockR.ret ?_ | refine blockR.here ?_ | refine blockR.exit rfl ?_ | refine loopR.ret ?_ | refine loopR.exit ?_ | refine midA.ret ?_ | refine midA.exit ?_) | fail)
    all_goals (refine midA.at_ () trivial ⟨rfl, rfl, rfl, lk (by unfold from_; omega), trivial⟩ cvt_)
  rintro _ _
  repeat' (first | (apply gL; first | refine L_nil ?_ | refine yS ?_ | refine yA fun _ => ?_ | (apply gSt; first | refine sR ?_ | refine sB ?_ | refine s1 ?_ | refine sW ?_ | refine sN ?_) | (apply gBs; first | (refine L_bs0 rfl rfl rfl rfl (fun _ => ?_)) | (refine L_bs1 rfl rfl rfl rfl rfl rfl rfl (fun _ => ?_))) | (apply gApp; apply L_appI rfl rfl rfl rfl rfl rfl; (· exact at_); (· exact tk_); (· rfl); (· omega); intro _ _) | (apply gCall; apply L_call rfl rfl rfl rfl rfl; (· first | exact l1In_c _ _ _ | exact specHeadOk_c _ _ _); rintro _ _ ⟨rfl, rfl⟩) | refine kV ?_ | ((fail_if_success (refine L_known rfl ?_)); first | refine yN (fun h => ?_) fun h => ?_ | refine yP (fun h => ?_) fun h => ?_ | refine yB (fun h => ?_) fun h => ?_ | refine yK (fun h => ?_) fun h => ?_)) | (apply gW; first | refine W_seq ?_ | refine W_region ?_ | refine W_ret ?_ | refine W_skip ?_ | refine W_block ?_ | refine W_exit ?_ | refine W_cond1 rfl ?_ | refine W_cond0 rfl ?_ | refine cN (fun h => ?_) fun h => ?_ | refine cP (fun h => ?_) fun h => ?_ | refine cB (fun h => ?_) fun h => ?_ | refine cK (fun h => ?_) fun h => ?_) | (first | refine seqR.normal ?_ | refine seqR.ret ?_ | refine seqR.exit ?_ | refine blockR.normal ?_ | refine blockR.ret ?_ | refine blockR.here ?_ | refine blockR.exit rfl ?_ | refine loopR.ret ?_ | refine loopR.exit ?_ | refine midA.ret ?_ | refine midA.exit ?_) | fail)
  refine W_loop (α := List Int × List Value × Nat × Int) (fun y => [(0, .int .i64 k), (1, .int .i64 s), (5, .slice (some ⟨y.2.2.1, 0, none⟩) y.1.length (y.1.length + y.2.1.length)), (8, .int .i64 y.2.2.2)]) (fun y => (y.2.2.1, .cells (rowA .i64 y.1 y.2.1) 3 (0, 0)) :: H)
    (fun y => (∃ f, y.1 ++ slotsFrom f y.2.2.2 s = slots k s ∧ s - y.2.2.2 + 2 ≤ 2 * (f : Int)) ∧ y.1.length ≤ 130 ∧ 1 ≤ y.2.2.2 ∧ y.2.2.2 ≤ 300) (fun y => (s - y.2.2.2 + 2).toNat) ([], [], b, from_ k s) ⟨⟨130, rfl, by simp only [from_]; omega⟩, by simp, by simp only [from_]; omega, by simp only [from_]; omega⟩ sub_ cvt_ ?_
  rintro ⟨xs, sp, b2, i⟩ ⟨⟨f, hf, hf2⟩, hl, hi, hi2⟩
  dsimp only at hf hf2 hl hi hi2 ⊢
  repeat' (first | (apply gL; first | refine L_nil ?_ | refine yS ?_ | refine yA fun _ => ?_ | (apply gSt; first | refine sR ?_ | refine sB ?_ | refine s1 ?_ | refine sW ?_ | refine sN ?_) | (apply gBs; first | (refine L_bs0 rfl rfl rfl rfl (fun _ => ?_)) | (refine L_bs1 rfl rfl rfl rfl rfl rfl rfl (fun _ => ?_))) | (apply gApp; apply L_appI rfl rfl rfl rfl rfl rfl; (· exact at_); (· exact tk_); (· rfl); (· omega); intro _ _) | (apply gCall; apply L_call rfl rfl rfl rfl rfl; (· first | exact l1In_c _ _ _ | exact specHeadOk_c _ _ _); rintro _ _ ⟨rfl, rfl⟩) | refine kV ?_ | ((fail_if_success (refine L_known rfl ?_)); first | refine yN (fun h => ?_) fun h => ?_ | refine yP (fun h => ?_) fun h => ?_ | refine yB (fun h => ?_) fun h => ?_ | refine yK (fun h => ?_) fun h => ?_)) | (apply gW; first | refine W_seq ?_ | refine W_region ?_ | refine W_ret ?_ | refine W_skip ?_ | refine W_block ?_ | refine W_exit ?_ | refine W_cond1 rfl ?_ | refine W_cond0 rfl ?_ | refine cN (fun h => ?_) fun h => ?_ | refine cP (fun h => ?_) fun h => ?_ | refine cB (fun h => ?_) fun h => ?_ | refine cK (fun h => ?_) fun h => ?_) | (first | refine seqR.normal ?_ | refine seqR.ret ?_ | refine seqR.exit ?_ | refine blockR.normal ?_ | refine blockR.ret ?_ | refine blockR.here ?_ | refine blockR.exit rfl ?_ | refine loopR.ret ?_ | refine loopR.exit ?_ | refine midA.ret ?_ | refine midA.exit ?_) | fail)
  · rename_i h _ _ _
    obtain ⟨f', rfl, e⟩ := slotsFrom_lt h hf2
    rw [e] at hf
    have := congrArg List.length hf
    have h3 := slotsLen (f := 130) (i := from_ k s) (s := s)
    simp only [slots, List.length_append, List.length_cons] at this
    apply loopR.mk (xs ++ [i], _, _, i + 2)
    · exact sub_
    · exact cvt_
    · exact ⟨⟨f', by simpa using hf, by dsimp only; omega⟩, by simp; omega, by dsimp only; omega, by dsimp only; omega⟩
    dsimp only; omega
  · rename_i h
    rw [slotsFrom_ge h, List.append_nil] at hf
    subst hf
    exact retR.ret _ _ (ret1 rfl rfl) cvt_ ⟨_, _, rfl, rfl⟩
end Go.Proofs.Ytepddopgmhdllaa.Eng
