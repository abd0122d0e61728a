/- The implementation's objectOk. -/
import Derived.Test.YtepddopgmhdllaaI9
namespace Go.Proofs.Ytepddopgmhdllaa.Ar
/-- a table's block is nothing or a block -/
def Ar.tabTag (A : Ar) (p : Int) : Bool := decide (A.kn p = 2 → rvT A.ws (p + 2) = 0 ∨ rvT A.ws (p + 2) = 8)
end Go.Proofs.Ytepddopgmhdllaa.Ar
namespace Go.Proofs.Ytepddopgmhdllaa.Eng
open Go Go.RowKit Go.Proofs.Ytepddopgmhdllaa.Sl Go.Proofs.Ytepddopgmhdllaa.Ar Go.Proofs.Ytepddopgmhdllaa.Base
set_option linter.unusedVariables false
set_option linter.unusedSimpArgs false
set_option maxRecDepth 10000
variable {w0 : World} {H : HL} {C : Cn} {A : Ar} {ba : Nat}
theorem islots1_c {k s : Int} (hk : k = 1) :
    Fn Try.prog w0 81 #[.int .i64 k, .int .i64 s] H fun v H' => v = .slice none 0 0 ∧ H' = H := by
  subst hk; exact islots0_c
theorem icoOk2_c {bv bi bs bb : Nat} {p s : Int} (hV : At H bv (svObj ba bi A.ws.length bs bb)) (hP : At H ba (aObj C A)) (hA : At H C.bw (wObj C A)) (hw : Wf A.ws) (hm : A.ws.length ≤ 8000) (hc : A.ws.length ≤ C.wc) (hp : 0 ≤ p) (hp2 : p + 126 < A.ws.length) (hv : rv A.ws (p + 5) = true) (hs : s = 126) :
    Fn Try.prog w0 166 #[.pointer (some ⟨bv, 0, none⟩), .int .i64 p, .int .i64 s] H fun v H' => v = .bool (A.coOk p) ∧ H' = H := by
  subst hs; exact icoOk_c hV hP hA hw hm hc hp hp2 hv
set_option maxHeartbeats 4000000 in
theorem objectOk_c {bv bi bs bb : Nat} {m : List Int} {p : Int} (hV : At H bv (svObj ba bi A.ws.length bs bb)) (hB : At H bi (uObj m)) (hP : At H ba (aObj C A)) (hA : At H C.bw (wObj C A)) (hw : Wf A.ws) (hm : A.ws.length ≤ 8000) (hc : A.ws.length ≤ C.wc) (hh : A.to = 0 ∨ A.to = 1) (hs : 256 ≤ A.semi ∧ A.semi ≤ 4000)
    (hM : MarkP A m) (hof : ∀ n : Int, g m n = 0 ∨ g m n = 1 ∨ g m n = 2 ∨ g m n = 3) (hPl : ∀ n : Int, 0 ≤ n → n < A.ws.length → g m n ≠ 0 → PlaceP A n) (hp : 0 ≤ p) (hp2 : p < A.ws.length) (hi : g m p = 1 ∨ g m p = 2) :
    Fn Try.prog w0 150 #[.pointer (some ⟨bv, 0, none⟩), .int .i64 p] H fun v H' => v = .bool (A.object m p && A.tabTag p) ∧ H' = H := by
  have hWh : ∀ n : Int, 0 ≤ n → n < A.ws.length → g m n ≠ 0 → PlaceP A n ∧ 0 ≤ A.where_ n ∧ A.where_ n < A.ws.length := fun n h1 h2 h3 => ⟨hPl n h1 h2 h3, (hM.wh n h1 h2 h3).1, (hM.wh n h1 h2 h3).2.1⟩
  have hfr : (p = -1 ∧ A.fromOf m p = 1) ∨ (0 ≤ p ∧ p < A.ws.length ∧ (g m p = 1 ∨ g m p = 2) ∧ A.fromOf m p = A.fromOf m p) := .inr ⟨hp, hp2, hi, rfl⟩
  obtain ⟨h1, h2, h3⟩ := hM.ok p hp hp2 hi
  have hr := rsR' h2
  have hz : SizeP (rk (g A.ws p)) (rs (g A.ws p)) := by rw [hr.2.2.1, hr.2.2.2.1]; exact (of_decide_eq_true (show decide (HeadP _ _ _) = true from h2)).1
  have h6 : rk (g A.ws p) = 6 → rs (g A.ws p) = 126 := by intro h; unfold SizeP at hz; omega
  have hw1 := hw (p + 1)
  have hk2 : rk (g A.ws p) = 2 → slots (rk (g A.ws p)) (rs (g A.ws p)) = [2] := by
    intro h
    have : rs (g A.ws p) = 3 := by unfold SizeP at hz; omega
    rw [h, this]; decide
  refine enter2 Try.func150 rfl rfl Try.ntmps150 rfl ?_
  repeat' (fail_if_success apply gAt 2); (first | (apply gL; first | refine L_nil ?_ | refine yS ?_ | refine yA fun _ => ?_ | (apply gSt; first | refine sR ?_ | refine sB ?_ | refine s1 ?_ | refine sW ?_ | refine sN ?_) | (apply gCall; apply L_call rfl rfl rfl rfl rfl; (· first | exact head_c at_ at_ hw om om | exact implGetVal_c at_ hw om om om | exact leads_c at_ at_ at_ at_ hw hm hM.len hh hs ((rvP A.ws _).2) (fun h1 h2 h3 => hWh _ ((rvP A.ws _).2 h1) h2 h3) (hof _) hfr | exact textOk_c at_ at_ at_ hw hm om om om); rintro _ _ ⟨rfl, rfl⟩) | refine kV ?_ | ((fail_if_success (refine L_known rfl ?_)); first | refine yN (fun h => ?_) fun h => ?_ | refine yP (fun h => ?_) fun h => ?_ | refine yB (fun h => ?_) fun h => ?_ | refine yK (fun h => ?_) fun h => ?_)) | (apply gW; first | refine W_seq ?_ | refine W_region ?_ | refine W_ret ?_ | refine W_skip ?_ | refine W_block ?_ | refine W_exit ?_ | refine W_cond1 rfl ?_ | refine W_cond0 rfl ?_ | refine cN (fun h => ?_) fun h => ?_ | refine cP (fun h => ?_) fun h => ?_ | refine cB (fun h => ?_) fun h => ?_ | refine cK (fun h => ?_) fun h => ?_) | (first | refine seqR.normal ?_ | refine seqR.ret ?_ | refine seqR.exit ?_ | refine blockR.normal ?_ | refine blockR.ret ?_ | refine blockR.here ?_ | refine blockR.exit rfl ?_ | refine loopR.ret ?_ | refine loopR.exit ?_ | refine midA.ret ?_ | refine midA.exit ?_) | fail)
  rename_i H bh
  refine W_midA (α := Unit) (fun y => [(0, .pointer (some ⟨bv, 0, none⟩)), (1, .int .i64 p), (5, .pointer (some ⟨bh, 0, none⟩))]) (fun y => (bh, .cells #[.int .i64 (rk (g A.ws p)), .int .i64 (rs (g A.ws p)), .int .i64 (rn (g A.ws p))] 85 (0, 0)) :: H)
    (fun _ => (∀ j : Int, 0 ≤ j → j < ((slots (rk (g A.ws p)) (rs (g A.ws p))).length : Int) → A.slotOk m (rk (g A.ws p)) (A.fromOf m p) (p + g (slots (rk (g A.ws p)) (rs (g A.ws p))) j) = true) ∧ A.tabTag p = true) ?_ ?_
  · repeat' (first | (apply gL; first | refine L_nil ?_ | refine yS ?_ | refine yA fun _ => ?_ | (apply gSt; first | refine sR ?_ | refine sB ?_ | refine s1 ?_ | refine sW ?_ | refine sN ?_) | (apply gCall; apply L_call rfl rfl rfl rfl rfl; (· first | exact head_c at_ at_ hw om om | exact implGetVal_c at_ hw om om om | exact leads_c at_ at_ at_ at_ hw hm hM.len hh hs ((rvP A.ws _).2) (fun h1 h2 h3 => hWh _ ((rvP A.ws _).2 h1) h2 h3) (hof _) hfr | exact textOk_c at_ at_ at_ hw hm om om om); rintro _ _ ⟨rfl, rfl⟩) | refine kV ?_ | ((fail_if_success (refine L_known rfl ?_)); first | refine yN (fun h => ?_) fun h => ?_ | refine yP (fun h => ?_) fun h => ?_ | refine yB (fun h => ?_) fun h => ?_ | refine yK (fun h => ?_) fun h => ?_)) | (apply gW; first | refine W_seq ?_ | refine W_region ?_ | refine W_ret ?_ | refine W_skip ?_ | refine W_block ?_ | refine W_exit ?_ | refine W_cond1 rfl ?_ | refine W_cond0 rfl ?_ | refine cN (fun h => ?_) fun h => ?_ | refine cP (fun h => ?_) fun h => ?_ | refine cB (fun h => ?_) fun h => ?_ | refine cK (fun h => ?_) fun h => ?_) | (first | refine seqR.normal ?_ | refine seqR.ret ?_ | refine seqR.exit ?_ | refine blockR.normal ?_ | refine blockR.ret ?_ | refine blockR.here ?_ | refine blockR.exit rfl ?_ | refine loopR.ret ?_ | refine loopR.exit ?_ | refine midA.ret ?_ | refine midA.exit ?_) | fail)
    by_cases hk : rk (g A.ws p) = 1
    · apply L_call rfl rfl rfl rfl rfl
      · exact islots1_c hk
      rintro _ _ ⟨rfl, rfl⟩
      repeat' (first | (apply gL; first | refine L_nil ?_ | refine yS ?_ | refine yA fun _ => ?_ | (apply gSt; first | refine sR ?_ | refine sB ?_ | refine s1 ?_ | refine sW ?_ | refine sN ?_) | (apply gCall; apply L_call rfl rfl rfl rfl rfl; (· first | exact head_c at_ at_ hw om om | exact implGetVal_c at_ hw om om om | exact leads_c at_ at_ at_ at_ hw hm hM.len hh hs ((rvP A.ws _).2) (fun h1 h2 h3 => hWh _ ((rvP A.ws _).2 h1) h2 h3) (hof _) hfr | exact textOk_c at_ at_ at_ hw hm om om om); rintro _ _ ⟨rfl, rfl⟩) | refine kV ?_ | ((fail_if_success (refine L_known rfl ?_)); first | refine yN (fun h => ?_) fun h => ?_ | refine yP (fun h => ?_) fun h => ?_ | refine yB (fun h => ?_) fun h => ?_ | refine yK (fun h => ?_) fun h => ?_)) | (apply gW; first | refine W_seq ?_ | refine W_region ?_ | refine W_ret ?_ | refine W_skip ?_ | refine W_block ?_ | refine W_exit ?_ | refine W_cond1 rfl ?_ | refine W_cond0 rfl ?_ | refine cN (fun h => ?_) fun h => ?_ | refine cP (fun h => ?_) fun h => ?_ | refine cB (fun h => ?_) fun h => ?_ | refine cK (fun h => ?_) fun h => ?_) | (first | refine seqR.normal ?_ | refine seqR.ret ?_ | refine seqR.exit ?_ | refine blockR.normal ?_ | refine blockR.ret ?_ | refine blockR.here ?_ | refine blockR.exit rfl ?_ | refine loopR.ret ?_ | refine loopR.exit ?_ | refine midA.ret ?_ | refine midA.exit ?_) | fail)
      have hsl : slots (rk (g A.ws p)) (rs (g A.ws p)) = [] := by
        unfold slots from_
        rw [if_neg (by omega), if_neg (by omega), if_neg (by omega), slotsFrom, if_neg (by omega)]
      apply W_loopX (α := Unit) (fun y => [(0, .pointer (some ⟨bv, 0, none⟩)), (1, .int .i64 p), (5, .pointer (some ⟨bh, 0, none⟩)), (21, .int .i64 ((0 : Nat) : Int)), (22, .int .i64 0)]) (fun y => (bh, .cells #[.int .i64 (rk (g A.ws p)), .int .i64 (rs (g A.ws p)), .int .i64 (rn (g A.ws p))] 85 (0, 0)) :: H)
        (fun _ => True) (fun _ => 0) ()
      · exact sub_
      · exact cvt_
      · trivial
      rintro _ _
      repeat' (first | (apply gL; first | refine L_nil ?_ | refine yS ?_ | refine yA fun _ => ?_ | (apply gSt; first | refine sR ?_ | refine sB ?_ | refine s1 ?_ | refine sW ?_ | refine sN ?_) | (apply gCall; apply L_call rfl rfl rfl rfl rfl; (· first | exact head_c at_ at_ hw om om | exact implGetVal_c at_ hw om om om | exact leads_c at_ at_ at_ at_ hw hm hM.len hh hs ((rvP A.ws _).2) (fun h1 h2 h3 => hWh _ ((rvP A.ws _).2 h1) h2 h3) (hof _) hfr | exact textOk_c at_ at_ at_ hw hm om om om); rintro _ _ ⟨rfl, rfl⟩) | refine kV ?_ | ((fail_if_success (refine L_known rfl ?_)); first | refine yN (fun h => ?_) fun h => ?_ | refine yP (fun h => ?_) fun h => ?_ | refine yB (fun h => ?_) fun h => ?_ | refine yK (fun h => ?_) fun h => ?_)) | (apply gW; first | refine W_seq ?_ | refine W_region ?_ | refine W_ret ?_ | refine W_skip ?_ | refine W_block ?_ | refine W_exit ?_ | refine W_cond1 rfl ?_ | refine W_cond0 rfl ?_ | refine cN (fun h => ?_) fun h => ?_ | refine cP (fun h => ?_) fun h => ?_ | refine cB (fun h => ?_) fun h => ?_ | refine cK (fun h => ?_) fun h => ?_) | (first | refine seqR.normal ?_ | refine seqR.ret ?_ | refine seqR.exit ?_ | refine blockR.normal ?_ | refine blockR.ret ?_ | refine blockR.here ?_ | refine blockR.exit rfl ?_ | refine loopR.ret ?_ | refine loopR.exit ?_ | refine midA.ret ?_ | refine midA.exit ?_) | fail)
      all_goals (first | (exfalso; omega) | skip)
      · apply midA.mk ()
        · exact sub_
        · exact cvt_
        · refine ⟨fun j a b => ?_, decide_eq_true (fun c => ?_)⟩
          · rw [hsl] at b; simp at b; omega
          · unfold Ar.kn Ar.w at c; omega
    · apply L_call rfl rfl rfl rfl rfl
      · exact islots_c hz hk
      rintro _ _ ⟨bl, sp, rfl, rfl⟩
      repeat' (first | (apply gL; first | refine L_nil ?_ | refine yS ?_ | refine yA fun _ => ?_ | (apply gSt; first | refine sR ?_ | refine sB ?_ | refine s1 ?_ | refine sW ?_ | refine sN ?_) | (apply gCall; apply L_call rfl rfl rfl rfl rfl; (· first | exact head_c at_ at_ hw om om | exact implGetVal_c at_ hw om om om | exact leads_c at_ at_ at_ at_ hw hm hM.len hh hs ((rvP A.ws _).2) (fun h1 h2 h3 => hWh _ ((rvP A.ws _).2 h1) h2 h3) (hof _) hfr | exact textOk_c at_ at_ at_ hw hm om om om); rintro _ _ ⟨rfl, rfl⟩) | refine kV ?_ | ((fail_if_success (refine L_known rfl ?_)); first | refine yN (fun h => ?_) fun h => ?_ | refine yP (fun h => ?_) fun h => ?_ | refine yB (fun h => ?_) fun h => ?_ | refine yK (fun h => ?_) fun h => ?_)) | (apply gW; first | refine W_seq ?_ | refine W_region ?_ | refine W_ret ?_ | refine W_skip ?_ | refine W_block ?_ | refine W_exit ?_ | refine W_cond1 rfl ?_ | refine W_cond0 rfl ?_ | refine cN (fun h => ?_) fun h => ?_ | refine cP (fun h => ?_) fun h => ?_ | refine cB (fun h => ?_) fun h => ?_ | refine cK (fun h => ?_) fun h => ?_) | (first | refine seqR.normal ?_ | refine seqR.ret ?_ | refine seqR.exit ?_ | refine blockR.normal ?_ | refine blockR.ret ?_ | refine blockR.here ?_ | refine blockR.exit rfl ?_ | refine loopR.ret ?_ | refine loopR.exit ?_ | refine midA.ret ?_ | refine midA.exit ?_) | fail)
      generalize hG : slots (rk (g A.ws p)) (rs (g A.ws p)) = sl at *
      have hsl : sl.length ≤ 130 := by rw [← hG]; exact slots_len
      apply W_loopX (α := Int) (fun y => [(0, .pointer (some ⟨bv, 0, none⟩)), (1, .int .i64 p), (5, .pointer (some ⟨bh, 0, none⟩)), (20, .slice (some ⟨bl, 0, none⟩) sl.length (sl.length + sp.length)), (21, .int .i64 (sl.length : Int)), (22, .int .i64 y)]) (fun y => (bl, .cells (rowA .i64 sl sp) 3 (0, 0)) :: (bh, .cells #[.int .i64 (rk (g A.ws p)), .int .i64 (rs (g A.ws p)), .int .i64 (rn (g A.ws p))] 85 (0, 0)) :: H)
        (fun y => 0 ≤ y ∧ y ≤ sl.length ∧ ∀ j, 0 ≤ j → j < y → A.slotOk m (rk (g A.ws p)) (A.fromOf m p) (p + g sl j) = true ∧ (rk (g A.ws p) = 2 → rvT A.ws (p + g sl j) = 0 ∨ rvT A.ws (p + g sl j) = 8)) (fun y => (sl.length - y).toNat) 0
      · exact sub_
      · exact cvt_
      · exact ⟨by omega, by omega, fun j a b => by omega⟩
      rintro i ⟨hi1, hi2, hi3⟩
      have hq : i < (sl.length : Int) → 1 ≤ g sl i ∧ g sl i + 1 ≤ rs (g A.ws p) := fun h => slots_in hz (by rw [hG]; exact g_mem hi1 h)
      have hF : i < (sl.length : Int) → ¬ (A.slotOk m (rk (g A.ws p)) (A.fromOf m p) (p + g sl i) = true ∧ (rk (g A.ws p) = 2 → rvT A.ws (p + g sl i) = 0 ∨ rvT A.ws (p + g sl i) = 8)) → false = (A.object m p && A.tabTag p) := by
        intro hil c
        by_cases hso : A.slotOk m (rk (g A.ws p)) (A.fromOf m p) (p + g sl i) = true
        · have ht : A.tabTag p = false := by
            refine decide_eq_false (fun d => c ⟨hso, fun e => ?_⟩)
            have d2 := d e
            have e2 := hk2 e
            subst e2
            have : i = 0 := by simp at hil; omega
            subst this
            exact d2
          rw [ht, Bool.and_false]
        · rw [← object_f hG hi1 hil hso]; rfl
      repeat' (first | (apply gL; first | refine L_nil ?_ | refine yS ?_ | refine yA fun _ => ?_ | (apply gSt; first | refine sR ?_ | refine sB ?_ | refine s1 ?_ | refine sW ?_ | refine sN ?_) | (apply gCall; apply L_call rfl rfl rfl rfl rfl; (· first | exact head_c at_ at_ hw om om | exact implGetVal_c at_ hw om om om | exact leads_c at_ at_ at_ at_ hw hm hM.len hh hs ((rvP A.ws _).2) (fun h1 h2 h3 => hWh _ ((rvP A.ws _).2 h1) h2 h3) (hof _) hfr | exact textOk_c at_ at_ at_ hw hm om om om); rintro _ _ ⟨rfl, rfl⟩) | refine kV ?_ | ((fail_if_success (refine L_known rfl ?_)); first | refine yN (fun h => ?_) fun h => ?_ | refine yP (fun h => ?_) fun h => ?_ | refine yB (fun h => ?_) fun h => ?_ | refine yK (fun h => ?_) fun h => ?_)) | (apply gW; first | refine W_seq ?_ | refine W_region ?_ | refine W_ret ?_ | refine W_skip ?_ | refine W_block ?_ | refine W_exit ?_ | refine W_cond1 rfl ?_ | refine W_cond0 rfl ?_ | refine cN (fun h => ?_) fun h => ?_ | refine cP (fun h => ?_) fun h => ?_ | refine cB (fun h => ?_) fun h => ?_ | refine cK (fun h => ?_) fun h => ?_) | (first | refine seqR.normal ?_ | refine seqR.ret ?_ | refine seqR.exit ?_ | refine blockR.normal ?_ | refine blockR.ret ?_ | refine blockR.here ?_ | refine blockR.exit rfl ?_ | refine loopR.ret ?_ | refine loopR.exit ?_ | refine midA.ret ?_ | refine midA.exit ?_) | fail)
      all_goals (first
        | (exfalso; omega)
        | (refine retR.ret _ _ (ret1 rfl rfl) cv_ ⟨?_, rfl⟩
           exact congrArg Value.bool (hF (by assumption) (fun c => by
             obtain ⟨c0, c6⟩ := c
             obtain ⟨c1, c2, c3, c4, c5⟩ := slotOk_iff.1 c0
             first | omega | exact absurd (show rv A.ws (p + g sl i) = false by assumption) (by simp [c1]) | exact absurd (show A.leads m (rvT A.ws (p + g sl i)) (rvN A.ws (p + g sl i)) (A.fromOf m p) = false by assumption) (by simp [c2]))))
        | (apply loopR.mk (i + 1)
           · exact sub_
           · exact cvt_
           · exact ⟨by omega, by omega, fun j h1 h2 => by
               by_cases hj : j = i
               · subst hj; exact ⟨slotOk_iff.2 ⟨by assumption, by assumption, by omega, by omega, by omega⟩, fun e => by omega⟩
               · exact hi3 j h1 (by omega)⟩
           · (try dsimp only); omega)
        | (apply midA.mk ()
           · exact sub_
           · exact cvt_
           · refine ⟨fun j a b => (hi3 j a (by omega)).1, decide_eq_true (fun e => ?_)⟩
             have e2 := hk2 e
             subst e2
             exact (hi3 0 (by omega) (by simp at *; omega)).2 e))
  rintro _ ⟨hS, hT⟩
  rw [hT, Bool.and_true, object_t rfl hS]
  have hv5 : rk (g A.ws p) = 6 → rv A.ws (p + 5) = true := by
    intro h
    have e := h6 h
    have := hS 0 (by omega) (by rw [h, e]; decide)
    rw [h, e] at this
    exact (slotOk_iff.1 this).1
  repeat' (fail_if_success apply gAt 19); (first | (apply gL; first | refine L_nil ?_ | refine yS ?_ | refine yA fun _ => ?_ | (apply gSt; first | refine sR ?_ | refine sB ?_ | refine s1 ?_ | refine sW ?_ | refine sN ?_) | (apply gCall; apply L_call rfl rfl rfl rfl rfl; (· first | exact head_c at_ at_ hw om om | exact implGetVal_c at_ hw om om om | exact leads_c at_ at_ at_ at_ hw hm hM.len hh hs ((rvP A.ws _).2) (fun h1 h2 h3 => hWh _ ((rvP A.ws _).2 h1) h2 h3) (hof _) hfr | exact textOk_c at_ at_ at_ hw hm om om om); rintro _ _ ⟨rfl, rfl⟩) | refine kV ?_ | ((fail_if_success (refine L_known rfl ?_)); first | refine yN (fun h => ?_) fun h => ?_ | refine yP (fun h => ?_) fun h => ?_ | refine yB (fun h => ?_) fun h => ?_ | refine yK (fun h => ?_) fun h => ?_)) | (apply gW; first | refine W_seq ?_ | refine W_region ?_ | refine W_ret ?_ | refine W_skip ?_ | refine W_block ?_ | refine W_exit ?_ | refine W_cond1 rfl ?_ | refine W_cond0 rfl ?_ | refine cN (fun h => ?_) fun h => ?_ | refine cP (fun h => ?_) fun h => ?_ | refine cB (fun h => ?_) fun h => ?_ | refine cK (fun h => ?_) fun h => ?_) | (first | refine seqR.normal ?_ | refine seqR.ret ?_ | refine seqR.exit ?_ | refine blockR.normal ?_ | refine blockR.ret ?_ | refine blockR.here ?_ | refine blockR.exit rfl ?_ | refine loopR.ret ?_ | refine loopR.exit ?_ | refine midA.ret ?_ | refine midA.exit ?_) | fail)
  · refine retR.ret _ _ (ret1 rfl rfl) cv_ ⟨?_, rfl⟩
    rw [if_pos h]
  · refine retR.ret _ _ (ret1 rfl rfl) cv_ ⟨?_, rfl⟩
    rw [if_neg (by assumption), if_pos h]
    have e1 := sgs hw1.1
    have e2 := sgs' hw1.2
    unfold inB
    exact bx (by omega)
  · rw [if_neg (by assumption), if_neg (by assumption), if_pos h]
    have e := h6 h
    repeat' (first | (apply gL; first | refine L_nil ?_ | refine yS ?_ | refine yA fun _ => ?_ | (apply gSt; first | refine sR ?_ | refine sB ?_ | refine s1 ?_ | refine sW ?_ | refine sN ?_) | (apply gCall; apply L_call rfl rfl rfl rfl rfl; (· first | exact head_c at_ at_ hw om om | exact implGetVal_c at_ hw om om om | exact leads_c at_ at_ at_ at_ hw hm hM.len hh hs ((rvP A.ws _).2) (fun h1 h2 h3 => hWh _ ((rvP A.ws _).2 h1) h2 h3) (hof _) hfr | exact textOk_c at_ at_ at_ hw hm om om om); rintro _ _ ⟨rfl, rfl⟩) | refine kV ?_ | ((fail_if_success (refine L_known rfl ?_)); first | refine yN (fun h => ?_) fun h => ?_ | refine yP (fun h => ?_) fun h => ?_ | refine yB (fun h => ?_) fun h => ?_ | refine yK (fun h => ?_) fun h => ?_)) | (apply gW; first | refine W_seq ?_ | refine W_region ?_ | refine W_ret ?_ | refine W_skip ?_ | refine W_block ?_ | refine W_exit ?_ | refine W_cond1 rfl ?_ | refine W_cond0 rfl ?_ | refine cN (fun h => ?_) fun h => ?_ | refine cP (fun h => ?_) fun h => ?_ | refine cB (fun h => ?_) fun h => ?_ | refine cK (fun h => ?_) fun h => ?_) | (first | refine seqR.normal ?_ | refine seqR.ret ?_ | refine seqR.exit ?_ | refine blockR.normal ?_ | refine blockR.ret ?_ | refine blockR.here ?_ | refine blockR.exit rfl ?_ | refine loopR.ret ?_ | refine loopR.exit ?_ | refine midA.ret ?_ | refine midA.exit ?_) | fail)
    apply L_call rfl rfl rfl rfl rfl
    · exact icoOk2_c at_ at_ at_ hw hm hc hp (by omega) (hv5 h) e
    rintro _ _ ⟨rfl, rfl⟩
    repeat' (first | (apply gL; first | refine L_nil ?_ | refine yS ?_ | refine yA fun _ => ?_ | (apply gSt; first | refine sR ?_ | refine sB ?_ | refine s1 ?_ | refine sW ?_ | refine sN ?_) | (apply gCall; apply L_call rfl rfl rfl rfl rfl; (· first | exact head_c at_ at_ hw om om | exact implGetVal_c at_ hw om om om | exact leads_c at_ at_ at_ at_ hw hm hM.len hh hs ((rvP A.ws _).2) (fun h1 h2 h3 => hWh _ ((rvP A.ws _).2 h1) h2 h3) (hof _) hfr | exact textOk_c at_ at_ at_ hw hm om om om); rintro _ _ ⟨rfl, rfl⟩) | refine kV ?_ | ((fail_if_success (refine L_known rfl ?_)); first | refine yN (fun h => ?_) fun h => ?_ | refine yP (fun h => ?_) fun h => ?_ | refine yB (fun h => ?_) fun h => ?_ | refine yK (fun h => ?_) fun h => ?_)) | (apply gW; first | refine W_seq ?_ | refine W_region ?_ | refine W_ret ?_ | refine W_skip ?_ | refine W_block ?_ | refine W_exit ?_ | refine W_cond1 rfl ?_ | refine W_cond0 rfl ?_ | refine cN (fun h => ?_) fun h => ?_ | refine cP (fun h => ?_) fun h => ?_ | refine cB (fun h => ?_) fun h => ?_ | refine cK (fun h => ?_) fun h => ?_) | (first | refine seqR.normal ?_ | refine seqR.ret ?_ | refine seqR.exit ?_ | refine blockR.normal ?_ | refine blockR.ret ?_ | refine blockR.here ?_ | refine blockR.exit rfl ?_ | refine loopR.ret ?_ | refine loopR.exit ?_ | refine midA.ret ?_ | refine midA.exit ?_) | fail)
    refine retR.ret _ _ (ret1 rfl rfl) cv_ ⟨?_, rfl⟩
    rfl
  · refine retR.ret _ _ (ret1 rfl rfl) cv_ ⟨?_, rfl⟩
    rw [if_neg (by assumption), if_neg (by assumption), if_neg h]
end Go.Proofs.Ytepddopgmhdllaa.Eng
