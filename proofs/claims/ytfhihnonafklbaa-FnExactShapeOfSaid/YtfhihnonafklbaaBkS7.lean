/- The reference's object. -/
import Derived.Test.YtfhihnonafklbaaBkS4
namespace Go.Proofs.Ytfhihnonafklbaa.Eng
open Go Go.RowKit Go.Proofs.Ytfhihnonafklbaa.Sl Go.Proofs.Ytfhihnonafklbaa.Ar Go.Proofs.Ytfhihnonafklbaa.Base
set_option linter.unusedVariables false
set_option linter.unusedSimpArgs false
set_option maxRecDepth 10000
variable {w0 : World} {H : HL} {C : Cn} {A : Ar}
theorem rvP (ws : List Int) (p : Int) : (kd (rvT ws p) ≠ 0 → 0 < rvN ws p) ∧ (kd (rvT ws p) ≠ 0 → 0 ≤ rvN ws p) := by
  have : kd (rvT ws p) ≠ 0 → 0 < rvN ws p := by
    intro h
    unfold rvT at h; unfold rvN
    cases e : rv ws p with
    | false => rw [e] at h; simp [kd, kindOf] at h
    | true =>
      rw [e, if_pos rfl] at h; rw [if_pos rfl]
      rw [rv_eq] at e
      have e := of_decide_eq_true (show decide (ValP _ _) = true from e)
      have := kindOf_ne.1 h
      unfold ValP at e; omega
  exact ⟨this, fun h => by have := this h; omega⟩
theorem slotsIn {f : Nat} {i s q : Int} (h : q ∈ slotsFrom f i s) : i ≤ q ∧ q + 1 ≤ s := by
  induction f generalizing i with
  | zero => simp [slotsFrom] at h
  | succ f ih =>
    rw [slotsFrom] at h; split at h
    · rcases List.mem_cons.1 h with rfl | h
      · omega
      · have := ih h; omega
    · simp at h
theorem slots_in {k s q : Int} (hz : SizeP k s) (h : q ∈ slots k s) : 1 ≤ q ∧ q + 1 ≤ s := by
  have := slotsIn h
  unfold from_ at this; unfold SizeP at hz; omega
theorem slots_len {k s : Int} : (slots k s).length ≤ 130 := slotsLen
/-- the marks lead where they say -/
structure MarkP (A : Ar) (m : List Int) : Prop where
  len : m.length = A.ws.length
  ok : ∀ p : Int, 0 ≤ p → p < A.ws.length → (g m p = 1 ∨ g m p = 2) → 1 ≤ p ∧ hOk (g A.ws p) = true ∧ p + hs (g A.ws p) < A.ws.length
  wh : ∀ p : Int, 0 ≤ p → p < A.ws.length → g m p ≠ 0 → 0 ≤ A.where_ p ∧ A.where_ p < A.ws.length ∧ (g m (A.where_ p) = 1 ∨ g m (A.where_ p) = 2)
theorem slotOk_iff {m : List Int} {k fr q : Int} : A.slotOk m k fr q = true ↔ rv A.ws q = true ∧ A.leads m (rvT A.ws q) (rvN A.ws q) fr = true ∧ ¬ (rvT A.ws q = 8 ∧ k ≠ 2) ∧ ¬ (rvT A.ws q = 9 ∧ k = 3) ∧ ¬ (rvT A.ws q ≠ 9 ∧ k = 4) := by
  unfold Ar.slotOk
  simp only [Bool.and_eq_true, Bool.not_eq_true', decide_eq_false_iff_not, and_assoc]
theorem object_f {m sl : List Int} {p i : Int} (hG : slots (rk (g A.ws p)) (rs (g A.ws p)) = sl) (h0 : 0 ≤ i) (h1 : i < (sl.length : Int)) (h : ¬ A.slotOk m (rk (g A.ws p)) (A.fromOf m p) (p + g sl i) = true) : false = A.object m p := by
  cases e : A.object m p with
  | false => rfl
  | true =>
    exfalso
    unfold Ar.object Ar.kn Ar.sz Ar.w at e
    rw [hG, Bool.and_eq_true, List.all_eq_true] at e
    exact h (e.1 _ (g_mem h0 h1))
theorem object_t {m sl : List Int} {p : Int} (hG : slots (rk (g A.ws p)) (rs (g A.ws p)) = sl) (h : ∀ j : Int, 0 ≤ j → j < (sl.length : Int) → A.slotOk m (rk (g A.ws p)) (A.fromOf m p) (p + g sl j) = true) :
    A.object m p = if rk (g A.ws p) = 1 then A.strOk p (rs (g A.ws p)) else if rk (g A.ws p) = 4 then inB (sg (g A.ws (p + 1))) 0 255 else if rk (g A.ws p) = 6 then A.coOk p else true := by
  unfold Ar.object Ar.kn Ar.sz Ar.w
  rw [hG]
  have : (sl.all fun q => A.slotOk m (rk (g A.ws p)) (A.fromOf m p) (p + q)) = true := by
    rw [List.all_eq_true]
    intro q hq
    obtain ⟨j, h1, h2, rfl⟩ := g_ex hq
    exact h j h1 h2
  rw [this, Bool.true_and]
set_option maxHeartbeats 4000000 in
theorem l2Object_c {bm : Nat} {m : List Int} {p : Int} (hB : At H bm (mObj m)) (hA : At H C.bw (wObj C A)) (hw : Wf A.ws) (hm : A.ws.length ≤ 8000) (hM : MarkP A m) (hp : 0 ≤ p) (hp2 : p < A.ws.length) (hi : g m p = 1 ∨ g m p = 2) :
    Fn Try.prog w0 33 #[arV C A, .slice (some ⟨bm, 0, none⟩) A.ws.length A.ws.length, .int .i64 p] H fun v H' => v = .bool (A.object m p) ∧ H' = H := by
  have hl := hM.len
  have hW : ∀ n : Int, 0 ≤ n → n < A.ws.length → g m n ≠ 0 → 0 ≤ A.where_ n ∧ A.where_ n < A.ws.length := fun n h1 h2 h3 => ⟨(hM.wh n h1 h2 h3).1, (hM.wh n h1 h2 h3).2.1⟩
  obtain ⟨h1, h2, h3⟩ := hM.ok p hp hp2 hi
  have hr := rsR' h2
  have hz : SizeP (rk (g A.ws p)) (rs (g A.ws p)) := by rw [hr.2.2.1, hr.2.2.2.1]; exact (of_decide_eq_true (show decide (HeadP _ _ _) = true from h2)).1
  have h6 : rk (g A.ws p) = 6 → p + 126 < A.ws.length := by intro h; unfold SizeP at hz; omega
  refine enter3 Try.func33 rfl rfl Try.ntmps33 rfl ?_
  repeat' (fail_if_success apply gAt 3); (first | (apply gCall; apply L_call rfl rfl rfl rfl rfl; (· first | exact l1In_c _ _ _ | exact l2Where_c at_ hw om om | exact l2Look_c at_ hw om om | exact l2Word_c at_ hw om om om | exact l1Read_c at_ hw om om om | exact l2StrOk_c at_ hw om om om om | exact l2CoOk_c at_ hw om om om | exact l2Leads_c at_ at_ hw hl om (rvP A.ws _).2 (fun h1 h2 => hW _ ((rvP A.ws _).2 h1) h2)); rintro _ _ ⟨rfl, rfl⟩) | (apply gL; first | refine L_nil ?_ | refine yS ?_ | refine yX fun _ => ?_ | refine yA fun _ => ?_ | (apply gSt; first | refine sR ?_ | refine sB ?_ | refine s1 ?_ | refine sW ?_ | refine sN ?_) | refine kV ?_ | ((fail_if_success (refine L_known rfl ?_)); refine yW (fun h => ?_) fun h => ?_)) | (apply gW; first | refine W_seq ?_ | refine W_region ?_ | refine W_ret ?_ | refine W_skip ?_ | refine W_block ?_ | refine W_exit ?_ | refine W_cond1 rfl ?_ | refine W_cond0 rfl ?_ | refine cW (fun h => ?_) fun h => ?_) | (first | refine seqR.normal ?_ | refine seqR.ret ?_ | refine seqR.exit ?_ | refine blockR.normal ?_ | refine blockR.ret ?_ | refine blockR.here ?_ | refine blockR.exit rfl ?_ | refine loopR.ret ?_ | refine loopR.exit ?_ | refine midA.ret ?_ | refine midA.exit ?_) | fail)
  rename_i ba bh
  refine W_midA (α := Unit) (fun y => [(1, .slice (some ⟨bm, 0, none⟩) A.ws.length A.ws.length), (2, .int .i64 p), (3, .pointer (some ⟨ba, 0, none⟩)), (7, .pointer (some ⟨bh, 0, none⟩)), (8, .int .i64 (A.fromOf m p))]) (fun y => (bh, .cells #[.int .i64 (rk (g A.ws p)), .int .i64 (rs (g A.ws p)), .int .i64 (rn (g A.ws p))] 65 (0, 0)) :: (ba, aObj C A) :: H) (fun _ => True) ?_ ?_
  · repeat' (first | (apply gCall; apply L_call rfl rfl rfl rfl rfl; (· first | exact l1In_c _ _ _ | exact l2Where_c at_ hw om om | exact l2Look_c at_ hw om om | exact l2Word_c at_ hw om om om | exact l1Read_c at_ hw om om om | exact l2StrOk_c at_ hw om om om om | exact l2CoOk_c at_ hw om om om | exact l2Leads_c at_ at_ hw hl om (rvP A.ws _).2 (fun h1 h2 => hW _ ((rvP A.ws _).2 h1) h2)); rintro _ _ ⟨rfl, rfl⟩) | (apply gL; first | refine L_nil ?_ | refine yS ?_ | refine yX fun _ => ?_ | refine yA fun _ => ?_ | (apply gSt; first | refine sR ?_ | refine sB ?_ | refine s1 ?_ | refine sW ?_ | refine sN ?_) | refine kV ?_ | ((fail_if_success (refine L_known rfl ?_)); refine yW (fun h => ?_) fun h => ?_)) | (apply gW; first | refine W_seq ?_ | refine W_region ?_ | refine W_ret ?_ | refine W_skip ?_ | refine W_block ?_ | refine W_exit ?_ | refine W_cond1 rfl ?_ | refine W_cond0 rfl ?_ | refine cW (fun h => ?_) fun h => ?_) | (first | refine seqR.normal ?_ | refine seqR.ret ?_ | refine seqR.exit ?_ | refine blockR.normal ?_ | refine blockR.ret ?_ | refine blockR.here ?_ | refine blockR.exit rfl ?_ | refine loopR.ret ?_ | refine loopR.exit ?_ | refine midA.ret ?_ | refine midA.exit ?_) | fail)
    all_goals (refine midA.at_ () trivial ⟨rfl, rfl, rfl, rfl, lk ?_, trivial⟩ cvt_)
    all_goals simp [Ar.fromOf, *]
  rintro _ _
  repeat' (first | (apply gCall; apply L_call rfl rfl rfl rfl rfl; (· first | exact l1In_c _ _ _ | exact l2Where_c at_ hw om om | exact l2Look_c at_ hw om om | exact l2Word_c at_ hw om om om | exact l1Read_c at_ hw om om om | exact l2StrOk_c at_ hw om om om om | exact l2CoOk_c at_ hw om om om | exact l2Leads_c at_ at_ hw hl om (rvP A.ws _).2 (fun h1 h2 => hW _ ((rvP A.ws _).2 h1) h2)); rintro _ _ ⟨rfl, rfl⟩) | (apply gL; first | refine L_nil ?_ | refine yS ?_ | refine yX fun _ => ?_ | refine yA fun _ => ?_ | (apply gSt; first | refine sR ?_ | refine sB ?_ | refine s1 ?_ | refine sW ?_ | refine sN ?_) | refine kV ?_ | ((fail_if_success (refine L_known rfl ?_)); refine yW (fun h => ?_) fun h => ?_)) | (apply gW; first | refine W_seq ?_ | refine W_region ?_ | refine W_ret ?_ | refine W_skip ?_ | refine W_block ?_ | refine W_exit ?_ | refine W_cond1 rfl ?_ | refine W_cond0 rfl ?_ | refine cW (fun h => ?_) fun h => ?_) | (first | refine seqR.normal ?_ | refine seqR.ret ?_ | refine seqR.exit ?_ | refine blockR.normal ?_ | refine blockR.ret ?_ | refine blockR.here ?_ | refine blockR.exit rfl ?_ | refine loopR.ret ?_ | refine loopR.exit ?_ | refine midA.ret ?_ | refine midA.exit ?_) | fail)
  apply L_call rfl rfl rfl rfl rfl
  · exact Slots_c hz
  rintro _ _ ⟨bs, sp, rfl, rfl⟩
  repeat' (first | (apply gCall; apply L_call rfl rfl rfl rfl rfl; (· first | exact l1In_c _ _ _ | exact l2Where_c at_ hw om om | exact l2Look_c at_ hw om om | exact l2Word_c at_ hw om om om | exact l1Read_c at_ hw om om om | exact l2StrOk_c at_ hw om om om om | exact l2CoOk_c at_ hw om om om | exact l2Leads_c at_ at_ hw hl om (rvP A.ws _).2 (fun h1 h2 => hW _ ((rvP A.ws _).2 h1) h2)); rintro _ _ ⟨rfl, rfl⟩) | (apply gL; first | refine L_nil ?_ | refine yS ?_ | refine yX fun _ => ?_ | refine yA fun _ => ?_ | (apply gSt; first | refine sR ?_ | refine sB ?_ | refine s1 ?_ | refine sW ?_ | refine sN ?_) | refine kV ?_ | ((fail_if_success (refine L_known rfl ?_)); refine yW (fun h => ?_) fun h => ?_)) | (apply gW; first | refine W_seq ?_ | refine W_region ?_ | refine W_ret ?_ | refine W_skip ?_ | refine W_block ?_ | refine W_exit ?_ | refine W_cond1 rfl ?_ | refine W_cond0 rfl ?_ | refine cW (fun h => ?_) fun h => ?_) | (first | refine seqR.normal ?_ | refine seqR.ret ?_ | refine seqR.exit ?_ | refine blockR.normal ?_ | refine blockR.ret ?_ | refine blockR.here ?_ | refine blockR.exit rfl ?_ | refine loopR.ret ?_ | refine loopR.exit ?_ | refine midA.ret ?_ | refine midA.exit ?_) | fail)
  have hsl := slots_len (k := rk (g A.ws p)) (s := rs (g A.ws p))
  apply W_loopX (α := Int) (fun y => [(1, .slice (some ⟨bm, 0, none⟩) A.ws.length A.ws.length), (2, .int .i64 p), (3, .pointer (some ⟨ba, 0, none⟩)), (7, .pointer (some ⟨bh, 0, none⟩)), (8, .int .i64 (A.fromOf m p)), (9, .slice (some ⟨bs, 0, none⟩) (slots (rk (g A.ws p)) (rs (g A.ws p))).length ((slots (rk (g A.ws p)) (rs (g A.ws p))).length + sp.length)), (10, .int .i64 y)])
    (fun y => (bs, .cells (rowA .i64 (slots (rk (g A.ws p)) (rs (g A.ws p))) sp) 3 (0, 0)) :: (bh, .cells #[.int .i64 (rk (g A.ws p)), .int .i64 (rs (g A.ws p)), .int .i64 (rn (g A.ws p))] 65 (0, 0)) :: (ba, aObj C A) :: H)
    (fun y => 0 ≤ y ∧ y ≤ (slots (rk (g A.ws p)) (rs (g A.ws p))).length ∧ ∀ j, 0 ≤ j → j < y → A.slotOk m (rk (g A.ws p)) (A.fromOf m p) (p + g (slots (rk (g A.ws p)) (rs (g A.ws p))) j) = true) (fun y => ((slots (rk (g A.ws p)) (rs (g A.ws p))).length - y).toNat) 0
  · exact sub_
  · exact cvt_
  · exact ⟨by omega, by omega, fun j h1 h2 => by omega⟩
  generalize hG : slots (rk (g A.ws p)) (rs (g A.ws p)) = sl at *
  rintro i ⟨hi1, hi2, hi3⟩
  repeat' (fail_if_success apply gAtR 11); (first | (apply gCall; apply L_call rfl rfl rfl rfl rfl; (· first | exact l1In_c _ _ _ | exact l2Where_c at_ hw om om | exact l2Look_c at_ hw om om | exact l2Word_c at_ hw om om om | exact l1Read_c at_ hw om om om | exact l2StrOk_c at_ hw om om om om | exact l2CoOk_c at_ hw om om om | exact l2Leads_c at_ at_ hw hl om (rvP A.ws _).2 (fun h1 h2 => hW _ ((rvP A.ws _).2 h1) h2)); rintro _ _ ⟨rfl, rfl⟩) | (apply gL; first | refine L_nil ?_ | refine yS ?_ | refine yX fun _ => ?_ | refine yA fun _ => ?_ | (apply gSt; first | refine sR ?_ | refine sB ?_ | refine s1 ?_ | refine sW ?_ | refine sN ?_) | refine kV ?_ | ((fail_if_success (refine L_known rfl ?_)); refine yW (fun h => ?_) fun h => ?_)) | (apply gW; first | refine W_seq ?_ | refine W_region ?_ | refine W_ret ?_ | refine W_skip ?_ | refine W_block ?_ | refine W_exit ?_ | refine W_cond1 rfl ?_ | refine W_cond0 rfl ?_ | refine cW (fun h => ?_) fun h => ?_) | (first | refine seqR.normal ?_ | refine seqR.ret ?_ | refine seqR.exit ?_ | refine blockR.normal ?_ | refine blockR.ret ?_ | refine blockR.here ?_ | refine blockR.exit rfl ?_ | refine loopR.ret ?_ | refine loopR.exit ?_ | refine midA.ret ?_ | refine midA.exit ?_) | fail)
  · have hq : 1 ≤ g sl i ∧ g sl i + 1 ≤ rs (g A.ws p) := slots_in hz (by rw [hG]; exact g_mem hi1 h)
    refine W_midA (α := Nat) (fun y => [(1, .slice (some ⟨bm, 0, none⟩) A.ws.length A.ws.length), (2, .int .i64 p), (3, .pointer (some ⟨ba, 0, none⟩)), (7, .pointer (some ⟨bh, 0, none⟩)), (8, .int .i64 (A.fromOf m p)), (9, .slice (some ⟨bs, 0, none⟩) sl.length (sl.length + sp.length)), (10, .int .i64 i), (11, .pointer (some ⟨y, 0, none⟩)), (12, .bool (rv A.ws (p + g sl i)))])
      (fun y => (y, .cells #[.int .i64 (rvT A.ws (p + g sl i)), .int .i64 (rvN A.ws (p + g sl i))] 46 (0, 0)) :: (bs, .cells (rowA .i64 sl sp) 3 (0, 0)) :: (bh, .cells #[.int .i64 (rk (g A.ws p)), .int .i64 (rs (g A.ws p)), .int .i64 (rn (g A.ws p))] 65 (0, 0)) :: (ba, aObj C A) :: H) (fun _ => True) ?_ ?_
    · apply W_regionA (by kernel_rfl)
      refine kA 0 ?_
      refine kA 1 ?_
      refine kA 2 ?_
      refine kA 3 ?_
      refine kA 4 ?_
      refine kA 5 ?_
      refine kA 6 ?_
      refine kA 7 ?_
      refine A_two (i := 8) (j := 12) (by kernel_rfl) cv_ rfl rfl (O_of_L fun S hS => ?_) (O_of_L fun S hS => ?_)
      · first | (apply gCall; apply L_call rfl rfl rfl rfl rfl; (· first | exact l1In_c _ _ _ | exact l2Where_c at_ hw om om | exact l2Look_c at_ hw om om | exact l2Word_c at_ hw om om om | exact l1Read_c at_ hw om om om | exact l2StrOk_c at_ hw om om om om | exact l2CoOk_c at_ hw om om om | exact l2Leads_c at_ at_ hw hl om (rvP A.ws _).2 (fun h1 h2 => hW _ ((rvP A.ws _).2 h1) h2)); rintro _ _ ⟨rfl, rfl⟩) | (apply gL; first | refine L_nil ?_ | refine yS ?_ | refine yX fun _ => ?_ | refine yA fun _ => ?_ | (apply gSt; first | refine sR ?_ | refine sB ?_ | refine s1 ?_ | refine sW ?_ | refine sN ?_) | refine kV ?_ | ((fail_if_success (refine L_known rfl ?_)); refine yW (fun h => ?_) fun h => ?_))
        refine L_nil (hS _ _ ?_)
        clear hS
        refine kA 9 ?_
        refine kA 10 ?_
        refine kA 11 ?_
        refine A_one (i := 12) (by kernel_rfl) cv_ rfl (O_of_L fun S hS => ?_)
        first | (apply gCall; apply L_call rfl rfl rfl rfl rfl; (· first | exact l1In_c _ _ _ | exact l2Where_c at_ hw om om | exact l2Look_c at_ hw om om | exact l2Word_c at_ hw om om om | exact l1Read_c at_ hw om om om | exact l2StrOk_c at_ hw om om om om | exact l2CoOk_c at_ hw om om om | exact l2Leads_c at_ at_ hw hl om (rvP A.ws _).2 (fun h1 h2 => hW _ ((rvP A.ws _).2 h1) h2)); rintro _ _ ⟨rfl, rfl⟩) | (apply gL; first | refine L_nil ?_ | refine yS ?_ | refine yX fun _ => ?_ | refine yA fun _ => ?_ | (apply gSt; first | refine sR ?_ | refine sB ?_ | refine s1 ?_ | refine sW ?_ | refine sN ?_) | refine kV ?_ | ((fail_if_success (refine L_known rfl ?_)); refine yW (fun h => ?_) fun h => ?_))
        refine L_nil (hS _ _ ?_)
        clear hS
        refine A_one (i := 13) (by kernel_rfl) cv_ rfl (O_of_L fun S hS => ?_)
        first | (apply gCall; apply L_call rfl rfl rfl rfl rfl; (· first | exact l1In_c _ _ _ | exact l2Where_c at_ hw om om | exact l2Look_c at_ hw om om | exact l2Word_c at_ hw om om om | exact l1Read_c at_ hw om om om | exact l2StrOk_c at_ hw om om om om | exact l2CoOk_c at_ hw om om om | exact l2Leads_c at_ at_ hw hl om (rvP A.ws _).2 (fun h1 h2 => hW _ ((rvP A.ws _).2 h1) h2)); rintro _ _ ⟨rfl, rfl⟩) | (apply gL; first | refine L_nil ?_ | refine yS ?_ | refine yX fun _ => ?_ | refine yA fun _ => ?_ | (apply gSt; first | refine sR ?_ | refine sB ?_ | refine s1 ?_ | refine sW ?_ | refine sN ?_) | refine kV ?_ | ((fail_if_success (refine L_known rfl ?_)); refine yW (fun h => ?_) fun h => ?_))
        refine L_nil (hS _ _ ?_)
        clear hS
        refine kA 14 ?_
        refine A_nil (by kernel_rfl) cv_ ?_
        apply midA.mk _
        · exact sub_
        · exact cvt_
        · trivial
      · first | (apply gCall; apply L_call rfl rfl rfl rfl rfl; (· first | exact l1In_c _ _ _ | exact l2Where_c at_ hw om om | exact l2Look_c at_ hw om om | exact l2Word_c at_ hw om om om | exact l1Read_c at_ hw om om om | exact l2StrOk_c at_ hw om om om om | exact l2CoOk_c at_ hw om om om | exact l2Leads_c at_ at_ hw hl om (rvP A.ws _).2 (fun h1 h2 => hW _ ((rvP A.ws _).2 h1) h2)); rintro _ _ ⟨rfl, rfl⟩) | (apply gL; first | refine L_nil ?_ | refine yS ?_ | refine yX fun _ => ?_ | refine yA fun _ => ?_ | (apply gSt; first | refine sR ?_ | refine sB ?_ | refine s1 ?_ | refine sW ?_ | refine sN ?_) | refine kV ?_ | ((fail_if_success (refine L_known rfl ?_)); refine yW (fun h => ?_) fun h => ?_))
        refine L_nil (hS _ _ ?_)
        clear hS
        refine A_one (i := 8) (by kernel_rfl) cv_ rfl (O_of_L fun S hS => ?_)
        first | (apply gCall; apply L_call rfl rfl rfl rfl rfl; (· first | exact l1In_c _ _ _ | exact l2Where_c at_ hw om om | exact l2Look_c at_ hw om om | exact l2Word_c at_ hw om om om | exact l1Read_c at_ hw om om om | exact l2StrOk_c at_ hw om om om om | exact l2CoOk_c at_ hw om om om | exact l2Leads_c at_ at_ hw hl om (rvP A.ws _).2 (fun h1 h2 => hW _ ((rvP A.ws _).2 h1) h2)); rintro _ _ ⟨rfl, rfl⟩) | (apply gL; first | refine L_nil ?_ | refine yS ?_ | refine yX fun _ => ?_ | refine yA fun _ => ?_ | (apply gSt; first | refine sR ?_ | refine sB ?_ | refine s1 ?_ | refine sW ?_ | refine sN ?_) | refine kV ?_ | ((fail_if_success (refine L_known rfl ?_)); refine yW (fun h => ?_) fun h => ?_))
        refine L_nil (hS _ _ ?_)
        clear hS
        refine kA 9 ?_
        refine kA 10 ?_
        refine kA 11 ?_
        refine A_one (i := 13) (by kernel_rfl) cv_ rfl (O_of_L fun S hS => ?_)
        first | (apply gCall; apply L_call rfl rfl rfl rfl rfl; (· first | exact l1In_c _ _ _ | exact l2Where_c at_ hw om om | exact l2Look_c at_ hw om om | exact l2Word_c at_ hw om om om | exact l1Read_c at_ hw om om om | exact l2StrOk_c at_ hw om om om om | exact l2CoOk_c at_ hw om om om | exact l2Leads_c at_ at_ hw hl om (rvP A.ws _).2 (fun h1 h2 => hW _ ((rvP A.ws _).2 h1) h2)); rintro _ _ ⟨rfl, rfl⟩) | (apply gL; first | refine L_nil ?_ | refine yS ?_ | refine yX fun _ => ?_ | refine yA fun _ => ?_ | (apply gSt; first | refine sR ?_ | refine sB ?_ | refine s1 ?_ | refine sW ?_ | refine sN ?_) | refine kV ?_ | ((fail_if_success (refine L_known rfl ?_)); refine yW (fun h => ?_) fun h => ?_))
        refine L_nil (hS _ _ ?_)
        clear hS
        refine kA 14 ?_
        refine A_nil (by kernel_rfl) cv_ ?_
        apply midA.mk _
        · exact sub_
        · exact cvt_
        · trivial
    rintro bv _
    repeat' (first | (apply gCall; apply L_call rfl rfl rfl rfl rfl; (· first | exact l1In_c _ _ _ | exact l2Where_c at_ hw om om | exact l2Look_c at_ hw om om | exact l2Word_c at_ hw om om om | exact l1Read_c at_ hw om om om | exact l2StrOk_c at_ hw om om om om | exact l2CoOk_c at_ hw om om om | exact l2Leads_c at_ at_ hw hl om (rvP A.ws _).2 (fun h1 h2 => hW _ ((rvP A.ws _).2 h1) h2)); rintro _ _ ⟨rfl, rfl⟩) | (apply gL; first | refine L_nil ?_ | refine yS ?_ | refine yX fun _ => ?_ | refine yA fun _ => ?_ | (apply gSt; first | refine sR ?_ | refine sB ?_ | refine s1 ?_ | refine sW ?_ | refine sN ?_) | refine kV ?_ | ((fail_if_success (refine L_known rfl ?_)); refine yW (fun h => ?_) fun h => ?_)) | (apply gW; first | refine W_seq ?_ | refine W_region ?_ | refine W_ret ?_ | refine W_skip ?_ | refine W_block ?_ | refine W_exit ?_ | refine W_cond1 rfl ?_ | refine W_cond0 rfl ?_ | refine cW (fun h => ?_) fun h => ?_) | (first | refine seqR.normal ?_ | refine seqR.ret ?_ | refine seqR.exit ?_ | refine blockR.normal ?_ | refine blockR.ret ?_ | refine blockR.here ?_ | refine blockR.exit rfl ?_ | refine loopR.ret ?_ | refine loopR.exit ?_ | refine midA.ret ?_ | refine midA.exit ?_) | fail)
    all_goals (first
      | (refine retR.ret _ _ (ret1 rfl rfl) cv_ ⟨?_, rfl⟩
         exact congrArg Value.bool (object_f hG hi1 (by assumption) (fun c => by
           obtain ⟨c1, c2, c3, c4, c5⟩ := slotOk_iff.1 c
           first | omega | exact absurd (show rv A.ws (p + g sl i) = false by assumption) (by simp [c1]) | exact absurd (show A.leads m (rvT A.ws (p + g sl i)) (rvN A.ws (p + g sl i)) (A.fromOf m p) = false by assumption) (by simp [c2]))))
      | (apply loopR.mk (i + 1)
         · exact sub_
         · exact cvt_
         · exact ⟨by omega, by omega, fun j h1 h2 => by
             by_cases hj : j = i
             · subst hj; exact slotOk_iff.2 ⟨by assumption, by assumption, by omega, by omega, by omega⟩
             · exact hi3 j h1 (by omega)⟩
         · (try dsimp only); omega))
  repeat' (first | (apply gCall; apply L_call rfl rfl rfl rfl rfl; (· first | exact l1In_c _ _ _ | exact l2Where_c at_ hw om om | exact l2Look_c at_ hw om om | exact l2Word_c at_ hw om om om | exact l1Read_c at_ hw om om om | exact l2StrOk_c at_ hw om om om om | exact l2CoOk_c at_ hw om om om | exact l2Leads_c at_ at_ hw hl om (rvP A.ws _).2 (fun h1 h2 => hW _ ((rvP A.ws _).2 h1) h2)); rintro _ _ ⟨rfl, rfl⟩) | (apply gL; first | refine L_nil ?_ | refine yS ?_ | refine yX fun _ => ?_ | refine yA fun _ => ?_ | (apply gSt; first | refine sR ?_ | refine sB ?_ | refine s1 ?_ | refine sW ?_ | refine sN ?_) | refine kV ?_ | ((fail_if_success (refine L_known rfl ?_)); refine yW (fun h => ?_) fun h => ?_)) | (apply gW; first | refine W_seq ?_ | refine W_region ?_ | refine W_ret ?_ | refine W_skip ?_ | refine W_block ?_ | refine W_exit ?_ | refine W_cond1 rfl ?_ | refine W_cond0 rfl ?_ | refine cW (fun h => ?_) fun h => ?_) | (first | refine seqR.normal ?_ | refine seqR.ret ?_ | refine seqR.exit ?_ | refine blockR.normal ?_ | refine blockR.ret ?_ | refine blockR.here ?_ | refine blockR.exit rfl ?_ | refine loopR.ret ?_ | refine loopR.exit ?_ | refine midA.ret ?_ | refine midA.exit ?_) | fail)
  all_goals refine retR.ret _ _ (ret1 rfl rfl) cv_ ⟨?_, rfl⟩
  all_goals (rw [object_t hG (fun j a b => hi3 j a (by omega))])
  · rw [if_pos h]
  · rw [if_neg (by assumption), if_pos h]
  · rw [if_neg (by assumption), if_neg (by assumption), if_pos h]
  · rw [if_neg (by assumption), if_neg (by assumption), if_neg h]
end Go.Proofs.Ytfhihnonafklbaa.Eng
namespace Go.Proofs.Ytfhihnonafklbaa.Eng
open Go Go.RowKit Go.Proofs.Ytfhihnonafklbaa.Sl Go.Proofs.Ytfhihnonafklbaa.Ar Go.Proofs.Ytfhihnonafklbaa.Base
set_option linter.unusedVariables false
set_option linter.unusedSimpArgs false
set_option maxRecDepth 10000
variable {w0 : World} {H : HL} {C : Cn} {A : Ar}
theorem wrap_u8 (x : Int) : IntKind.u8.wrap x = x % 256 := by simp [IntKind.wrap, IntKind.bits, IntKind.signed]
def TextP (A : Ar) (p : Int) : Prop := 0 ≤ p ∧ p + 1 < A.ws.length ∧ 0 ≤ sg (g A.ws (p + 1)) ∧ sg (g A.ws (p + 1)) ≤ 160 ∧ p + 1 + (sg (g A.ws (p + 1)) + 7) / 8 < A.ws.length
theorem textB {p : Int} : Byt (A.text p) := by
  intro x hx
  obtain ⟨i, hi, rfl⟩ := List.mem_map.1 hx
  unfold Ar.byte; omega
theorem text_len {p : Int} (h : 0 ≤ sg (g A.ws (p + 1))) : ((A.text p).length : Int) = sg (g A.ws (p + 1)) := by
  simp only [Ar.text, List.length_map, List.length_range, Ar.textLen, Ar.w]; omega
theorem g_text {p i : Int} (h : 0 ≤ i) (h2 : i < sg (g A.ws (p + 1))) : g (A.text p) i = A.byte p i := by
  unfold g
  have : i.toNat < (A.textLen p).toNat := by unfold Ar.textLen Ar.w; omega
  simp only [Ar.text, List.getD_eq_getElem?_getD, List.getElem?_map, List.getElem?_range this, Option.map_some, Option.getD_some]
  rw [Int.toNat_of_nonneg h]
theorem g_ext {xs ys : List Int} (hl : xs.length = ys.length) (h : ∀ i : Int, 0 ≤ i → i < (xs.length : Int) → g xs i = g ys i) : xs = ys := by
  refine List.ext_getElem hl fun n h1 h2 => ?_
  have := h (n : Int) (by omega) (by omega)
  simpa [g, List.getD_eq_getElem?_getD, h1, h2] using this
theorem g_set {xs : List Int} {i j u : Int} (hi : 0 ≤ i) (hi2 : i < (xs.length : Int)) (hj : 0 ≤ j) : g (xs.set i.toNat u) j = if j = i then u else g xs j := by
  unfold g
  simp only [List.getD_eq_getElem?_getD, List.getElem?_set]
  by_cases e : j = i
  · subst e; rw [if_pos rfl, if_pos (by omega), if_pos rfl]; rfl
  · rw [if_neg (by omega), if_neg e]
set_option maxHeartbeats 1000000 in
theorem l4Text_c {p : Int} (hA : At H C.bw (wObj C A)) (hw : Wf A.ws) (hm : A.ws.length ≤ 8000) (hT : TextP A p) :
    Fn Try.prog w0 42 #[arV C A, .int .i64 p] H fun v H' => v = .string (strOfNums (A.text p)) ∧ H' = H := by
  obtain ⟨t1, t2, t3, t4, t5⟩ := hT
  obtain ⟨n, hn⟩ : ∃ n : Nat, sg (g A.ws (p + 1)) = (n : Int) := ⟨(sg (g A.ws (p + 1))).toNat, by omega⟩
  have hwn := hn
  refine enter2 Try.func42 rfl rfl Try.ntmps42 rfl ?_
  repeat' (first | ((first | (apply gCall; apply L_call rfl rfl rfl rfl rfl) | (apply gQC; apply Q_call rfl rfl rfl rfl rfl)); (· first | exact l1In_c _ _ _ | exact specIsRef_c _ _ | exact l2Where_c at_ hw om om | exact l2Look_c at_ hw om om | exact l2Word_c at_ hw om om om | exact l1Read_c at_ hw om om om | exact l4Text_c at_ hw om (k2 (by assumption)) | exact l4Text_c at_ hw om (k4 (by assumption))); try rintro _ _ ⟨rfl, rfl⟩) | (apply gL; first | refine L_nil ?_ | refine yX fun _ => ?_ | (apply gSt; first | refine sR ?_ | refine sB ?_ | refine s1 ?_ | refine sW ?_ | refine sN ?_) | (apply gMk; first | (apply L_mkcap rfl rfl rfl rfl rfl rfl; (· omega); (· omega); (· omega); intro _ _) | (apply L_makeI rfl rfl rfl rfl rfl rfl; (· omega); (· omega); intro _) | (apply L_makeB rfl rfl rfl rfl rfl rfl; (· omega); (· omega); intro _) | (apply L_makeV rfl rfl rfl rfl rfl rfl; (· omega); (· omega); intro _)) | refine kV ?_ | (apply L_val rfl rfl rfl; (· first | (apply gBin; first | fail | exact v_shr rfl rfl om (by show _ ≤ (64 : Int); omega) | exact v_eqz rfl rfl textB textB) | fail | exact v_lenz rfl | exact v_bts rfl at_))) | (apply gW; first | refine W_seq ?_ | refine W_region ?_ | refine W_ret ?_ | refine W_skip ?_ | refine W_block ?_ | refine W_exit ?_ | refine W_cond1 rfl ?_ | refine W_cond0 rfl ?_ | refine cW (fun h => ?_) fun h => ?_ | refine wQ ?_) | (first | refine seqR.normal ?_ | refine seqR.ret ?_ | refine seqR.exit ?_ | refine blockR.normal ?_ | refine blockR.ret ?_ | refine blockR.here ?_ | refine blockR.exit rfl ?_ | refine loopR.ret ?_ | refine loopR.exit ?_) | (apply gQ; first | refine Q_nil ?_ | refine kQ ?_ | (apply Q_val rfl rfl rfl; (· first | (apply gBin; first | fail | exact v_shr rfl rfl om (by show _ ≤ (64 : Int); omega) | exact v_eqz rfl rfl textB textB) | fail | exact v_lenz rfl | exact v_bts rfl at_))) | fail)
  rw [hn]
  repeat' (first | ((first | (apply gCall; apply L_call rfl rfl rfl rfl rfl) | (apply gQC; apply Q_call rfl rfl rfl rfl rfl)); (· first | exact l1In_c _ _ _ | exact specIsRef_c _ _ | exact l2Where_c at_ hw om om | exact l2Look_c at_ hw om om | exact l2Word_c at_ hw om om om | exact l1Read_c at_ hw om om om | exact l4Text_c at_ hw om (k2 (by assumption)) | exact l4Text_c at_ hw om (k4 (by assumption))); try rintro _ _ ⟨rfl, rfl⟩) | (apply gL; first | refine L_nil ?_ | refine yX fun _ => ?_ | (apply gSt; first | refine sR ?_ | refine sB ?_ | refine s1 ?_ | refine sW ?_ | refine sN ?_) | (apply gMk; first | (apply L_mkcap rfl rfl rfl rfl rfl rfl; (· omega); (· omega); (· omega); intro _ _) | (apply L_makeI rfl rfl rfl rfl rfl rfl; (· omega); (· omega); intro _) | (apply L_makeB rfl rfl rfl rfl rfl rfl; (· omega); (· omega); intro _) | (apply L_makeV rfl rfl rfl rfl rfl rfl; (· omega); (· omega); intro _)) | refine kV ?_ | (apply L_val rfl rfl rfl; (· first | (apply gBin; first | fail | exact v_shr rfl rfl om (by show _ ≤ (64 : Int); omega) | exact v_eqz rfl rfl textB textB) | fail | exact v_lenz rfl | exact v_bts rfl at_))) | (apply gW; first | refine W_seq ?_ | refine W_region ?_ | refine W_ret ?_ | refine W_skip ?_ | refine W_block ?_ | refine W_exit ?_ | refine W_cond1 rfl ?_ | refine W_cond0 rfl ?_ | refine cW (fun h => ?_) fun h => ?_ | refine wQ ?_) | (first | refine seqR.normal ?_ | refine seqR.ret ?_ | refine seqR.exit ?_ | refine blockR.normal ?_ | refine blockR.ret ?_ | refine blockR.here ?_ | refine blockR.exit rfl ?_ | refine loopR.ret ?_ | refine loopR.exit ?_) | (apply gQ; first | refine Q_nil ?_ | refine kQ ?_ | (apply Q_val rfl rfl rfl; (· first | (apply gBin; first | fail | exact v_shr rfl rfl om (by show _ ≤ (64 : Int); omega) | exact v_eqz rfl rfl textB textB) | fail | exact v_lenz rfl | exact v_bts rfl at_))) | fail)
  rename_i ba bx
  apply W_loopX (α := Int × List Int) (fun y => [(1, .int .i64 p), (2, .pointer (some ⟨ba, 0, none⟩)), (5, .int .i64 (n : Int)), (6, .slice (some ⟨bx, 0, none⟩) n n), (7, .int .i64 y.1)]) (fun y => (bx, .cells (rowA .u8 y.2 []) 5 (0, 0)) :: (ba, aObj C A) :: H)
    (fun y => 0 ≤ y.1 ∧ y.1 ≤ n ∧ y.2.length = n ∧ ∀ j, 0 ≤ j → j < y.1 → g y.2 j = A.byte p j) (fun y => (n - y.1).toNat) (0, List.replicate n 0)
  · exact sub_
  · exact cvt_
  · exact ⟨by dsimp only; omega, by dsimp only; omega, by simp, fun j h1 h2 => by dsimp only at h2; omega⟩
  rintro ⟨i, xs⟩ ⟨hi, hi2, hl, hx⟩
  dsimp only at hi hi2 hl hx ⊢
  repeat' (first | ((first | (apply gCall; apply L_call rfl rfl rfl rfl rfl) | (apply gQC; apply Q_call rfl rfl rfl rfl rfl)); (· first | exact l1In_c _ _ _ | exact specIsRef_c _ _ | exact l2Where_c at_ hw om om | exact l2Look_c at_ hw om om | exact l2Word_c at_ hw om om om | exact l1Read_c at_ hw om om om | exact l4Text_c at_ hw om (k2 (by assumption)) | exact l4Text_c at_ hw om (k4 (by assumption))); try rintro _ _ ⟨rfl, rfl⟩) | (apply gL; first | refine L_nil ?_ | refine yX fun _ => ?_ | (apply gSt; first | refine sR ?_ | refine sB ?_ | refine s1 ?_ | refine sW ?_ | refine sN ?_) | (apply gMk; first | (apply L_mkcap rfl rfl rfl rfl rfl rfl; (· omega); (· omega); (· omega); intro _ _) | (apply L_makeI rfl rfl rfl rfl rfl rfl; (· omega); (· omega); intro _) | (apply L_makeB rfl rfl rfl rfl rfl rfl; (· omega); (· omega); intro _) | (apply L_makeV rfl rfl rfl rfl rfl rfl; (· omega); (· omega); intro _)) | refine kV ?_ | (apply L_val rfl rfl rfl; (· first | (apply gBin; first | fail | exact v_shr rfl rfl om (by show _ ≤ (64 : Int); omega) | exact v_eqz rfl rfl textB textB) | fail | exact v_lenz rfl | exact v_bts rfl at_))) | (apply gW; first | refine W_seq ?_ | refine W_region ?_ | refine W_ret ?_ | refine W_skip ?_ | refine W_block ?_ | refine W_exit ?_ | refine W_cond1 rfl ?_ | refine W_cond0 rfl ?_ | refine cW (fun h => ?_) fun h => ?_ | refine wQ ?_) | (first | refine seqR.normal ?_ | refine seqR.ret ?_ | refine seqR.exit ?_ | refine blockR.normal ?_ | refine blockR.ret ?_ | refine blockR.here ?_ | refine blockR.exit rfl ?_ | refine loopR.ret ?_ | refine loopR.exit ?_) | (apply gQ; first | refine Q_nil ?_ | refine kQ ?_ | (apply Q_val rfl rfl rfl; (· first | (apply gBin; first | fail | exact v_shr rfl rfl om (by show _ ≤ (64 : Int); omega) | exact v_eqz rfl rfl textB textB) | fail | exact v_lenz rfl | exact v_bts rfl at_))) | fail)
  · apply loopR.mk (i + 1, _)
    · exact sub_
    · exact cvt_
    · refine ⟨by dsimp only; omega, by dsimp only; omega, by simp [hl], fun j h1 h2 => ?_⟩
      dsimp only at h2 ⊢
      rw [g_set hi (by omega) h1]
      split
      · rename_i e; subst e; rw [wrap_u8]; rfl
      · exact hx j h1 (by omega)
    · dsimp only; omega
  · have e : xs = A.text p := g_ext (by have := text_len (A := A) (p := p) (by omega); omega) (fun j h1 h2 => by rw [hx j h1 (by omega), g_text h1 (by omega)])
    subst e
    subst hl
    repeat' (first | ((first | (apply gCall; apply L_call rfl rfl rfl rfl rfl) | (apply gQC; apply Q_call rfl rfl rfl rfl rfl)); (· first | exact l1In_c _ _ _ | exact specIsRef_c _ _ | exact l2Where_c at_ hw om om | exact l2Look_c at_ hw om om | exact l2Word_c at_ hw om om om | exact l1Read_c at_ hw om om om | exact l4Text_c at_ hw om (k2 (by assumption)) | exact l4Text_c at_ hw om (k4 (by assumption))); try rintro _ _ ⟨rfl, rfl⟩) | (apply gL; first | refine L_nil ?_ | refine yX fun _ => ?_ | (apply gSt; first | refine sR ?_ | refine sB ?_ | refine s1 ?_ | refine sW ?_ | refine sN ?_) | (apply gMk; first | (apply L_mkcap rfl rfl rfl rfl rfl rfl; (· omega); (· omega); (· omega); intro _ _) | (apply L_makeI rfl rfl rfl rfl rfl rfl; (· omega); (· omega); intro _) | (apply L_makeB rfl rfl rfl rfl rfl rfl; (· omega); (· omega); intro _) | (apply L_makeV rfl rfl rfl rfl rfl rfl; (· omega); (· omega); intro _)) | refine kV ?_ | (apply L_val rfl rfl rfl; (· first | (apply gBin; first | fail | exact v_shr rfl rfl om (by show _ ≤ (64 : Int); omega) | exact v_eqz rfl rfl textB textB) | fail | exact v_lenz rfl | exact v_bts rfl at_))) | (apply gW; first | refine W_seq ?_ | refine W_region ?_ | refine W_ret ?_ | refine W_skip ?_ | refine W_block ?_ | refine W_exit ?_ | refine W_cond1 rfl ?_ | refine W_cond0 rfl ?_ | refine cW (fun h => ?_) fun h => ?_ | refine wQ ?_) | (first | refine seqR.normal ?_ | refine seqR.ret ?_ | refine seqR.exit ?_ | refine blockR.normal ?_ | refine blockR.ret ?_ | refine blockR.here ?_ | refine blockR.exit rfl ?_ | refine loopR.ret ?_ | refine loopR.exit ?_) | (apply gQ; first | refine Q_nil ?_ | refine kQ ?_ | (apply Q_val rfl rfl rfl; (· first | (apply gBin; first | fail | exact v_shr rfl rfl om (by show _ ≤ (64 : Int); omega) | exact v_eqz rfl rfl textB textB) | fail | exact v_lenz rfl | exact v_bts rfl at_))) | fail)
    refine retR.ret _ _ (ret1 rfl rfl) cv_ ⟨?_, rfl⟩
    rfl
def KeyP (A : Ar) (t n : Int) : Prop := (kd t ≠ 0 → 0 ≤ n ∧ n < A.ws.length ∧ 0 ≤ A.where_ n ∧ A.where_ n < A.ws.length) ∧ (t = 3 → TextP A (A.where_ n))
set_option maxHeartbeats 1000000 in
theorem l4Same_c {t n t' n' : Int} (hA : At H C.bw (wObj C A)) (hw : Wf A.ws) (hm : A.ws.length ≤ 8000) (h1 : KeyP A t n) (h2 : KeyP A t' n') :
    Fn Try.prog w0 86 #[arV C A, .agg #[.int .i64 t, .int .i64 n], .agg #[.int .i64 t', .int .i64 n']] H fun v H' => v = .bool (A.same t n t' n') ∧ H' = H := by
  obtain ⟨k1, k2⟩ := h1
  obtain ⟨k3, k4⟩ := h2
  by_cases ht : t = t'
  · subst ht
    refine enter3 Try.func86 rfl rfl Try.ntmps86 rfl ?_
    repeat' (first | ((first | (apply gCall; apply L_call rfl rfl rfl rfl rfl) | (apply gQC; apply Q_call rfl rfl rfl rfl rfl)); (· first | exact l1In_c _ _ _ | exact specIsRef_c _ _ | exact l2Where_c at_ hw om om | exact l2Look_c at_ hw om om | exact l2Word_c at_ hw om om om | exact l1Read_c at_ hw om om om | exact l4Text_c at_ hw om (k2 (by assumption)) | exact l4Text_c at_ hw om (k4 (by assumption))); try rintro _ _ ⟨rfl, rfl⟩) | (apply gL; first | refine L_nil ?_ | refine yX fun _ => ?_ | (apply gSt; first | refine sR ?_ | refine sB ?_ | refine s1 ?_ | refine sW ?_ | refine sN ?_) | (apply gMk; first | (apply L_mkcap rfl rfl rfl rfl rfl rfl; (· omega); (· omega); (· omega); intro _ _) | (apply L_makeI rfl rfl rfl rfl rfl rfl; (· omega); (· omega); intro _) | (apply L_makeB rfl rfl rfl rfl rfl rfl; (· omega); (· omega); intro _) | (apply L_makeV rfl rfl rfl rfl rfl rfl; (· omega); (· omega); intro _)) | refine kV ?_ | (apply L_val rfl rfl rfl; (· first | (apply gBin; first | fail | exact v_shr rfl rfl om (by show _ ≤ (64 : Int); omega) | exact v_eqz rfl rfl textB textB) | fail | exact v_lenz rfl | exact v_bts rfl at_))) | (apply gW; first | refine W_seq ?_ | refine W_region ?_ | refine W_ret ?_ | refine W_skip ?_ | refine W_block ?_ | refine W_exit ?_ | refine W_cond1 rfl ?_ | refine W_cond0 rfl ?_ | refine cW (fun h => ?_) fun h => ?_ | refine wQ ?_) | (first | refine seqR.normal ?_ | refine seqR.ret ?_ | refine seqR.exit ?_ | refine blockR.normal ?_ | refine blockR.ret ?_ | refine blockR.here ?_ | refine blockR.exit rfl ?_ | refine loopR.ret ?_ | refine loopR.exit ?_) | (apply gQ; first | refine Q_nil ?_ | refine kQ ?_ | (apply Q_val rfl rfl rfl; (· first | (apply gBin; first | fail | exact v_shr rfl rfl om (by show _ ≤ (64 : Int); omega) | exact v_eqz rfl rfl textB textB) | fail | exact v_lenz rfl | exact v_bts rfl at_))) | fail)
    all_goals refine retR.ret _ _ (ret1 rfl rfl) cv_ ⟨?_, rfl⟩
    · exact absurd rfl h
    · unfold Ar.same isRef; rw [if_pos rfl, if_neg (by simpa using h)]
    · unfold Ar.same isRef; rw [if_pos rfl, if_pos (by simpa), if_pos h]
    · unfold Ar.same isRef; rw [if_pos rfl, if_pos (by simpa), if_neg h]
  · refine enter3 Try.func86 rfl rfl Try.ntmps86 rfl ?_
    repeat' (first | ((first | (apply gCall; apply L_call rfl rfl rfl rfl rfl) | (apply gQC; apply Q_call rfl rfl rfl rfl rfl)); (· first | exact l1In_c _ _ _ | exact specIsRef_c _ _ | exact l2Where_c at_ hw om om | exact l2Look_c at_ hw om om | exact l2Word_c at_ hw om om om | exact l1Read_c at_ hw om om om | exact l4Text_c at_ hw om (k2 (by assumption)) | exact l4Text_c at_ hw om (k4 (by assumption))); try rintro _ _ ⟨rfl, rfl⟩) | (apply gL; first | refine L_nil ?_ | refine yX fun _ => ?_ | (apply gSt; first | refine sR ?_ | refine sB ?_ | refine s1 ?_ | refine sW ?_ | refine sN ?_) | (apply gMk; first | (apply L_mkcap rfl rfl rfl rfl rfl rfl; (· omega); (· omega); (· omega); intro _ _) | (apply L_makeI rfl rfl rfl rfl rfl rfl; (· omega); (· omega); intro _) | (apply L_makeB rfl rfl rfl rfl rfl rfl; (· omega); (· omega); intro _) | (apply L_makeV rfl rfl rfl rfl rfl rfl; (· omega); (· omega); intro _)) | refine kV ?_ | (apply L_val rfl rfl rfl; (· first | (apply gBin; first | fail | exact v_shr rfl rfl om (by show _ ≤ (64 : Int); omega) | exact v_eqz rfl rfl textB textB) | fail | exact v_lenz rfl | exact v_bts rfl at_))) | (apply gW; first | refine W_seq ?_ | refine W_region ?_ | refine W_ret ?_ | refine W_skip ?_ | refine W_block ?_ | refine W_exit ?_ | refine W_cond1 rfl ?_ | refine W_cond0 rfl ?_ | refine cW (fun h => ?_) fun h => ?_ | refine wQ ?_) | (first | refine seqR.normal ?_ | refine seqR.ret ?_ | refine seqR.exit ?_ | refine blockR.normal ?_ | refine blockR.ret ?_ | refine blockR.here ?_ | refine blockR.exit rfl ?_ | refine loopR.ret ?_ | refine loopR.exit ?_) | (apply gQ; first | refine Q_nil ?_ | refine kQ ?_ | (apply Q_val rfl rfl rfl; (· first | (apply gBin; first | fail | exact v_shr rfl rfl om (by show _ ≤ (64 : Int); omega) | exact v_eqz rfl rfl textB textB) | fail | exact v_lenz rfl | exact v_bts rfl at_))) | fail)
    all_goals (try exact absurd (by assumption) ht)
    refine retR.ret _ _ (ret1 rfl rfl) cv_ ⟨?_, rfl⟩
    unfold Ar.same; rw [if_neg ht]
end Go.Proofs.Ytfhihnonafklbaa.Eng
namespace Go.Proofs.Ytfhihnonafklbaa.Eng
open Go Go.RowKit Go.Proofs.Ytfhihnonafklbaa.Sl Go.Proofs.Ytfhihnonafklbaa.Ar Go.Proofs.Ytfhihnonafklbaa.Base
set_option linter.unusedVariables false
set_option linter.unusedSimpArgs false
set_option maxRecDepth 10000
variable {w0 : World} {H : HL} {C : Cn} {A : Ar}
theorem hashText_r {l : List Int} (h : ∀ x ∈ l, 0 ≤ x) : 0 ≤ hashText l ∧ hashText l ≤ 1000002 := by
  have key : ∀ (l : List Int) (a : Int), (∀ x ∈ l, 0 ≤ x) → 0 ≤ a ∧ a ≤ 1000002 → 0 ≤ l.foldl (fun h b => (33 * h + b) % 1000003) a ∧ l.foldl (fun h b => (33 * h + b) % 1000003) a ≤ 1000002 := by
    intro l
    induction l with
    | nil => intro a _ h; exact h
    | cons b l ih => intro a hb h; exact ih _ (fun x hx => hb x (List.mem_cons_of_mem _ hx)) (by dsimp only; omega)
  exact key l 5381 h (by omega)
theorem hash_step {l : List Int} {i : Int} (h0 : 0 ≤ i) (h : i < (l.length : Int)) : hashText (l.take (i + 1).toNat) = (33 * hashText (l.take i.toNat) + g l i) % 1000003 := by
  have hl : i.toNat < l.length := by omega
  have e : (i + 1).toNat = i.toNat + 1 := by omega
  rw [e, List.take_succ_eq_append_getElem hl]
  unfold hashText
  rw [List.foldl_append]
  simp only [List.foldl_cons, List.foldl_nil]
  unfold g
  rw [List.getD_eq_getElem?_getD, List.getElem?_eq_getElem hl]; rfl
theorem hash_r {t n : Int} (ht : t ≠ 0) (hv : ValP t n) : 0 ≤ A.hash t n := by
  unfold Ar.hash
  unfold ValP at hv
  split
  · omega
  · split
    · omega
    · split
      · omega
      · split
        · exact (hashText_r (fun x hx => (textB x hx).1)).1
        · unfold Ar.sr rn hn
          split
          · rename_i h; have := (of_decide_eq_true (show decide (HeadP _ _ _) = true from h)).range; unfold hn at this; omega
          · omega
set_option maxHeartbeats 1000000 in
theorem l6Hash_c {t n : Int} (hA : At H C.bw (wObj C A)) (hw : Wf A.ws) (hm : A.ws.length ≤ 8000) (hkt : KeyP A t n) (ht : t ≠ 0) (hv : ValP t n) :
    Fn Try.prog w0 85 #[arV C A, .agg #[.int .i64 t, .int .i64 n]] H fun v H' => v = .int .i64 (A.hash t n) ∧ H' = H := by
  obtain ⟨k1, k2⟩ := hkt
  have hwr : IntKind.u64.wrap n = n % 18446744073709551616 := IntKind.wrap_u64 n
  have hkd : t = 1 ∨ t = 2 ∨ t = 7 ∨ kd t ≠ 0 := by
    by_cases h : kd t ≠ 0
    · exact .inr (.inr (.inr h))
    · have := mt kindOf_ne.2 h; unfold ValP at hv; omega
  have h7 : t = 7 → 1 ≤ n ∧ n ≤ 20 := by intro h; unfold ValP at hv; omega
  refine enter2 Try.func85 rfl rfl Try.ntmps85 rfl ?_
  repeat' (first | ((first | (apply gCall; apply L_call rfl rfl rfl rfl rfl) | (apply gQC; apply Q_call rfl rfl rfl rfl rfl)); (· first | exact l2Where_c at_ hw om om | exact l2Look_c at_ hw om om | exact l4Text_c at_ hw om (k2 (by assumption)) | exact l6Hash_c at_ hw om hkt (by assumption) (by assumption) | exact l6Key_c at_ hw om om om om | exact l4Same_c at_ hw om (hK _ om om) hkt); try rintro _ _ ⟨rfl, rfl⟩) | (apply gL; first | refine L_nil ?_ | refine yS ?_ | refine yX fun _ => ?_ | refine yA fun _ => ?_ | (apply gSt; first | refine sR ?_ | refine sB ?_ | refine s1 ?_ | refine sW ?_ | refine sN ?_) | refine kV ?_ | (apply L_val rfl rfl rfl; (· first | (apply gBin; first | fail ) | fail | exact v_lenz rfl | exact v_sidx rfl rfl hXb om om)) | ((fail_if_success (refine L_known rfl ?_)); refine yW (fun h => ?_) fun h => ?_)) | (apply gW; first | refine W_seq ?_ | refine W_region ?_ | refine W_ret ?_ | refine W_skip ?_ | refine W_block ?_ | refine W_exit ?_ | refine W_cond1 rfl ?_ | refine W_cond0 rfl ?_ | refine cW (fun h => ?_) fun h => ?_ | refine wQ ?_) | (first | refine seqR.normal ?_ | refine seqR.ret ?_ | refine seqR.exit ?_ | refine blockR.normal ?_ | refine blockR.ret ?_ | refine blockR.here ?_ | refine blockR.exit rfl ?_ | refine loopR.ret ?_ | refine loopR.exit ?_) | (apply gQ; first | refine Q_nil ?_ | refine Q_skip rfl rfl rfl ?_ | refine kQ ?_ | (apply Q_val rfl rfl rfl; (· first | (apply gBin; first | fail ) | fail | exact v_lenz rfl | exact v_sidx rfl rfl hXb om om)) | ((fail_if_success (refine Q_known rfl ?_)); refine zW (fun h => ?_) fun h => ?_)) | fail)
  · refine retR.ret _ _ (ret1 rfl rfl) cv_ ⟨?_, rfl⟩
    unfold Ar.hash; rw [if_pos h]
  · refine retR.ret _ _ (ret1 rfl rfl) cv_ ⟨?_, rfl⟩
    unfold Ar.hash; rw [if_neg (by assumption), if_pos h, hwr]
  · refine retR.ret _ _ (ret1 rfl rfl) cv_ ⟨?_, rfl⟩
    unfold Ar.hash; rw [if_neg (by assumption), if_neg (by assumption), if_pos h]
  · generalize hX : A.text (A.where_ n) = X
    have hXb : Byt X := hX ▸ textB
    have hXl : X.length ≤ 160 := by
      obtain ⟨_, _, h3, h4, _⟩ := k2 h
      have := text_len h3
      rw [hX] at this; omega
    apply W_loopX (α := Int) (fun y => [(5, .string (strOfNums X)), (6, .int .i64 (hashText (X.take y.toNat))), (7, .int .i64 y)]) (fun _ => H)
      (fun y => 0 ≤ y ∧ y ≤ X.length) (fun y => (X.length - y).toNat) 0
    · exact sub_
    · exact cvt_
    · exact ⟨by omega, by omega⟩
    rintro i ⟨hi, hi2⟩
    have hr := hashText_r (l := X.take i.toNat) (fun x hx => (hXb x (List.mem_of_mem_take hx)).1)
    have hgi : i < (X.length : Int) → 0 ≤ g X i ∧ g X i < 256 := fun h => hXb _ (g_mem hi h)
    repeat' (first | ((first | (apply gCall; apply L_call rfl rfl rfl rfl rfl) | (apply gQC; apply Q_call rfl rfl rfl rfl rfl)); (· first | exact l2Where_c at_ hw om om | exact l2Look_c at_ hw om om | exact l4Text_c at_ hw om (k2 (by assumption)) | exact l6Hash_c at_ hw om hkt (by assumption) (by assumption) | exact l6Key_c at_ hw om om om om | exact l4Same_c at_ hw om (hK _ om om) hkt); try rintro _ _ ⟨rfl, rfl⟩) | (apply gL; first | refine L_nil ?_ | refine yS ?_ | refine yX fun _ => ?_ | refine yA fun _ => ?_ | (apply gSt; first | refine sR ?_ | refine sB ?_ | refine s1 ?_ | refine sW ?_ | refine sN ?_) | refine kV ?_ | (apply L_val rfl rfl rfl; (· first | (apply gBin; first | fail ) | fail | exact v_lenz rfl | exact v_sidx rfl rfl hXb om om)) | ((fail_if_success (refine L_known rfl ?_)); refine yW (fun h => ?_) fun h => ?_)) | (apply gW; first | refine W_seq ?_ | refine W_region ?_ | refine W_ret ?_ | refine W_skip ?_ | refine W_block ?_ | refine W_exit ?_ | refine W_cond1 rfl ?_ | refine W_cond0 rfl ?_ | refine cW (fun h => ?_) fun h => ?_ | refine wQ ?_) | (first | refine seqR.normal ?_ | refine seqR.ret ?_ | refine seqR.exit ?_ | refine blockR.normal ?_ | refine blockR.ret ?_ | refine blockR.here ?_ | refine blockR.exit rfl ?_ | refine loopR.ret ?_ | refine loopR.exit ?_) | (apply gQ; first | refine Q_nil ?_ | refine Q_skip rfl rfl rfl ?_ | refine kQ ?_ | (apply Q_val rfl rfl rfl; (· first | (apply gBin; first | fail ) | fail | exact v_lenz rfl | exact v_sidx rfl rfl hXb om om)) | ((fail_if_success (refine Q_known rfl ?_)); refine zW (fun h => ?_) fun h => ?_)) | fail)
    · apply loopR.mk (i + 1)
      · exact ⟨rfl, by rw [hash_step hi h]; rfl, rfl, trivial⟩
      · exact cvt_
      · exact ⟨by omega, by omega⟩
      · (try dsimp only); omega
    · refine retR.ret _ _ (ret1 rfl rfl) cv_ ⟨?_, rfl⟩
      unfold Ar.hash
      rw [if_neg (by assumption), if_neg (by assumption), if_neg (by assumption), if_pos (by assumption), hX, List.take_of_length_le (by omega)]
  · refine retR.ret _ _ (ret1 rfl rfl) cv_ ⟨?_, rfl⟩
    unfold Ar.hash; rw [if_neg (by assumption), if_neg (by assumption), if_neg (by assumption), if_neg (by assumption)]; rfl
set_option maxHeartbeats 1000000 in
theorem l6Find_c {b n t x : Int} (hA : At H C.bw (wObj C A)) (hw : Wf A.ws) (hm : A.ws.length ≤ 8000) (hb : 0 ≤ b) (hn : 0 ≤ n) (hbn : b + 4 * n < A.ws.length) (hK : ∀ i : Int, 0 ≤ i → i < n → KeyP A (rvT A.ws (b + 1 + 4 * i)) (rvN A.ws (b + 1 + 4 * i))) (hkt : KeyP A t x) (hv : ValP t x) :
    Fn Try.prog w0 67 #[arV C A, .int .i64 b, .int .i64 n, .agg #[.int .i64 t, .int .i64 x]] H fun v H' => v = .tuple #[.int .i64 (A.find b n t x).1, .bool (A.find b n t x).2] ∧ H' = H := by
  have hh : t ≠ 0 → 0 ≤ A.hash t x := fun h => hash_r h hv
  refine enter4 Try.func67 rfl rfl Try.ntmps67 rfl ?_
  repeat' (first | ((first | (apply gCall; apply L_call rfl rfl rfl rfl rfl) | (apply gQC; apply Q_call rfl rfl rfl rfl rfl)); (· first | exact l2Where_c at_ hw om om | exact l2Look_c at_ hw om om | exact l4Text_c at_ hw om (k2 (by assumption)) | exact l6Hash_c at_ hw om hkt (by assumption) (by assumption) | exact l6Key_c at_ hw om om om om | exact l4Same_c at_ hw om (hK _ om om) hkt); try rintro _ _ ⟨rfl, rfl⟩) | (apply gL; first | refine L_nil ?_ | refine yS ?_ | refine yX fun _ => ?_ | refine yA fun _ => ?_ | (apply gSt; first | refine sR ?_ | refine sB ?_ | refine s1 ?_ | refine sW ?_ | refine sN ?_) | refine kV ?_ | (apply L_val rfl rfl rfl; (· first | (apply gBin; first | fail ) | fail | exact v_lenz rfl | exact v_sidx rfl rfl hXb om om)) | ((fail_if_success (refine L_known rfl ?_)); refine yW (fun h => ?_) fun h => ?_)) | (apply gW; first | refine W_seq ?_ | refine W_region ?_ | refine W_ret ?_ | refine W_skip ?_ | refine W_block ?_ | refine W_exit ?_ | refine W_cond1 rfl ?_ | refine W_cond0 rfl ?_ | refine cW (fun h => ?_) fun h => ?_ | refine wQ ?_) | (first | refine seqR.normal ?_ | refine seqR.ret ?_ | refine seqR.exit ?_ | refine blockR.normal ?_ | refine blockR.ret ?_ | refine blockR.here ?_ | refine blockR.exit rfl ?_ | refine loopR.ret ?_ | refine loopR.exit ?_) | (apply gQ; first | refine Q_nil ?_ | refine Q_skip rfl rfl rfl ?_ | refine kQ ?_ | (apply Q_val rfl rfl rfl; (· first | (apply gBin; first | fail ) | fail | exact v_lenz rfl | exact v_sidx rfl rfl hXb om om)) | ((fail_if_success (refine Q_known rfl ?_)); refine zW (fun h => ?_) fun h => ?_)) | fail)
  · refine retR.ret _ _ (ret2 rfl rfl rfl) cv_ ⟨?_, rfl⟩
    unfold Ar.find; rw [if_pos (.inl h)]
  · refine retR.ret _ _ (ret2 rfl rfl rfl) cv_ ⟨?_, rfl⟩
    unfold Ar.find; rw [if_pos (.inr h)]
  rename_i ba bx _
  have hf : A.find b n t x = A.findFrom b n t x n.toNat (A.hash t x % n) := by unfold Ar.find; rw [if_neg (by omega)]
  apply W_loopX (α := Int × Int) (fun y => [(1, .int .i64 b), (2, .int .i64 n), (4, .pointer (some ⟨ba, 0, none⟩)), (7, .pointer (some ⟨bx, 0, none⟩)), (10, .int .i64 y.2), (11, .int .i64 y.1)]) (fun _ => (bx, .cells #[.int .i64 t, .int .i64 x] 46 (0, 0)) :: (ba, aObj C A) :: H)
    (fun y => 0 ≤ y.1 ∧ y.1 ≤ n ∧ 0 ≤ y.2 ∧ y.2 < n ∧ A.find b n t x = A.findFrom b n t x (n - y.1).toNat y.2) (fun y => (n - y.1).toNat) (0, A.hash t x % n)
  · exact sub_
  · exact cvt_
  · have := Int.emod_nonneg (A.hash t x) (show n ≠ 0 by omega)
    have := Int.emod_lt_of_pos (A.hash t x) (show 0 < n by omega)
    exact ⟨by dsimp only; omega, by dsimp only; omega, by dsimp only; omega, by dsimp only; omega, by dsimp only; rw [hf]; congr 1; omega⟩
  rintro ⟨s, i⟩ ⟨hs, hs2, hi, hi2, hf2⟩
  dsimp only at hs hs2 hi hi2 hf2 ⊢
  have hstep : s < n → A.find b n t x = if A.keyT b i = 0 then (i, false) else if A.same (A.keyT b i) (A.keyN b i) t x = true then (i, true) else A.findFrom b n t x (n - (s + 1)).toNat ((i + 1) % n) := fun h => by
    rw [hf2, show (n - s).toNat = (n - (s + 1)).toNat + 1 by omega, Ar.findFrom]
  repeat' (first | ((first | (apply gCall; apply L_call rfl rfl rfl rfl rfl) | (apply gQC; apply Q_call rfl rfl rfl rfl rfl)); (· first | exact l2Where_c at_ hw om om | exact l2Look_c at_ hw om om | exact l4Text_c at_ hw om (k2 (by assumption)) | exact l6Hash_c at_ hw om hkt (by assumption) (by assumption) | exact l6Key_c at_ hw om om om om | exact l4Same_c at_ hw om (hK _ om om) hkt); try rintro _ _ ⟨rfl, rfl⟩) | (apply gL; first | refine L_nil ?_ | refine yS ?_ | refine yX fun _ => ?_ | refine yA fun _ => ?_ | (apply gSt; first | refine sR ?_ | refine sB ?_ | refine s1 ?_ | refine sW ?_ | refine sN ?_) | refine kV ?_ | (apply L_val rfl rfl rfl; (· first | (apply gBin; first | fail ) | fail | exact v_lenz rfl | exact v_sidx rfl rfl hXb om om)) | ((fail_if_success (refine L_known rfl ?_)); refine yW (fun h => ?_) fun h => ?_)) | (apply gW; first | refine W_seq ?_ | refine W_region ?_ | refine W_ret ?_ | refine W_skip ?_ | refine W_block ?_ | refine W_exit ?_ | refine W_cond1 rfl ?_ | refine W_cond0 rfl ?_ | refine cW (fun h => ?_) fun h => ?_ | refine wQ ?_) | (first | refine seqR.normal ?_ | refine seqR.ret ?_ | refine seqR.exit ?_ | refine blockR.normal ?_ | refine blockR.ret ?_ | refine blockR.here ?_ | refine blockR.exit rfl ?_ | refine loopR.ret ?_ | refine loopR.exit ?_) | (apply gQ; first | refine Q_nil ?_ | refine Q_skip rfl rfl rfl ?_ | refine kQ ?_ | (apply Q_val rfl rfl rfl; (· first | (apply gBin; first | fail ) | fail | exact v_lenz rfl | exact v_sidx rfl rfl hXb om om)) | ((fail_if_success (refine Q_known rfl ?_)); refine zW (fun h => ?_) fun h => ?_)) | fail)
  · refine retR.ret _ _ (ret2 rfl rfl rfl) cv_ ⟨?_, rfl⟩
    rw [hstep (by omega), if_pos (show A.keyT b i = 0 from h)]
  · refine retR.ret _ _ (ret2 rfl rfl rfl) cv_ ⟨?_, rfl⟩
    rw [hstep (by omega), if_neg (show ¬ A.keyT b i = 0 by assumption), if_pos (show A.same (A.keyT b i) (A.keyN b i) t x = true from h)]
  · have h1 : (i + 1) % n = (i + 1) % n := rfl
    have h2 := Int.emod_nonneg (i + 1) (show n ≠ 0 by omega)
    have h3 := Int.emod_lt_of_pos (i + 1) (show 0 < n by omega)
    have h4 : ¬ A.same (A.keyT b i) (A.keyN b i) t x = true := by
      rw [show A.same (A.keyT b i) (A.keyN b i) t x = false from h]; decide
    rw [if_neg (show ¬ A.keyT b i = 0 by assumption), if_neg h4] at hstep
    apply loopR.mk (s + 1, (i + 1) % n)
    · exact sub_
    · exact cvt_
    · exact ⟨by dsimp only; omega, by dsimp only; omega, by dsimp only; omega, by dsimp only; omega, hstep (by omega)⟩
    · dsimp only; omega
  · refine retR.ret _ _ (ret2 rfl rfl rfl) cv_ ⟨?_, rfl⟩
    rw [hf2, show (n - s).toNat = 0 by omega, Ar.findFrom]
end Go.Proofs.Ytfhihnonafklbaa.Eng
