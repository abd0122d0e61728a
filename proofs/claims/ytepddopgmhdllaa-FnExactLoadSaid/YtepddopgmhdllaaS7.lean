/- The reference's object. -/
import Derived.Test.YtepddopgmhdllaaS6
namespace Go.Proofs.Ytepddopgmhdllaa.Eng
open Go Go.RowKit Go.Proofs.Ytepddopgmhdllaa.Sl Go.Proofs.Ytepddopgmhdllaa.Ar Go.Proofs.Ytepddopgmhdllaa.Base
set_option linter.unusedVariables false
set_option linter.unusedSimpArgs false
set_option maxRecDepth 10000
variable {w0 : World} {H : HL} {C : Cn} {A : Ar}
theorem rvP (ws : List Int) (p : Int) : (kd (rvT ws p) ≠ 0 → 0 < rvN ws p) ∧ (kd (rvT ws p) ≠ 0 → 0 ≤ rvN ws p) := by
  have : kd (rvT ws p) ≠ 0 → 0 < rvN ws p := by
    intro h
    unfold rvT at h; unfold rvN
    cases e : rv ws p with
    | false => rw [e] at h; simp [kd, kindOf] at h
    | true =>
      rw [e, if_pos rfl] at h; rw [if_pos rfl]
      rw [rv_eq] at e
      have e := of_decide_eq_true (show decide (ValP _ _) = true from e)
      have := kindOf_ne.1 h
      unfold ValP at e; omega
  exact ⟨this, fun h => by have := this h; omega⟩
theorem slotsIn {f : Nat} {i s q : Int} (h : q ∈ slotsFrom f i s) : i ≤ q ∧ q + 1 ≤ s := by
  induction f generalizing i with
  | zero => simp [slotsFrom] at h
  | succ f ih =>
    rw [slotsFrom] at h; split at h
    · rcases List.mem_cons.1 h with rfl | h
      · omega
      · have := ih h; omega
    · simp at h
theorem slots_in {k s q : Int} (hz : SizeP k s) (h : q ∈ slots k s) : 1 ≤ q ∧ q + 1 ≤ s := by
  have := slotsIn h
  unfold from_ at this; unfold SizeP at hz; omega
theorem slots_len {k s : Int} : (slots k s).length ≤ 130 := slotsLen
/-- the marks lead where they say -/
structure MarkP (A : Ar) (m : List Int) : Prop where
  len : m.length = A.ws.length
  ok : ∀ p : Int, 0 ≤ p → p < A.ws.length → (g m p = 1 ∨ g m p = 2) → 1 ≤ p ∧ hOk (g A.ws p) = true ∧ p + hs (g A.ws p) < A.ws.length
  wh : ∀ p : Int, 0 ≤ p → p < A.ws.length → g m p ≠ 0 → 0 ≤ A.where_ p ∧ A.where_ p < A.ws.length ∧ (g m (A.where_ p) = 1 ∨ g m (A.where_ p) = 2)
theorem slotOk_iff {m : List Int} {k fr q : Int} : A.slotOk m k fr q = true ↔ rv A.ws q = true ∧ A.leads m (rvT A.ws q) (rvN A.ws q) fr = true ∧ ¬ (rvT A.ws q = 8 ∧ k ≠ 2) ∧ ¬ (rvT A.ws q = 9 ∧ k = 3) ∧ ¬ (rvT A.ws q ≠ 9 ∧ k = 4) := by
  unfold Ar.slotOk
  simp only [Bool.and_eq_true, Bool.not_eq_true', decide_eq_false_iff_not, and_assoc]
theorem object_f {m sl : List Int} {p i : Int} (hG : slots (rk (g A.ws p)) (rs (g A.ws p)) = sl) (h0 : 0 ≤ i) (h1 : i < (sl.length : Int)) (h : ¬ A.slotOk m (rk (g A.ws p)) (A.fromOf m p) (p + g sl i) = true) : false = A.object m p := by
  cases e : A.object m p with
  | false => rfl
  | true =>
    exfalso
    unfold Ar.object Ar.kn Ar.sz Ar.w at e
    rw [hG, Bool.and_eq_true, List.all_eq_true] at e
    exact h (e.1 _ (g_mem h0 h1))
theorem object_t {m sl : List Int} {p : Int} (hG : slots (rk (g A.ws p)) (rs (g A.ws p)) = sl) (h : ∀ j : Int, 0 ≤ j → j < (sl.length : Int) → A.slotOk m (rk (g A.ws p)) (A.fromOf m p) (p + g sl j) = true) :
    A.object m p = if rk (g A.ws p) = 1 then A.strOk p (rs (g A.ws p)) else if rk (g A.ws p) = 4 then inB (sg (g A.ws (p + 1))) 0 255 else if rk (g A.ws p) = 6 then A.coOk p else true := by
  unfold Ar.object Ar.kn Ar.sz Ar.w
  rw [hG]
  have : (sl.all fun q => A.slotOk m (rk (g A.ws p)) (A.fromOf m p) (p + q)) = true := by
    rw [List.all_eq_true]
    intro q hq
    obtain ⟨j, h1, h2, rfl⟩ := g_ex hq
    exact h j h1 h2
  rw [this, Bool.true_and]
set_option maxHeartbeats 4000000 in
theorem l2Object_c {bm : Nat} {m : List Int} {p : Int} (hB : At H bm (mObj m)) (hA : At H C.bw (wObj C A)) (hw : Wf A.ws) (hm : A.ws.length ≤ 8000) (hM : MarkP A m) (hp : 0 ≤ p) (hp2 : p < A.ws.length) (hi : g m p = 1 ∨ g m p = 2) :
    Fn Try.prog w0 94 #[arV C A, .slice (some ⟨bm, 0, none⟩) A.ws.length A.ws.length, .int .i64 p] H fun v H' => v = .bool (A.object m p) ∧ H' = H := by
  have hl := hM.len
  have hW : ∀ n : Int, 0 ≤ n → n < A.ws.length → g m n ≠ 0 → 0 ≤ A.where_ n ∧ A.where_ n < A.ws.length := fun n h1 h2 h3 => ⟨(hM.wh n h1 h2 h3).1, (hM.wh n h1 h2 h3).2.1⟩
  obtain ⟨h1, h2, h3⟩ := hM.ok p hp hp2 hi
  have hr := rsR' h2
  have hz : SizeP (rk (g A.ws p)) (rs (g A.ws p)) := by rw [hr.2.2.1, hr.2.2.2.1]; exact (of_decide_eq_true (show decide (HeadP _ _ _) = true from h2)).1
  have h6 : rk (g A.ws p) = 6 → p + 126 < A.ws.length := by intro h; unfold SizeP at hz; omega
  refine enter3 Try.func94 rfl rfl Try.ntmps94 rfl ?_
  repeat' (fail_if_success apply gAt 3); (first | (apply gL; first | refine L_nil ?_ | refine yS ?_ | refine yX fun _ => ?_ | refine yA fun _ => ?_ | (apply gSt; first | refine sR ?_ | refine sB ?_ | refine s1 ?_ | refine sW ?_ | refine sN ?_) | (apply gCall; apply L_call rfl rfl rfl rfl rfl; (· first | exact l1In_c _ _ _ | exact l2Where_c at_ hw om om | exact l2Look_c at_ hw om om | exact l2Word_c at_ hw om om om | exact l1Read_c at_ hw om om om | exact l2StrOk_c at_ hw om om om om | exact l2CoOk_c at_ hw om om om | exact l2Leads_c at_ at_ hw hl om (rvP A.ws _).2 (fun h1 h2 => hW _ ((rvP A.ws _).2 h1) h2)); rintro _ _ ⟨rfl, rfl⟩) | refine kV ?_ | ((fail_if_success (refine L_known rfl ?_)); first | refine yN (fun h => ?_) fun h => ?_ | refine yP (fun h => ?_) fun h => ?_ | refine yB (fun h => ?_) fun h => ?_ | refine yK (fun h => ?_) fun h => ?_)) | (apply gW; first | refine W_seq ?_ | refine W_region ?_ | refine W_ret ?_ | refine W_skip ?_ | refine W_block ?_ | refine W_exit ?_ | refine W_cond1 rfl ?_ | refine W_cond0 rfl ?_ | refine cN (fun h => ?_) fun h => ?_ | refine cP (fun h => ?_) fun h => ?_ | refine cB (fun h => ?_) fun h => ?_ | refine cK (fun h => ?_) fun h => ?_) | (first | refine seqR.normal ?_ | refine seqR.ret ?_ | refine seqR.exit ?_ | refine blockR.normal ?_ | refine blockR.ret ?_ | refine blockR.here ?_ | refine blockR.exit rfl ?_ | refine loopR.ret ?_ | refine loopR.exit ?_ | refine midA.ret ?_ | refine midA.exit ?_) | fail)
  rename_i ba bh
  refine W_midA (α := Unit) (fun y => [(1, .slice (some ⟨bm, 0, none⟩) A.ws.length A.ws.length), (2, .int .i64 p), (3, .pointer (some ⟨ba, 0, none⟩)), (7, .pointer (some ⟨bh, 0, none⟩)), (8, .int .i64 (A.fromOf m p))]) (fun y => (bh, .cells #[.int .i64 (rk (g A.ws p)), .int .i64 (rs (g A.ws p)), .int .i64 (rn (g A.ws p))] 85 (0, 0)) :: (ba, aObj C A) :: H) (fun _ => True) ?_ ?_
  · repeat' (first | (apply gL; first | refine L_nil ?_ | refine yS ?_ | refine yX fun _ => ?_ | refine yA fun _ => ?_ | (apply gSt; first | refine sR ?_ | refine sB ?_ | refine s1 ?_ | refine sW ?_ | refine sN ?_) | (apply gCall; apply L_call rfl rfl rfl rfl rfl; (· first | exact l1In_c _ _ _ | exact l2Where_c at_ hw om om | exact l2Look_c at_ hw om om | exact l2Word_c at_ hw om om om | exact l1Read_c at_ hw om om om | exact l2StrOk_c at_ hw om om om om | exact l2CoOk_c at_ hw om om om | exact l2Leads_c at_ at_ hw hl om (rvP A.ws _).2 (fun h1 h2 => hW _ ((rvP A.ws _).2 h1) h2)); rintro _ _ ⟨rfl, rfl⟩) | refine kV ?_ | ((fail_if_success (refine L_known rfl ?_)); first | refine yN (fun h => ?_) fun h => ?_ | refine yP (fun h => ?_) fun h => ?_ | refine yB (fun h => ?_) fun h => ?_ | refine yK (fun h => ?_) fun h => ?_)) | (apply gW; first | refine W_seq ?_ | refine W_region ?_ | refine W_ret ?_ | refine W_skip ?_ | refine W_block ?_ | refine W_exit ?_ | refine W_cond1 rfl ?_ | refine W_cond0 rfl ?_ | refine cN (fun h => ?_) fun h => ?_ | refine cP (fun h => ?_) fun h => ?_ | refine cB (fun h => ?_) fun h => ?_ | refine cK (fun h => ?_) fun h => ?_) | (first | refine seqR.normal ?_ | refine seqR.ret ?_ | refine seqR.exit ?_ | refine blockR.normal ?_ | refine blockR.ret ?_ | refine blockR.here ?_ | refine blockR.exit rfl ?_ | refine loopR.ret ?_ | refine loopR.exit ?_ | refine midA.ret ?_ | refine midA.exit ?_) | fail)
    all_goals (refine midA.at_ () trivial ⟨rfl, rfl, rfl, rfl, lk ?_, trivial⟩ cvt_)
    all_goals simp [Ar.fromOf, *]
  rintro _ _
  repeat' (first | (apply gL; first | refine L_nil ?_ | refine yS ?_ | refine yX fun _ => ?_ | refine yA fun _ => ?_ | (apply gSt; first | refine sR ?_ | refine sB ?_ | refine s1 ?_ | refine sW ?_ | refine sN ?_) | (apply gCall; apply L_call rfl rfl rfl rfl rfl; (· first | exact l1In_c _ _ _ | exact l2Where_c at_ hw om om | exact l2Look_c at_ hw om om | exact l2Word_c at_ hw om om om | exact l1Read_c at_ hw om om om | exact l2StrOk_c at_ hw om om om om | exact l2CoOk_c at_ hw om om om | exact l2Leads_c at_ at_ hw hl om (rvP A.ws _).2 (fun h1 h2 => hW _ ((rvP A.ws _).2 h1) h2)); rintro _ _ ⟨rfl, rfl⟩) | refine kV ?_ | ((fail_if_success (refine L_known rfl ?_)); first | refine yN (fun h => ?_) fun h => ?_ | refine yP (fun h => ?_) fun h => ?_ | refine yB (fun h => ?_) fun h => ?_ | refine yK (fun h => ?_) fun h => ?_)) | (apply gW; first | refine W_seq ?_ | refine W_region ?_ | refine W_ret ?_ | refine W_skip ?_ | refine W_block ?_ | refine W_exit ?_ | refine W_cond1 rfl ?_ | refine W_cond0 rfl ?_ | refine cN (fun h => ?_) fun h => ?_ | refine cP (fun h => ?_) fun h => ?_ | refine cB (fun h => ?_) fun h => ?_ | refine cK (fun h => ?_) fun h => ?_) | (first | refine seqR.normal ?_ | refine seqR.ret ?_ | refine seqR.exit ?_ | refine blockR.normal ?_ | refine blockR.ret ?_ | refine blockR.here ?_ | refine blockR.exit rfl ?_ | refine loopR.ret ?_ | refine loopR.exit ?_ | refine midA.ret ?_ | refine midA.exit ?_) | fail)
  apply L_call rfl rfl rfl rfl rfl
  · exact Slots_c hz
  rintro _ _ ⟨bs, sp, rfl, rfl⟩
  repeat' (first | (apply gL; first | refine L_nil ?_ | refine yS ?_ | refine yX fun _ => ?_ | refine yA fun _ => ?_ | (apply gSt; first | refine sR ?_ | refine sB ?_ | refine s1 ?_ | refine sW ?_ | refine sN ?_) | (apply gCall; apply L_call rfl rfl rfl rfl rfl; (· first | exact l1In_c _ _ _ | exact l2Where_c at_ hw om om | exact l2Look_c at_ hw om om | exact l2Word_c at_ hw om om om | exact l1Read_c at_ hw om om om | exact l2StrOk_c at_ hw om om om om | exact l2CoOk_c at_ hw om om om | exact l2Leads_c at_ at_ hw hl om (rvP A.ws _).2 (fun h1 h2 => hW _ ((rvP A.ws _).2 h1) h2)); rintro _ _ ⟨rfl, rfl⟩) | refine kV ?_ | ((fail_if_success (refine L_known rfl ?_)); first | refine yN (fun h => ?_) fun h => ?_ | refine yP (fun h => ?_) fun h => ?_ | refine yB (fun h => ?_) fun h => ?_ | refine yK (fun h => ?_) fun h => ?_)) | (apply gW; first | refine W_seq ?_ | refine W_region ?_ | refine W_ret ?_ | refine W_skip ?_ | refine W_block ?_ | refine W_exit ?_ | refine W_cond1 rfl ?_ | refine W_cond0 rfl ?_ | refine cN (fun h => ?_) fun h => ?_ | refine cP (fun h => ?_) fun h => ?_ | refine cB (fun h => ?_) fun h => ?_ | refine cK (fun h => ?_) fun h => ?_) | (first | refine seqR.normal ?_ | refine seqR.ret ?_ | refine seqR.exit ?_ | refine blockR.normal ?_ | refine blockR.ret ?_ | refine blockR.here ?_ | refine blockR.exit rfl ?_ | refine loopR.ret ?_ | refine loopR.exit ?_ | refine midA.ret ?_ | refine midA.exit ?_) | fail)
  have hsl := slots_len (k := rk (g A.ws p)) (s := rs (g A.ws p))
  apply W_loopX (α := Int) (fun y => [(1, .slice (some ⟨bm, 0, none⟩) A.ws.length A.ws.length), (2, .int .i64 p), (3, .pointer (some ⟨ba, 0, none⟩)), (7, .pointer (some ⟨bh, 0, none⟩)), (8, .int .i64 (A.fromOf m p)), (9, .slice (some ⟨bs, 0, none⟩) (slots (rk (g A.ws p)) (rs (g A.ws p))).length ((slots (rk (g A.ws p)) (rs (g A.ws p))).length + sp.length)), (10, .int .i64 y)])
    (fun y => (bs, .cells (rowA .i64 (slots (rk (g A.ws p)) (rs (g A.ws p))) sp) 3 (0, 0)) :: (bh, .cells #[.int .i64 (rk (g A.ws p)), .int .i64 (rs (g A.ws p)), .int .i64 (rn (g A.ws p))] 85 (0, 0)) :: (ba, aObj C A) :: H)
    (fun y => 0 ≤ y ∧ y ≤ (slots (rk (g A.ws p)) (rs (g A.ws p))).length ∧ ∀ j, 0 ≤ j → j < y → A.slotOk m (rk (g A.ws p)) (A.fromOf m p) (p + g (slots (rk (g A.ws p)) (rs (g A.ws p))) j) = true) (fun y => ((slots (rk (g A.ws p)) (rs (g A.ws p))).length - y).toNat) 0
  · exact sub_
  · exact cvt_
  · exact ⟨by omega, by omega, fun j h1 h2 => by omega⟩
  generalize hG : slots (rk (g A.ws p)) (rs (g A.ws p)) = sl at *
  rintro i ⟨hi1, hi2, hi3⟩
  repeat' (fail_if_success apply gAtR 11); (first | (apply gL; first | refine L_nil ?_ | refine yS ?_ | refine yX fun _ => ?_ | refine yA fun _ => ?_ | (apply gSt; first | refine sR ?_ | refine sB ?_ | refine s1 ?_ | refine sW ?_ | refine sN ?_) | (apply gCall; apply L_call rfl rfl rfl rfl rfl; (· first | exact l1In_c _ _ _ | exact l2Where_c at_ hw om om | exact l2Look_c at_ hw om om | exact l2Word_c at_ hw om om om | exact l1Read_c at_ hw om om om | exact l2StrOk_c at_ hw om om om om | exact l2CoOk_c at_ hw om om om | exact l2Leads_c at_ at_ hw hl om (rvP A.ws _).2 (fun h1 h2 => hW _ ((rvP A.ws _).2 h1) h2)); rintro _ _ ⟨rfl, rfl⟩) | refine kV ?_ | ((fail_if_success (refine L_known rfl ?_)); first | refine yN (fun h => ?_) fun h => ?_ | refine yP (fun h => ?_) fun h => ?_ | refine yB (fun h => ?_) fun h => ?_ | refine yK (fun h => ?_) fun h => ?_)) | (apply gW; first | refine W_seq ?_ | refine W_region ?_ | refine W_ret ?_ | refine W_skip ?_ | refine W_block ?_ | refine W_exit ?_ | refine W_cond1 rfl ?_ | refine W_cond0 rfl ?_ | refine cN (fun h => ?_) fun h => ?_ | refine cP (fun h => ?_) fun h => ?_ | refine cB (fun h => ?_) fun h => ?_ | refine cK (fun h => ?_) fun h => ?_) | (first | refine seqR.normal ?_ | refine seqR.ret ?_ | refine seqR.exit ?_ | refine blockR.normal ?_ | refine blockR.ret ?_ | refine blockR.here ?_ | refine blockR.exit rfl ?_ | refine loopR.ret ?_ | refine loopR.exit ?_ | refine midA.ret ?_ | refine midA.exit ?_) | fail)
  · have hq : 1 ≤ g sl i ∧ g sl i + 1 ≤ rs (g A.ws p) := slots_in hz (by rw [hG]; exact g_mem hi1 h)
    refine W_midA (α := Nat) (fun y => [(1, .slice (some ⟨bm, 0, none⟩) A.ws.length A.ws.length), (2, .int .i64 p), (3, .pointer (some ⟨ba, 0, none⟩)), (7, .pointer (some ⟨bh, 0, none⟩)), (8, .int .i64 (A.fromOf m p)), (9, .slice (some ⟨bs, 0, none⟩) sl.length (sl.length + sp.length)), (10, .int .i64 i), (11, .pointer (some ⟨y, 0, none⟩)), (12, .bool (rv A.ws (p + g sl i)))])
      (fun y => (y, .cells #[.int .i64 (rvT A.ws (p + g sl i)), .int .i64 (rvN A.ws (p + g sl i))] 39 (0, 0)) :: (bs, .cells (rowA .i64 sl sp) 3 (0, 0)) :: (bh, .cells #[.int .i64 (rk (g A.ws p)), .int .i64 (rs (g A.ws p)), .int .i64 (rn (g A.ws p))] 85 (0, 0)) :: (ba, aObj C A) :: H) (fun _ => True) ?_ ?_
    · apply W_regionA (by kernel_rfl)
      refine kA 0 ?_
      refine kA 1 ?_
      refine kA 2 ?_
      refine kA 3 ?_
      refine kA 4 ?_
      refine kA 5 ?_
      refine kA 6 ?_
      refine kA 7 ?_
      refine A_two (i := 8) (j := 12) (by kernel_rfl) cv_ rfl rfl (O_of_L fun S hS => ?_) (O_of_L fun S hS => ?_)
      · (apply gL; first | refine L_nil ?_ | refine yS ?_ | refine yX fun _ => ?_ | refine yA fun _ => ?_ | (apply gSt; first | refine sR ?_ | refine sB ?_ | refine s1 ?_ | refine sW ?_ | refine sN ?_) | (apply gCall; apply L_call rfl rfl rfl rfl rfl; (· first | exact l1In_c _ _ _ | exact l2Where_c at_ hw om om | exact l2Look_c at_ hw om om | exact l2Word_c at_ hw om om om | exact l1Read_c at_ hw om om om | exact l2StrOk_c at_ hw om om om om | exact l2CoOk_c at_ hw om om om | exact l2Leads_c at_ at_ hw hl om (rvP A.ws _).2 (fun h1 h2 => hW _ ((rvP A.ws _).2 h1) h2)); rintro _ _ ⟨rfl, rfl⟩) | refine kV ?_ | ((fail_if_success (refine L_known rfl ?_)); first | refine yN (fun h => ?_) fun h => ?_ | refine yP (fun h => ?_) fun h => ?_ | refine yB (fun h => ?_) fun h => ?_ | refine yK (fun h => ?_) fun h => ?_))
        refine L_nil (hS _ _ ?_)
        clear hS
        refine kA 9 ?_
        refine kA 10 ?_
        refine kA 11 ?_
        refine A_one (i := 12) (by kernel_rfl) cv_ rfl (O_of_L fun S hS => ?_)
        (apply gL; first | refine L_nil ?_ | refine yS ?_ | refine yX fun _ => ?_ | refine yA fun _ => ?_ | (apply gSt; first | refine sR ?_ | refine sB ?_ | refine s1 ?_ | refine sW ?_ | refine sN ?_) | (apply gCall; apply L_call rfl rfl rfl rfl rfl; (· first | exact l1In_c _ _ _ | exact l2Where_c at_ hw om om | exact l2Look_c at_ hw om om | exact l2Word_c at_ hw om om om | exact l1Read_c at_ hw om om om | exact l2StrOk_c at_ hw om om om om | exact l2CoOk_c at_ hw om om om | exact l2Leads_c at_ at_ hw hl om (rvP A.ws _).2 (fun h1 h2 => hW _ ((rvP A.ws _).2 h1) h2)); rintro _ _ ⟨rfl, rfl⟩) | refine kV ?_ | ((fail_if_success (refine L_known rfl ?_)); first | refine yN (fun h => ?_) fun h => ?_ | refine yP (fun h => ?_) fun h => ?_ | refine yB (fun h => ?_) fun h => ?_ | refine yK (fun h => ?_) fun h => ?_))
        refine L_nil (hS _ _ ?_)
        clear hS
        refine A_one (i := 13) (by kernel_rfl) cv_ rfl (O_of_L fun S hS => ?_)
        (apply gL; first | refine L_nil ?_ | refine yS ?_ | refine yX fun _ => ?_ | refine yA fun _ => ?_ | (apply gSt; first | refine sR ?_ | refine sB ?_ | refine s1 ?_ | refine sW ?_ | refine sN ?_) | (apply gCall; apply L_call rfl rfl rfl rfl rfl; (· first | exact l1In_c _ _ _ | exact l2Where_c at_ hw om om | exact l2Look_c at_ hw om om | exact l2Word_c at_ hw om om om | exact l1Read_c at_ hw om om om | exact l2StrOk_c at_ hw om om om om | exact l2CoOk_c at_ hw om om om | exact l2Leads_c at_ at_ hw hl om (rvP A.ws _).2 (fun h1 h2 => hW _ ((rvP A.ws _).2 h1) h2)); rintro _ _ ⟨rfl, rfl⟩) | refine kV ?_ | ((fail_if_success (refine L_known rfl ?_)); first | refine yN (fun h => ?_) fun h => ?_ | refine yP (fun h => ?_) fun h => ?_ | refine yB (fun h => ?_) fun h => ?_ | refine yK (fun h => ?_) fun h => ?_))
        refine L_nil (hS _ _ ?_)
        clear hS
        refine kA 14 ?_
        refine A_nil (by kernel_rfl) cv_ ?_
        apply midA.mk _
        · exact sub_
        · exact cvt_
        · trivial
      · (apply gL; first | refine L_nil ?_ | refine yS ?_ | refine yX fun _ => ?_ | refine yA fun _ => ?_ | (apply gSt; first | refine sR ?_ | refine sB ?_ | refine s1 ?_ | refine sW ?_ | refine sN ?_) | (apply gCall; apply L_call rfl rfl rfl rfl rfl; (· first | exact l1In_c _ _ _ | exact l2Where_c at_ hw om om | exact l2Look_c at_ hw om om | exact l2Word_c at_ hw om om om | exact l1Read_c at_ hw om om om | exact l2StrOk_c at_ hw om om om om | exact l2CoOk_c at_ hw om om om | exact l2Leads_c at_ at_ hw hl om (rvP A.ws _).2 (fun h1 h2 => hW _ ((rvP A.ws _).2 h1) h2)); rintro _ _ ⟨rfl, rfl⟩) | refine kV ?_ | ((fail_if_success (refine L_known rfl ?_)); first | refine yN (fun h => ?_) fun h => ?_ | refine yP (fun h => ?_) fun h => ?_ | refine yB (fun h => ?_) fun h => ?_ | refine yK (fun h => ?_) fun h => ?_))
        refine L_nil (hS _ _ ?_)
        clear hS
        refine A_one (i := 8) (by kernel_rfl) cv_ rfl (O_of_L fun S hS => ?_)
        (apply gL; first | refine L_nil ?_ | refine yS ?_ | refine yX fun _ => ?_ | refine yA fun _ => ?_ | (apply gSt; first | refine sR ?_ | refine sB ?_ | refine s1 ?_ | refine sW ?_ | refine sN ?_) | (apply gCall; apply L_call rfl rfl rfl rfl rfl; (· first | exact l1In_c _ _ _ | exact l2Where_c at_ hw om om | exact l2Look_c at_ hw om om | exact l2Word_c at_ hw om om om | exact l1Read_c at_ hw om om om | exact l2StrOk_c at_ hw om om om om | exact l2CoOk_c at_ hw om om om | exact l2Leads_c at_ at_ hw hl om (rvP A.ws _).2 (fun h1 h2 => hW _ ((rvP A.ws _).2 h1) h2)); rintro _ _ ⟨rfl, rfl⟩) | refine kV ?_ | ((fail_if_success (refine L_known rfl ?_)); first | refine yN (fun h => ?_) fun h => ?_ | refine yP (fun h => ?_) fun h => ?_ | refine yB (fun h => ?_) fun h => ?_ | refine yK (fun h => ?_) fun h => ?_))
        refine L_nil (hS _ _ ?_)
        clear hS
        refine kA 9 ?_
        refine kA 10 ?_
        refine kA 11 ?_
        refine A_one (i := 13) (by kernel_rfl) cv_ rfl (O_of_L fun S hS => ?_)
        (apply gL; first | refine L_nil ?_ | refine yS ?_ | refine yX fun _ => ?_ | refine yA fun _ => ?_ | (apply gSt; first | refine sR ?_ | refine sB ?_ | refine s1 ?_ | refine sW ?_ | refine sN ?_) | (apply gCall; apply L_call rfl rfl rfl rfl rfl; (· first | exact l1In_c _ _ _ | exact l2Where_c at_ hw om om | exact l2Look_c at_ hw om om | exact l2Word_c at_ hw om om om | exact l1Read_c at_ hw om om om | exact l2StrOk_c at_ hw om om om om | exact l2CoOk_c at_ hw om om om | exact l2Leads_c at_ at_ hw hl om (rvP A.ws _).2 (fun h1 h2 => hW _ ((rvP A.ws _).2 h1) h2)); rintro _ _ ⟨rfl, rfl⟩) | refine kV ?_ | ((fail_if_success (refine L_known rfl ?_)); first | refine yN (fun h => ?_) fun h => ?_ | refine yP (fun h => ?_) fun h => ?_ | refine yB (fun h => ?_) fun h => ?_ | refine yK (fun h => ?_) fun h => ?_))
        refine L_nil (hS _ _ ?_)
        clear hS
        refine kA 14 ?_
        refine A_nil (by kernel_rfl) cv_ ?_
        apply midA.mk _
        · exact sub_
        · exact cvt_
        · trivial
    rintro bv _
    repeat' (first | (apply gL; first | refine L_nil ?_ | refine yS ?_ | refine yX fun _ => ?_ | refine yA fun _ => ?_ | (apply gSt; first | refine sR ?_ | refine sB ?_ | refine s1 ?_ | refine sW ?_ | refine sN ?_) | (apply gCall; apply L_call rfl rfl rfl rfl rfl; (· first | exact l1In_c _ _ _ | exact l2Where_c at_ hw om om | exact l2Look_c at_ hw om om | exact l2Word_c at_ hw om om om | exact l1Read_c at_ hw om om om | exact l2StrOk_c at_ hw om om om om | exact l2CoOk_c at_ hw om om om | exact l2Leads_c at_ at_ hw hl om (rvP A.ws _).2 (fun h1 h2 => hW _ ((rvP A.ws _).2 h1) h2)); rintro _ _ ⟨rfl, rfl⟩) | refine kV ?_ | ((fail_if_success (refine L_known rfl ?_)); first | refine yN (fun h => ?_) fun h => ?_ | refine yP (fun h => ?_) fun h => ?_ | refine yB (fun h => ?_) fun h => ?_ | refine yK (fun h => ?_) fun h => ?_)) | (apply gW; first | refine W_seq ?_ | refine W_region ?_ | refine W_ret ?_ | refine W_skip ?_ | refine W_block ?_ | refine W_exit ?_ | refine W_cond1 rfl ?_ | refine W_cond0 rfl ?_ | refine cN (fun h => ?_) fun h => ?_ | refine cP (fun h => ?_) fun h => ?_ | refine cB (fun h => ?_) fun h => ?_ | refine cK (fun h => ?_) fun h => ?_) | (first | refine seqR.normal ?_ | refine seqR.ret ?_ | refine seqR.exit ?_ | refine blockR.normal ?_ | refine blockR.ret ?_ | refine blockR.here ?_ | refine blockR.exit rfl ?_ | refine loopR.ret ?_ | refine loopR.exit ?_ | refine midA.ret ?_ | refine midA.exit ?_) | fail)
    all_goals (first
      | (refine retR.ret _ _ (ret1 rfl rfl) cv_ ⟨?_, rfl⟩
         exact congrArg Value.bool (object_f hG hi1 (by assumption) (fun c => by
           obtain ⟨c1, c2, c3, c4, c5⟩ := slotOk_iff.1 c
           first | omega | exact absurd (show rv A.ws (p + g sl i) = false by assumption) (by simp [c1]) | exact absurd (show A.leads m (rvT A.ws (p + g sl i)) (rvN A.ws (p + g sl i)) (A.fromOf m p) = false by assumption) (by simp [c2]))))
      | (apply loopR.mk (i + 1)
         · exact sub_
         · exact cvt_
         · exact ⟨by omega, by omega, fun j h1 h2 => by
             by_cases hj : j = i
             · subst hj; exact slotOk_iff.2 ⟨by assumption, by assumption, by omega, by omega, by omega⟩
             · exact hi3 j h1 (by omega)⟩
         · (try dsimp only); omega))
  repeat' (first | (apply gL; first | refine L_nil ?_ | refine yS ?_ | refine yX fun _ => ?_ | refine yA fun _ => ?_ | (apply gSt; first | refine sR ?_ | refine sB ?_ | refine s1 ?_ | refine sW ?_ | refine sN ?_) | (apply gCall; apply L_call rfl rfl rfl rfl rfl; (· first | exact l1In_c _ _ _ | exact l2Where_c at_ hw om om | exact l2Look_c at_ hw om om | exact l2Word_c at_ hw om om om | exact l1Read_c at_ hw om om om | exact l2StrOk_c at_ hw om om om om | exact l2CoOk_c at_ hw om om om | exact l2Leads_c at_ at_ hw hl om (rvP A.ws _).2 (fun h1 h2 => hW _ ((rvP A.ws _).2 h1) h2)); rintro _ _ ⟨rfl, rfl⟩) | refine kV ?_ | ((fail_if_success (refine L_known rfl ?_)); first | refine yN (fun h => ?_) fun h => ?_ | refine yP (fun h => ?_) fun h => ?_ | refine yB (fun h => ?_) fun h => ?_ | refine yK (fun h => ?_) fun h => ?_)) | (apply gW; first | refine W_seq ?_ | refine W_region ?_ | refine W_ret ?_ | refine W_skip ?_ | refine W_block ?_ | refine W_exit ?_ | refine W_cond1 rfl ?_ | refine W_cond0 rfl ?_ | refine cN (fun h => ?_) fun h => ?_ | refine cP (fun h => ?_) fun h => ?_ | refine cB (fun h => ?_) fun h => ?_ | refine cK (fun h => ?_) fun h => ?_) | (first | refine seqR.normal ?_ | refine seqR.ret ?_ | refine seqR.exit ?_ | refine blockR.normal ?_ | refine blockR.ret ?_ | refine blockR.here ?_ | refine blockR.exit rfl ?_ | refine loopR.ret ?_ | refine loopR.exit ?_ | refine midA.ret ?_ | refine midA.exit ?_) | fail)
  all_goals refine retR.ret _ _ (ret1 rfl rfl) cv_ ⟨?_, rfl⟩
  all_goals (rw [object_t hG (fun j a b => hi3 j a (by omega))])
  · rw [if_pos h]
  · rw [if_neg (by assumption), if_pos h]
  · rw [if_neg (by assumption), if_neg (by assumption), if_pos h]
  · rw [if_neg (by assumption), if_neg (by assumption), if_neg h]
end Go.Proofs.Ytepddopgmhdllaa.Eng
