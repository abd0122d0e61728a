/- Objects, both sides. -/
import Derived.Test.YtgjangoglconiaaU0
namespace Go.Proofs.Ytgjangoglconiaa.Ar
/-- the objects of the half in use, from p on -/
def Ar.objl (A : Ar) : Nat → Int → List Int
  | 0, _ => []
  | f + 1, p => if p < A.top then p :: A.objl f (p + rs (g A.ws p) + 1) else []
def Ar.objs (A : Ar) : List Int := A.objl (A.ws.length + 1) (A.start A.to)
def Ar.objR (A : Ar) : List Int := if A.ok = true then A.objs else []
def Ar.headR (A : Ar) (p : Int) : Bool := decide (A.ok = true ∧ p ∈ A.objs)
end Go.Proofs.Ytgjangoglconiaa.Ar
namespace Go.Proofs.Ytgjangoglconiaa.Eng
open Go Go.RowKit Go.Proofs.Ytgjangoglconiaa.Sl Go.Proofs.Ytgjangoglconiaa.Ar Go.Proofs.Ytgjangoglconiaa.Base
set_option linter.unusedVariables false
set_option linter.unusedSimpArgs false
set_option maxRecDepth 10000
variable {w0 : World} {H : HL} {C : Cn} {A : Ar} {ba : Nat}
theorem objl_step {f : Nat} {p : Int} (h : p < A.top) (hf : A.top - p < (f : Int)) : ∃ f', f = f' + 1 ∧ A.objl f p = p :: A.objl f' (p + rs (g A.ws p) + 1) := by
  cases f with
  | zero => omega
  | succ f => exact ⟨f, rfl, by rw [Ar.objl, if_pos h]⟩
theorem objl_end {f : Nat} {p : Int} (h : ¬ p < A.top) : A.objl f p = [] := by
  cases f with
  | zero => rfl
  | succ f => rw [Ar.objl, if_neg h]
/-- the walk over the half in use goes on at p -/
def Tl (A : Ar) (p : Int) : Prop := ∃ f m m', A.tile1 f p m = some m'
theorem Tl.step {p : Int} (h : Tl A p) (hp : p < A.top) : hOk (g A.ws p) = true ∧ p + rs (g A.ws p) + 1 ≤ A.top ∧ 1 ≤ rs (g A.ws p) ∧ Tl A (p + rs (g A.ws p) + 1) := by
  obtain ⟨f, m, m', h⟩ := h
  cases f with
  | zero => cases h
  | succ f =>
    rw [Ar.tile1, if_neg (by omega)] at h
    split at h
    · rename_i hc
      obtain ⟨h1, h2, h3⟩ := hc
      have hr := rsR' h1
      unfold Ar.w at h1 h2 h
      rw [← hr.2.2.1] at h2 h
      exact ⟨h1, h2, hr.1, f, _, m', h⟩
    · cases h
theorem OkP.tl {m : List Int} (h : OkP A m) : Tl A (A.start A.to) := by
  obtain ⟨m1, h1, -⟩ := tile1_of_marks h.mks
  exact ⟨_, _, _, h1⟩
theorem objl_ge : ∀ (f : Nat) (p q : Int), q ∈ A.objl f p → p ≤ q ∧ q < A.top := by
  intro f
  induction f with
  | zero => intro p q h; simp [Ar.objl] at h
  | succ f ih =>
    intro p q h
    rw [Ar.objl] at h
    split at h
    · rcases List.mem_cons.1 h with rfl | h
      · exact ⟨Int.le_refl _, by assumption⟩
      · have := ih _ _ h; have := rsR (g A.ws p); omega
    · simp at h
theorem objl_len : ∀ (f : Nat) (p : Int), p ≤ A.top → ((A.objl f p).length : Int) ≤ A.top - p := by
  intro f
  induction f with
  | zero => intro p h; simp [Ar.objl]; omega
  | succ f ih =>
    intro p h
    rw [Ar.objl]
    split
    · have hr := rsR (g A.ws p)
      by_cases c : p + rs (g A.ws p) + 1 ≤ A.top
      · have := ih _ c; simp only [List.length_cons]; omega
      · have : A.objl f (p + rs (g A.ws p) + 1) = [] := objl_end (by omega)
        rw [this]; simp; omega
    · simp; omega
set_option maxHeartbeats 1000000 in
theorem specObjects_c (hA : At H C.bw (wObj C A)) (hR : At H C.br (rObj C A)) (hw : Wf A.ws) (hx : A.vs.length ≤ 1048576) :
    Fn Try.prog w0 41 #[arV C A] H fun v H' => ∃ b sp, v = .slice (some ⟨b, 0, none⟩) A.objR.length (A.objR.length + List.length sp) ∧ H' = (b, .cells (rowA .i64 A.objR sp) 3 (0, 0)) :: H := by
  cases hok : A.ok with
  | false =>
    have e : A.objR = [] := by unfold Ar.objR; rw [hok]; rfl
    rw [e]
    refine enter1 Try.func41 rfl rfl Try.ntmps41 rfl ?_
    repeat' (first | (apply gL; first | refine L_nil ?_ | refine L_skip rfl rfl rfl ?_ | (refine l_box rfl rfl rfl (fun _ => ?_)) | (refine l_alloc rfl rfl (fun _ => ?_)) | (apply gSt; first | refine sR ?_ | refine sB ?_ | refine s1 ?_ | (apply L_stW rfl rfl rfl rfl rfl rfl rfl; (· exact up_); (· rfl)) | (apply L_stN rfl rfl rfl rfl rfl rfl rfl; (· exact up_); (· first | exact Nat.le_of_ble_eq_true rfl | (simp; omega)))) | (apply gMk; first | (apply L_mkcap rfl rfl rfl rfl rfl rfl; (· omega); (· omega); (· omega); intro _ _) | (apply L_makeI rfl rfl rfl rfl rfl rfl; (· omega); (· omega); intro _) | (apply L_makeB rfl rfl rfl rfl rfl rfl; (· omega); (· omega); intro _) | (apply L_makeV rfl rfl rfl rfl rfl rfl; (· omega); (· omega); intro _)) | (apply gBs; first | (refine L_bs0 rfl rfl rfl rfl (fun _ => ?_)) | (refine L_bs1 rfl rfl rfl rfl rfl rfl rfl (fun _ => ?_))) | (apply gMm; refine L_mkmap rfl rfl rfl rfl (fun _ => ?_)) | (apply gMu; apply L_mapset rfl rfl rfl rfl rfl rfl; (· exact up_)) | (apply gApp; apply L_appI rfl rfl rfl rfl rfl rfl; (· exact at_); (· exact tk_); (· rfl); (· omega); intro _ _) | (apply gCall; apply L_call rfl rfl rfl rfl rfl; (· first | exact specArenaOkB_c hok at_ at_ hw hx | exact implArenaOkB_c hok at_ at_ hw hc hx | exact l2Start_c om om | exact begin_c at_ om om | exact l2Look_c at_ hw om om | exact head_c at_ at_ hw om om | exact containsI_c at_ hlen); rintro _ _ ⟨rfl, rfl⟩) | refine kV ?_ | ((fail_if_success (refine L_known rfl ?_)); first | (refine L_knowN rfl rfl rfl (fun h => ?_) (fun h => ?_)) | (refine L_knowP rfl rfl rfl (fun h => ?_) (fun h => ?_)) | (refine L_knowB rfl rfl rfl (fun h => ?_) (fun h => ?_)) | (refine L_know rfl rfl rfl (fun h => ?_) (fun h => ?_)))) | (apply gW; first | refine W_seq ?_ | refine W_region ?_ | refine W_ret ?_ | refine W_skip ?_ | refine W_block ?_ | refine W_exit ?_ | refine W_cond1 rfl ?_ | refine W_cond0 rfl ?_ | (refine W_condNP rfl (fun h => ?_) (fun h => ?_)) | (refine W_condP rfl (fun h => ?_) (fun h => ?_)) | (refine W_condN rfl (fun h => ?_) (fun h => ?_)) | (refine W_cond rfl (fun h => ?_) (fun h => ?_)) | (refine W_regionQ rfl (by kernel_rfl) (by kernel_rfl) ?_)) | (first | refine seqR.normal ?_ | refine seqR.ret ?_ | refine seqR.exit ?_ | refine blockR.normal ?_ | refine blockR.ret ?_ | refine blockR.here ?_ | refine blockR.exit rfl ?_ | refine loopR.ret ?_ | refine loopR.exit ?_ | refine midA.ret ?_ | refine midA.exit ?_) | (apply gQ; first | refine Q_nil ?_ | refine Q_skip rfl rfl rfl ?_ | (apply Q_call rfl rfl rfl rfl rfl; (· first | exact specArenaOkB_c hok at_ at_ hw hx | exact implArenaOkB_c hok at_ at_ hw hc hx | exact l2Start_c om om | exact begin_c at_ om om | exact l2Look_c at_ hw om om | exact head_c at_ at_ hw om om | exact containsI_c at_ hlen)) | refine kQ ?_ | ((fail_if_success (refine Q_known rfl ?_)); first | (refine Q_knowN rfl rfl rfl (fun h => ?_) (fun h => ?_)) | (refine Q_knowP rfl rfl rfl (fun h => ?_) (fun h => ?_)) | (refine Q_knowB rfl rfl rfl (fun h => ?_) (fun h => ?_)) | (refine Q_know rfl rfl rfl (fun h => ?_) (fun h => ?_)))))
    exact retR.ret _ _ (ret1 rfl rfl) cvt_ ⟨_, [], rfl, rfl⟩
  | true =>
    obtain ⟨m, hP⟩ := okP_of hok
    have e : A.objR = A.objs := by unfold Ar.objR; rw [hok]; rfl
    rw [e]
    obtain ⟨⟨l1, l2⟩, l3, l4, l5⟩ := hP.lens
    obtain ⟨f1, f2, f3, -⟩ := numF hP.num
    have hol := objl_len (A := A) (A.ws.length + 1) (A.start A.to) f2
    refine enter1 Try.func41 rfl rfl Try.ntmps41 rfl ?_
    repeat' (first | (apply gL; first | refine L_nil ?_ | refine L_skip rfl rfl rfl ?_ | (refine l_box rfl rfl rfl (fun _ => ?_)) | (refine l_alloc rfl rfl (fun _ => ?_)) | (apply gSt; first | refine sR ?_ | refine sB ?_ | refine s1 ?_ | (apply L_stW rfl rfl rfl rfl rfl rfl rfl; (· exact up_); (· rfl)) | (apply L_stN rfl rfl rfl rfl rfl rfl rfl; (· exact up_); (· first | exact Nat.le_of_ble_eq_true rfl | (simp; omega)))) | (apply gMk; first | (apply L_mkcap rfl rfl rfl rfl rfl rfl; (· omega); (· omega); (· omega); intro _ _) | (apply L_makeI rfl rfl rfl rfl rfl rfl; (· omega); (· omega); intro _) | (apply L_makeB rfl rfl rfl rfl rfl rfl; (· omega); (· omega); intro _) | (apply L_makeV rfl rfl rfl rfl rfl rfl; (· omega); (· omega); intro _)) | (apply gBs; first | (refine L_bs0 rfl rfl rfl rfl (fun _ => ?_)) | (refine L_bs1 rfl rfl rfl rfl rfl rfl rfl (fun _ => ?_))) | (apply gMm; refine L_mkmap rfl rfl rfl rfl (fun _ => ?_)) | (apply gMu; apply L_mapset rfl rfl rfl rfl rfl rfl; (· exact up_)) | (apply gApp; apply L_appI rfl rfl rfl rfl rfl rfl; (· exact at_); (· exact tk_); (· rfl); (· omega); intro _ _) | (apply gCall; apply L_call rfl rfl rfl rfl rfl; (· first | exact specArenaOkB_c hok at_ at_ hw hx | exact implArenaOkB_c hok at_ at_ hw hc hx | exact l2Start_c om om | exact begin_c at_ om om | exact l2Look_c at_ hw om om | exact head_c at_ at_ hw om om | exact containsI_c at_ hlen); rintro _ _ ⟨rfl, rfl⟩) | refine kV ?_ | ((fail_if_success (refine L_known rfl ?_)); first | (refine L_knowN rfl rfl rfl (fun h => ?_) (fun h => ?_)) | (refine L_knowP rfl rfl rfl (fun h => ?_) (fun h => ?_)) | (refine L_knowB rfl rfl rfl (fun h => ?_) (fun h => ?_)) | (refine L_know rfl rfl rfl (fun h => ?_) (fun h => ?_)))) | (apply gW; first | refine W_seq ?_ | refine W_region ?_ | refine W_ret ?_ | refine W_skip ?_ | refine W_block ?_ | refine W_exit ?_ | refine W_cond1 rfl ?_ | refine W_cond0 rfl ?_ | (refine W_condNP rfl (fun h => ?_) (fun h => ?_)) | (refine W_condP rfl (fun h => ?_) (fun h => ?_)) | (refine W_condN rfl (fun h => ?_) (fun h => ?_)) | (refine W_cond rfl (fun h => ?_) (fun h => ?_)) | (refine W_regionQ rfl (by kernel_rfl) (by kernel_rfl) ?_)) | (first | refine seqR.normal ?_ | refine seqR.ret ?_ | refine seqR.exit ?_ | refine blockR.normal ?_ | refine blockR.ret ?_ | refine blockR.here ?_ | refine blockR.exit rfl ?_ | refine loopR.ret ?_ | refine loopR.exit ?_ | refine midA.ret ?_ | refine midA.exit ?_) | (apply gQ; first | refine Q_nil ?_ | refine Q_skip rfl rfl rfl ?_ | (apply Q_call rfl rfl rfl rfl rfl; (· first | exact specArenaOkB_c hok at_ at_ hw hx | exact implArenaOkB_c hok at_ at_ hw hc hx | exact l2Start_c om om | exact begin_c at_ om om | exact l2Look_c at_ hw om om | exact head_c at_ at_ hw om om | exact containsI_c at_ hlen)) | refine kQ ?_ | ((fail_if_success (refine Q_known rfl ?_)); first | (refine Q_knowN rfl rfl rfl (fun h => ?_) (fun h => ?_)) | (refine Q_knowP rfl rfl rfl (fun h => ?_) (fun h => ?_)) | (refine Q_knowB rfl rfl rfl (fun h => ?_) (fun h => ?_)) | (refine Q_know rfl rfl rfl (fun h => ?_) (fun h => ?_)))))
    rename_i bx b0
    apply W_loopX (α := List Int × List Value × Nat × Int) (fun y => [(1, .pointer (some ⟨bx, 0, none⟩)), (3, .slice (some ⟨y.2.2.1, 0, none⟩) y.1.length (y.1.length + y.2.1.length)), (4, .int .i64 y.2.2.2)]) (fun y => (y.2.2.1, .cells (rowA .i64 y.1 y.2.1) 3 (0, 0)) :: (bx, aObj C A) :: H)
      (fun y => (∃ f, y.1 ++ A.objl f y.2.2.2 = A.objs ∧ A.top - y.2.2.2 < (f : Int)) ∧ (y.1.length : Int) ≤ y.2.2.2 ∧ 1 ≤ y.2.2.2 ∧ y.2.2.2 ≤ A.top ∧ Tl A y.2.2.2) (fun y => (A.top - y.2.2.2).toNat) ([], [], b0, A.start A.to)
    · exact sub_
    · exact cvt_
    · exact ⟨⟨A.ws.length + 1, rfl, by dsimp only; omega⟩, by simp; omega, by dsimp only; omega, by dsimp only; omega, hP.tl⟩
    rintro ⟨xs, sp, b2, p⟩ ⟨⟨f, hf, hf2⟩, hl, hp, hp2, ht⟩
    dsimp only at hf hf2 hl hp hp2 ht ⊢
    by_cases hpt : p < A.top
    · obtain ⟨s1, s2, s3, s4⟩ := ht.step hpt
      repeat' (first | (apply gL; first | refine L_nil ?_ | refine L_skip rfl rfl rfl ?_ | (refine l_box rfl rfl rfl (fun _ => ?_)) | (refine l_alloc rfl rfl (fun _ => ?_)) | (apply gSt; first | refine sR ?_ | refine sB ?_ | refine s1 ?_ | (apply L_stW rfl rfl rfl rfl rfl rfl rfl; (· exact up_); (· rfl)) | (apply L_stN rfl rfl rfl rfl rfl rfl rfl; (· exact up_); (· first | exact Nat.le_of_ble_eq_true rfl | (simp; omega)))) | (apply gMk; first | (apply L_mkcap rfl rfl rfl rfl rfl rfl; (· omega); (· omega); (· omega); intro _ _) | (apply L_makeI rfl rfl rfl rfl rfl rfl; (· omega); (· omega); intro _) | (apply L_makeB rfl rfl rfl rfl rfl rfl; (· omega); (· omega); intro _) | (apply L_makeV rfl rfl rfl rfl rfl rfl; (· omega); (· omega); intro _)) | (apply gBs; first | (refine L_bs0 rfl rfl rfl rfl (fun _ => ?_)) | (refine L_bs1 rfl rfl rfl rfl rfl rfl rfl (fun _ => ?_))) | (apply gMm; refine L_mkmap rfl rfl rfl rfl (fun _ => ?_)) | (apply gMu; apply L_mapset rfl rfl rfl rfl rfl rfl; (· exact up_)) | (apply gApp; apply L_appI rfl rfl rfl rfl rfl rfl; (· exact at_); (· exact tk_); (· rfl); (· omega); intro _ _) | (apply gCall; apply L_call rfl rfl rfl rfl rfl; (· first | exact specArenaOkB_c hok at_ at_ hw hx | exact implArenaOkB_c hok at_ at_ hw hc hx | exact l2Start_c om om | exact begin_c at_ om om | exact l2Look_c at_ hw om om | exact head_c at_ at_ hw om om | exact containsI_c at_ hlen); rintro _ _ ⟨rfl, rfl⟩) | refine kV ?_ | ((fail_if_success (refine L_known rfl ?_)); first | (refine L_knowN rfl rfl rfl (fun h => ?_) (fun h => ?_)) | (refine L_knowP rfl rfl rfl (fun h => ?_) (fun h => ?_)) | (refine L_knowB rfl rfl rfl (fun h => ?_) (fun h => ?_)) | (refine L_know rfl rfl rfl (fun h => ?_) (fun h => ?_)))) | (apply gW; first | refine W_seq ?_ | refine W_region ?_ | refine W_ret ?_ | refine W_skip ?_ | refine W_block ?_ | refine W_exit ?_ | refine W_cond1 rfl ?_ | refine W_cond0 rfl ?_ | (refine W_condNP rfl (fun h => ?_) (fun h => ?_)) | (refine W_condP rfl (fun h => ?_) (fun h => ?_)) | (refine W_condN rfl (fun h => ?_) (fun h => ?_)) | (refine W_cond rfl (fun h => ?_) (fun h => ?_)) | (refine W_regionQ rfl (by kernel_rfl) (by kernel_rfl) ?_)) | (first | refine seqR.normal ?_ | refine seqR.ret ?_ | refine seqR.exit ?_ | refine blockR.normal ?_ | refine blockR.ret ?_ | refine blockR.here ?_ | refine blockR.exit rfl ?_ | refine loopR.ret ?_ | refine loopR.exit ?_ | refine midA.ret ?_ | refine midA.exit ?_) | (apply gQ; first | refine Q_nil ?_ | refine Q_skip rfl rfl rfl ?_ | (apply Q_call rfl rfl rfl rfl rfl; (· first | exact specArenaOkB_c hok at_ at_ hw hx | exact implArenaOkB_c hok at_ at_ hw hc hx | exact l2Start_c om om | exact begin_c at_ om om | exact l2Look_c at_ hw om om | exact head_c at_ at_ hw om om | exact containsI_c at_ hlen)) | refine kQ ?_ | ((fail_if_success (refine Q_known rfl ?_)); first | (refine Q_knowN rfl rfl rfl (fun h => ?_) (fun h => ?_)) | (refine Q_knowP rfl rfl rfl (fun h => ?_) (fun h => ?_)) | (refine Q_knowB rfl rfl rfl (fun h => ?_) (fun h => ?_)) | (refine Q_know rfl rfl rfl (fun h => ?_) (fun h => ?_)))))
      all_goals (first | (exact absurd hpt (by assumption)) | skip)
      obtain ⟨f', rfl, e⟩ := objl_step hpt hf2
      rw [e] at hf
      apply loopR.mk (xs ++ [p], _, _, p + rs (g A.ws p) + 1)
      · exact sub_
      · exact cvt_
      · exact ⟨⟨f', by simpa using hf, by dsimp only; omega⟩, by simp; omega, by dsimp only; omega, by dsimp only; omega, s4⟩
      · dsimp only; omega
    · have s3 : p = A.top := by omega
      repeat' (first | (apply gL; first | refine L_nil ?_ | refine L_skip rfl rfl rfl ?_ | (refine l_box rfl rfl rfl (fun _ => ?_)) | (refine l_alloc rfl rfl (fun _ => ?_)) | (apply gSt; first | refine sR ?_ | refine sB ?_ | refine s1 ?_ | (apply L_stW rfl rfl rfl rfl rfl rfl rfl; (· exact up_); (· rfl)) | (apply L_stN rfl rfl rfl rfl rfl rfl rfl; (· exact up_); (· first | exact Nat.le_of_ble_eq_true rfl | (simp; omega)))) | (apply gMk; first | (apply L_mkcap rfl rfl rfl rfl rfl rfl; (· omega); (· omega); (· omega); intro _ _) | (apply L_makeI rfl rfl rfl rfl rfl rfl; (· omega); (· omega); intro _) | (apply L_makeB rfl rfl rfl rfl rfl rfl; (· omega); (· omega); intro _) | (apply L_makeV rfl rfl rfl rfl rfl rfl; (· omega); (· omega); intro _)) | (apply gBs; first | (refine L_bs0 rfl rfl rfl rfl (fun _ => ?_)) | (refine L_bs1 rfl rfl rfl rfl rfl rfl rfl (fun _ => ?_))) | (apply gMm; refine L_mkmap rfl rfl rfl rfl (fun _ => ?_)) | (apply gMu; apply L_mapset rfl rfl rfl rfl rfl rfl; (· exact up_)) | (apply gApp; apply L_appI rfl rfl rfl rfl rfl rfl; (· exact at_); (· exact tk_); (· rfl); (· omega); intro _ _) | (apply gCall; apply L_call rfl rfl rfl rfl rfl; (· first | exact specArenaOkB_c hok at_ at_ hw hx | exact implArenaOkB_c hok at_ at_ hw hc hx | exact l2Start_c om om | exact begin_c at_ om om | exact l2Look_c at_ hw om om | exact head_c at_ at_ hw om om | exact containsI_c at_ hlen); rintro _ _ ⟨rfl, rfl⟩) | refine kV ?_ | ((fail_if_success (refine L_known rfl ?_)); first | (refine L_knowN rfl rfl rfl (fun h => ?_) (fun h => ?_)) | (refine L_knowP rfl rfl rfl (fun h => ?_) (fun h => ?_)) | (refine L_knowB rfl rfl rfl (fun h => ?_) (fun h => ?_)) | (refine L_know rfl rfl rfl (fun h => ?_) (fun h => ?_)))) | (apply gW; first | refine W_seq ?_ | refine W_region ?_ | refine W_ret ?_ | refine W_skip ?_ | refine W_block ?_ | refine W_exit ?_ | refine W_cond1 rfl ?_ | refine W_cond0 rfl ?_ | (refine W_condNP rfl (fun h => ?_) (fun h => ?_)) | (refine W_condP rfl (fun h => ?_) (fun h => ?_)) | (refine W_condN rfl (fun h => ?_) (fun h => ?_)) | (refine W_cond rfl (fun h => ?_) (fun h => ?_)) | (refine W_regionQ rfl (by kernel_rfl) (by kernel_rfl) ?_)) | (first | refine seqR.normal ?_ | refine seqR.ret ?_ | refine seqR.exit ?_ | refine blockR.normal ?_ | refine blockR.ret ?_ | refine blockR.here ?_ | refine blockR.exit rfl ?_ | refine loopR.ret ?_ | refine loopR.exit ?_ | refine midA.ret ?_ | refine midA.exit ?_) | (apply gQ; first | refine Q_nil ?_ | refine Q_skip rfl rfl rfl ?_ | (apply Q_call rfl rfl rfl rfl rfl; (· first | exact specArenaOkB_c hok at_ at_ hw hx | exact implArenaOkB_c hok at_ at_ hw hc hx | exact l2Start_c om om | exact begin_c at_ om om | exact l2Look_c at_ hw om om | exact head_c at_ at_ hw om om | exact containsI_c at_ hlen)) | refine kQ ?_ | ((fail_if_success (refine Q_known rfl ?_)); first | (refine Q_knowN rfl rfl rfl (fun h => ?_) (fun h => ?_)) | (refine Q_knowP rfl rfl rfl (fun h => ?_) (fun h => ?_)) | (refine Q_knowB rfl rfl rfl (fun h => ?_) (fun h => ?_)) | (refine Q_know rfl rfl rfl (fun h => ?_) (fun h => ?_)))))
      all_goals (first | (exact absurd (by assumption) hpt) | skip)
      rw [objl_end hpt, List.append_nil] at hf
      subst hf
      exact retR.ret _ _ (ret1 rfl rfl) cvt_ ⟨_, _, rfl, rfl⟩
set_option maxHeartbeats 1000000 in
theorem objects_c {m : List Int} (hP : OkP A m) (hB : At H ba (aObj C A)) (hA : At H C.bw (wObj C A)) (hw : Wf A.ws) :
    Fn Try.prog w0 86 #[.pointer (some ⟨ba, 0, none⟩)] H fun v H' => ∃ b sp, v = .slice (some ⟨b, 0, none⟩) A.objs.length (A.objs.length + List.length sp) ∧ H' = (b, .cells (rowA .i64 A.objs sp) 3 (0, 0)) :: H := by
  obtain ⟨⟨l1, l2⟩, l3, l4, l5⟩ := hP.lens
  obtain ⟨f1, f2, f3, -⟩ := numF hP.num
  refine enter1 Try.func86 rfl rfl Try.ntmps86 rfl ?_
  repeat' (first | (apply gL; first | refine L_nil ?_ | refine L_skip rfl rfl rfl ?_ | (refine l_box rfl rfl rfl (fun _ => ?_)) | (refine l_alloc rfl rfl (fun _ => ?_)) | (apply gSt; first | refine sR ?_ | refine sB ?_ | refine s1 ?_ | (apply L_stW rfl rfl rfl rfl rfl rfl rfl; (· exact up_); (· rfl)) | (apply L_stN rfl rfl rfl rfl rfl rfl rfl; (· exact up_); (· first | exact Nat.le_of_ble_eq_true rfl | (simp; omega)))) | (apply gMk; first | (apply L_mkcap rfl rfl rfl rfl rfl rfl; (· omega); (· omega); (· omega); intro _ _) | (apply L_makeI rfl rfl rfl rfl rfl rfl; (· omega); (· omega); intro _) | (apply L_makeB rfl rfl rfl rfl rfl rfl; (· omega); (· omega); intro _) | (apply L_makeV rfl rfl rfl rfl rfl rfl; (· omega); (· omega); intro _)) | (apply gBs; first | (refine L_bs0 rfl rfl rfl rfl (fun _ => ?_)) | (refine L_bs1 rfl rfl rfl rfl rfl rfl rfl (fun _ => ?_))) | (apply gMm; refine L_mkmap rfl rfl rfl rfl (fun _ => ?_)) | (apply gMu; apply L_mapset rfl rfl rfl rfl rfl rfl; (· exact up_)) | (apply gApp; apply L_appI rfl rfl rfl rfl rfl rfl; (· exact at_); (· exact tk_); (· rfl); (· omega); intro _ _) | (apply gCall; apply L_call rfl rfl rfl rfl rfl; (· first | exact specArenaOkB_c hok at_ at_ hw hx | exact implArenaOkB_c hok at_ at_ hw hc hx | exact l2Start_c om om | exact begin_c at_ om om | exact l2Look_c at_ hw om om | exact head_c at_ at_ hw om om | exact containsI_c at_ hlen); rintro _ _ ⟨rfl, rfl⟩) | refine kV ?_ | ((fail_if_success (refine L_known rfl ?_)); first | (refine L_knowN rfl rfl rfl (fun h => ?_) (fun h => ?_)) | (refine L_knowP rfl rfl rfl (fun h => ?_) (fun h => ?_)) | (refine L_knowB rfl rfl rfl (fun h => ?_) (fun h => ?_)) | (refine L_know rfl rfl rfl (fun h => ?_) (fun h => ?_)))) | (apply gW; first | refine W_seq ?_ | refine W_region ?_ | refine W_ret ?_ | refine W_skip ?_ | refine W_block ?_ | refine W_exit ?_ | refine W_cond1 rfl ?_ | refine W_cond0 rfl ?_ | (refine W_condNP rfl (fun h => ?_) (fun h => ?_)) | (refine W_condP rfl (fun h => ?_) (fun h => ?_)) | (refine W_condN rfl (fun h => ?_) (fun h => ?_)) | (refine W_cond rfl (fun h => ?_) (fun h => ?_)) | (refine W_regionQ rfl (by kernel_rfl) (by kernel_rfl) ?_)) | (first | refine seqR.normal ?_ | refine seqR.ret ?_ | refine seqR.exit ?_ | refine blockR.normal ?_ | refine blockR.ret ?_ | refine blockR.here ?_ | refine blockR.exit rfl ?_ | refine loopR.ret ?_ | refine loopR.exit ?_ | refine midA.ret ?_ | refine midA.exit ?_) | (apply gQ; first | refine Q_nil ?_ | refine Q_skip rfl rfl rfl ?_ | (apply Q_call rfl rfl rfl rfl rfl; (· first | exact specArenaOkB_c hok at_ at_ hw hx | exact implArenaOkB_c hok at_ at_ hw hc hx | exact l2Start_c om om | exact begin_c at_ om om | exact l2Look_c at_ hw om om | exact head_c at_ at_ hw om om | exact containsI_c at_ hlen)) | refine kQ ?_ | ((fail_if_success (refine Q_known rfl ?_)); first | (refine Q_knowN rfl rfl rfl (fun h => ?_) (fun h => ?_)) | (refine Q_knowP rfl rfl rfl (fun h => ?_) (fun h => ?_)) | (refine Q_knowB rfl rfl rfl (fun h => ?_) (fun h => ?_)) | (refine Q_know rfl rfl rfl (fun h => ?_) (fun h => ?_)))))
  rename_i b0
  apply W_loopX (α := List Int × List Value × Nat × Int) (fun y => [(0, .pointer (some ⟨ba, 0, none⟩)), (3, .slice (some ⟨y.2.2.1, 0, none⟩) y.1.length (y.1.length + y.2.1.length)), (4, .int .i64 y.2.2.2)]) (fun y => (y.2.2.1, .cells (rowA .i64 y.1 y.2.1) 3 (0, 0)) :: H)
    (fun y => (∃ f, y.1 ++ A.objl f y.2.2.2 = A.objs ∧ A.top - y.2.2.2 < (f : Int)) ∧ (y.1.length : Int) ≤ y.2.2.2 ∧ 1 ≤ y.2.2.2 ∧ y.2.2.2 ≤ A.top ∧ Tl A y.2.2.2) (fun y => (A.top - y.2.2.2).toNat) ([], [], b0, A.start A.to)
  · exact sub_
  · exact cvt_
  · exact ⟨⟨A.ws.length + 1, rfl, by dsimp only; omega⟩, by simp; omega, by dsimp only; omega, by dsimp only; omega, hP.tl⟩
  rintro ⟨xs, sp, b2, p⟩ ⟨⟨f, hf, hf2⟩, hl, hp, hp2, ht⟩
  dsimp only at hf hf2 hl hp hp2 ht ⊢
  by_cases hpt : p < A.top
  · obtain ⟨s1, s2, s3, s4⟩ := ht.step hpt
    repeat' (first | (apply gL; first | refine L_nil ?_ | refine L_skip rfl rfl rfl ?_ | (refine l_box rfl rfl rfl (fun _ => ?_)) | (refine l_alloc rfl rfl (fun _ => ?_)) | (apply gSt; first | refine sR ?_ | refine sB ?_ | refine s1 ?_ | (apply L_stW rfl rfl rfl rfl rfl rfl rfl; (· exact up_); (· rfl)) | (apply L_stN rfl rfl rfl rfl rfl rfl rfl; (· exact up_); (· first | exact Nat.le_of_ble_eq_true rfl | (simp; omega)))) | (apply gMk; first | (apply L_mkcap rfl rfl rfl rfl rfl rfl; (· omega); (· omega); (· omega); intro _ _) | (apply L_makeI rfl rfl rfl rfl rfl rfl; (· omega); (· omega); intro _) | (apply L_makeB rfl rfl rfl rfl rfl rfl; (· omega); (· omega); intro _) | (apply L_makeV rfl rfl rfl rfl rfl rfl; (· omega); (· omega); intro _)) | (apply gBs; first | (refine L_bs0 rfl rfl rfl rfl (fun _ => ?_)) | (refine L_bs1 rfl rfl rfl rfl rfl rfl rfl (fun _ => ?_))) | (apply gMm; refine L_mkmap rfl rfl rfl rfl (fun _ => ?_)) | (apply gMu; apply L_mapset rfl rfl rfl rfl rfl rfl; (· exact up_)) | (apply gApp; apply L_appI rfl rfl rfl rfl rfl rfl; (· exact at_); (· exact tk_); (· rfl); (· omega); intro _ _) | (apply gCall; apply L_call rfl rfl rfl rfl rfl; (· first | exact specArenaOkB_c hok at_ at_ hw hx | exact implArenaOkB_c hok at_ at_ hw hc hx | exact l2Start_c om om | exact begin_c at_ om om | exact l2Look_c at_ hw om om | exact head_c at_ at_ hw om om | exact containsI_c at_ hlen); rintro _ _ ⟨rfl, rfl⟩) | refine kV ?_ | ((fail_if_success (refine L_known rfl ?_)); first | (refine L_knowN rfl rfl rfl (fun h => ?_) (fun h => ?_)) | (refine L_knowP rfl rfl rfl (fun h => ?_) (fun h => ?_)) | (refine L_knowB rfl rfl rfl (fun h => ?_) (fun h => ?_)) | (refine L_know rfl rfl rfl (fun h => ?_) (fun h => ?_)))) | (apply gW; first | refine W_seq ?_ | refine W_region ?_ | refine W_ret ?_ | refine W_skip ?_ | refine W_block ?_ | refine W_exit ?_ | refine W_cond1 rfl ?_ | refine W_cond0 rfl ?_ | (refine W_condNP rfl (fun h => ?_) (fun h => ?_)) | (refine W_condP rfl (fun h => ?_) (fun h => ?_)) | (refine W_condN rfl (fun h => ?_) (fun h => ?_)) | (refine W_cond rfl (fun h => ?_) (fun h => ?_)) | (refine W_regionQ rfl (by kernel_rfl) (by kernel_rfl) ?_)) | (first | refine seqR.normal ?_ | refine seqR.ret ?_ | refine seqR.exit ?_ | refine blockR.normal ?_ | refine blockR.ret ?_ | refine blockR.here ?_ | refine blockR.exit rfl ?_ | refine loopR.ret ?_ | refine loopR.exit ?_ | refine midA.ret ?_ | refine midA.exit ?_) | (apply gQ; first | refine Q_nil ?_ | refine Q_skip rfl rfl rfl ?_ | (apply Q_call rfl rfl rfl rfl rfl; (· first | exact specArenaOkB_c hok at_ at_ hw hx | exact implArenaOkB_c hok at_ at_ hw hc hx | exact l2Start_c om om | exact begin_c at_ om om | exact l2Look_c at_ hw om om | exact head_c at_ at_ hw om om | exact containsI_c at_ hlen)) | refine kQ ?_ | ((fail_if_success (refine Q_known rfl ?_)); first | (refine Q_knowN rfl rfl rfl (fun h => ?_) (fun h => ?_)) | (refine Q_knowP rfl rfl rfl (fun h => ?_) (fun h => ?_)) | (refine Q_knowB rfl rfl rfl (fun h => ?_) (fun h => ?_)) | (refine Q_know rfl rfl rfl (fun h => ?_) (fun h => ?_)))))
    all_goals (first | (exact absurd hpt (by assumption)) | skip)
    obtain ⟨f', rfl, e⟩ := objl_step hpt hf2
    rw [e] at hf
    rw [show p + rs (g A.ws p) + 1 = p + (rs (g A.ws p) + 1) by omega] at hf s4
    apply loopR.mk (xs ++ [p], _, _, p + (rs (g A.ws p) + 1))
    · exact sub_
    · exact cvt_
    · exact ⟨⟨f', by simpa using hf, by dsimp only; omega⟩, by simp; omega, by dsimp only; omega, by dsimp only; omega, s4⟩
    · dsimp only; omega
  · have s3 : p = A.top := by omega
    repeat' (first | (apply gL; first | refine L_nil ?_ | refine L_skip rfl rfl rfl ?_ | (refine l_box rfl rfl rfl (fun _ => ?_)) | (refine l_alloc rfl rfl (fun _ => ?_)) | (apply gSt; first | refine sR ?_ | refine sB ?_ | refine s1 ?_ | (apply L_stW rfl rfl rfl rfl rfl rfl rfl; (· exact up_); (· rfl)) | (apply L_stN rfl rfl rfl rfl rfl rfl rfl; (· exact up_); (· first | exact Nat.le_of_ble_eq_true rfl | (simp; omega)))) | (apply gMk; first | (apply L_mkcap rfl rfl rfl rfl rfl rfl; (· omega); (· omega); (· omega); intro _ _) | (apply L_makeI rfl rfl rfl rfl rfl rfl; (· omega); (· omega); intro _) | (apply L_makeB rfl rfl rfl rfl rfl rfl; (· omega); (· omega); intro _) | (apply L_makeV rfl rfl rfl rfl rfl rfl; (· omega); (· omega); intro _)) | (apply gBs; first | (refine L_bs0 rfl rfl rfl rfl (fun _ => ?_)) | (refine L_bs1 rfl rfl rfl rfl rfl rfl rfl (fun _ => ?_))) | (apply gMm; refine L_mkmap rfl rfl rfl rfl (fun _ => ?_)) | (apply gMu; apply L_mapset rfl rfl rfl rfl rfl rfl; (· exact up_)) | (apply gApp; apply L_appI rfl rfl rfl rfl rfl rfl; (· exact at_); (· exact tk_); (· rfl); (· omega); intro _ _) | (apply gCall; apply L_call rfl rfl rfl rfl rfl; (· first | exact specArenaOkB_c hok at_ at_ hw hx | exact implArenaOkB_c hok at_ at_ hw hc hx | exact l2Start_c om om | exact begin_c at_ om om | exact l2Look_c at_ hw om om | exact head_c at_ at_ hw om om | exact containsI_c at_ hlen); rintro _ _ ⟨rfl, rfl⟩) | refine kV ?_ | ((fail_if_success (refine L_known rfl ?_)); first | (refine L_knowN rfl rfl rfl (fun h => ?_) (fun h => ?_)) | (refine L_knowP rfl rfl rfl (fun h => ?_) (fun h => ?_)) | (refine L_knowB rfl rfl rfl (fun h => ?_) (fun h => ?_)) | (refine L_know rfl rfl rfl (fun h => ?_) (fun h => ?_)))) | (apply gW; first | refine W_seq ?_ | refine W_region ?_ | refine W_ret ?_ | refine W_skip ?_ | refine W_block ?_ | refine W_exit ?_ | refine W_cond1 rfl ?_ | refine W_cond0 rfl ?_ | (refine W_condNP rfl (fun h => ?_) (fun h => ?_)) | (refine W_condP rfl (fun h => ?_) (fun h => ?_)) | (refine W_condN rfl (fun h => ?_) (fun h => ?_)) | (refine W_cond rfl (fun h => ?_) (fun h => ?_)) | (refine W_regionQ rfl (by kernel_rfl) (by kernel_rfl) ?_)) | (first | refine seqR.normal ?_ | refine seqR.ret ?_ | refine seqR.exit ?_ | refine blockR.normal ?_ | refine blockR.ret ?_ | refine blockR.here ?_ | refine blockR.exit rfl ?_ | refine loopR.ret ?_ | refine loopR.exit ?_ | refine midA.ret ?_ | refine midA.exit ?_) | (apply gQ; first | refine Q_nil ?_ | refine Q_skip rfl rfl rfl ?_ | (apply Q_call rfl rfl rfl rfl rfl; (· first | exact specArenaOkB_c hok at_ at_ hw hx | exact implArenaOkB_c hok at_ at_ hw hc hx | exact l2Start_c om om | exact begin_c at_ om om | exact l2Look_c at_ hw om om | exact head_c at_ at_ hw om om | exact containsI_c at_ hlen)) | refine kQ ?_ | ((fail_if_success (refine Q_known rfl ?_)); first | (refine Q_knowN rfl rfl rfl (fun h => ?_) (fun h => ?_)) | (refine Q_knowP rfl rfl rfl (fun h => ?_) (fun h => ?_)) | (refine Q_knowB rfl rfl rfl (fun h => ?_) (fun h => ?_)) | (refine Q_know rfl rfl rfl (fun h => ?_) (fun h => ?_)))))
    all_goals (first | (exact absurd (by assumption) hpt) | skip)
    rw [objl_end hpt, List.append_nil] at hf
    subst hf
    exact retR.ret _ _ (ret1 rfl rfl) cvt_ ⟨_, _, rfl, rfl⟩
end Go.Proofs.Ytgjangoglconiaa.Eng
