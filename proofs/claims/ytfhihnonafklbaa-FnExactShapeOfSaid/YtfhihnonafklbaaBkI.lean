/- The implementation's texts. -/
import Derived.Test.YtfhihnonafklbaaBkI0
import Derived.Test.YtfhihnonafklbaaBkS10
namespace Go.Proofs.Ytfhihnonafklbaa.Eng
open Go Go.RowKit Go.Proofs.Ytfhihnonafklbaa.Sl Go.Proofs.Ytfhihnonafklbaa.Ar Go.Proofs.Ytfhihnonafklbaa.Base
set_option linter.unusedVariables false
set_option linter.unusedSimpArgs false
set_option maxRecDepth 10000
variable {w0 : World} {H : HL} {C : Cn} {A : Ar} {ba : Nat}
theorem sg_eq {x : Int} (h0 : 0 ≤ x) (h1 : x < 18446744073709551616) (h : 0 ≤ sg x) : sg x = x := by unfold sg at h ⊢; split at h <;> omega
set_option maxHeartbeats 1000000 in
theorem bytes_c {p : Int} (hP : At H ba (aObj C A)) (hA : At H C.bw (wObj C A)) (hw : Wf A.ws) (hm : A.ws.length ≤ 8000) (hT : TextP A p) :
    Fn Try.prog w0 82 #[.pointer (some ⟨ba, 0, none⟩), .int .i64 p] H fun v H' => v = .string (strOfNums (A.text p)) ∧ H' = H := by
  obtain ⟨t1, t2, t3, t4, t5⟩ := hT
  obtain ⟨n, hn⟩ : ∃ n : Nat, sg (g A.ws (p + 1)) = (n : Int) := ⟨(sg (g A.ws (p + 1))).toNat, by omega⟩
  have hwn := hn
  have hsg : sg (g A.ws (p + 1)) = g A.ws (p + 1) := sg_eq (hw (p + 1)).1 (hw (p + 1)).2 t3
  refine enter2 Try.func82 rfl rfl Try.ntmps82 rfl ?_
  have hgn : g A.ws (p + 1) = (n : Int) := by omega
  repeat' (first | (apply gL; first | refine L_nil ?_ | (apply gSt; first | refine sR ?_ | refine sB ?_ | refine s1 ?_ | refine sW ?_ | refine sN ?_) | (apply gMk; first | (apply L_mkcap rfl rfl rfl rfl rfl rfl; (· omega); (· omega); (· omega); intro _ _) | (apply L_makeI rfl rfl rfl rfl rfl rfl; (· omega); (· omega); intro _) | (apply L_makeB rfl rfl rfl rfl rfl rfl; (· omega); (· omega); intro _) | (apply L_makeV rfl rfl rfl rfl rfl rfl; (· omega); (· omega); intro _)) | refine kV ?_ | (apply L_val rfl rfl rfl; (· first | (apply gBin; first | fail | exact v_shr rfl rfl om (by show _ ≤ (64 : Int); omega) | exact v_eqz rfl rfl textB textB) | fail | exact v_lenz rfl | exact v_bts rfl at_))) | (apply gW; first | refine W_seq ?_ | refine W_region ?_ | refine W_ret ?_ | refine W_skip ?_ | refine W_block ?_ | refine W_exit ?_ | refine W_cond1 rfl ?_ | refine W_cond0 rfl ?_ | refine cW (fun h => ?_) fun h => ?_) | (first | refine seqR.normal ?_ | refine seqR.ret ?_ | refine seqR.exit ?_ | refine blockR.normal ?_ | refine blockR.ret ?_ | refine blockR.here ?_ | refine blockR.exit rfl ?_ | refine loopR.ret ?_ | refine loopR.exit ?_) | fail)
  rw [hgn]
  repeat' (first | (apply gL; first | refine L_nil ?_ | (apply gSt; first | refine sR ?_ | refine sB ?_ | refine s1 ?_ | refine sW ?_ | refine sN ?_) | (apply gMk; first | (apply L_mkcap rfl rfl rfl rfl rfl rfl; (· omega); (· omega); (· omega); intro _ _) | (apply L_makeI rfl rfl rfl rfl rfl rfl; (· omega); (· omega); intro _) | (apply L_makeB rfl rfl rfl rfl rfl rfl; (· omega); (· omega); intro _) | (apply L_makeV rfl rfl rfl rfl rfl rfl; (· omega); (· omega); intro _)) | refine kV ?_ | (apply L_val rfl rfl rfl; (· first | (apply gBin; first | fail | exact v_shr rfl rfl om (by show _ ≤ (64 : Int); omega) | exact v_eqz rfl rfl textB textB) | fail | exact v_lenz rfl | exact v_bts rfl at_))) | (apply gW; first | refine W_seq ?_ | refine W_region ?_ | refine W_ret ?_ | refine W_skip ?_ | refine W_block ?_ | refine W_exit ?_ | refine W_cond1 rfl ?_ | refine W_cond0 rfl ?_ | refine cW (fun h => ?_) fun h => ?_) | (first | refine seqR.normal ?_ | refine seqR.ret ?_ | refine seqR.exit ?_ | refine blockR.normal ?_ | refine blockR.ret ?_ | refine blockR.here ?_ | refine blockR.exit rfl ?_ | refine loopR.ret ?_ | refine loopR.exit ?_) | fail)
  rename_i bx
  apply W_loopX (α := Int × List Int) (fun y => [(0, .pointer (some ⟨ba, 0, none⟩)), (1, .int .i64 p), (6, .slice (some ⟨bx, 0, none⟩) n n), (20, .int .i64 (n : Int)), (21, .int .i64 y.1)]) (fun y => (bx, .cells (rowA .u8 y.2 []) 5 (0, 0)) :: H)
    (fun y => 0 ≤ y.1 ∧ y.1 ≤ n ∧ y.2.length = n ∧ ∀ j, 0 ≤ j → j < y.1 → g y.2 j = A.byte p j) (fun y => (n - y.1).toNat) (0, List.replicate n 0)
  · exact sub_
  · exact cvt_
  · exact ⟨by dsimp only; omega, by dsimp only; omega, by simp, fun j h1 h2 => by dsimp only at h2; omega⟩
  rintro ⟨i, xs⟩ ⟨hi, hi2, hl, hx⟩
  dsimp only at hi hi2 hl hx ⊢
  repeat' (first | (apply gL; first | refine L_nil ?_ | (apply gSt; first | refine sR ?_ | refine sB ?_ | refine s1 ?_ | refine sW ?_ | refine sN ?_) | (apply gMk; first | (apply L_mkcap rfl rfl rfl rfl rfl rfl; (· omega); (· omega); (· omega); intro _ _) | (apply L_makeI rfl rfl rfl rfl rfl rfl; (· omega); (· omega); intro _) | (apply L_makeB rfl rfl rfl rfl rfl rfl; (· omega); (· omega); intro _) | (apply L_makeV rfl rfl rfl rfl rfl rfl; (· omega); (· omega); intro _)) | refine kV ?_ | (apply L_val rfl rfl rfl; (· first | (apply gBin; first | fail | exact v_shr rfl rfl om (by show _ ≤ (64 : Int); omega) | exact v_eqz rfl rfl textB textB) | fail | exact v_lenz rfl | exact v_bts rfl at_))) | (apply gW; first | refine W_seq ?_ | refine W_region ?_ | refine W_ret ?_ | refine W_skip ?_ | refine W_block ?_ | refine W_exit ?_ | refine W_cond1 rfl ?_ | refine W_cond0 rfl ?_ | refine cW (fun h => ?_) fun h => ?_) | (first | refine seqR.normal ?_ | refine seqR.ret ?_ | refine seqR.exit ?_ | refine blockR.normal ?_ | refine blockR.ret ?_ | refine blockR.here ?_ | refine blockR.exit rfl ?_ | refine loopR.ret ?_ | refine loopR.exit ?_) | fail)
  · apply loopR.mk (i + 1, _)
    · exact sub_
    · exact cvt_
    · refine ⟨by dsimp only; omega, by dsimp only; omega, by simp [hl], fun j h1 h2 => ?_⟩
      dsimp only at h2 ⊢
      rw [g_set hi (by omega) h1]
      split
      · rename_i e; subst e; rw [wrap_u8]; rfl
      · exact hx j h1 (by omega)
    · dsimp only; omega
  · have e : xs = A.text p := g_ext (by have := text_len (A := A) (p := p) (by omega); omega) (fun j h1 h2 => by rw [hx j h1 (by omega), g_text h1 (by omega)])
    subst e
    subst hl
    repeat' (first | (apply gL; first | refine L_nil ?_ | (apply gSt; first | refine sR ?_ | refine sB ?_ | refine s1 ?_ | refine sW ?_ | refine sN ?_) | (apply gMk; first | (apply L_mkcap rfl rfl rfl rfl rfl rfl; (· omega); (· omega); (· omega); intro _ _) | (apply L_makeI rfl rfl rfl rfl rfl rfl; (· omega); (· omega); intro _) | (apply L_makeB rfl rfl rfl rfl rfl rfl; (· omega); (· omega); intro _) | (apply L_makeV rfl rfl rfl rfl rfl rfl; (· omega); (· omega); intro _)) | refine kV ?_ | (apply L_val rfl rfl rfl; (· first | (apply gBin; first | fail | exact v_shr rfl rfl om (by show _ ≤ (64 : Int); omega) | exact v_eqz rfl rfl textB textB) | fail | exact v_lenz rfl | exact v_bts rfl at_))) | (apply gW; first | refine W_seq ?_ | refine W_region ?_ | refine W_ret ?_ | refine W_skip ?_ | refine W_block ?_ | refine W_exit ?_ | refine W_cond1 rfl ?_ | refine W_cond0 rfl ?_ | refine cW (fun h => ?_) fun h => ?_) | (first | refine seqR.normal ?_ | refine seqR.ret ?_ | refine seqR.exit ?_ | refine blockR.normal ?_ | refine blockR.ret ?_ | refine blockR.here ?_ | refine blockR.exit rfl ?_ | refine loopR.ret ?_ | refine loopR.exit ?_) | fail)
    refine retR.ret _ _ (ret1 rfl rfl) cv_ ⟨?_, rfl⟩
    rfl
end Go.Proofs.Ytfhihnonafklbaa.Eng
namespace Go.Proofs.Ytfhihnonafklbaa.Eng
open Go Go.RowKit Go.Proofs.Ytfhihnonafklbaa.Sl Go.Proofs.Ytfhihnonafklbaa.Ar Go.Proofs.Ytfhihnonafklbaa.Base
set_option linter.unusedVariables false
set_option linter.unusedSimpArgs false
set_option maxRecDepth 10000
variable {w0 : World} {H : HL} {C : Cn} {A : Ar} {ba : Nat}
/-- the implementation finds an object where the reference does -/
def PlaceP (A : Ar) (n : Int) : Prop := (if inB n (A.start (1 - A.to)) ((1 - A.to + 1) * A.semi - 1) = true then A.where_ n else n) = A.where_ n
theorem place2_c {t n : Int} (hP : At H ba (aObj C A)) (hA : At H C.bw (wObj C A)) (hw : Wf A.ws) (hh : A.to = 0 ∨ A.to = 1) (hs : 256 ≤ A.semi ∧ A.semi ≤ 4000) (h0 : 0 ≤ n) (h1 : n < (A.ws.length : Int)) (hp : PlaceP A n) :
    Fn Try.prog w0 80 #[.pointer (some ⟨ba, 0, none⟩), .agg #[.int .i64 t, .int .i64 n]] H fun v H' => v = .int .i64 (A.where_ n) ∧ H' = H := by
  have := place_c (w0 := w0) (t := t) hP hA hw hh hs h0 h1
  rwa [hp] at this
theorem isame_c {t n t' n' : Int} (hP : At H ba (aObj C A)) (hA : At H C.bw (wObj C A)) (hw : Wf A.ws) (hm : A.ws.length ≤ 8000) (hh : A.to = 0 ∨ A.to = 1) (hs : 256 ≤ A.semi ∧ A.semi ≤ 4000) (h1 : KeyP A t n) (h2 : KeyP A t' n') (p1 : kd t ≠ 0 → PlaceP A n) (p2 : kd t' ≠ 0 → PlaceP A n') :
    Fn Try.prog w0 98 #[.pointer (some ⟨ba, 0, none⟩), .agg #[.int .i64 t, .int .i64 n], .agg #[.int .i64 t', .int .i64 n']] H fun v H' => v = .bool (A.same t n t' n') ∧ H' = H := by
  obtain ⟨k1, k2⟩ := h1
  obtain ⟨k3, k4⟩ := h2
  by_cases ht : t = t'
  · subst ht
    refine enter3 Try.func98 rfl rfl Try.ntmps98 rfl ?_
    repeat' (first | ((first | (apply gCall; apply L_call rfl rfl rfl rfl rfl) | (apply gQC; apply Q_call rfl rfl rfl rfl rfl)); (· first | exact implIsRef_c _ _ | exact place2_c at_ at_ hw hh hs om om (p1 (by first | assumption | omega)) | exact place2_c at_ at_ hw hh hs om om (p2 (by first | assumption | omega)) | exact bytes_c at_ at_ hw om (k2 (by assumption)) | exact bytes_c at_ at_ hw om (k4 (by assumption)) | exact head_c at_ at_ hw om om); try rintro _ _ ⟨rfl, rfl⟩) | (apply gL; first | refine L_nil ?_ | refine yS ?_ | refine yX fun _ => ?_ | refine kV ?_ | (apply L_val rfl rfl rfl; (· first | (apply gBin; first | fail | exact v_eqz rfl rfl textB textB) | fail | exact v_lenz rfl | exact v_sidx rfl rfl hXb om om)) | ((fail_if_success (refine L_known rfl ?_)); refine yW (fun h => ?_) fun h => ?_)) | (apply gW; first | refine W_seq ?_ | refine W_region ?_ | refine W_ret ?_ | refine W_skip ?_ | refine W_block ?_ | refine W_exit ?_ | refine W_cond1 rfl ?_ | refine W_cond0 rfl ?_ | refine cW (fun h => ?_) fun h => ?_ | refine wQ ?_) | (first | refine seqR.normal ?_ | refine seqR.ret ?_ | refine seqR.exit ?_ | refine blockR.normal ?_ | refine blockR.ret ?_ | refine blockR.here ?_ | refine blockR.exit rfl ?_ | refine loopR.ret ?_ | refine loopR.exit ?_) | (apply gQ; first | refine Q_nil ?_ | refine Q_skip rfl rfl rfl ?_ | refine kQ ?_ | (apply Q_val rfl rfl rfl; (· first | (apply gBin; first | fail | exact v_eqz rfl rfl textB textB) | fail | exact v_lenz rfl | exact v_sidx rfl rfl hXb om om)) | ((fail_if_success (refine Q_known rfl ?_)); refine zW (fun h => ?_) fun h => ?_)) | fail)
    all_goals refine retR.ret _ _ (ret1 rfl rfl) cv_ ⟨?_, rfl⟩
    · exact absurd rfl h
    · unfold Ar.same isRef; rw [if_pos rfl, if_neg (by simpa using h)]
    · unfold Ar.same isRef; rw [if_pos rfl, if_pos (by simpa)]
      split
      · rw [h]; simp
      · rw [h]; simp
    · unfold Ar.same isRef; rw [if_pos rfl, if_pos (by simpa), if_pos h]
    · unfold Ar.same isRef; rw [if_pos rfl, if_pos (by simpa), if_neg h]; exact b0 (by assumption)
  · refine enter3 Try.func98 rfl rfl Try.ntmps98 rfl ?_
    repeat' (first | ((first | (apply gCall; apply L_call rfl rfl rfl rfl rfl) | (apply gQC; apply Q_call rfl rfl rfl rfl rfl)); (· first | exact implIsRef_c _ _ | exact place2_c at_ at_ hw hh hs om om (p1 (by first | assumption | omega)) | exact place2_c at_ at_ hw hh hs om om (p2 (by first | assumption | omega)) | exact bytes_c at_ at_ hw om (k2 (by assumption)) | exact bytes_c at_ at_ hw om (k4 (by assumption)) | exact head_c at_ at_ hw om om); try rintro _ _ ⟨rfl, rfl⟩) | (apply gL; first | refine L_nil ?_ | refine yS ?_ | refine yX fun _ => ?_ | refine kV ?_ | (apply L_val rfl rfl rfl; (· first | (apply gBin; first | fail | exact v_eqz rfl rfl textB textB) | fail | exact v_lenz rfl | exact v_sidx rfl rfl hXb om om)) | ((fail_if_success (refine L_known rfl ?_)); refine yW (fun h => ?_) fun h => ?_)) | (apply gW; first | refine W_seq ?_ | refine W_region ?_ | refine W_ret ?_ | refine W_skip ?_ | refine W_block ?_ | refine W_exit ?_ | refine W_cond1 rfl ?_ | refine W_cond0 rfl ?_ | refine cW (fun h => ?_) fun h => ?_ | refine wQ ?_) | (first | refine seqR.normal ?_ | refine seqR.ret ?_ | refine seqR.exit ?_ | refine blockR.normal ?_ | refine blockR.ret ?_ | refine blockR.here ?_ | refine blockR.exit rfl ?_ | refine loopR.ret ?_ | refine loopR.exit ?_) | (apply gQ; first | refine Q_nil ?_ | refine Q_skip rfl rfl rfl ?_ | refine kQ ?_ | (apply Q_val rfl rfl rfl; (· first | (apply gBin; first | fail | exact v_eqz rfl rfl textB textB) | fail | exact v_lenz rfl | exact v_sidx rfl rfl hXb om om)) | ((fail_if_success (refine Q_known rfl ?_)); refine zW (fun h => ?_) fun h => ?_)) | fail)
    all_goals (try exact absurd (by assumption) ht)
    refine retR.ret _ _ (ret1 rfl rfl) cv_ ⟨?_, rfl⟩
    unfold Ar.same; rw [if_neg ht]
set_option maxHeartbeats 1000000 in
theorem ihash_c {t n : Int} (hP : At H ba (aObj C A)) (hA : At H C.bw (wObj C A)) (hw : Wf A.ws) (hm : A.ws.length ≤ 8000) (hh : A.to = 0 ∨ A.to = 1) (hs : 256 ≤ A.semi ∧ A.semi ≤ 4000) (hkt : KeyP A t n) (ht : t ≠ 0) (hv : ValP t n) (h8 : t ≠ 8) (h9 : t ≠ 9) (p1 : kd t ≠ 0 → PlaceP A n) :
    Fn Try.prog w0 97 #[.pointer (some ⟨ba, 0, none⟩), .agg #[.int .i64 t, .int .i64 n]] H fun v H' => v = .int .i64 (A.hash t n) ∧ H' = H := by
  obtain ⟨k1, k2⟩ := hkt
  have hwr : IntKind.u64.wrap n = n % 18446744073709551616 := IntKind.wrap_u64 n
  have hkd : (t = 1 ∨ t = 2 ∨ t = 7) ∨ kd t ≠ 0 ∧ (t = 3 ∨ t = 4 ∨ t = 5 ∨ t = 6) := by
    by_cases h : kd t ≠ 0
    · have := kindOf_ne.1 h; exact .inr ⟨h, by omega⟩
    · have := mt kindOf_ne.2 h; unfold ValP at hv; omega
  have h7 : t = 7 → 1 ≤ n ∧ n ≤ 20 := by intro h; unfold ValP at hv; omega
  have hk0 : t = 3 ∨ t = 4 ∨ t = 5 ∨ t = 6 → kd t ≠ 0 := by intro h; exact kindOf_ne.2 (by omega)
  refine enter2 Try.func97 rfl rfl Try.ntmps97 rfl ?_
  repeat' (first | ((first | (apply gCall; apply L_call rfl rfl rfl rfl rfl) | (apply gQC; apply Q_call rfl rfl rfl rfl rfl)); (· first | exact implIsRef_c _ _ | exact place2_c at_ at_ hw hh hs om om (p1 (by first | assumption | omega)) | exact place2_c at_ at_ hw hh hs om om (p2 (by first | assumption | omega)) | exact bytes_c at_ at_ hw om (k2 (by assumption)) | exact bytes_c at_ at_ hw om (k4 (by assumption)) | exact head_c at_ at_ hw om om); try rintro _ _ ⟨rfl, rfl⟩) | (apply gL; first | refine L_nil ?_ | refine yS ?_ | refine yX fun _ => ?_ | refine kV ?_ | (apply L_val rfl rfl rfl; (· first | (apply gBin; first | fail | exact v_eqz rfl rfl textB textB) | fail | exact v_lenz rfl | exact v_sidx rfl rfl hXb om om)) | ((fail_if_success (refine L_known rfl ?_)); refine yW (fun h => ?_) fun h => ?_)) | (apply gW; first | refine W_seq ?_ | refine W_region ?_ | refine W_ret ?_ | refine W_skip ?_ | refine W_block ?_ | refine W_exit ?_ | refine W_cond1 rfl ?_ | refine W_cond0 rfl ?_ | refine cW (fun h => ?_) fun h => ?_ | refine wQ ?_) | (first | refine seqR.normal ?_ | refine seqR.ret ?_ | refine seqR.exit ?_ | refine blockR.normal ?_ | refine blockR.ret ?_ | refine blockR.here ?_ | refine blockR.exit rfl ?_ | refine loopR.ret ?_ | refine loopR.exit ?_) | (apply gQ; first | refine Q_nil ?_ | refine Q_skip rfl rfl rfl ?_ | refine kQ ?_ | (apply Q_val rfl rfl rfl; (· first | (apply gBin; first | fail | exact v_eqz rfl rfl textB textB) | fail | exact v_lenz rfl | exact v_sidx rfl rfl hXb om om)) | ((fail_if_success (refine Q_known rfl ?_)); refine zW (fun h => ?_) fun h => ?_)) | fail)
  · refine retR.ret _ _ (ret1 rfl rfl) cv_ ⟨?_, rfl⟩
    unfold Ar.hash; rw [if_neg (by omega), if_pos h, hwr]
  · refine retR.ret _ _ (ret1 rfl rfl) cv_ ⟨?_, rfl⟩
    unfold Ar.hash; rw [if_neg (by omega), if_neg (by omega), if_pos h]
  · generalize hX : A.text (A.where_ n) = X
    have hXb : Byt X := hX ▸ textB
    have hXl : X.length ≤ 160 := by
      obtain ⟨_, _, h3, h4, _⟩ := k2 h
      have := text_len h3
      rw [hX] at this; omega
    apply W_loopX (α := Int) (fun y => [(6, .string (strOfNums X)), (5, .int .i64 (hashText (X.take y.toNat))), (30, .int .i64 (X.length : Int)), (31, .int .i64 y)]) (fun _ => H)
      (fun y => 0 ≤ y ∧ y ≤ X.length) (fun y => (X.length - y).toNat) 0
    · exact sub_
    · exact cvt_
    · exact ⟨by omega, by omega⟩
    rintro i ⟨hi, hi2⟩
    have hr := hashText_r (l := X.take i.toNat) (fun x hx => (hXb x (List.mem_of_mem_take hx)).1)
    have hgi : i < (X.length : Int) → 0 ≤ g X i ∧ g X i < 256 := fun h => hXb _ (g_mem hi h)
    repeat' (first | ((first | (apply gCall; apply L_call rfl rfl rfl rfl rfl) | (apply gQC; apply Q_call rfl rfl rfl rfl rfl)); (· first | exact implIsRef_c _ _ | exact place2_c at_ at_ hw hh hs om om (p1 (by first | assumption | omega)) | exact place2_c at_ at_ hw hh hs om om (p2 (by first | assumption | omega)) | exact bytes_c at_ at_ hw om (k2 (by assumption)) | exact bytes_c at_ at_ hw om (k4 (by assumption)) | exact head_c at_ at_ hw om om); try rintro _ _ ⟨rfl, rfl⟩) | (apply gL; first | refine L_nil ?_ | refine yS ?_ | refine yX fun _ => ?_ | refine kV ?_ | (apply L_val rfl rfl rfl; (· first | (apply gBin; first | fail | exact v_eqz rfl rfl textB textB) | fail | exact v_lenz rfl | exact v_sidx rfl rfl hXb om om)) | ((fail_if_success (refine L_known rfl ?_)); refine yW (fun h => ?_) fun h => ?_)) | (apply gW; first | refine W_seq ?_ | refine W_region ?_ | refine W_ret ?_ | refine W_skip ?_ | refine W_block ?_ | refine W_exit ?_ | refine W_cond1 rfl ?_ | refine W_cond0 rfl ?_ | refine cW (fun h => ?_) fun h => ?_ | refine wQ ?_) | (first | refine seqR.normal ?_ | refine seqR.ret ?_ | refine seqR.exit ?_ | refine blockR.normal ?_ | refine blockR.ret ?_ | refine blockR.here ?_ | refine blockR.exit rfl ?_ | refine loopR.ret ?_ | refine loopR.exit ?_) | (apply gQ; first | refine Q_nil ?_ | refine Q_skip rfl rfl rfl ?_ | refine kQ ?_ | (apply Q_val rfl rfl rfl; (· first | (apply gBin; first | fail | exact v_eqz rfl rfl textB textB) | fail | exact v_lenz rfl | exact v_sidx rfl rfl hXb om om)) | ((fail_if_success (refine Q_known rfl ?_)); refine zW (fun h => ?_) fun h => ?_)) | fail)
    · apply loopR.mk (i + 1)
      · exact ⟨rfl, by rw [hash_step hi h]; rfl, rfl, rfl, trivial⟩
      · exact cvt_
      · exact ⟨by omega, by omega⟩
      · (try dsimp only); omega
    · refine retR.ret _ _ (ret1 rfl rfl) cv_ ⟨?_, rfl⟩
      unfold Ar.hash
      rw [if_neg (by omega), if_neg (by omega), if_neg (by omega), if_pos (by assumption), hX, List.take_of_length_le (by omega)]
  all_goals refine retR.ret _ _ (ret1 rfl rfl) cv_ ⟨?_, rfl⟩
  all_goals unfold Ar.hash
  all_goals (first
    | (rw [if_neg (by omega), if_neg (by omega), if_neg (by omega), if_neg (by omega)]; rfl)
    | (rw [if_pos (by omega)]))
end Go.Proofs.Ytfhihnonafklbaa.Eng
namespace Go.Proofs.Ytfhihnonafklbaa.Eng
open Go Go.RowKit Go.Proofs.Ytfhihnonafklbaa.Sl Go.Proofs.Ytfhihnonafklbaa.Ar Go.Proofs.Ytfhihnonafklbaa.Base
set_option linter.unusedVariables false
set_option linter.unusedSimpArgs false
set_option maxRecDepth 10000
variable {w0 : World} {H : HL} {C : Cn} {A : Ar} {ba : Nat}
theorem val2_c {p : Int} {rc : Nat} {rp : Option Addr} (hP : At H ba (aObjG C A rp rc)) (hA : At H C.bw (wObj C A)) (hw : Wf A.ws) (hr : rv A.ws p = true) (h0 : 0 ≤ p) (h1 : p + 1 < (A.ws.length : Int)) (hm : A.ws.length ≤ 8000) :
    Fn Try.prog w0 83 #[.pointer (some ⟨ba, 0, none⟩), .int .i64 p] H fun v H' => v = .agg #[.int .i64 (rvT A.ws p), .int .i64 (rvN A.ws p)] ∧ H' = H := by
  have := val_c (w0 := w0) hP hA hw h0 h1 hm
  have e1 : rvT A.ws p = g A.ws p := by unfold rvT; rw [if_pos hr]
  have e2 : rvN A.ws p = sg (g A.ws (p + 1)) := by unfold rvN; rw [if_pos hr]
  have e3 : sg (g A.ws p) = g A.ws p := by
    have h9 : g A.ws p ≤ 9 := by unfold rv at hr; rw [Bool.and_eq_true] at hr; exact of_decide_eq_true hr.1
    unfold sg; rw [if_pos (by omega)]
  rwa [e1, e2, ← e3]
set_option maxHeartbeats 1000000 in
theorem entry_c {b t x n : Int} (hP : At H ba (aObj C A)) (hA : At H C.bw (wObj C A)) (hw : Wf A.ws) (hm : A.ws.length ≤ 8000) (hh : A.to = 0 ∨ A.to = 1) (hs : 256 ≤ A.semi ∧ A.semi ≤ 4000)
    (hb : 0 ≤ b) (hn : n = rs (g A.ws b) / 4) (hn1 : 1 ≤ n) (hbn : b + 4 * n < A.ws.length)
    (hR : ∀ i : Int, 0 ≤ i → i < n → rv A.ws (b + 1 + 4 * i) = true)
    (hK : ∀ i : Int, 0 ≤ i → i < n → KeyP A (rvT A.ws (b + 1 + 4 * i)) (rvN A.ws (b + 1 + 4 * i)))
    (hQ : ∀ i : Int, 0 ≤ i → i < n → kd (rvT A.ws (b + 1 + 4 * i)) ≠ 0 → PlaceP A (rvN A.ws (b + 1 + 4 * i)))
    (hkt : KeyP A t x) (ht : t ≠ 0) (hv : ValP t x) (h8 : t ≠ 8) (h9 : t ≠ 9) (p1 : kd t ≠ 0 → PlaceP A x) :
    Fn Try.prog w0 91 #[.pointer (some ⟨ba, 0, none⟩), .int .i64 b, .agg #[.int .i64 t, .int .i64 x]] H fun v H' => v = .tuple #[.int .i64 (A.find b n t x).1, .bool (A.find b n t x).2] ∧ H' = H := by
  have hh0 : 0 ≤ A.hash t x := hash_r ht hv
  have hrr := rsR (g A.ws b)
  have hf : A.find b n t x = A.findFrom b n t x n.toNat (A.hash t x % n) := by unfold Ar.find; rw [if_neg (by omega)]
  refine enter3 Try.func91 rfl rfl Try.ntmps91 rfl ?_
  repeat' (first | (apply gCall; apply L_call rfl rfl rfl rfl rfl; (· first | exact head_c at_ at_ hw om om | exact val2_c at_ at_ hw (hR _ om om) om om om | exact ihash_c at_ at_ hw hm hh hs hkt ht hv h8 h9 p1 | exact isame_c at_ at_ hw hm hh hs (hK _ om om) hkt (hQ _ om om) p1); rintro _ _ ⟨rfl, rfl⟩) | (apply gL; first | refine L_nil ?_ | refine yX fun _ => ?_ | refine yA fun _ => ?_ | (apply gSt; first | refine sR ?_ | refine sB ?_ | refine s1 ?_ | refine sW ?_ | refine sN ?_) | refine kV ?_) | (apply gW; first | refine W_seq ?_ | refine W_region ?_ | refine W_ret ?_ | refine W_skip ?_ | refine W_block ?_ | refine W_exit ?_ | refine W_cond1 rfl ?_ | refine W_cond0 rfl ?_ | refine cW (fun h => ?_) fun h => ?_) | (first | refine seqR.normal ?_ | refine seqR.ret ?_ | refine seqR.exit ?_ | refine blockR.normal ?_ | refine blockR.ret ?_ | refine blockR.here ?_ | refine blockR.exit rfl ?_ | refine loopR.ret ?_ | refine loopR.exit ?_) | fail)
  rename_i bx
  apply W_loopX (α := Int × Int) (fun y => [(0, .pointer (some ⟨ba, 0, none⟩)), (1, .int .i64 b), (8, .int .i64 n), (5, .pointer (some ⟨bx, 0, none⟩)), (9, .int .i64 y.2), (21, .int .i64 n), (22, .int .i64 y.1)]) (fun _ => (bx, .cells #[.int .i64 t, .int .i64 x] 46 (0, 0)) :: H)
    (fun y => 0 ≤ y.1 ∧ y.1 ≤ n ∧ 0 ≤ y.2 ∧ y.2 < n ∧ A.find b n t x = A.findFrom b n t x (n - y.1).toNat y.2) (fun y => (n - y.1).toNat) (0, A.hash t x % n)
  · subst hn; exact sub_
  · exact cvt_
  · have := Int.emod_nonneg (A.hash t x) (show n ≠ 0 by omega)
    have := Int.emod_lt_of_pos (A.hash t x) (show 0 < n by omega)
    exact ⟨by dsimp only; omega, by dsimp only; omega, by dsimp only; omega, by dsimp only; omega, by dsimp only; rw [hf]; congr 1; omega⟩
  rintro ⟨s, i⟩ ⟨hj, hj2, hi, hi2, hf2⟩
  dsimp only at hj hj2 hi hi2 hf2 ⊢
  have hstep : s < n → A.find b n t x = if A.keyT b i = 0 then (i, false) else if A.same (A.keyT b i) (A.keyN b i) t x = true then (i, true) else A.findFrom b n t x (n - (s + 1)).toNat ((i + 1) % n) := fun h => by
    rw [hf2, show (n - s).toNat = (n - (s + 1)).toNat + 1 by omega, Ar.findFrom]
  repeat' (first | (apply gCall; apply L_call rfl rfl rfl rfl rfl; (· first | exact head_c at_ at_ hw om om | exact val2_c at_ at_ hw (hR _ om om) om om om | exact ihash_c at_ at_ hw hm hh hs hkt ht hv h8 h9 p1 | exact isame_c at_ at_ hw hm hh hs (hK _ om om) hkt (hQ _ om om) p1); rintro _ _ ⟨rfl, rfl⟩) | (apply gL; first | refine L_nil ?_ | refine yX fun _ => ?_ | refine yA fun _ => ?_ | (apply gSt; first | refine sR ?_ | refine sB ?_ | refine s1 ?_ | refine sW ?_ | refine sN ?_) | refine kV ?_) | (apply gW; first | refine W_seq ?_ | refine W_region ?_ | refine W_ret ?_ | refine W_skip ?_ | refine W_block ?_ | refine W_exit ?_ | refine W_cond1 rfl ?_ | refine W_cond0 rfl ?_ | refine cW (fun h => ?_) fun h => ?_) | (first | refine seqR.normal ?_ | refine seqR.ret ?_ | refine seqR.exit ?_ | refine blockR.normal ?_ | refine blockR.ret ?_ | refine blockR.here ?_ | refine blockR.exit rfl ?_ | refine loopR.ret ?_ | refine loopR.exit ?_) | fail)
  · refine retR.ret _ _ (ret2 rfl rfl rfl) cv_ ⟨?_, rfl⟩
    rw [hstep (by omega), if_pos (show A.keyT b i = 0 from h)]
  · refine retR.ret _ _ (ret2 rfl rfl rfl) cv_ ⟨?_, rfl⟩
    rw [hstep (by omega), if_neg (show ¬ A.keyT b i = 0 by assumption), if_pos (show A.same (A.keyT b i) (A.keyN b i) t x = true from h)]
  · have h2 := Int.emod_nonneg (i + 1) (show n ≠ 0 by omega)
    have h3 := Int.emod_lt_of_pos (i + 1) (show 0 < n by omega)
    have h4 : ¬ A.same (A.keyT b i) (A.keyN b i) t x = true := by
      rw [show A.same (A.keyT b i) (A.keyN b i) t x = false from h]; decide
    rw [if_neg (show ¬ A.keyT b i = 0 by assumption), if_neg h4] at hstep
    apply loopR.mk (s + 1, (i + 1) % n)
    · exact sub_
    · exact cvt_
    · exact ⟨by dsimp only; omega, by dsimp only; omega, by dsimp only; omega, by dsimp only; omega, hstep (by omega)⟩
    · dsimp only; omega
  · refine retR.ret _ _ (ret2 rfl rfl rfl) cv_ ⟨?_, rfl⟩
    rw [hf2, show (n - s).toNat = 0 by omega, Ar.findFrom]
end Go.Proofs.Ytfhihnonafklbaa.Eng
