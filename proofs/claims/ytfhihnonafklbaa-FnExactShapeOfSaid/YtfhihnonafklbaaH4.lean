/- The implementation's numbers of nodes: slots, (*shaper).val. -/
import Derived.Test.YtfhihnonafklbaaH1
import Derived.Test.YtfhihnonafklbaaHN
import Derived.Test.YtfhihnonafklbaaU0b
import Derived.Test.YtfhihnonafklbaaBkI
namespace Go.Proofs.Ytfhihnonafklbaa.Eng
open Go Go.RowKit Go.Proofs.Ytfhihnonafklbaa.Sl Go.Proofs.Ytfhihnonafklbaa.Ar Go.Proofs.Ytfhihnonafklbaa.Base
set_option linter.unusedVariables false
set_option linter.unusedSimpArgs false
set_option maxRecDepth 10000
/-- a row of numbers that may lie nowhere -/
def oJ : Option Nat → List Int → List Value → HL
  | none, _, _ => []
  | some b, xs, sp => [(b, .cells (rowA .i64 xs sp) 3 (0, 0))]
section
variable {P : Program} {N : Nat} {w0 w : World} {E : Env} {H H' R1 : HL} {o : Oper} {x y z : Operand} {T : TypeId} {zv : Value} {bytes b1 c c1 : Nat} {ops : Array Oper} {rest : List Oper} {R : Post} {sp : List Value}
theorem map_flatMap (ps : List Int) : ps.map (Value.int .i64) = ps.flatMap (fun p => [Value.int .i64 p]) := by
  induction ps with
  | nil => rfl
  | cons v vs ih => simp [ih]
theorem oC_J {bo : Option Nat} {ps : List Int} {sp : List Value} : oC 3 bo (ps.map (Value.int .i64)) sp = oJ bo ps sp := by cases bo <;> rfl
theorem L_appP {ps : List Int} {p : Int} {t : Tmp} [TSlice P T 3 1] [TInfo P 3 zv 1 bytes] {bo : Option Nat} (hw : wantE ops E o = some true) (hd : o.dst = some t) (ht : Nat.blt t N = true) (ho : o.op = .call { callee := .builtin .append, args := #[x, y], argTypes := #[T, T] })
    (hx : ev E x = some (.slice (ad bo) ps.length c)) (hy : ev E y = some (.slice (some ⟨b1, 0, none⟩) 1 c1)) (hp : TkG H (oJ bo ps sp) R1) (hA : At H b1 (.cells #[.int .i64 p] 3 (0, 0))) (hzk : zv.cells.size = 1) (hR : RowK 1 bo ps.length c (ps.map (Value.int .i64)) sp) (hm : ps.length ≤ 1000000) (hb : Nat.ble bytes 1000 = true)
    (hK : ∀ b' c' sp', RowK 1 (some b') (ps ++ [p]).length c' ((ps ++ [p]).map (Value.int .i64)) sp' → L P N w0 ops rest ((t, .slice (some ⟨b', 0, none⟩) (ps ++ [p]).length c') :: E) ((b', .cells (rowA .i64 (ps ++ [p]) sp') 3 (0, 0)) :: R1) R) : L P N w0 ops (o :: rest) E H R := by
  refine L_appF (f := fun p => [Value.int .i64 p]) (a := p) (sp := sp) hw hd ht ho hx hy (by rw [← map_flatMap, oC_J]; exact hp) hA hzk rfl rfl (fun u hu => ?_) (by rw [← map_flatMap]; exact hR) hm hb (fun b' c' sp' h => ?_)
  · simp at hu; rcases hu with rfl; rfl
  · have := hK b' c' sp' (by rw [map_flatMap]; exact h)
    unfold rowA at this
    rw [map_flatMap] at this
    exact this
end
variable {w0 : World} {H H1 H2 H3 : HL} {C : Cn} {A : Ar} {m : List Int} {bs bm ba pc : Nat} {pb : Option Nat} {sp : List Value} {P : List Int}
theorem islotsJ_c {k s : Int} (hz : SizeP k s) : Fn Try.prog w0 81 #[.int .i64 k, .int .i64 s] H fun v H' => ∃ bo c sp, v = .slice (ad bo) (slots k s).length c ∧ ((slots k s).length ≤ c ∧ (bo = none → slots k s = [])) ∧ H' = oJ bo (slots k s) sp ++ H := by
  by_cases hk : k = 1
  · subst hk
    have e : slots 1 s = [] := by
      have : from_ 1 s = s + 1 := by simp [from_]
      unfold slots; rw [this, slotsFrom, if_neg (by omega)]
    refine (islots0_c (w0 := w0) (H := H)).mono ?_
    rintro v H' ⟨rfl, rfl⟩
    exact ⟨none, 0, [], by rw [e]; rfl, ⟨by rw [e]; exact Nat.le_refl _, fun _ => e⟩, rfl⟩
  · refine (islots_c (w0 := w0) (H := H) hz hk).mono ?_
    rintro v H' ⟨b, sp, rfl, rfl⟩
    exact ⟨some b, _, sp, rfl, ⟨Nat.le_add_right _ _, fun c => (by cases c)⟩, rfl⟩
/-- a shaper -/
abbrev shO (ba bm : Nat) (pb : Option Nat) (P : List Int) (pc : Nat) : Obj := .cells #[.pointer (some ⟨ba, 0, none⟩), .map (some bm), .slice (ad pb) P.length pc] 94 (0, 0)
set_option maxHeartbeats 1000000 in
theorem ival_c {v : Int × Int} (hT1 : Tk H bs (shO ba bm pb P pc) H1) (hT2 : Tk H1 bm (nObj P) H2) (hT3 : TkG H2 (oJ pb P sp) H3) (hP : At H3 ba (aObj C A)) (hA : At H3 C.bw (wObj C A)) (hw : Wf A.ws) (hO : OkP A m) (hv : VOk A m v) (hPl : Pls A m P) (hR : RowK 1 pb P.length pc (P.map (Value.int .i64)) sp) :
    Fn Try.prog w0 53 #[.pointer (some ⟨bs, 0, none⟩), .agg #[.int .i64 v.1, .int .i64 v.2]] H fun r H' => ∃ pb' pc' sp', r = .agg #[.int .i64 (A.shV P v).2.1, .int .i64 (A.shV P v).2.2] ∧ RowK 1 pb' (A.shV P v).1.length pc' ((A.shV P v).1.map (Value.int .i64)) sp' ∧ H' = (bs, shO ba bm pb' (A.shV P v).1 pc') :: (bm, nObj (A.shV P v).1) :: (oJ pb' (A.shV P v).1 sp' ++ H3) := by
  obtain ⟨t, n⟩ := v
  obtain ⟨hm8, hh, hs, -⟩ := hO.lens
  have hl := hPl.le
  refine Fn.perm (hT1.perm.trans (.cons _ (hT2.perm.trans (.cons _ hT3.perm)))) ?_
  have hP1 : At (oJ pb P sp ++ H3) ba (aObj C A) := At.app hP
  have hA1 : At (oJ pb P sp ++ H3) C.bw (wObj C A) := At.app hA
  refine enter2 Try.func53 rfl rfl Try.ntmps53 rfl ?_
  by_cases hr : isRef t = true
  · obtain ⟨⟨n0, n1⟩, n2, n3⟩ := hv hr
    have hr' : ¬ isRef t = false := by rw [hr]; decide
    have hr0 : kd t ≠ 0 := of_decide_eq_true hr
    have e : A.shV P (t, n) = (shPut P (A.where_ n), (t, ix P (A.where_ n))) := by unfold Ar.shV; rw [if_pos hr]
    rw [e]
    dsimp only at n0 n1 n2 n3 ⊢
    by_cases hm : A.where_ n ∈ P
    · rw [shPut_mem hm]
      repeat' (first | exact absurd h hr' | exact absurd hr h | exact absurd hr0 h | exact absurd h (not_not_intro hr0) | exact absurd hm h | (apply gSt; apply L_stc rfl rfl rfl rfl rfl rfl; (· exact at_); (· simp only [List.set_cons_zero, List.set_cons_succ]; rfl); (· exact up_); (· rfl)) | first | ((first | (apply gCall; apply L_call rfl rfl rfl rfl rfl) | (apply gQC; apply Q_call rfl rfl rfl rfl rfl)); (· first | exact implIsRef_c _ _ | exact place2_c at_ at_ hw hh hs om om n3); try rintro _ _ ⟨rfl, rfl⟩) | (apply gL; first | refine L_nil ?_ | refine yX fun _ => ?_ | refine yA fun _ => ?_ | (apply gSt; first | refine sR ?_ | refine sB ?_ | refine s1 ?_ | refine sW ?_ | refine sN ?_) | (apply gBs; first | (refine L_bs0 rfl rfl rfl rfl (fun _ => ?_)) | (refine L_bs1 rfl rfl rfl rfl rfl rfl rfl (fun _ => ?_))) | (apply gMu; apply L_mapset rfl rfl rfl rfl rfl rfl; (· exact up_)) | (apply gApp; apply L_appI rfl rfl rfl rfl rfl rfl; (· exact at_); (· exact tk_); (· rfl); (· omega); intro _ _) | refine kV ?_ | (apply L_val rfl rfl rfl; (· first | (apply gBin; first | fail ) | fail | (apply ov_lookupN hPl.nd rfl rfl rfl; (· exact at_); done)))) | (apply gW; first | refine W_seq ?_ | refine W_region ?_ | refine W_ret ?_ | refine W_skip ?_ | refine W_cond1 rfl ?_ | refine W_cond0 rfl ?_ | refine cW (fun h => ?_) fun h => ?_ | refine wQ ?_) | (first | refine seqR.normal ?_ | refine seqR.ret ?_) | (apply gQ; first | refine Q_nil ?_ | refine kQ ?_ | (apply Q_val rfl rfl rfl; (· first | (apply gBin; first | fail ) | fail | (apply ov_lookupN hPl.nd rfl rfl rfl; (· exact at_); done)))) | fail)
      rw [if_pos hm]
      exact retR.ret _ _ (retC rfl rfl at_ (by rfl)) cvt_ ⟨pb, pc, sp, rfl, hR, rfl⟩
    · rw [shPut_not hm, ix_not hm]
      repeat' (first | exact absurd h hr' | exact absurd hr h | exact absurd hr0 h | exact absurd h (not_not_intro hr0) | exact absurd h hm | (apply gMu; refine L_mapsetN hPl.nd hm rfl rfl rfl rfl rfl rfl up_ ?_) | (apply gApp; refine L_appP rfl rfl rfl rfl rfl rfl (by (repeat (first | exact TkG.here | apply TkG.there | apply TkG.app))) at_ (by rfl) hR om (by rfl) fun _ _ _ hR' => ?_) | (apply gSt; apply L_stc rfl rfl rfl rfl rfl rfl; (· exact at_); (· simp only [List.set_cons_zero, List.set_cons_succ]; rfl); (· exact up_); (· rfl)) | first | ((first | (apply gCall; apply L_call rfl rfl rfl rfl rfl) | (apply gQC; apply Q_call rfl rfl rfl rfl rfl)); (· first | exact implIsRef_c _ _ | exact place2_c at_ at_ hw hh hs om om n3); try rintro _ _ ⟨rfl, rfl⟩) | (apply gL; first | refine L_nil ?_ | refine yX fun _ => ?_ | refine yA fun _ => ?_ | (apply gSt; first | refine sR ?_ | refine sB ?_ | refine s1 ?_ | refine sW ?_ | refine sN ?_) | (apply gBs; first | (refine L_bs0 rfl rfl rfl rfl (fun _ => ?_)) | (refine L_bs1 rfl rfl rfl rfl rfl rfl rfl (fun _ => ?_))) | (apply gMu; apply L_mapset rfl rfl rfl rfl rfl rfl; (· exact up_)) | (apply gApp; apply L_appI rfl rfl rfl rfl rfl rfl; (· exact at_); (· exact tk_); (· rfl); (· omega); intro _ _) | refine kV ?_ | (apply L_val rfl rfl rfl; (· first | (apply gBin; first | fail ) | fail | (apply ov_lookupN hPl.nd rfl rfl rfl; (· exact at_); done)))) | (apply gW; first | refine W_seq ?_ | refine W_region ?_ | refine W_ret ?_ | refine W_skip ?_ | refine W_cond1 rfl ?_ | refine W_cond0 rfl ?_ | refine cW (fun h => ?_) fun h => ?_ | refine wQ ?_) | (first | refine seqR.normal ?_ | refine seqR.ret ?_) | (apply gQ; first | refine Q_nil ?_ | refine kQ ?_ | (apply Q_val rfl rfl rfl; (· first | (apply gBin; first | fail ) | fail | (apply ov_lookupN hPl.nd rfl rfl rfl; (· exact at_); done)))) | fail)
      rename_i b' c' sp'
      exact retR.ret _ _ (retC rfl rfl at_ (by rfl)) (by dsimp only [oJ, ad, List.cons_append, List.nil_append]; exact cvt_) ⟨some b', c', sp', rfl, hR', rfl⟩
  · have e : A.shV P (t, n) = (P, (t, n)) := by unfold Ar.shV; rw [if_neg hr]
    rw [e]
    dsimp only
    have hr0 : ¬ kd t ≠ 0 := fun c => hr (decide_eq_true c)
    repeat' (first | exact absurd h hr | exact absurd h hr0 | first | ((first | (apply gCall; apply L_call rfl rfl rfl rfl rfl) | (apply gQC; apply Q_call rfl rfl rfl rfl rfl)); (· first | exact implIsRef_c _ _ | exact place2_c at_ at_ hw hh hs om om n3); try rintro _ _ ⟨rfl, rfl⟩) | (apply gL; first | refine L_nil ?_ | refine yX fun _ => ?_ | refine yA fun _ => ?_ | (apply gSt; first | refine sR ?_ | refine sB ?_ | refine s1 ?_ | refine sW ?_ | refine sN ?_) | (apply gBs; first | (refine L_bs0 rfl rfl rfl rfl (fun _ => ?_)) | (refine L_bs1 rfl rfl rfl rfl rfl rfl rfl (fun _ => ?_))) | (apply gMu; apply L_mapset rfl rfl rfl rfl rfl rfl; (· exact up_)) | (apply gApp; apply L_appI rfl rfl rfl rfl rfl rfl; (· exact at_); (· exact tk_); (· rfl); (· omega); intro _ _) | refine kV ?_ | (apply L_val rfl rfl rfl; (· first | (apply gBin; first | fail ) | fail | (apply ov_lookupN hPl.nd rfl rfl rfl; (· exact at_); done)))) | (apply gW; first | refine W_seq ?_ | refine W_region ?_ | refine W_ret ?_ | refine W_skip ?_ | refine W_cond1 rfl ?_ | refine W_cond0 rfl ?_ | refine cW (fun h => ?_) fun h => ?_ | refine wQ ?_) | (first | refine seqR.normal ?_ | refine seqR.ret ?_) | (apply gQ; first | refine Q_nil ?_ | refine kQ ?_ | (apply Q_val rfl rfl rfl; (· first | (apply gBin; first | fail ) | fail | (apply ov_lookupN hPl.nd rfl rfl rfl; (· exact at_); done)))) | fail)
    exact retR.ret _ _ (retC rfl rfl at_ (by rfl)) cvt_ ⟨pb, pc, sp, rfl, hR, rfl⟩
end Go.Proofs.Ytfhihnonafklbaa.Eng
