/- The implementation's TextOf and CompareText. -/
import Derived.Test.YtepddopgmhdllaaUT
import Derived.Test.YtepddopgmhdllaaBkT0
import Derived.Laws.Externs
import Derived.Laws.Strings
import Derived.Lib.Bytealg
namespace Go.Proofs.Ytepddopgmhdllaa.Eng
open Go Go.RowKit Go.Proofs.Ytepddopgmhdllaa.Sl Go.Proofs.Ytepddopgmhdllaa.Ar Go.Proofs.Ytepddopgmhdllaa.Base
set_option linter.unusedVariables false
set_option linter.unusedSimpArgs false
set_option maxRecDepth 10000
section
variable {P : Program} {N : Nat} {w0 : World} {E : Env} {H : HL} {o : Oper} {x y z : Operand} {T T2 : TypeId} {s t : ByteArray} {d_ : Option Tmp} {ty_ : TypeId} {pos_ : String} {af_ : Array Edge} {gd_ : Option (Nat × Bool)}
theorem v_lts (hx : ev E x = some (.string s)) (hy : ev E y = some (.string t)) : OpV P N w0 ⟨d_, .binOp .lss T x y T2, ty_, pos_, af_, gd_⟩ E H (.bool (Op.bytesLess s.toList t.toList)) := ov_bin rfl hx hy fun w => by
  simp [eqGuard, binOp, Op.stringOp]
theorem v_gts (hx : ev E x = some (.string s)) (hy : ev E y = some (.string t)) : OpV P N w0 ⟨d_, .binOp .gtr T x y T2, ty_, pos_, af_, gd_⟩ E H (.bool (!(Op.bytesLess s.toList t.toList || s.toList == t.toList))) := ov_bin rfl hx hy fun w => by
  simp [eqGuard, binOp, Op.stringOp]
theorem str_app (xs ys : List Int) : strOfNums xs ++ strOfNums ys = strOfNums (xs ++ ys) := by
  apply ByteArray.ext
  rw [ByteArray.data_append]
  simp [strOfNums]
theorem v_adds {xs ys : List Int} (hx : ev E x = some (.string (strOfNums xs))) (hy : ev E y = some (.string (strOfNums ys))) (h : ((xs.length : Nat) : Int) + (ys.length : Int) ≤ 1000000) : OpV P N w0 ⟨d_, .binOp .add T x y T2, ty_, pos_, af_, gd_⟩ E H (.string (strOfNums (xs ++ ys))) := ov_bin rfl hx hy fun w => by
  have h2 : ¬ ((((strOfNums xs).size + (strOfNums ys).size : Nat) : Int) > IntKind.i64.max) := by
    rw [strOfNums_size, strOfNums_size]
    have : IntKind.i64.max = 9223372036854775807 := rfl
    omega
  rw [← str_app]
  simp only [eqGuard, binOp, Op.stringOp]
  rw [if_neg h2]
  rfl
end
def cmpZ (a b : List Int) : Int := Lib.compareBytes (strOfNums a).toList (strOfNums b).toList
theorem cmp_less : ∀ a b : List UInt8, Lib.compareBytes a b = if Op.bytesLess a b = true then -1 else if (Op.bytesLess a b || a == b) = true then 0 else 1
  | [], [] => rfl
  | [], _ :: _ => rfl
  | _ :: _, [] => rfl
  | a :: xs, b :: ys => by
    unfold Lib.compareBytes Op.bytesLess
    have ih := cmp_less xs ys
    by_cases h1 : a < b
    · simp [h1]
    · by_cases h2 : b < a
      · have h3 : a ≠ b := fun e => by subst e; exact h1 h2
        simp [h1, h2, h3]
      · have h3 : a = b := by
          apply UInt8.toNat_inj.1
          have h1' : ¬ a.toNat < b.toNat := fun c => h1 (UInt8.lt_iff_toNat_lt.2 c)
          have h2' : ¬ b.toNat < a.toNat := fun c => h2 (UInt8.lt_iff_toNat_lt.2 c)
          omega
        subst h3
        rw [if_neg h1, if_neg h1, ih]
        simp [h1]
variable {w0 : World} {H : HL} {C : Cn} {A : Ar} {ba : Nat}
def Ar.cmpR (A : Ar) (r s : Int) : Int × Bool := if A.ok = true ∧ (A.inR r = true ∧ (A.vs.getD r.toNat (0, 0)).1 = 3) ∧ (A.inR s = true ∧ (A.vs.getD s.toNat (0, 0)).1 = 3) then (cmpZ (A.text (A.vs.getD r.toNat (0, 0)).2) (A.text (A.vs.getD s.toNat (0, 0)).2), true) else (0, false)
theorem exec_call {o : Oper} {a : Act} {f : FuncId} {as_ : Array Operand} {ts : Array TypeId} {args : List Value} (ho : o.op = .call { callee := .value (.func f), args := as_, argTypes := ts }) (ha : as_.toList.map a.eval = args) : execOp a.eval o = callFunc f args.toArray := by
  have e : as_.map a.eval = args.toArray := by rw [← ha, ← Array.toList_map, Array.toArray_toList]
  unfold execOp
  rw [ho]
  simp only [resolve, Deferred.ofValue]
  show (callFunc f (#[] ++ as_.map a.eval ++ #[])) = _
  rw [e]; simp
theorem cmpString_c {s t : ByteArray} : Fn Try.prog w0 148 #[.string s, .string t] H fun v H' => v = .int .i64 (Lib.compareBytes s.toList t.toList) ∧ H' = H := by
  refine enter2 Try.func148 rfl rfl Try.ntmps148 rfl ?_
  repeat' (first | (apply gCall; apply L_call rfl rfl rfl rfl rfl; (· first | exact implArenaOkB_c hok at_ at_ hw hc hx | exact itext_c hP at_ at_ at_ hw hx | exact compare_c); rintro _ _ ⟨rfl, rfl⟩) | (apply gL; first | refine L_nil ?_ | refine yS ?_ | refine yX fun _ => ?_ | refine kV ?_ | (apply L_val rfl rfl rfl; (· first | (apply gBin; first | fail ) | fail | (apply v_ld rfl; (· exact at_); (· first | exact ld_rowV0 om om | exact ld_rowV1 om om); done))) | ((fail_if_success (refine L_known rfl ?_)); refine yW (fun h => ?_) fun h => ?_)) | (apply gW; first | refine W_seq ?_ | refine W_region ?_ | refine W_ret ?_ | refine W_skip ?_ | refine W_cond1 rfl ?_ | refine W_cond0 rfl ?_ | refine cW (fun h => ?_) fun h => ?_) | (first | refine seqR.normal ?_ | refine seqR.ret ?_) | fail)
  apply L_val (v := .int .i64 (Lib.compareBytes s.toList t.toList)) rfl rfl rfl
  · refine ⟨fun a w ha hs => ?_⟩
    have h1 : a.eval (.tmp 5) = .string s := ha.eval rfl
    have h2 : a.eval (.tmp 6) = .string t := ha.eval rfl
    rw [exec_call (args := [.string s, .string t]) rfl (by show [a.eval (.tmp 5), a.eval (.tmp 6)] = _; rw [h1, h2])]
    show (callFunc 163 #[.string s, .string t]).run Try.prog w = _
    rw [run_callFunc_extern Try.func163 (by kernel_rfl) (by kernel_rfl) (by kernel_rfl) (e := Extern.BytealgCompare.compare) (by kernel_rfl), Lib.run_compareString, ← ByteArray.toList_eq, ← ByteArray.toList_eq]
    rfl
  repeat' (first | (apply gCall; apply L_call rfl rfl rfl rfl rfl; (· first | exact implArenaOkB_c hok at_ at_ hw hc hx | exact itext_c hP at_ at_ at_ hw hx | exact compare_c); rintro _ _ ⟨rfl, rfl⟩) | (apply gL; first | refine L_nil ?_ | refine yS ?_ | refine yX fun _ => ?_ | refine kV ?_ | (apply L_val rfl rfl rfl; (· first | (apply gBin; first | fail ) | fail | (apply v_ld rfl; (· exact at_); (· first | exact ld_rowV0 om om | exact ld_rowV1 om om); done))) | ((fail_if_success (refine L_known rfl ?_)); refine yW (fun h => ?_) fun h => ?_)) | (apply gW; first | refine W_seq ?_ | refine W_region ?_ | refine W_ret ?_ | refine W_skip ?_ | refine W_cond1 rfl ?_ | refine W_cond0 rfl ?_ | refine cW (fun h => ?_) fun h => ?_) | (first | refine seqR.normal ?_ | refine seqR.ret ?_) | fail)
  refine retR.ret _ _ (ret1 rfl rfl) cv_ ⟨?_, rfl⟩
  rfl
theorem compare_c {s t : ByteArray} : Fn Try.prog w0 105 #[.string s, .string t] H fun v H' => v = .int .i64 (Lib.compareBytes s.toList t.toList) ∧ H' = H := by
  refine enter2 Try.func105 rfl rfl Try.ntmps105 rfl ?_
  repeat' (first | (apply gCall; apply L_call rfl rfl rfl rfl rfl; (· first | exact implArenaOkB_c hok at_ at_ hw hc hx | exact itext_c hP at_ at_ at_ hw hx | exact compare_c); rintro _ _ ⟨rfl, rfl⟩) | (apply gL; first | refine L_nil ?_ | refine yS ?_ | refine yX fun _ => ?_ | refine kV ?_ | (apply L_val rfl rfl rfl; (· first | (apply gBin; first | fail ) | fail | (apply v_ld rfl; (· exact at_); (· first | exact ld_rowV0 om om | exact ld_rowV1 om om); done))) | ((fail_if_success (refine L_known rfl ?_)); refine yW (fun h => ?_) fun h => ?_)) | (apply gW; first | refine W_seq ?_ | refine W_region ?_ | refine W_ret ?_ | refine W_skip ?_ | refine W_cond1 rfl ?_ | refine W_cond0 rfl ?_ | refine cW (fun h => ?_) fun h => ?_) | (first | refine seqR.normal ?_ | refine seqR.ret ?_) | fail)
  apply L_call rfl rfl rfl rfl rfl
  · exact cmpString_c
  rintro _ _ ⟨rfl, rfl⟩
  repeat' (first | (apply gCall; apply L_call rfl rfl rfl rfl rfl; (· first | exact implArenaOkB_c hok at_ at_ hw hc hx | exact itext_c hP at_ at_ at_ hw hx | exact compare_c); rintro _ _ ⟨rfl, rfl⟩) | (apply gL; first | refine L_nil ?_ | refine yS ?_ | refine yX fun _ => ?_ | refine kV ?_ | (apply L_val rfl rfl rfl; (· first | (apply gBin; first | fail ) | fail | (apply v_ld rfl; (· exact at_); (· first | exact ld_rowV0 om om | exact ld_rowV1 om om); done))) | ((fail_if_success (refine L_known rfl ?_)); refine yW (fun h => ?_) fun h => ?_)) | (apply gW; first | refine W_seq ?_ | refine W_region ?_ | refine W_ret ?_ | refine W_skip ?_ | refine W_cond1 rfl ?_ | refine W_cond0 rfl ?_ | refine cW (fun h => ?_) fun h => ?_) | (first | refine seqR.normal ?_ | refine seqR.ret ?_) | fail)
  refine retR.ret _ _ (ret1 rfl rfl) cv_ ⟨?_, rfl⟩
  rfl
theorem implCompareText_c {r s : Int} (hA : At H C.bw (wObj C A)) (hR : At H C.br (rObj C A)) (hw : Wf A.ws) (hc : A.ws.length ≤ C.wc) (hx : A.vs.length ≤ 1048576) :
    Fn Try.prog w0 49 #[arV C A, .int .i64 r, .int .i64 s] H fun v H' => v = .tuple #[.int .i64 (Ar.cmpR A r s).1, .bool (Ar.cmpR A r s).2] ∧ H' = H := by
  cases hok : A.ok with
  | false =>
    refine enter3 Try.func49 rfl rfl Try.ntmps49 rfl ?_
    repeat' (first | (apply gCall; apply L_call rfl rfl rfl rfl rfl; (· first | exact implArenaOkB_c hok at_ at_ hw hc hx | exact itext_c hP at_ at_ at_ hw hx | exact compare_c); rintro _ _ ⟨rfl, rfl⟩) | (apply gL; first | refine L_nil ?_ | refine yS ?_ | refine yX fun _ => ?_ | refine kV ?_ | (apply L_val rfl rfl rfl; (· first | (apply gBin; first | fail ) | fail | (apply v_ld rfl; (· exact at_); (· first | exact ld_rowV0 om om | exact ld_rowV1 om om); done))) | ((fail_if_success (refine L_known rfl ?_)); refine yW (fun h => ?_) fun h => ?_)) | (apply gW; first | refine W_seq ?_ | refine W_region ?_ | refine W_ret ?_ | refine W_skip ?_ | refine W_cond1 rfl ?_ | refine W_cond0 rfl ?_ | refine cW (fun h => ?_) fun h => ?_) | (first | refine seqR.normal ?_ | refine seqR.ret ?_) | fail)
    all_goals refine retR.ret _ _ (ret2 rfl rfl rfl) cv_ ⟨?_, rfl⟩
    unfold Ar.cmpR; rw [hok]; rfl
  | true =>
    obtain ⟨m, hP⟩ := okP_of hok
    refine enter3 Try.func49 rfl rfl Try.ntmps49 rfl ?_
    repeat' (first | (apply gCall; apply L_call rfl rfl rfl rfl rfl; (· first | exact implArenaOkB_c hok at_ at_ hw hc hx | exact itext_c hP at_ at_ at_ hw hx | exact compare_c); rintro _ _ ⟨rfl, rfl⟩) | (apply gL; first | refine L_nil ?_ | refine yS ?_ | refine yX fun _ => ?_ | refine kV ?_ | (apply L_val rfl rfl rfl; (· first | (apply gBin; first | fail ) | fail | (apply v_ld rfl; (· exact at_); (· first | exact ld_rowV0 om om | exact ld_rowV1 om om); done))) | ((fail_if_success (refine L_known rfl ?_)); refine yW (fun h => ?_) fun h => ?_)) | (apply gW; first | refine W_seq ?_ | refine W_region ?_ | refine W_ret ?_ | refine W_skip ?_ | refine W_cond1 rfl ?_ | refine W_cond0 rfl ?_ | refine cW (fun h => ?_) fun h => ?_) | (first | refine seqR.normal ?_ | refine seqR.ret ?_) | fail)
    all_goals refine retR.ret _ _ (ret2 rfl rfl rfl) cv_ ⟨?_, rfl⟩
    · unfold Ar.cmpR; rw [if_neg (fun c => h c.2.1)]
    · unfold Ar.cmpR; rw [if_neg (fun c => h c.2.2)]
    · have c1 : A.inR r = true ∧ (A.vs.getD r.toNat (0, 0)).1 = 3 := by assumption
      have c2 : A.inR s = true ∧ (A.vs.getD s.toNat (0, 0)).1 = 3 := h
      unfold Ar.cmpR cmpZ; rw [if_pos c1, if_pos c2, if_pos ⟨hok, c1, c2⟩]
theorem implTextOf_c {r : Int} (hA : At H C.bw (wObj C A)) (hR : At H C.br (rObj C A)) (hw : Wf A.ws) (hc : A.ws.length ≤ C.wc) (hx : A.vs.length ≤ 1048576) :
    Fn Try.prog w0 48 #[arV C A, .int .i64 r] H fun v H' => v = .tuple #[.string (strOfNums (A.textR r).1), .bool (A.textR r).2] ∧ H' = H := by
  cases hok : A.ok with
  | false =>
    refine enter2 Try.func48 rfl rfl Try.ntmps48 rfl ?_
    repeat' (first | (apply gCall; apply L_call rfl rfl rfl rfl rfl; (· first | exact implArenaOkB_c hok at_ at_ hw hc hx | exact itext_c hP at_ at_ at_ hw hx | exact compare_c); rintro _ _ ⟨rfl, rfl⟩) | (apply gL; first | refine L_nil ?_ | refine yS ?_ | refine yX fun _ => ?_ | refine kV ?_ | (apply L_val rfl rfl rfl; (· first | (apply gBin; first | fail ) | fail | (apply v_ld rfl; (· exact at_); (· first | exact ld_rowV0 om om | exact ld_rowV1 om om); done))) | ((fail_if_success (refine L_known rfl ?_)); refine yW (fun h => ?_) fun h => ?_)) | (apply gW; first | refine W_seq ?_ | refine W_region ?_ | refine W_ret ?_ | refine W_skip ?_ | refine W_cond1 rfl ?_ | refine W_cond0 rfl ?_ | refine cW (fun h => ?_) fun h => ?_) | (first | refine seqR.normal ?_ | refine seqR.ret ?_) | fail)
    all_goals refine retR.ret _ _ (ret2 rfl rfl rfl) cv_ ⟨?_, rfl⟩
    unfold Ar.textR; rw [hok]; rfl
  | true =>
    obtain ⟨m, hP⟩ := okP_of hok
    refine enter2 Try.func48 rfl rfl Try.ntmps48 rfl ?_
    repeat' (first | (apply gCall; apply L_call rfl rfl rfl rfl rfl; (· first | exact implArenaOkB_c hok at_ at_ hw hc hx | exact itext_c hP at_ at_ at_ hw hx | exact compare_c); rintro _ _ ⟨rfl, rfl⟩) | (apply gL; first | refine L_nil ?_ | refine yS ?_ | refine yX fun _ => ?_ | refine kV ?_ | (apply L_val rfl rfl rfl; (· first | (apply gBin; first | fail ) | fail | (apply v_ld rfl; (· exact at_); (· first | exact ld_rowV0 om om | exact ld_rowV1 om om); done))) | ((fail_if_success (refine L_known rfl ?_)); refine yW (fun h => ?_) fun h => ?_)) | (apply gW; first | refine W_seq ?_ | refine W_region ?_ | refine W_ret ?_ | refine W_skip ?_ | refine W_cond1 rfl ?_ | refine W_cond0 rfl ?_ | refine cW (fun h => ?_) fun h => ?_) | (first | refine seqR.normal ?_ | refine seqR.ret ?_) | fail)
    refine retR.ret _ _ (ret2 rfl rfl rfl) cv_ ⟨?_, rfl⟩
    unfold Ar.textR
    by_cases c : A.inR r = true ∧ (A.vs.getD r.toNat (0, 0)).1 = 3
    · rw [if_pos c, if_pos ⟨hok, c⟩, decide_eq_true c]
    · rw [if_neg c, if_neg (fun d => c d.2), decide_eq_false c]
end Go.Proofs.Ytepddopgmhdllaa.Eng
