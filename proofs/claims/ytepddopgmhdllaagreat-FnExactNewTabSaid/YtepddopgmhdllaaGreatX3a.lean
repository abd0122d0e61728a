/- The implementation makes a table: newTab. -/
import Derived.Test.YtepddopgmhdllaaGreatXA
namespace Go.Proofs.YtepddopgmhdllaaGreat.Eng
open Go Go.RowKit Go.Proofs.YtepddopgmhdllaaGreat.Sl Go.Proofs.YtepddopgmhdllaaGreat.Ar Go.Proofs.YtepddopgmhdllaaGreat.Base
set_option linter.unusedVariables false
set_option linter.unusedSimpArgs false
set_option maxRecDepth 10000
variable {w0 : World} {H : HL} {C : Cn} {A : Ar} {ba rc br : Nat} {m : List Int} {rsp : List Value}
theorem headTab (h : 1 ≤ A.serial ∧ A.serial ≤ 1000000000) : HeadP 2 3 (A.born 2) := by
  have yb : BornP 2 := by decide
  unfold Ar.born; rw [if_pos yb]; exact ⟨by unfold SizeP; omega, .inl ⟨yb, h.1, h.2⟩⟩
theorem tabR_len (h : SI A m) {s : Int} : (A.tabR s).1.ws.length = A.ws.length ∧ (A.tabR s).1.vs.length = A.vs.length := by
  unfold Ar.tabR
  rcases h.ask_cases 2 3 with ⟨B, mB, e, hB, l, v, -⟩ | ⟨e, l, v⟩
  · rw [e]
    dsimp only
    rw [if_pos rfl]
    refine ⟨?_, ?_⟩
    · show (zeroW _ _ _).length = _
      rw [length_zeroW, List.length_set, l]
    · show (List.set B.vs _ _).length = _
      rw [List.length_set, v]
  · rw [if_neg (by omega)]; exact ⟨l, v⟩
set_option maxHeartbeats 4000000 in
theorem itab_c {s : Int} (hS : SI A m) (hO : OldP A) (hx : A.vs.length ≤ 1048576) (hwc : A.ws.length ≤ C.wc) (hsr1 : 1 ≤ A.serial ∧ A.serial ≤ 1000000000) (hs : 0 ≤ s ∧ s < (A.vs.length : Int)) :
    Fn Tryz.prog w0 73 #[.pointer (some ⟨ba, 0, none⟩), .int .i64 s] ((ba, aObjG C A (some ⟨br, 0, none⟩) rc) :: (C.bw, wObj C A) :: (br, .cells (rowV A.vs rsp) 47 (0, 0)) :: H) fun v H' => v = .int .i64 (A.tabR s).2 ∧
      H' = (ba, aObjG C (A.tabR s).1 (some ⟨br, 0, none⟩) rc) :: (C.bw, wObj C (A.tabR s).1) :: (br, .cells (rowV (A.tabR s).1.vs rsp) 47 (0, 0)) :: H := by
  have hh := headTab hsr1
  have hsr : -1000000000 ≤ A.serial ∧ A.serial ≤ 1000000000 := by omega
  have hln := hS.ln
  have hse := hS.se
  rcases hS.ask_cases 2 3 with ⟨B, mB, e, hB, l, v, t1, t2⟩ | ⟨e, l, v⟩
  · have vm : (B.mkO 2 3).vs = B.vs := rfl
    have hvm : (B.mkO 2 3).vs.length = A.vs.length := v
    have ec : A.tabR s = ({ B.mkO 2 3 with vs := B.vs.set s.toNat (4, B.top) }, 0) := by
      unfold Ar.tabR; rw [e]; dsimp only; rw [if_pos rfl]; rfl
    rw [ec]
    refine enter2 Tryz.func73 rfl rfl Tryz.ntmps73 rfl ?_
    repeat' ((fail_if_success apply gAt 2); (first | (apply gCall; apply L_call rfl rfl rfl rfl rfl; (· first | exact iaskS tk_ tk_ tk_ hS hO hh hx hwc hsr | exact implArenaOkB_c hok at_ at_ hw hc hx | exact isRoot1Q_c hb at_ at_ hx); rintro _ _ ⟨rfl, rfl⟩) | (apply gL; first | refine L_nil ?_ | (apply gSt; first | refine sR ?_ | refine sB ?_ | refine s1 ?_ | refine sW ?_ | refine sN ?_) | refine kV ?_ | (apply L_val rfl rfl rfl; (· first | (apply gBin; first | fail ) | fail | (apply v_ldV rfl; (· exact at_); (· omega); (· omega); done)))) | (apply gW; first | refine W_seq ?_ | refine W_region ?_ | refine W_ret ?_ | refine W_skip ?_ | refine W_cond1 rfl ?_ | refine W_cond0 rfl ?_ | refine cW (fun h => ?_) fun h => ?_) | (first | refine seqR.normal ?_ | refine seqR.ret ?_) | fail))
    rw [e]
    dsimp only
    rw [vm]
    repeat' (first | exact absurd rfl h | (apply gSt; apply L_stV rfl rfl rfl rfl rfl; (· exact up_); (· omega); (· omega)) | first | (apply gCall; apply L_call rfl rfl rfl rfl rfl; (· first | exact iaskS tk_ tk_ tk_ hS hO hh hx hwc hsr | exact implArenaOkB_c hok at_ at_ hw hc hx | exact isRoot1Q_c hb at_ at_ hx); rintro _ _ ⟨rfl, rfl⟩) | (apply gL; first | refine L_nil ?_ | (apply gSt; first | refine sR ?_ | refine sB ?_ | refine s1 ?_ | refine sW ?_ | refine sN ?_) | refine kV ?_ | (apply L_val rfl rfl rfl; (· first | (apply gBin; first | fail ) | fail | (apply v_ldV rfl; (· exact at_); (· omega); (· omega); done)))) | (apply gW; first | refine W_seq ?_ | refine W_region ?_ | refine W_ret ?_ | refine W_skip ?_ | refine W_cond1 rfl ?_ | refine W_cond0 rfl ?_ | refine cW (fun h => ?_) fun h => ?_) | (first | refine seqR.normal ?_ | refine seqR.ret ?_) | fail)
    have es : aObjG C ({ B.mkO 2 3 with vs := B.vs.set s.toNat (4, B.top) } : Ar) (some ⟨br, 0, none⟩) rc = aObjG C (B.mkO 2 3) (some ⟨br, 0, none⟩) rc := by
      show Obj.cells #[_, _, _, _, _, _, _, _, _, .slice _ (B.vs.set s.toNat (4, B.top)).length _] _ _ = _
      rw [List.length_set]; rfl
    rw [es]
    exact retR.ret _ _ (ret1 rfl rfl) cvt_ ⟨rfl, rfl⟩
  · have ec : A.tabR s = ((A.ask 2 3).1, (A.ask 2 3).2.2) := by unfold Ar.tabR; rw [if_neg (by omega)]
    rw [ec]
    refine enter2 Tryz.func73 rfl rfl Tryz.ntmps73 rfl ?_
    repeat' (first | (exfalso; omega) | first | (apply gCall; apply L_call rfl rfl rfl rfl rfl; (· first | exact iaskS tk_ tk_ tk_ hS hO hh hx hwc hsr | exact implArenaOkB_c hok at_ at_ hw hc hx | exact isRoot1Q_c hb at_ at_ hx); rintro _ _ ⟨rfl, rfl⟩) | (apply gL; first | refine L_nil ?_ | (apply gSt; first | refine sR ?_ | refine sB ?_ | refine s1 ?_ | refine sW ?_ | refine sN ?_) | refine kV ?_ | (apply L_val rfl rfl rfl; (· first | (apply gBin; first | fail ) | fail | (apply v_ldV rfl; (· exact at_); (· omega); (· omega); done)))) | (apply gW; first | refine W_seq ?_ | refine W_region ?_ | refine W_ret ?_ | refine W_skip ?_ | refine W_cond1 rfl ?_ | refine W_cond0 rfl ?_ | refine cW (fun h => ?_) fun h => ?_) | (first | refine seqR.normal ?_ | refine seqR.ret ?_) | fail)
    exact retR.ret _ _ (ret1 rfl rfl) cvt_ ⟨rfl, rfl⟩
end Go.Proofs.YtepddopgmhdllaaGreat.Eng
