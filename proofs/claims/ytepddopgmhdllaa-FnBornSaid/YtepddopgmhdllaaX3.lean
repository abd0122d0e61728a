/- The implementation makes a table. -/
import Derived.Test.YtepddopgmhdllaaBkZ
import Derived.Test.YtepddopgmhdllaaP8
namespace Go.Proofs.Ytepddopgmhdllaa.Eng
open Go Go.RowKit Go.Proofs.Ytepddopgmhdllaa.Sl Go.Proofs.Ytepddopgmhdllaa.Ar Go.Proofs.Ytepddopgmhdllaa.Base
set_option linter.unusedVariables false
set_option linter.unusedSimpArgs false
set_option maxRecDepth 10000
variable {w0 : World} {H : HL} {C : Cn} {A : Ar} {ba rc br : Nat} {m : List Int} {rsp : List Value}
theorem headTab (h : 1 ≤ A.serial ∧ A.serial ≤ 1000000000) : HeadP 2 3 (A.born 2) := by
  have yb : BornP 2 := by decide
  unfold Ar.born; rw [if_pos yb]; exact ⟨by unfold SizeP; omega, .inl ⟨yb, h.1, h.2⟩⟩
theorem tabR_len (h : SI A m) {s : Int} : (A.tabR s).1.ws.length = A.ws.length ∧ (A.tabR s).1.vs.length = A.vs.length := by
  unfold Ar.tabR
  rcases h.ask_cases 2 3 with ⟨B, mB, e, hB, l, v, -⟩ | ⟨e, l, v⟩
  · rw [e]
    dsimp only
    rw [if_pos rfl]
    refine ⟨?_, ?_⟩
    · show (zeroW _ _ _).length = _
      rw [length_zeroW, List.length_set, l]
    · show (List.set B.vs _ _).length = _
      rw [List.length_set, v]
  · rw [if_neg (by omega)]; exact ⟨l, v⟩
theorem isRoot1Q_c {ba : Nat} {r : Int} {b c : Nat} {q : Bool} (e : A.inR r = q) (hP : At H ba (aObj C A)) (hl : At H b (.cells #[.int .i64 r] 3 (0, 0))) (hx : A.vs.length ≤ 1048576) :
    Fn Try.prog w0 61 #[.pointer (some ⟨ba, 0, none⟩), .slice (some ⟨b, 0, none⟩) 1 c] H fun v H' => v = .bool q ∧ H' = H := e ▸ isRoot1_c hP hl hx
set_option maxHeartbeats 4000000 in
theorem itab_c {s : Int} (hS : SI A m) (hO : OldP A) (hx : A.vs.length ≤ 1048576) (hwc : A.ws.length ≤ C.wc) (hsr1 : 1 ≤ A.serial ∧ A.serial ≤ 1000000000) (hs : 0 ≤ s ∧ s < (A.vs.length : Int)) :
    Fn Try.prog w0 106 #[.pointer (some ⟨ba, 0, none⟩), .int .i64 s] ((ba, aObjG C A (some ⟨br, 0, none⟩) rc) :: (C.bw, wObj C A) :: (br, .cells (rowV A.vs rsp) 39 (0, 0)) :: H) fun v H' => v = .int .i64 (A.tabR s).2 ∧
      H' = (ba, aObjG C (A.tabR s).1 (some ⟨br, 0, none⟩) rc) :: (C.bw, wObj C (A.tabR s).1) :: (br, .cells (rowV (A.tabR s).1.vs rsp) 39 (0, 0)) :: H := by
  have hh := headTab hsr1
  have hsr : -1000000000 ≤ A.serial ∧ A.serial ≤ 1000000000 := by omega
  have hln := hS.ln
  have hse := hS.se
  rcases hS.ask_cases 2 3 with ⟨B, mB, e, hB, l, v, t1, t2⟩ | ⟨e, l, v⟩
  · have vm : (B.mkO 2 3).vs = B.vs := rfl
    have hvm : (B.mkO 2 3).vs.length = A.vs.length := v
    have ec : A.tabR s = ({ B.mkO 2 3 with vs := B.vs.set s.toNat (4, B.top) }, 0) := by
      unfold Ar.tabR; rw [e]; dsimp only; rw [if_pos rfl]; rfl
    rw [ec]
    refine enter2 Try.func106 rfl rfl Try.ntmps106 rfl ?_
    repeat' ((fail_if_success apply gAt 2); (first | (apply gCall; apply L_call rfl rfl rfl rfl rfl; (· first | exact iaskS tk_ tk_ tk_ hS hO hh hx hwc hsr | exact implArenaOkB_c hok at_ at_ hw hc hx | exact isRoot1Q_c hb at_ at_ hx); rintro _ _ ⟨rfl, rfl⟩) | (apply gL; first | refine L_nil ?_ | refine yS ?_ | refine yX fun _ => ?_ | refine yA fun _ => ?_ | (apply gSt; first | refine sR ?_ | refine sB ?_ | refine s1 ?_ | refine sW ?_ | refine sN ?_) | (apply gBs; first | (refine L_bs0 rfl rfl rfl rfl (fun _ => ?_)) | (refine L_bs1 rfl rfl rfl rfl rfl rfl rfl (fun _ => ?_))) | refine kV ?_ | (apply L_val rfl rfl rfl; (· first | (apply gBin; first | fail ) | fail | (apply v_ldV rfl; (· exact at_); (· omega); (· omega); done))) | ((fail_if_success (refine L_known rfl ?_)); refine yW (fun h => ?_) fun h => ?_)) | (apply gW; first | refine W_seq ?_ | refine W_region ?_ | refine W_ret ?_ | refine W_skip ?_ | refine W_cond1 rfl ?_ | refine W_cond0 rfl ?_ | refine cW (fun h => ?_) fun h => ?_) | (first | refine seqR.normal ?_ | refine seqR.ret ?_) | fail))
    rw [e]
    dsimp only
    rw [vm]
    repeat' (first | exact absurd rfl h | (apply gSt; apply L_stV rfl rfl rfl rfl rfl; (· exact up_); (· omega); (· omega)) | first | (apply gCall; apply L_call rfl rfl rfl rfl rfl; (· first | exact iaskS tk_ tk_ tk_ hS hO hh hx hwc hsr | exact implArenaOkB_c hok at_ at_ hw hc hx | exact isRoot1Q_c hb at_ at_ hx); rintro _ _ ⟨rfl, rfl⟩) | (apply gL; first | refine L_nil ?_ | refine yS ?_ | refine yX fun _ => ?_ | refine yA fun _ => ?_ | (apply gSt; first | refine sR ?_ | refine sB ?_ | refine s1 ?_ | refine sW ?_ | refine sN ?_) | (apply gBs; first | (refine L_bs0 rfl rfl rfl rfl (fun _ => ?_)) | (refine L_bs1 rfl rfl rfl rfl rfl rfl rfl (fun _ => ?_))) | refine kV ?_ | (apply L_val rfl rfl rfl; (· first | (apply gBin; first | fail ) | fail | (apply v_ldV rfl; (· exact at_); (· omega); (· omega); done))) | ((fail_if_success (refine L_known rfl ?_)); refine yW (fun h => ?_) fun h => ?_)) | (apply gW; first | refine W_seq ?_ | refine W_region ?_ | refine W_ret ?_ | refine W_skip ?_ | refine W_cond1 rfl ?_ | refine W_cond0 rfl ?_ | refine cW (fun h => ?_) fun h => ?_) | (first | refine seqR.normal ?_ | refine seqR.ret ?_) | fail)
    have es : aObjG C ({ B.mkO 2 3 with vs := B.vs.set s.toNat (4, B.top) } : Ar) (some ⟨br, 0, none⟩) rc = aObjG C (B.mkO 2 3) (some ⟨br, 0, none⟩) rc := by
      show Obj.cells #[_, _, _, _, _, _, _, _, _, .slice _ (B.vs.set s.toNat (4, B.top)).length _] _ _ = _
      rw [List.length_set]; rfl
    rw [es]
    exact retR.ret _ _ (ret1 rfl rfl) cvt_ ⟨rfl, rfl⟩
  · have ec : A.tabR s = ((A.ask 2 3).1, (A.ask 2 3).2.2) := by unfold Ar.tabR; rw [if_neg (by omega)]
    rw [ec]
    refine enter2 Try.func106 rfl rfl Try.ntmps106 rfl ?_
    repeat' (first | (exfalso; omega) | first | (apply gCall; apply L_call rfl rfl rfl rfl rfl; (· first | exact iaskS tk_ tk_ tk_ hS hO hh hx hwc hsr | exact implArenaOkB_c hok at_ at_ hw hc hx | exact isRoot1Q_c hb at_ at_ hx); rintro _ _ ⟨rfl, rfl⟩) | (apply gL; first | refine L_nil ?_ | refine yS ?_ | refine yX fun _ => ?_ | refine yA fun _ => ?_ | (apply gSt; first | refine sR ?_ | refine sB ?_ | refine s1 ?_ | refine sW ?_ | refine sN ?_) | (apply gBs; first | (refine L_bs0 rfl rfl rfl rfl (fun _ => ?_)) | (refine L_bs1 rfl rfl rfl rfl rfl rfl rfl (fun _ => ?_))) | refine kV ?_ | (apply L_val rfl rfl rfl; (· first | (apply gBin; first | fail ) | fail | (apply v_ldV rfl; (· exact at_); (· omega); (· omega); done))) | ((fail_if_success (refine L_known rfl ?_)); refine yW (fun h => ?_) fun h => ?_)) | (apply gW; first | refine W_seq ?_ | refine W_region ?_ | refine W_ret ?_ | refine W_skip ?_ | refine W_cond1 rfl ?_ | refine W_cond0 rfl ?_ | refine cW (fun h => ?_) fun h => ?_) | (first | refine seqR.normal ?_ | refine seqR.ret ?_) | fail)
    exact retR.ret _ _ (ret1 rfl rfl) cvt_ ⟨rfl, rfl⟩
set_option maxHeartbeats 4000000 in
theorem NewTab_c {s : Int} (hA : At H C.bw (wObj C A)) (hR : At H C.br (rObj C A)) (hw : Wf A.ws) (hc : A.ws.length ≤ C.wc) (hl : A.ws.length ≤ 1048576) (hx : A.vs.length ≤ 1048576) (hok : A.ok = true) (hs : 0 ≤ s ∧ s < (A.vs.length : Int)) (hsr1 : 1 ≤ A.serial ∧ A.serial < 1000000000) :
    Fn Try.prog w0 50 #[arV C A, .int .i64 s] H (CRes (A.tabR s).1 (.int .i64 (A.tabR s).2) H) := by
  obtain ⟨m, hP⟩ := okP_of hok
  have hSI := okSI hP hw
  have hO := OldP.of_ok hP
  have hlen := hSI.ln
  have hse := hSI.se
  have hn9 : ¬ A.serial = 1000000000 := by omega
  have hb : A.inR s = true := decide_eq_true (by omega)
  obtain ⟨lc, vc⟩ := tabR_len hSI (s := s)
  refine enter2 Try.func50 rfl rfl Try.ntmps50 rfl ?_
  repeat' (first | (apply gCall; apply L_call rfl rfl rfl rfl rfl; (· first | exact iaskS tk_ tk_ tk_ hS hO hh hx hwc hsr | exact implArenaOkB_c hok at_ at_ hw hc hx | exact isRoot1Q_c hb at_ at_ hx); rintro _ _ ⟨rfl, rfl⟩) | (apply gL; first | refine L_nil ?_ | refine yS ?_ | refine yX fun _ => ?_ | refine yA fun _ => ?_ | (apply gSt; first | refine sR ?_ | refine sB ?_ | refine s1 ?_ | refine sW ?_ | refine sN ?_) | (apply gBs; first | (refine L_bs0 rfl rfl rfl rfl (fun _ => ?_)) | (refine L_bs1 rfl rfl rfl rfl rfl rfl rfl (fun _ => ?_))) | refine kV ?_ | (apply L_val rfl rfl rfl; (· first | (apply gBin; first | fail ) | fail | (apply v_ldV rfl; (· exact at_); (· omega); (· omega); done))) | ((fail_if_success (refine L_known rfl ?_)); refine yW (fun h => ?_) fun h => ?_)) | (apply gW; first | refine W_seq ?_ | refine W_region ?_ | refine W_ret ?_ | refine W_skip ?_ | refine W_cond1 rfl ?_ | refine W_cond0 rfl ?_ | refine cW (fun h => ?_) fun h => ?_) | (first | refine seqR.normal ?_ | refine seqR.ret ?_) | fail)
  apply L_call rfl rfl rfl rfl rfl
  · exact copyArena_p at_ at_ hl hx
  rintro _ _ ⟨gw, gwc, gws, gr, grc, grs, rfl, hgw, hgr, hwc, rfl⟩
  apply L_front2
  have hA1 : At (oU gw A.ws gws ++ (oV gr A.vs grs ++ H)) C.bw (wObj C A) := At.app (At.app hA)
  have hR1 : At (oU gw A.ws gws ++ (oV gr A.vs grs ++ H)) C.br (rObj C A) := At.app (At.app hR)
  rcases gw with _ | gw
  · rw [hgw rfl] at hlen; simp at hlen; omega
  rcases gr with _ | gr
  · rw [hgr rfl] at hs; simp at hs; omega
  simp only [oU, oV, ad, List.cons_append, List.nil_append] at hA1 hR1 ⊢
  repeat' (first | exact absurd rfl h | exact absurd h hn9 | ((fail_if_success apply gAtR 4); (first | (apply gCall; apply L_call rfl rfl rfl rfl rfl; (· first | exact iaskS tk_ tk_ tk_ hS hO hh hx hwc hsr | exact implArenaOkB_c hok at_ at_ hw hc hx | exact isRoot1Q_c hb at_ at_ hx); rintro _ _ ⟨rfl, rfl⟩) | (apply gL; first | refine L_nil ?_ | refine yS ?_ | refine yX fun _ => ?_ | refine yA fun _ => ?_ | (apply gSt; first | refine sR ?_ | refine sB ?_ | refine s1 ?_ | refine sW ?_ | refine sN ?_) | (apply gBs; first | (refine L_bs0 rfl rfl rfl rfl (fun _ => ?_)) | (refine L_bs1 rfl rfl rfl rfl rfl rfl rfl (fun _ => ?_))) | refine kV ?_ | (apply L_val rfl rfl rfl; (· first | (apply gBin; first | fail ) | fail | (apply v_ldV rfl; (· exact at_); (· omega); (· omega); done))) | ((fail_if_success (refine L_known rfl ?_)); refine yW (fun h => ?_) fun h => ?_)) | (apply gW; first | refine W_seq ?_ | refine W_region ?_ | refine W_ret ?_ | refine W_skip ?_ | refine W_cond1 rfl ?_ | refine W_cond0 rfl ?_ | refine cW (fun h => ?_) fun h => ?_) | (first | refine seqR.normal ?_ | refine seqR.ret ?_) | fail)))
  repeat' (first | (apply gCall; apply L_call rfl rfl rfl rfl rfl; (· first | exact iaskS tk_ tk_ tk_ hS hO hh hx hwc hsr | exact implArenaOkB_c hok at_ at_ hw hc hx | exact isRoot1Q_c hb at_ at_ hx); rintro _ _ ⟨rfl, rfl⟩) | (apply gL; first | refine L_nil ?_ | refine yS ?_ | refine yX fun _ => ?_ | refine yA fun _ => ?_ | (apply gSt; first | refine sR ?_ | refine sB ?_ | refine s1 ?_ | refine sW ?_ | refine sN ?_) | (apply gBs; first | (refine L_bs0 rfl rfl rfl rfl (fun _ => ?_)) | (refine L_bs1 rfl rfl rfl rfl rfl rfl rfl (fun _ => ?_))) | refine kV ?_ | (apply L_val rfl rfl rfl; (· first | (apply gBin; first | fail ) | fail | (apply v_ldV rfl; (· exact at_); (· omega); (· omega); done))) | ((fail_if_success (refine L_known rfl ?_)); refine yW (fun h => ?_) fun h => ?_)) | (apply gW; first | refine W_seq ?_ | refine W_region ?_ | refine W_ret ?_ | refine W_skip ?_ | refine W_cond1 rfl ?_ | refine W_cond0 rfl ?_ | refine cW (fun h => ?_) fun h => ?_) | (first | refine seqR.normal ?_ | refine seqR.ret ?_) | fail)
  apply L_call rfl rfl rfl rfl rfl
  · exact Fn.conv (Cv.take tk_ (Cv.take tk_ (Cv.take tk_ Cv.refl))) (itab_c (C := ⟨gw, gwc, gws, gr, grc, grs⟩) (rc := grc) (br := gr) (rsp := grs) hSI hO hx hwc (by omega) hs)
  rintro _ _ ⟨rfl, rfl⟩
  repeat' (first | (apply gCall; apply L_call rfl rfl rfl rfl rfl; (· first | exact iaskS tk_ tk_ tk_ hS hO hh hx hwc hsr | exact implArenaOkB_c hok at_ at_ hw hc hx | exact isRoot1Q_c hb at_ at_ hx); rintro _ _ ⟨rfl, rfl⟩) | (apply gL; first | refine L_nil ?_ | refine yS ?_ | refine yX fun _ => ?_ | refine yA fun _ => ?_ | (apply gSt; first | refine sR ?_ | refine sB ?_ | refine s1 ?_ | refine sW ?_ | refine sN ?_) | (apply gBs; first | (refine L_bs0 rfl rfl rfl rfl (fun _ => ?_)) | (refine L_bs1 rfl rfl rfl rfl rfl rfl rfl (fun _ => ?_))) | refine kV ?_ | (apply L_val rfl rfl rfl; (· first | (apply gBin; first | fail ) | fail | (apply v_ldV rfl; (· exact at_); (· omega); (· omega); done))) | ((fail_if_success (refine L_known rfl ?_)); refine yW (fun h => ?_) fun h => ?_)) | (apply gW; first | refine W_seq ?_ | refine W_region ?_ | refine W_ret ?_ | refine W_skip ?_ | refine W_cond1 rfl ?_ | refine W_cond0 rfl ?_ | refine cW (fun h => ?_) fun h => ?_) | (first | refine seqR.normal ?_ | refine seqR.ret ?_) | fail)
  refine retR.ret _ _ (retCT rfl rfl at_ (by rfl) rfl) cvt_ ⟨⟨gw, gwc, gws, gr, grc, grs⟩, rfl, by rw [lc]; exact hwc, rfl⟩
end Go.Proofs.Ytepddopgmhdllaa.Eng
