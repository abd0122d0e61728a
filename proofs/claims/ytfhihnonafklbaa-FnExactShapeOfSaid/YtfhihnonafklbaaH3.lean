/- The reference's ShapeOf. -/
import Derived.Test.YtfhihnonafklbaaH2
import Derived.Test.YtfhihnonafklbaaT0b
namespace Go.Proofs.Ytfhihnonafklbaa.Eng
open Go Go.RowKit Go.Proofs.Ytfhihnonafklbaa.Sl Go.Proofs.Ytfhihnonafklbaa.Ar Go.Proofs.Ytfhihnonafklbaa.Base
set_option linter.unusedVariables false
set_option linter.unusedSimpArgs false
set_option maxRecDepth 10000
theorem cvNil : ∀ {H : HL}, Cv H []
  | [] => Cv.refl
  | _ :: _ => Cv.skip cvNil
variable {w0 : World} {H : HL} {C : Cn} {A : Ar} {m : List Int}
set_option maxHeartbeats 4000000 in
theorem specShapeOf_c (hA : At H C.bw (wObj C A)) (hRt : At H C.br (rObj C A)) (hw : Wf A.ws) (hx : A.vs.length ≤ 1048576) :
    Fn Try.prog w0 5 #[arV C A] H (ShRes A.shapeR.1 (.bool A.shapeR.2) H) := by
  refine enter1 Try.func5 rfl rfl Try.ntmps5 rfl ?_
  cases hok : A.ok with
  | false =>
    have e : A.shapeR = (([], []), false) := by unfold Ar.shapeR; rw [hok]; rfl
    rw [e]
    repeat' (first | exact absurd rfl h | first | (apply gCall; apply L_call rfl rfl rfl rfl rfl; (· first | exact specArenaOkB_c hok at_ at_ hw hx); rintro _ _ ⟨rfl, rfl⟩) | (apply gL; first | refine L_nil ?_ | refine yX fun _ => ?_ | refine yA fun _ => ?_ | (apply gSt; first | refine sR ?_ | refine sB ?_ | refine s1 ?_ | refine sW ?_ | refine sN ?_) | (apply gBs; first | (refine L_bs0 rfl rfl rfl rfl (fun _ => ?_)) | (refine L_bs1 rfl rfl rfl rfl rfl rfl rfl (fun _ => ?_))) | (apply gApp; apply L_appI rfl rfl rfl rfl rfl rfl; (· exact at_); (· exact tk_); (· rfl); (· omega); intro _ _) | refine kV ?_) | (apply gW; first | refine W_seq ?_ | refine W_region ?_ | refine W_ret ?_ | refine W_skip ?_ | refine W_block ?_ | refine W_exit ?_ | refine W_cond1 rfl ?_ | refine W_cond0 rfl ?_ | refine cW (fun h => ?_) fun h => ?_) | (first | refine seqR.normal ?_ | refine seqR.ret ?_ | refine seqR.exit ?_ | refine blockR.normal ?_ | refine blockR.ret ?_ | refine blockR.here ?_ | refine blockR.exit rfl ?_ | refine loopR.ret ?_ | refine loopR.exit ?_ | refine midA.ret ?_ | refine midA.exit ?_) | fail)
    exact retR.ret _ _ (retCT rfl rfl at_ (by rfl) rfl) cvt_ ⟨none, 0, [], none, 0, [], [], rfl, rfl, fun _ => rfl, fun _ => rfl, fun x hx => (by cases hx), rfl⟩
  | true =>
    obtain ⟨m, hO⟩ := okP_of hok
    have hm8 : A.ws.length ≤ 8000 := by have := hO.lens; omega
    have hv24 : A.vs.length ≤ 24 := hO.lens.2.2.2
    have e : A.shapeR = (A.shape, true) := by unfold Ar.shapeR; rw [hok]; rfl
    rw [e]
    repeat' (first | exact absurd rfl h | first | (apply gCall; apply L_call rfl rfl rfl rfl rfl; (· first | exact specArenaOkB_c hok at_ at_ hw hx); rintro _ _ ⟨rfl, rfl⟩) | (apply gL; first | refine L_nil ?_ | refine yX fun _ => ?_ | refine yA fun _ => ?_ | (apply gSt; first | refine sR ?_ | refine sB ?_ | refine s1 ?_ | refine sW ?_ | refine sN ?_) | (apply gBs; first | (refine L_bs0 rfl rfl rfl rfl (fun _ => ?_)) | (refine L_bs1 rfl rfl rfl rfl rfl rfl rfl (fun _ => ?_))) | (apply gApp; apply L_appI rfl rfl rfl rfl rfl rfl; (· exact at_); (· exact tk_); (· rfl); (· omega); intro _ _) | refine kV ?_) | (apply gW; first | refine W_seq ?_ | refine W_region ?_ | refine W_ret ?_ | refine W_skip ?_ | refine W_block ?_ | refine W_exit ?_ | refine W_cond1 rfl ?_ | refine W_cond0 rfl ?_ | refine cW (fun h => ?_) fun h => ?_) | (first | refine seqR.normal ?_ | refine seqR.ret ?_ | refine seqR.exit ?_ | refine blockR.normal ?_ | refine blockR.ret ?_ | refine blockR.here ?_ | refine blockR.exit rfl ?_ | refine loopR.ret ?_ | refine loopR.exit ?_ | refine midA.ret ?_ | refine midA.exit ?_) | fail)
    rename_i b1 b2 b4 bq0
    apply W_loopX (α := Int × List Int × List (Int × Int) × Nat × List Value × Option Nat × Nat × List Value) (fun y => [(1, .pointer (some ⟨b1, 0, none⟩)), (2, .pointer (some ⟨b2, 0, none⟩)), (4, .pointer (some ⟨b4, 0, none⟩)), (5, .slice (some ⟨y.2.2.2.1, 0, none⟩) y.2.1.length (y.2.1.length + List.length y.2.2.2.2.1)), (6, .int .i64 y.1)])
      (fun y => (b4, .cells #[.slice (ad y.2.2.2.2.2.1) y.2.2.1.length y.2.2.2.2.2.2.1, .slice none 0 0] 30 (0, 0)) :: (b2, .cells #[.slice none 0 0, .slice none 0 0] 30 (0, 0)) :: (b1, aObj C A) :: (y.2.2.2.1, .cells (rowA .i64 y.2.1 y.2.2.2.2.1) 3 (0, 0)) :: (oV y.2.2.2.2.2.1 y.2.2.1 y.2.2.2.2.2.2.2 ++ H))
      (fun y => (0 ≤ y.1 ∧ y.1 ≤ A.vs.length) ∧ (y.2.2.1.length : Int) = y.1 ∧ Pls A m y.2.1 ∧ RowK 2 y.2.2.2.2.2.1 y.2.2.1.length y.2.2.2.2.2.2.1 (flat y.2.2.1) y.2.2.2.2.2.2.2 ∧ A.shRs (A.vs.drop y.1.toNat) (y.2.1, y.2.2.1) = A.shRs A.vs ([], [])) (fun y => (A.vs.length - y.1).toNat) (0, [], [], bq0, [], none, 0, [])
    · exact sub_
    · exact cvt_
    · exact ⟨⟨by dsimp only; omega, by dsimp only; omega⟩, rfl, Pls.nil, RowK.zero, rfl⟩
    rintro ⟨i, Q, out, bq, sq, bs, c, ssp⟩ ⟨⟨hi, hi2⟩, ho, hQ, hR, hS⟩
    dsimp only at hi hi2 ho hQ hR hS ⊢
    have hQl := hQ.le
    have hA1 : At (oV bs out ssp ++ H) C.bw (wObj C A) := At.app hA
    have hR1 : At (oV bs out ssp ++ H) C.br (rObj C A) := At.app hRt
    by_cases hlt : i < (A.vs.length : Int)
    · rw [shRs_step hi hlt] at hS
      have v1 := hO.vRoot hi hlt
      repeat' (first | exact absurd hlt h | ((fail_if_success apply gAtR 8); (first | (apply gCall; apply L_call rfl rfl rfl rfl rfl; (· first | exact specArenaOkB_c hok at_ at_ hw hx); rintro _ _ ⟨rfl, rfl⟩) | (apply gL; first | refine L_nil ?_ | refine yX fun _ => ?_ | refine yA fun _ => ?_ | (apply gSt; first | refine sR ?_ | refine sB ?_ | refine s1 ?_ | refine sW ?_ | refine sN ?_) | (apply gBs; first | (refine L_bs0 rfl rfl rfl rfl (fun _ => ?_)) | (refine L_bs1 rfl rfl rfl rfl rfl rfl rfl (fun _ => ?_))) | (apply gApp; apply L_appI rfl rfl rfl rfl rfl rfl; (· exact at_); (· exact tk_); (· rfl); (· omega); intro _ _) | refine kV ?_) | (apply gW; first | refine W_seq ?_ | refine W_region ?_ | refine W_ret ?_ | refine W_skip ?_ | refine W_block ?_ | refine W_exit ?_ | refine W_cond1 rfl ?_ | refine W_cond0 rfl ?_ | refine cW (fun h => ?_) fun h => ?_) | (first | refine seqR.normal ?_ | refine seqR.ret ?_ | refine seqR.exit ?_ | refine blockR.normal ?_ | refine blockR.ret ?_ | refine blockR.here ?_ | refine blockR.exit rfl ?_ | refine loopR.ret ?_ | refine loopR.exit ?_ | refine midA.ret ?_ | refine midA.exit ?_) | fail)))
      refine W_midA (α := Nat × Nat × List Value) (fun y => [(1, .pointer (some ⟨b1, 0, none⟩)), (2, .pointer (some ⟨b2, 0, none⟩)), (4, .pointer (some ⟨b4, 0, none⟩)), (6, .int .i64 i), (7, .slice (some ⟨y.2.1, 0, none⟩) (A.shV Q (A.vs.getD i.toNat (0, 0))).1.length ((A.shV Q (A.vs.getD i.toNat (0, 0))).1.length + List.length y.2.2)), (8, .pointer (some ⟨y.1, 0, none⟩))]) (fun y => (y.1, .cells #[.int .i64 (A.shV Q (A.vs.getD i.toNat (0, 0))).2.1, .int .i64 (A.shV Q (A.vs.getD i.toNat (0, 0))).2.2] 46 (0, 0)) :: (b4, .cells #[.slice (ad bs) out.length c, .slice none 0 0] 30 (0, 0)) :: (b2, .cells #[.slice none 0 0, .slice none 0 0] 30 (0, 0)) :: (b1, aObj C A) :: (y.2.1, .cells (rowA .i64 (A.shV Q (A.vs.getD i.toNat (0, 0))).1 y.2.2) 3 (0, 0)) :: (oV bs out ssp ++ H)) (fun _ => True) ?_ ?_
      · apply W_regionA (D := (b1, aObj C A) :: (oV bs out ssp ++ H)) (by kernel_rfl)
        refine kAt 0 ?_
        refine kAt 1 ?_
        refine kAt 2 ?_
        refine kAt 3 ?_
        refine kAt 4 ?_
        refine kAt 5 ?_
        refine kAt 6 ?_
        refine A_two (i := 7) (j := 11) (by kernel_rfl) cvt_ rfl rfl ?_ ?_
        · refine O_of_L fun S hS => ?_
          apply L_call rfl rfl rfl rfl rfl
          · refine l7Val_c (v := A.vs.getD i.toNat (0, 0)) ?_ hw hm8 v1 tk_ hQ
            exact at_
          rintro _ _ ⟨bq', sq', rfl, rfl⟩
          refine L_nil (hS _ _ ?_)
          clear hS
          refine kAt 8 ?_
          refine kAt 9 ?_
          refine kAt 10 ?_
          refine A_one (i := 11) (by kernel_rfl) cvt_ rfl ?_
          refine O_of_L fun S hS => ?_
          first | (apply gCall; apply L_call rfl rfl rfl rfl rfl; (· first | exact specArenaOkB_c hok at_ at_ hw hx); rintro _ _ ⟨rfl, rfl⟩) | (apply gL; first | refine L_nil ?_ | refine yX fun _ => ?_ | refine yA fun _ => ?_ | (apply gSt; first | refine sR ?_ | refine sB ?_ | refine s1 ?_ | refine sW ?_ | refine sN ?_) | (apply gBs; first | (refine L_bs0 rfl rfl rfl rfl (fun _ => ?_)) | (refine L_bs1 rfl rfl rfl rfl rfl rfl rfl (fun _ => ?_))) | (apply gApp; apply L_appI rfl rfl rfl rfl rfl rfl; (· exact at_); (· exact tk_); (· rfl); (· omega); intro _ _) | refine kV ?_)
          refine L_nil (hS _ _ ?_)
          clear hS
          refine kAt 12 ?_
          refine A_one (i := 13) (by kernel_rfl) cvt_ rfl (O_of_L fun S hS => ?_)
          first | (apply gCall; apply L_call rfl rfl rfl rfl rfl; (· first | exact specArenaOkB_c hok at_ at_ hw hx); rintro _ _ ⟨rfl, rfl⟩) | (apply gL; first | refine L_nil ?_ | refine yX fun _ => ?_ | refine yA fun _ => ?_ | (apply gSt; first | refine sR ?_ | refine sB ?_ | refine s1 ?_ | refine sW ?_ | refine sN ?_) | (apply gBs; first | (refine L_bs0 rfl rfl rfl rfl (fun _ => ?_)) | (refine L_bs1 rfl rfl rfl rfl rfl rfl rfl (fun _ => ?_))) | (apply gApp; apply L_appI rfl rfl rfl rfl rfl rfl; (· exact at_); (· exact tk_); (· rfl); (· omega); intro _ _) | refine kV ?_)
          refine L_nil (hS _ _ ?_)
          clear hS
          refine A_nil (by kernel_rfl) cvt_ ?_
          apply midA.mk (_, _, _)
          · exact sub_
          · exact cvt_
          · trivial
        · refine O_of_L fun S hS => ?_
          first | (apply gCall; apply L_call rfl rfl rfl rfl rfl; (· first | exact specArenaOkB_c hok at_ at_ hw hx); rintro _ _ ⟨rfl, rfl⟩) | (apply gL; first | refine L_nil ?_ | refine yX fun _ => ?_ | refine yA fun _ => ?_ | (apply gSt; first | refine sR ?_ | refine sB ?_ | refine s1 ?_ | refine sW ?_ | refine sN ?_) | (apply gBs; first | (refine L_bs0 rfl rfl rfl rfl (fun _ => ?_)) | (refine L_bs1 rfl rfl rfl rfl rfl rfl rfl (fun _ => ?_))) | (apply gApp; apply L_appI rfl rfl rfl rfl rfl rfl; (· exact at_); (· exact tk_); (· rfl); (· omega); intro _ _) | refine kV ?_)
          refine L_nil (hS _ _ ?_)
          clear hS
          refine A_one (i := 7) (by kernel_rfl) cvt_ rfl ?_
          refine O_of_L fun S hS => ?_
          apply L_call rfl rfl rfl rfl rfl
          · refine l7Val_c (v := A.vs.getD i.toNat (0, 0)) ?_ hw hm8 v1 tk_ hQ
            exact at_
          rintro _ _ ⟨bq', sq', rfl, rfl⟩
          refine L_nil (hS _ _ ?_)
          clear hS
          refine kAt 8 ?_
          refine kAt 9 ?_
          refine kAt 10 ?_
          refine kAt 12 ?_
          refine A_one (i := 13) (by kernel_rfl) cvt_ rfl (O_of_L fun S hS => ?_)
          first | (apply gCall; apply L_call rfl rfl rfl rfl rfl; (· first | exact specArenaOkB_c hok at_ at_ hw hx); rintro _ _ ⟨rfl, rfl⟩) | (apply gL; first | refine L_nil ?_ | refine yX fun _ => ?_ | refine yA fun _ => ?_ | (apply gSt; first | refine sR ?_ | refine sB ?_ | refine s1 ?_ | refine sW ?_ | refine sN ?_) | (apply gBs; first | (refine L_bs0 rfl rfl rfl rfl (fun _ => ?_)) | (refine L_bs1 rfl rfl rfl rfl rfl rfl rfl (fun _ => ?_))) | (apply gApp; apply L_appI rfl rfl rfl rfl rfl rfl; (· exact at_); (· exact tk_); (· rfl); (· omega); intro _ _) | refine kV ?_)
          refine L_nil (hS _ _ ?_)
          clear hS
          refine A_nil (by kernel_rfl) cvt_ ?_
          apply midA.mk (_, _, _)
          · exact sub_
          · exact cvt_
          · trivial
      rintro ⟨b8, bq', sq'⟩ -
      dsimp only
      have hQ' : Pls A m (A.shV Q (A.vs.getD i.toNat (0, 0))).1 := hQ.v v1
      generalize hV : A.shV Q (A.vs.getD i.toNat (0, 0)) = V at *
      obtain ⟨Q', t', n'⟩ := V
      dsimp only at hS hQ' ⊢
      repeat' (first | (apply gBs; refine L_bs1K rfl rfl rfl rfl rfl rfl (by rfl) (by rfl) (by rfl) fun _ => ?_) | (apply gApp; refine L_appV rfl rfl rfl rfl rfl rfl (by (repeat (first | exact TkG.here | apply TkG.there | apply TkG.app))) at_ (by rfl) hR om (by rfl) fun _ _ _ hR' => ?_) | (apply gSt; apply L_stc rfl rfl rfl rfl rfl rfl; (· exact at_); (· simp only [List.set_cons_zero, List.set_cons_succ]; rfl); (· exact up_); (· rfl)) | first | (apply gCall; apply L_call rfl rfl rfl rfl rfl; (· first | exact specArenaOkB_c hok at_ at_ hw hx); rintro _ _ ⟨rfl, rfl⟩) | (apply gL; first | refine L_nil ?_ | refine yX fun _ => ?_ | refine yA fun _ => ?_ | (apply gSt; first | refine sR ?_ | refine sB ?_ | refine s1 ?_ | refine sW ?_ | refine sN ?_) | (apply gBs; first | (refine L_bs0 rfl rfl rfl rfl (fun _ => ?_)) | (refine L_bs1 rfl rfl rfl rfl rfl rfl rfl (fun _ => ?_))) | (apply gApp; apply L_appI rfl rfl rfl rfl rfl rfl; (· exact at_); (· exact tk_); (· rfl); (· omega); intro _ _) | refine kV ?_) | (apply gW; first | refine W_seq ?_ | refine W_region ?_ | refine W_ret ?_ | refine W_skip ?_ | refine W_block ?_ | refine W_exit ?_ | refine W_cond1 rfl ?_ | refine W_cond0 rfl ?_ | refine cW (fun h => ?_) fun h => ?_) | (first | refine seqR.normal ?_ | refine seqR.ret ?_ | refine seqR.exit ?_ | refine blockR.normal ?_ | refine blockR.ret ?_ | refine blockR.here ?_ | refine blockR.exit rfl ?_ | refine loopR.ret ?_ | refine loopR.exit ?_ | refine midA.ret ?_ | refine midA.exit ?_) | fail)
      rename_i b' c' sp'
      apply loopR.mk (i + 1, Q', out ++ [(t', n')], bq', sq', some b', c', sp')
      · exact sub_
      · dsimp only [oV, ad, List.cons_append, List.nil_append]
        exact cvt_
      · exact ⟨⟨by dsimp only; omega, by dsimp only; omega⟩, by simp; omega, hQ', hR', hS⟩
      · dsimp only; omega
    rw [shRs_end (by omega)] at hS
    have e2 : A.shape = (out, (A.shNs (A.ws.length + 1) 0 Q []).2) := by unfold Ar.shape; rw [← hS]
    rw [e2]
    repeat' (first | exact absurd h hlt | first | (apply gCall; apply L_call rfl rfl rfl rfl rfl; (· first | exact specArenaOkB_c hok at_ at_ hw hx); rintro _ _ ⟨rfl, rfl⟩) | (apply gL; first | refine L_nil ?_ | refine yX fun _ => ?_ | refine yA fun _ => ?_ | (apply gSt; first | refine sR ?_ | refine sB ?_ | refine s1 ?_ | refine sW ?_ | refine sN ?_) | (apply gBs; first | (refine L_bs0 rfl rfl rfl rfl (fun _ => ?_)) | (refine L_bs1 rfl rfl rfl rfl rfl rfl rfl (fun _ => ?_))) | (apply gApp; apply L_appI rfl rfl rfl rfl rfl rfl; (· exact at_); (· exact tk_); (· rfl); (· omega); intro _ _) | refine kV ?_) | (apply gW; first | refine W_seq ?_ | refine W_region ?_ | refine W_ret ?_ | refine W_skip ?_ | refine W_block ?_ | refine W_exit ?_ | refine W_cond1 rfl ?_ | refine W_cond0 rfl ?_ | refine cW (fun h => ?_) fun h => ?_) | (first | refine seqR.normal ?_ | refine seqR.ret ?_ | refine seqR.exit ?_ | refine blockR.normal ?_ | refine blockR.ret ?_ | refine blockR.here ?_ | refine blockR.exit rfl ?_ | refine loopR.ret ?_ | refine loopR.exit ?_ | refine midA.ret ?_ | refine midA.exit ?_) | fail)
    apply W_loopX (α := Int × List Int × List (ND × NA) × Nat × List Value × Option Nat × Nat × List Value) (fun y => [(1, .pointer (some ⟨b1, 0, none⟩)), (2, .pointer (some ⟨b2, 0, none⟩)), (4, .pointer (some ⟨b4, 0, none⟩)), (5, .slice (some ⟨y.2.2.2.1, 0, none⟩) y.2.1.length (y.2.1.length + List.length y.2.2.2.2.1)), (9, .int .i64 y.1)])
      (fun y => (b4, .cells #[.slice (ad bs) out.length c, .slice (ad y.2.2.2.2.2.1) (List.length y.2.2.1) y.2.2.2.2.2.2.1] 30 (0, 0)) :: (b2, .cells #[.slice none 0 0, .slice none 0 0] 30 (0, 0)) :: (b1, aObj C A) :: (y.2.2.2.1, .cells (rowA .i64 y.2.1 y.2.2.2.2.1) 3 (0, 0)) :: (oV bs out ssp ++ (oN y.2.2.2.2.2.1 y.2.2.1 y.2.2.2.2.2.2.2 ++ (nHL y.2.2.1 ++ H))))
      (fun y => (0 ≤ y.1 ∧ y.1 ≤ y.2.1.length) ∧ ((List.length y.2.2.1 : Nat) : Int) = y.1 ∧ Pls A m y.2.1 ∧ RowK 6 y.2.2.2.2.2.1 (List.length y.2.2.1) y.2.2.2.2.2.2.1 (y.2.2.1.flatMap nCells) y.2.2.2.2.2.2.2 ∧ (∀ x ∈ y.2.2.1, NOk x) ∧ A.shNs (A.ws.length + 1 - y.1.toNat) y.1 y.2.1 (y.2.2.1.map Prod.fst) = A.shNs (A.ws.length + 1) 0 Q []) (fun y => (A.ws.length + 1 - y.1).toNat) (0, Q, [], bq, sq, none, 0, [])
    · exact sub_
    · exact cvt_
    · exact ⟨⟨by dsimp only; omega, by dsimp only; omega⟩, rfl, hQ, RowK.zero, fun x hx => (by cases hx), rfl⟩
    rintro ⟨i, P, l, bq, sq, bn, nc, nsp⟩ ⟨⟨hi, hi2⟩, ho2, hQ2, hR2, hNk, hS2⟩
    dsimp only at hi hi2 ho2 hQ2 hR2 hNk hS2 ⊢
    have hQl := hQ2.le
    have hA1 : At (oV bs out ssp ++ (oN bn l nsp ++ (nHL l ++ H))) C.bw (wObj C A) := At.app (At.app (At.app hA))
    have hlen : ∀ (x : ND × NA), (nCells x).length = 6 := fun x => rfl
    by_cases hlt2 : i < (P.length : Int)
    · rw [shNs_step hi hlt2 (by omega)] at hS2
      have hp : MkO A m (g P i) := hQ2.mo _ (g_mem hi hlt2)
      repeat' (first | exact absurd hlt2 h | ((fail_if_success apply gAtR 14); (first | (apply gCall; apply L_call rfl rfl rfl rfl rfl; (· first | exact specArenaOkB_c hok at_ at_ hw hx); rintro _ _ ⟨rfl, rfl⟩) | (apply gL; first | refine L_nil ?_ | refine yX fun _ => ?_ | refine yA fun _ => ?_ | (apply gSt; first | refine sR ?_ | refine sB ?_ | refine s1 ?_ | refine sW ?_ | refine sN ?_) | (apply gBs; first | (refine L_bs0 rfl rfl rfl rfl (fun _ => ?_)) | (refine L_bs1 rfl rfl rfl rfl rfl rfl rfl (fun _ => ?_))) | (apply gApp; apply L_appI rfl rfl rfl rfl rfl rfl; (· exact at_); (· exact tk_); (· rfl); (· omega); intro _ _) | refine kV ?_) | (apply gW; first | refine W_seq ?_ | refine W_region ?_ | refine W_ret ?_ | refine W_skip ?_ | refine W_block ?_ | refine W_exit ?_ | refine W_cond1 rfl ?_ | refine W_cond0 rfl ?_ | refine cW (fun h => ?_) fun h => ?_) | (first | refine seqR.normal ?_ | refine seqR.ret ?_ | refine seqR.exit ?_ | refine blockR.normal ?_ | refine blockR.ret ?_ | refine blockR.here ?_ | refine blockR.exit rfl ?_ | refine loopR.ret ?_ | refine loopR.exit ?_ | refine midA.ret ?_ | refine midA.exit ?_) | fail)))
      refine W_midA (α := Nat × Nat × List Value × Option Nat × Nat × List Value) (fun y => [(1, .pointer (some ⟨b1, 0, none⟩)), (2, .pointer (some ⟨b2, 0, none⟩)), (4, .pointer (some ⟨b4, 0, none⟩)), (9, .int .i64 i), (10, .slice (some ⟨y.2.1, 0, none⟩) (A.shN P (g P i)).1.length ((A.shN P (g P i)).1.length + List.length y.2.2.1)), (11, .pointer (some ⟨y.1, 0, none⟩))]) (fun y => (y.1, .cells #[.int .i64 (A.shN P (g P i)).2.k, .int .i64 (A.shN P (g P i)).2.s, .int .i64 (A.shN P (g P i)).2.n, .int .i64 (A.shN P (g P i)).2.m, .string (strOfNums (A.shN P (g P i)).2.tx), .slice (ad y.2.2.2.1) (A.shN P (g P i)).2.sl.length y.2.2.2.2.1] 50 (0, 0)) :: (b4, .cells #[.slice (ad bs) out.length c, .slice (ad bn) (List.length l) nc] 30 (0, 0)) :: (b2, .cells #[.slice none 0 0, .slice none 0 0] 30 (0, 0)) :: (b1, aObj C A) :: (y.2.1, .cells (rowA .i64 (A.shN P (g P i)).1 y.2.2.1) 3 (0, 0)) :: (oV y.2.2.2.1 (A.shN P (g P i)).2.sl y.2.2.2.2.2 ++ (oV bs out ssp ++ (oN bn l nsp ++ (nHL l ++ H))))) (fun y => NOk ((A.shN P (g P i)).2, ⟨y.2.2.2.1, y.2.2.2.2.1, y.2.2.2.2.2⟩)) ?_ ?_
      · apply W_regionA (D := [(b1, aObj C A)]) (by kernel_rfl)
        refine kAt 0 ?_ (cv := by exact Cv.take tk_ cvNil)
        refine kAt 1 ?_ (cv := by exact Cv.take tk_ cvNil)
        refine kAt 2 ?_ (cv := by exact Cv.take tk_ cvNil)
        refine kAt 3 ?_ (cv := by exact Cv.take tk_ cvNil)
        refine kAt 4 ?_ (cv := by exact Cv.take tk_ cvNil)
        refine A_two (i := 5) (j := 10) (by kernel_rfl) (by exact Cv.take tk_ cvNil) rfl rfl ?_ ?_
        · refine O_of_L fun S hS => ?_
          first | (apply gCall; apply L_call rfl rfl rfl rfl rfl; (· first | exact specArenaOkB_c hok at_ at_ hw hx); rintro _ _ ⟨rfl, rfl⟩) | (apply gL; first | refine L_nil ?_ | refine yX fun _ => ?_ | refine yA fun _ => ?_ | (apply gSt; first | refine sR ?_ | refine sB ?_ | refine s1 ?_ | refine sW ?_ | refine sN ?_) | (apply gBs; first | (refine L_bs0 rfl rfl rfl rfl (fun _ => ?_)) | (refine L_bs1 rfl rfl rfl rfl rfl rfl rfl (fun _ => ?_))) | (apply gApp; apply L_appI rfl rfl rfl rfl rfl rfl; (· exact at_); (· exact tk_); (· rfl); (· omega); intro _ _) | refine kV ?_)
          refine L_nil (hS _ _ ?_)
          clear hS
          refine A_two (i := 6) (j := 10) (by kernel_rfl) (by exact Cv.take tk_ cvNil) rfl rfl ?_ ?_
          · refine O_of_L fun S hS => ?_
            apply L_call rfl rfl rfl rfl rfl
            · refine l7Node_c ?_ hw hm8 hO hp tk_ hQ2
              exact at_
            rintro _ _ ⟨bq', sq', bs', c', ssp', rfl, hNOk, rfl⟩
            refine L_perm (List.Perm.cons _ (Sink.perm (by (repeat (apply Sink.there)); exact Sink.here))) ?_
            refine L_nil (hS _ _ ?_)
            clear hS
            refine kAt 7 ?_ (cv := by exact Cv.take tk_ cvNil)
            refine kAt 8 ?_ (cv := by exact Cv.take tk_ cvNil)
            refine kAt 9 ?_ (cv := by exact Cv.take tk_ cvNil)
            refine A_one (i := 10) (by kernel_rfl) (by exact Cv.take tk_ cvNil) rfl ?_
            refine O_of_L fun S hS => ?_
            first | (apply gCall; apply L_call rfl rfl rfl rfl rfl; (· first | exact specArenaOkB_c hok at_ at_ hw hx); rintro _ _ ⟨rfl, rfl⟩) | (apply gL; first | refine L_nil ?_ | refine yX fun _ => ?_ | refine yA fun _ => ?_ | (apply gSt; first | refine sR ?_ | refine sB ?_ | refine s1 ?_ | refine sW ?_ | refine sN ?_) | (apply gBs; first | (refine L_bs0 rfl rfl rfl rfl (fun _ => ?_)) | (refine L_bs1 rfl rfl rfl rfl rfl rfl rfl (fun _ => ?_))) | (apply gApp; apply L_appI rfl rfl rfl rfl rfl rfl; (· exact at_); (· exact tk_); (· rfl); (· omega); intro _ _) | refine kV ?_)
            refine L_nil (hS _ _ ?_)
            clear hS
            refine kAt 11 ?_ (cv := by exact Cv.take tk_ cvNil)
            refine A_one (i := 12) (by kernel_rfl) (by exact Cv.take tk_ cvNil) rfl (O_of_L fun S hS => ?_)
            first | (apply gCall; apply L_call rfl rfl rfl rfl rfl; (· first | exact specArenaOkB_c hok at_ at_ hw hx); rintro _ _ ⟨rfl, rfl⟩) | (apply gL; first | refine L_nil ?_ | refine yX fun _ => ?_ | refine yA fun _ => ?_ | (apply gSt; first | refine sR ?_ | refine sB ?_ | refine s1 ?_ | refine sW ?_ | refine sN ?_) | (apply gBs; first | (refine L_bs0 rfl rfl rfl rfl (fun _ => ?_)) | (refine L_bs1 rfl rfl rfl rfl rfl rfl rfl (fun _ => ?_))) | (apply gApp; apply L_appI rfl rfl rfl rfl rfl rfl; (· exact at_); (· exact tk_); (· rfl); (· omega); intro _ _) | refine kV ?_)
            refine L_nil (hS _ _ ?_)
            clear hS
            refine A_nil (by kernel_rfl) (by exact Cv.take tk_ cvNil) ?_
            apply midA.mk (_, _, _, _, _, _)
            · exact sub_
            · exact cvt_
            · exact hNOk
          · refine O_of_L fun S hS => ?_
            first | (apply gCall; apply L_call rfl rfl rfl rfl rfl; (· first | exact specArenaOkB_c hok at_ at_ hw hx); rintro _ _ ⟨rfl, rfl⟩) | (apply gL; first | refine L_nil ?_ | refine yX fun _ => ?_ | refine yA fun _ => ?_ | (apply gSt; first | refine sR ?_ | refine sB ?_ | refine s1 ?_ | refine sW ?_ | refine sN ?_) | (apply gBs; first | (refine L_bs0 rfl rfl rfl rfl (fun _ => ?_)) | (refine L_bs1 rfl rfl rfl rfl rfl rfl rfl (fun _ => ?_))) | (apply gApp; apply L_appI rfl rfl rfl rfl rfl rfl; (· exact at_); (· exact tk_); (· rfl); (· omega); intro _ _) | refine kV ?_)
            refine L_nil (hS _ _ ?_)
            clear hS
            refine A_one (i := 6) (by kernel_rfl) (by exact Cv.take tk_ cvNil) rfl ?_
            refine O_of_L fun S hS => ?_
            apply L_call rfl rfl rfl rfl rfl
            · refine l7Node_c ?_ hw hm8 hO hp tk_ hQ2
              exact at_
            rintro _ _ ⟨bq', sq', bs', c', ssp', rfl, hNOk, rfl⟩
            refine L_perm (List.Perm.cons _ (Sink.perm (by (repeat (apply Sink.there)); exact Sink.here))) ?_
            refine L_nil (hS _ _ ?_)
            clear hS
            refine kAt 7 ?_ (cv := by exact Cv.take tk_ cvNil)
            refine kAt 8 ?_ (cv := by exact Cv.take tk_ cvNil)
            refine kAt 9 ?_ (cv := by exact Cv.take tk_ cvNil)
            refine kAt 11 ?_ (cv := by exact Cv.take tk_ cvNil)
            refine A_one (i := 12) (by kernel_rfl) (by exact Cv.take tk_ cvNil) rfl (O_of_L fun S hS => ?_)
            first | (apply gCall; apply L_call rfl rfl rfl rfl rfl; (· first | exact specArenaOkB_c hok at_ at_ hw hx); rintro _ _ ⟨rfl, rfl⟩) | (apply gL; first | refine L_nil ?_ | refine yX fun _ => ?_ | refine yA fun _ => ?_ | (apply gSt; first | refine sR ?_ | refine sB ?_ | refine s1 ?_ | refine sW ?_ | refine sN ?_) | (apply gBs; first | (refine L_bs0 rfl rfl rfl rfl (fun _ => ?_)) | (refine L_bs1 rfl rfl rfl rfl rfl rfl rfl (fun _ => ?_))) | (apply gApp; apply L_appI rfl rfl rfl rfl rfl rfl; (· exact at_); (· exact tk_); (· rfl); (· omega); intro _ _) | refine kV ?_)
            refine L_nil (hS _ _ ?_)
            clear hS
            refine A_nil (by kernel_rfl) (by exact Cv.take tk_ cvNil) ?_
            apply midA.mk (_, _, _, _, _, _)
            · exact sub_
            · exact cvt_
            · exact hNOk
        · refine O_of_L fun S hS => ?_
          first | (apply gCall; apply L_call rfl rfl rfl rfl rfl; (· first | exact specArenaOkB_c hok at_ at_ hw hx); rintro _ _ ⟨rfl, rfl⟩) | (apply gL; first | refine L_nil ?_ | refine yX fun _ => ?_ | refine yA fun _ => ?_ | (apply gSt; first | refine sR ?_ | refine sB ?_ | refine s1 ?_ | refine sW ?_ | refine sN ?_) | (apply gBs; first | (refine L_bs0 rfl rfl rfl rfl (fun _ => ?_)) | (refine L_bs1 rfl rfl rfl rfl rfl rfl rfl (fun _ => ?_))) | (apply gApp; apply L_appI rfl rfl rfl rfl rfl rfl; (· exact at_); (· exact tk_); (· rfl); (· omega); intro _ _) | refine kV ?_)
          refine L_nil (hS _ _ ?_)
          clear hS
          refine A_one (i := 5) (by kernel_rfl) (by exact Cv.take tk_ cvNil) rfl ?_
          refine O_of_L fun S hS => ?_
          first | (apply gCall; apply L_call rfl rfl rfl rfl rfl; (· first | exact specArenaOkB_c hok at_ at_ hw hx); rintro _ _ ⟨rfl, rfl⟩) | (apply gL; first | refine L_nil ?_ | refine yX fun _ => ?_ | refine yA fun _ => ?_ | (apply gSt; first | refine sR ?_ | refine sB ?_ | refine s1 ?_ | refine sW ?_ | refine sN ?_) | (apply gBs; first | (refine L_bs0 rfl rfl rfl rfl (fun _ => ?_)) | (refine L_bs1 rfl rfl rfl rfl rfl rfl rfl (fun _ => ?_))) | (apply gApp; apply L_appI rfl rfl rfl rfl rfl rfl; (· exact at_); (· exact tk_); (· rfl); (· omega); intro _ _) | refine kV ?_)
          refine L_nil (hS _ _ ?_)
          clear hS
          refine A_one (i := 6) (by kernel_rfl) (by exact Cv.take tk_ cvNil) rfl ?_
          refine O_of_L fun S hS => ?_
          apply L_call rfl rfl rfl rfl rfl
          · refine l7Node_c ?_ hw hm8 hO hp tk_ hQ2
            exact at_
          rintro _ _ ⟨bq', sq', bs', c', ssp', rfl, hNOk, rfl⟩
          refine L_perm (List.Perm.cons _ (Sink.perm (by (repeat (apply Sink.there)); exact Sink.here))) ?_
          refine L_nil (hS _ _ ?_)
          clear hS
          refine kAt 7 ?_ (cv := by exact Cv.take tk_ cvNil)
          refine kAt 8 ?_ (cv := by exact Cv.take tk_ cvNil)
          refine kAt 9 ?_ (cv := by exact Cv.take tk_ cvNil)
          refine kAt 11 ?_ (cv := by exact Cv.take tk_ cvNil)
          refine A_one (i := 12) (by kernel_rfl) (by exact Cv.take tk_ cvNil) rfl (O_of_L fun S hS => ?_)
          first | (apply gCall; apply L_call rfl rfl rfl rfl rfl; (· first | exact specArenaOkB_c hok at_ at_ hw hx); rintro _ _ ⟨rfl, rfl⟩) | (apply gL; first | refine L_nil ?_ | refine yX fun _ => ?_ | refine yA fun _ => ?_ | (apply gSt; first | refine sR ?_ | refine sB ?_ | refine s1 ?_ | refine sW ?_ | refine sN ?_) | (apply gBs; first | (refine L_bs0 rfl rfl rfl rfl (fun _ => ?_)) | (refine L_bs1 rfl rfl rfl rfl rfl rfl rfl (fun _ => ?_))) | (apply gApp; apply L_appI rfl rfl rfl rfl rfl rfl; (· exact at_); (· exact tk_); (· rfl); (· omega); intro _ _) | refine kV ?_)
          refine L_nil (hS _ _ ?_)
          clear hS
          refine A_nil (by kernel_rfl) (by exact Cv.take tk_ cvNil) ?_
          apply midA.mk (_, _, _, _, _, _)
          · exact sub_
          · exact cvt_
          · exact hNOk
      rintro ⟨b11, bq', sq', bs', c', ssp'⟩ hNOk
      dsimp only at hNOk ⊢
      have hQ2' : Pls A m (A.shN P (g P i)).1 := (hQ2.n hO hp).1
      have hpr : P <+: (A.shN P (g P i)).1 := (hQ2.n hO hp).2
      generalize hV : A.shN P (g P i) = V at *
      obtain ⟨Q', D⟩ := V
      dsimp only at hS2 hQ2' hNOk hpr ⊢
      repeat' ((fail_if_success apply gBs); (first | (apply gCall; apply L_call rfl rfl rfl rfl rfl; (· first | exact specArenaOkB_c hok at_ at_ hw hx); rintro _ _ ⟨rfl, rfl⟩) | (apply gL; first | refine L_nil ?_ | refine yX fun _ => ?_ | refine yA fun _ => ?_ | (apply gSt; first | refine sR ?_ | refine sB ?_ | refine s1 ?_ | refine sW ?_ | refine sN ?_) | (apply gBs; first | (refine L_bs0 rfl rfl rfl rfl (fun _ => ?_)) | (refine L_bs1 rfl rfl rfl rfl rfl rfl rfl (fun _ => ?_))) | (apply gApp; apply L_appI rfl rfl rfl rfl rfl rfl; (· exact at_); (· exact tk_); (· rfl); (· omega); intro _ _) | refine kV ?_) | (apply gW; first | refine W_seq ?_ | refine W_region ?_ | refine W_ret ?_ | refine W_skip ?_ | refine W_block ?_ | refine W_exit ?_ | refine W_cond1 rfl ?_ | refine W_cond0 rfl ?_ | refine cW (fun h => ?_) fun h => ?_) | (first | refine seqR.normal ?_ | refine seqR.ret ?_ | refine seqR.exit ?_ | refine blockR.normal ?_ | refine blockR.ret ?_ | refine blockR.here ?_ | refine blockR.exit rfl ?_ | refine loopR.ret ?_ | refine loopR.exit ?_ | refine midA.ret ?_ | refine midA.exit ?_) | fail))
      apply gBs
      refine L_bs1K (cs := (nCells (D, ⟨bs', c', ssp'⟩)).toArray) rfl rfl rfl rfl rfl rfl (by rfl) (by rfl) (by rfl) fun b63 => ?_
      repeat' ((fail_if_success apply gApp); (first | (apply gCall; apply L_call rfl rfl rfl rfl rfl; (· first | exact specArenaOkB_c hok at_ at_ hw hx); rintro _ _ ⟨rfl, rfl⟩) | (apply gL; first | refine L_nil ?_ | refine yX fun _ => ?_ | refine yA fun _ => ?_ | (apply gSt; first | refine sR ?_ | refine sB ?_ | refine s1 ?_ | refine sW ?_ | refine sN ?_) | (apply gBs; first | (refine L_bs0 rfl rfl rfl rfl (fun _ => ?_)) | (refine L_bs1 rfl rfl rfl rfl rfl rfl rfl (fun _ => ?_))) | (apply gApp; apply L_appI rfl rfl rfl rfl rfl rfl; (· exact at_); (· exact tk_); (· rfl); (· omega); intro _ _) | refine kV ?_) | (apply gW; first | refine W_seq ?_ | refine W_region ?_ | refine W_ret ?_ | refine W_skip ?_ | refine W_block ?_ | refine W_exit ?_ | refine W_cond1 rfl ?_ | refine W_cond0 rfl ?_ | refine cW (fun h => ?_) fun h => ?_) | (first | refine seqR.normal ?_ | refine seqR.ret ?_ | refine seqR.exit ?_ | refine blockR.normal ?_ | refine blockR.ret ?_ | refine blockR.here ?_ | refine blockR.exit rfl ?_ | refine loopR.ret ?_ | refine loopR.exit ?_ | refine midA.ret ?_ | refine midA.exit ?_) | fail))
      apply gApp
      refine L_appF (f := nCells) (a := (D, ⟨bs', c', ssp'⟩)) (xs := l) (sp := nsp) rfl rfl rfl rfl rfl rfl (by (repeat (first | exact TkG.here | apply TkG.there | apply TkG.app))) at_ (by rfl) rfl (hlen _) ?_ hR2 (by omega) (by rfl) fun bn' nc' nsp' hR2' => ?_
      · intro u hu; simp [nCells] at hu; rcases hu with rfl | rfl | rfl | rfl | rfl | rfl <;> rfl
      refine L_perm (tail_perm [_, _, _, _, _, _] _ _ _ _ _) ?_
      rw [nHL_snoc l (D, ⟨bs', c', ssp'⟩)]
      dsimp only [List.cons_append, List.nil_append]
      repeat' (first | (apply gSt; apply L_stc rfl rfl rfl rfl rfl rfl; (· exact at_); (· simp only [List.set_cons_zero, List.set_cons_succ]; rfl); (· exact up_); (· rfl)) | first | (apply gCall; apply L_call rfl rfl rfl rfl rfl; (· first | exact specArenaOkB_c hok at_ at_ hw hx); rintro _ _ ⟨rfl, rfl⟩) | (apply gL; first | refine L_nil ?_ | refine yX fun _ => ?_ | refine yA fun _ => ?_ | (apply gSt; first | refine sR ?_ | refine sB ?_ | refine s1 ?_ | refine sW ?_ | refine sN ?_) | (apply gBs; first | (refine L_bs0 rfl rfl rfl rfl (fun _ => ?_)) | (refine L_bs1 rfl rfl rfl rfl rfl rfl rfl (fun _ => ?_))) | (apply gApp; apply L_appI rfl rfl rfl rfl rfl rfl; (· exact at_); (· exact tk_); (· rfl); (· omega); intro _ _) | refine kV ?_) | (apply gW; first | refine W_seq ?_ | refine W_region ?_ | refine W_ret ?_ | refine W_skip ?_ | refine W_block ?_ | refine W_exit ?_ | refine W_cond1 rfl ?_ | refine W_cond0 rfl ?_ | refine cW (fun h => ?_) fun h => ?_) | (first | refine seqR.normal ?_ | refine seqR.ret ?_ | refine seqR.exit ?_ | refine blockR.normal ?_ | refine blockR.ret ?_ | refine blockR.here ?_ | refine blockR.exit rfl ?_ | refine loopR.ret ?_ | refine loopR.exit ?_ | refine midA.ret ?_ | refine midA.exit ?_) | fail)
      apply loopR.mk (i + 1, Q', l ++ [(D, ⟨bs', c', ssp'⟩)], bq', sq', some bn', nc', nsp')
      · exact sub_
      · dsimp only [oN, oC, ad, List.cons_append, List.nil_append]
        exact cvt_
      · have := hpr.length_le
        exact ⟨⟨by dsimp only; omega, by dsimp only; omega⟩, by simp; omega, hQ2', hR2', fun x hx => (by
          rcases List.mem_append.1 hx with h | h
          · exact hNk x h
          · rw [List.mem_singleton] at h; subst h; exact hNOk), by rw [← hS2]; simp⟩
      · dsimp only; omega
    rw [shNs_end hlt2] at hS2
    rw [← hS2]
    repeat' (first | exact absurd h hlt2 | first | (apply gCall; apply L_call rfl rfl rfl rfl rfl; (· first | exact specArenaOkB_c hok at_ at_ hw hx); rintro _ _ ⟨rfl, rfl⟩) | (apply gL; first | refine L_nil ?_ | refine yX fun _ => ?_ | refine yA fun _ => ?_ | (apply gSt; first | refine sR ?_ | refine sB ?_ | refine s1 ?_ | refine sW ?_ | refine sN ?_) | (apply gBs; first | (refine L_bs0 rfl rfl rfl rfl (fun _ => ?_)) | (refine L_bs1 rfl rfl rfl rfl rfl rfl rfl (fun _ => ?_))) | (apply gApp; apply L_appI rfl rfl rfl rfl rfl rfl; (· exact at_); (· exact tk_); (· rfl); (· omega); intro _ _) | refine kV ?_) | (apply gW; first | refine W_seq ?_ | refine W_region ?_ | refine W_ret ?_ | refine W_skip ?_ | refine W_block ?_ | refine W_exit ?_ | refine W_cond1 rfl ?_ | refine W_cond0 rfl ?_ | refine cW (fun h => ?_) fun h => ?_) | (first | refine seqR.normal ?_ | refine seqR.ret ?_ | refine seqR.exit ?_ | refine blockR.normal ?_ | refine blockR.ret ?_ | refine blockR.here ?_ | refine blockR.exit rfl ?_ | refine loopR.ret ?_ | refine loopR.exit ?_ | refine midA.ret ?_ | refine midA.exit ?_) | fail)
    exact retR.ret _ _ (retCT rfl rfl at_ (by rfl) rfl) cvt_ ⟨bs, c, ssp, bn, nc, nsp, l, rfl, rfl, fun e => (hR.nil e).1 |> List.eq_nil_of_length_eq_zero, fun e => (hR2.nil e).1 |> List.eq_nil_of_length_eq_zero, hNk, rfl⟩
end Go.Proofs.Ytfhihnonafklbaa.Eng
