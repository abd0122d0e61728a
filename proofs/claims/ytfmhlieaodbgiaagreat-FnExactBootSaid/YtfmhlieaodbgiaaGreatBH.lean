/- The reference's Boot. -/
import Derived.Test.YtfmhlieaodbgiaaGreatBG
namespace Go.Proofs.YtfmhlieaodbgiaaGreat.Eng
open Go Go.RowKit Go.Proofs.YtfmhlieaodbgiaaGreat.Sl Go.Proofs.YtfmhlieaodbgiaaGreat.Ar Go.Proofs.YtfmhlieaodbgiaaGreat.Base
set_option linter.unusedVariables false
set_option linter.unusedSimpArgs false
set_option maxRecDepth 10000
inductive Sink (X : HL) : HL → HL → Prop
  | here {T : HL} : Sink X T (X ++ T)
  | there {R R' : HL} {p : Nat × Obj} : Sink X R R' → Sink X (p :: R) (p :: R')
theorem Sink.perm {X R R' : HL} (h : Sink X R R') : (X ++ R).Perm R' := by
  induction h with
  | here => exact .refl _
  | there _ ih => exact List.perm_middle.trans (List.Perm.cons _ ih)
def bootP (M : Md) (s : Int) : Prop := (256 ≤ s ∧ s ≤ 4000) ∧ mOkP M
/-- the slots of the first function -/
def sl0 (M : Md) : Int := ((M.pr[0]?).map (·.sl)).getD 0
/-- what Boot hands back -/
def BRes (M : Md) (s : Int) (H : HL) (v : Value) (H' : HL) : Prop :=
  (bootP M s ∧ ∃ X C, v = .tuple #[mcX M X C (ba2 s), .bool true] ∧ MOk M X ∧ H' = (C.br, rObj C (bootA s (sl0 M))) :: (C.bw, wObj C (bootA s (sl0 M))) :: (mHL M X ++ H)) ∨ (¬ bootP M s ∧ v = .tuple #[zMc, .bool false] ∧ H' = H)
variable {w0 : World} {H : HL} {C : Cn} {A : Ar} {M : Md} {X : MA}
theorem bAskT {k s : Int} {H1 H2 : HL} (hT : Tk H C.br (rObj C A) H1) (hT2 : Tk H1 C.bw (wObj C A) H2) (hF : FA A k s) :
    Fn Tryz.prog w0 17 #[arV C A, .int .i64 k, .int .i64 s] H fun v H' => v = .tuple #[arV C (A.mkO k s), .int .i64 A.top, .int .i64 0] ∧ H' = (C.br, rObj C (A.mkO k s)) :: (C.bw, wObj C (A.mkO k s)) :: H2 :=
  Fn.conv (Cv.take hT (Cv.take hT2 Cv.refl)) (bAsk_c hF)
theorem l11PutT {k x : Int} {V : Value} {H1 H2 : HL} (e : mcX M X C A = V) (hC : CoA A) (hT : Tk H C.br (rObj C A) H1) (hT2 : Tk H1 C.bw (wObj C A) H2) (hk : 1 ≤ k ∧ k ≤ 3) (hx : 0 ≤ x ∧ x ≤ 1000) :
    Fn Tryz.prog w0 19 #[V, .int .i64 k, .int .i64 x] H fun v H' => v = V ∧ H' = (C.br, rObj C A) :: (C.bw, wObj C (putW A (3 + k) x)) :: H2 := by
  subst e
  exact Fn.conv (Cv.take hT (Cv.take hT2 Cv.refl)) (l11Put_c hC hk hx)
theorem l11SetT {i t n : Int} {V : Value} {H1 H2 : HL} (e : mcX M X C A = V) (hC : CoA A) (hT : Tk H C.br (rObj C A) H1) (hT2 : Tk H1 C.bw (wObj C A) H2) (hi : 0 ≤ i ∧ i ≤ 2) :
    Fn Tryz.prog w0 20 #[V, .int .i64 i, .agg #[.int .i64 t, .int .i64 n]] H fun v H' => v = V ∧ H' = (C.br, rObj C A) :: (C.bw, wObj C (A.putV (10 + 2 * i) t n)) :: H2 := by
  subst e
  exact Fn.conv (Cv.take hT (Cv.take hT2 Cv.refl)) (l11Set_c hC hi)
set_option maxHeartbeats 8000000 in
theorem specBoot_c {s : Int} (hm : RM H M X) (hl : M.pr.length ≤ 1048576 ∧ M.tx.length ≤ 1048576) (hub : ∀ q ∈ M.pr, q.ups.length ≤ 1048576 ∧ q.code.length ≤ 1048576) :
    Fn Tryz.prog w0 5 #[mdV M X, .int .i64 s] H (BRes M s H) := by
  refine enter2 Tryz.func5 rfl rfl Tryz.ntmps5 rfl ?_
  by_cases hs : 256 ≤ s ∧ s ≤ 4000
  · obtain ⟨k, hk⟩ : ∃ k : Nat, 2 * s = (k : Int) := ⟨(2 * s).toNat, by omega⟩
    repeat' ((fail_if_success apply gCall); (first | (apply gCall; apply L_call rfl rfl rfl rfl rfl; (· first | exact zspecNewArena_c hs); rintro _ _ ⟨rfl, rfl⟩) | (apply gL; first | refine L_nil ?_ | refine yS ?_ | refine yX fun _ => ?_ | refine yA fun _ => ?_ | (apply gSt; first | refine sR ?_ | refine sB ?_ | refine s1 ?_ | refine sW ?_ | refine sN ?_) | refine kV ?_ | (apply L_val rfl rfl rfl; (· first | (apply gBin; first | fail ) | fail | exact v_bz | exact v_bm rfl rfl | exact v_fieldAddrN rfl)) | ((fail_if_success (refine L_known rfl ?_)); refine yW (fun h => ?_) fun h => ?_)) | (apply gW; first | refine W_seq ?_ | refine W_region ?_ | refine W_ret ?_ | refine W_skip ?_ | refine W_cond1 rfl ?_ | refine W_cond0 rfl ?_ | refine cW (fun h => ?_) fun h => ?_) | (first | refine seqR.normal ?_ | refine seqR.ret ?_ | refine midA.ret ?_ | refine midA.exit ?_) | fail))
    apply L_call rfl rfl rfl rfl rfl
    · exact specNewArena_c hk (show (6 : Int) = ((6 : Nat) : Int) from rfl) hs (by omega)
    rintro _ _ ⟨C, rfl, hwc, rfl⟩
    repeat' (first | exact absurd rfl h | ((fail_if_success apply gCall); (first | (apply gCall; apply L_call rfl rfl rfl rfl rfl; (· first | exact zspecNewArena_c hs); rintro _ _ ⟨rfl, rfl⟩) | (apply gL; first | refine L_nil ?_ | refine yS ?_ | refine yX fun _ => ?_ | refine yA fun _ => ?_ | (apply gSt; first | refine sR ?_ | refine sB ?_ | refine s1 ?_ | refine sW ?_ | refine sN ?_) | refine kV ?_ | (apply L_val rfl rfl rfl; (· first | (apply gBin; first | fail ) | fail | exact v_bz | exact v_bm rfl rfl | exact v_fieldAddrN rfl)) | ((fail_if_success (refine L_known rfl ?_)); refine yW (fun h => ?_) fun h => ?_)) | (apply gW; first | refine W_seq ?_ | refine W_region ?_ | refine W_ret ?_ | refine W_skip ?_ | refine W_cond1 rfl ?_ | refine W_cond0 rfl ?_ | refine cW (fun h => ?_) fun h => ?_) | (first | refine seqR.normal ?_ | refine seqR.ret ?_ | refine midA.ret ?_ | refine midA.exit ?_) | fail)))
    apply L_call rfl rfl rfl rfl rfl
    · exact specModuleOk_c (by (repeat (first | assumption | apply RM.there))) hl hub
    rintro _ _ ⟨b, rfl, hb, rfl⟩
    by_cases hok : mOkP M
    · obtain rfl := hb.2 hok
      repeat' (first | exact absurd rfl h | ((fail_if_success apply gAtR 4); (first | (apply gCall; apply L_call rfl rfl rfl rfl rfl; (· first | exact zspecNewArena_c hs); rintro _ _ ⟨rfl, rfl⟩) | (apply gL; first | refine L_nil ?_ | refine yS ?_ | refine yX fun _ => ?_ | refine yA fun _ => ?_ | (apply gSt; first | refine sR ?_ | refine sB ?_ | refine s1 ?_ | refine sW ?_ | refine sN ?_) | refine kV ?_ | (apply L_val rfl rfl rfl; (· first | (apply gBin; first | fail ) | fail | exact v_bz | exact v_bm rfl rfl | exact v_fieldAddrN rfl)) | ((fail_if_success (refine L_known rfl ?_)); refine yW (fun h => ?_) fun h => ?_)) | (apply gW; first | refine W_seq ?_ | refine W_region ?_ | refine W_ret ?_ | refine W_skip ?_ | refine W_cond1 rfl ?_ | refine W_cond0 rfl ?_ | refine cW (fun h => ?_) fun h => ?_) | (first | refine seqR.normal ?_ | refine seqR.ret ?_ | refine midA.ret ?_ | refine midA.exit ?_) | fail)))
      rename_i b2 b4 b6
      have hFA0 := fa0 hs
      have hFA1 := fa1 hs
      have hco := co2 hs
      have hp1 : M.pr.length ≤ 100 := by have := hok.1.2; omega
      have e1 : ((fresh s 6).mkO 4 1).vs.length = 6 := rfl
      have e2 : ((ba1 s).mkO 6 126).vs.length = 6 := rfl
      repeat' (first | (apply gCall; apply L_call rfl rfl rfl rfl rfl; (· first | exact bAskT (A := fresh s 6) tk_ tk_ hFA0 | exact bAskT (A := ba1 s) tk_ tk_ hFA1); rintro _ _ ⟨rfl, rfl⟩) | (apply gSt; apply L_stV rfl rfl rfl rfl rfl; (· exact up_); (· first | omega | decide); (· first | omega | decide)) | ((fail_if_success apply gAtR 8); (first | (apply gCall; apply L_call rfl rfl rfl rfl rfl; (· first | exact zspecNewArena_c hs); rintro _ _ ⟨rfl, rfl⟩) | (apply gL; first | refine L_nil ?_ | refine yS ?_ | refine yX fun _ => ?_ | refine yA fun _ => ?_ | (apply gSt; first | refine sR ?_ | refine sB ?_ | refine s1 ?_ | refine sW ?_ | refine sN ?_) | refine kV ?_ | (apply L_val rfl rfl rfl; (· first | (apply gBin; first | fail ) | fail | exact v_bz | exact v_bm rfl rfl | exact v_fieldAddrN rfl)) | ((fail_if_success (refine L_known rfl ?_)); refine yW (fun h => ?_) fun h => ?_)) | (apply gW; first | refine W_seq ?_ | refine W_region ?_ | refine W_ret ?_ | refine W_skip ?_ | refine W_cond1 rfl ?_ | refine W_cond0 rfl ?_ | refine cW (fun h => ?_) fun h => ?_) | (first | refine seqR.normal ?_ | refine seqR.ret ?_ | refine midA.ret ?_ | refine midA.exit ?_) | fail)))
      refine W_sub (show Sub _ [(2, .pointer (some ⟨b2, 0, none⟩)), (4, .pointer (some ⟨b4, 0, none⟩)), (6, .pointer (some ⟨b6, 0, none⟩))] from by exact sub_) (show Cv _ ((b6, aObj C (ba2 s)) :: (C.br, rObj C (ba2 s)) :: (C.bw, wObj C (ba2 s)) :: (b4, .cells zMc.cells 37 (0, 0)) :: (b2, .cells (mdV M X).cells 29 (0, 0)) :: H) from by exact cvt_) ?_
      refine W_midA (α := MA × Nat) (fun y => [(2, .pointer (some ⟨b2, 0, none⟩)), (4, .pointer (some ⟨b4, 0, none⟩)), (12, .pointer (some ⟨y.2, 0, none⟩))]) (fun y => (y.2, .cells (mcX M y.1 C (ba2 s)).cells 37 (0, 0)) :: (C.br, rObj C (ba2 s)) :: (C.bw, wObj C (ba2 s)) :: (b4, .cells zMc.cells 37 (0, 0)) :: (b2, .cells (mdV M X).cells 29 (0, 0)) :: (mHL M y.1 ++ H)) (fun y => MOk M y.1) ?_ ?_
      · apply W_regionA (D := (b6, aObj C (ba2 s)) :: (b2, .cells (mdV M X).cells 29 (0, 0)) :: H) (by kernel_rfl)
        refine kAt 0 ?_ (cv := by (repeat (first | exact Cv.refl | exact Cv.app | (refine Cv.take tk_ ?_) | apply Cv.skip)))
        refine kAt 2 ?_ (cv := by (repeat (first | exact Cv.refl | exact Cv.app | (refine Cv.take tk_ ?_) | apply Cv.skip)))
        refine A_two (i := 1) (j := 4) (by kernel_rfl) (by (repeat (first | exact Cv.refl | exact Cv.app | (refine Cv.take tk_ ?_) | apply Cv.skip))) rfl rfl ?_ ?_
        · refine O_of_L fun S hS => ?_
          apply L_call rfl rfl rfl rfl rfl
          · exact specCopy_c (by (repeat (first | assumption | apply RM.there))) ⟨Nat.le_trans hp1 (by decide), hl.2⟩ hub
          rintro _ _ ⟨X', rfl, hMO, rfl⟩
          refine L_perm (Sink.perm (by (repeat (apply Sink.there)); exact Sink.here)) ?_
          refine L_nil (hS _ _ ?_)
          clear hS
          refine A_val 3 rfl (by kernel_rfl) rfl rfl rfl (by (repeat (first | exact Cv.refl | exact Cv.app | (refine Cv.take tk_ ?_) | apply Cv.skip))) (v_bm rfl rfl) ?_
          refine A_one (i := 4) (by kernel_rfl) (by (repeat (first | exact Cv.refl | exact Cv.app | (refine Cv.take tk_ ?_) | apply Cv.skip))) rfl ?_
          refine O_of_L fun S hS => ?_
          first | (apply gCall; apply L_call rfl rfl rfl rfl rfl; (· first | exact zspecNewArena_c hs); rintro _ _ ⟨rfl, rfl⟩) | (apply gL; first | refine L_nil ?_ | refine yS ?_ | refine yX fun _ => ?_ | refine yA fun _ => ?_ | (apply gSt; first | refine sR ?_ | refine sB ?_ | refine s1 ?_ | refine sW ?_ | refine sN ?_) | refine kV ?_ | (apply L_val rfl rfl rfl; (· first | (apply gBin; first | fail ) | fail | exact v_bz | exact v_bm rfl rfl | exact v_fieldAddrN rfl)) | ((fail_if_success (refine L_known rfl ?_)); refine yW (fun h => ?_) fun h => ?_))
          refine L_nil (hS _ _ ?_)
          clear hS
          refine A_one (i := 5) (by kernel_rfl) (by (repeat (first | exact Cv.refl | exact Cv.app | (refine Cv.take tk_ ?_) | apply Cv.skip))) rfl (O_of_L fun S hS => ?_)
          first | (apply gCall; apply L_call rfl rfl rfl rfl rfl; (· first | exact zspecNewArena_c hs); rintro _ _ ⟨rfl, rfl⟩) | (apply gL; first | refine L_nil ?_ | refine yS ?_ | refine yX fun _ => ?_ | refine yA fun _ => ?_ | (apply gSt; first | refine sR ?_ | refine sB ?_ | refine s1 ?_ | refine sW ?_ | refine sN ?_) | refine kV ?_ | (apply L_val rfl rfl rfl; (· first | (apply gBin; first | fail ) | fail | exact v_bz | exact v_bm rfl rfl | exact v_fieldAddrN rfl)) | ((fail_if_success (refine L_known rfl ?_)); refine yW (fun h => ?_) fun h => ?_))
          refine L_nil (hS _ _ ?_)
          clear hS
          refine A_nil (by kernel_rfl) (by (repeat (first | exact Cv.refl | exact Cv.app | (refine Cv.take tk_ ?_) | apply Cv.skip))) ?_
          apply midA.mk (X', _)
          · exact sub_
          · exact cvt_
          · exact hMO
        · refine O_of_L fun S hS => ?_
          first | (apply gCall; apply L_call rfl rfl rfl rfl rfl; (· first | exact zspecNewArena_c hs); rintro _ _ ⟨rfl, rfl⟩) | (apply gL; first | refine L_nil ?_ | refine yS ?_ | refine yX fun _ => ?_ | refine yA fun _ => ?_ | (apply gSt; first | refine sR ?_ | refine sB ?_ | refine s1 ?_ | refine sW ?_ | refine sN ?_) | refine kV ?_ | (apply L_val rfl rfl rfl; (· first | (apply gBin; first | fail ) | fail | exact v_bz | exact v_bm rfl rfl | exact v_fieldAddrN rfl)) | ((fail_if_success (refine L_known rfl ?_)); refine yW (fun h => ?_) fun h => ?_))
          refine L_nil (hS _ _ ?_)
          clear hS
          refine A_one (i := 1) (by kernel_rfl) (by (repeat (first | exact Cv.refl | exact Cv.app | (refine Cv.take tk_ ?_) | apply Cv.skip))) rfl ?_
          refine O_of_L fun S hS => ?_
          apply L_call rfl rfl rfl rfl rfl
          · exact specCopy_c (by (repeat (first | assumption | apply RM.there))) ⟨Nat.le_trans hp1 (by decide), hl.2⟩ hub
          rintro _ _ ⟨X', rfl, hMO, rfl⟩
          refine L_perm (Sink.perm (by (repeat (apply Sink.there)); exact Sink.here)) ?_
          refine L_nil (hS _ _ ?_)
          clear hS
          refine A_val 3 rfl (by kernel_rfl) rfl rfl rfl (by (repeat (first | exact Cv.refl | exact Cv.app | (refine Cv.take tk_ ?_) | apply Cv.skip))) (v_bm rfl rfl) ?_
          refine A_one (i := 5) (by kernel_rfl) (by (repeat (first | exact Cv.refl | exact Cv.app | (refine Cv.take tk_ ?_) | apply Cv.skip))) rfl (O_of_L fun S hS => ?_)
          first | (apply gCall; apply L_call rfl rfl rfl rfl rfl; (· first | exact zspecNewArena_c hs); rintro _ _ ⟨rfl, rfl⟩) | (apply gL; first | refine L_nil ?_ | refine yS ?_ | refine yX fun _ => ?_ | refine yA fun _ => ?_ | (apply gSt; first | refine sR ?_ | refine sB ?_ | refine s1 ?_ | refine sW ?_ | refine sN ?_) | refine kV ?_ | (apply L_val rfl rfl rfl; (· first | (apply gBin; first | fail ) | fail | exact v_bz | exact v_bm rfl rfl | exact v_fieldAddrN rfl)) | ((fail_if_success (refine L_known rfl ?_)); refine yW (fun h => ?_) fun h => ?_))
          refine L_nil (hS _ _ ?_)
          clear hS
          refine A_nil (by kernel_rfl) (by (repeat (first | exact Cv.refl | exact Cv.app | (refine Cv.take tk_ ?_) | apply Cv.skip))) ?_
          apply midA.mk (X', _)
          · exact sub_
          · exact cvt_
          · exact hMO
      rintro ⟨X', b12⟩ hMO
      dsimp only at hMO ⊢
      obtain ⟨q, eq⟩ : ∃ q, M.pr[(0 : Int).toNat]? = some q := ⟨M.pr[(0 : Int).toNat]'(by have := hok.1.1; show 0 < _; omega), List.getElem?_eq_getElem _⟩
      obtain ⟨pb, sp, a', ep, hA, hz, -, -, -⟩ := hm.at eq
      have hsl := (hok.2.2.2.2.1 q (List.mem_of_getElem? eq)).1
      have esl : sl0 M = q.sl := by unfold sl0; rw [show M.pr[0]? = some q from eq]; rfl
      have hp0 : 1 ≤ M.pr.length := by have := hok.1.1; omega
      have ee : mdV M X = .agg #[.slice (some ⟨pb, 0, none⟩) M.pr.length X.pc, .slice (ad X.tb) M.tx.length X.tc] := by unfold mdV; rw [ep]; rfl
      rw [ee]
      have hC1 := cob1 hs
      have hC2 := cob2 (sl := q.sl) hs
      have hC3 := cob3 (sl := q.sl) hs
      have hC4 := cob4 (sl := q.sl) hs
      have hC5 := cob5 (sl := q.sl) hs
      repeat' (first | (apply gCall; apply L_call rfl rfl rfl rfl rfl; (· exact l11PutT (A := ba2 s) rfl hco tk_ tk_ (by omega) (by omega)); rintro _ _ ⟨rfl, rfl⟩) | ((fail_if_success apply gAtR 10); (first | (apply gCall; apply L_call rfl rfl rfl rfl rfl; (· first | exact zspecNewArena_c hs); rintro _ _ ⟨rfl, rfl⟩) | (apply gL; first | refine L_nil ?_ | refine yS ?_ | refine yX fun _ => ?_ | refine yA fun _ => ?_ | (apply gSt; first | refine sR ?_ | refine sB ?_ | refine s1 ?_ | refine sW ?_ | refine sN ?_) | refine kV ?_ | (apply L_val rfl rfl rfl; (· first | (apply gBin; first | fail ) | fail | exact v_bz | exact v_bm rfl rfl | exact v_fieldAddrN rfl)) | ((fail_if_success (refine L_known rfl ?_)); refine yW (fun h => ?_) fun h => ?_)) | (apply gW; first | refine W_seq ?_ | refine W_region ?_ | refine W_ret ?_ | refine W_skip ?_ | refine W_cond1 rfl ?_ | refine W_cond0 rfl ?_ | refine cW (fun h => ?_) fun h => ?_) | (first | refine seqR.normal ?_ | refine seqR.ret ?_ | refine midA.ret ?_ | refine midA.exit ?_) | fail)))
      refine W_seq ?_
      apply W_regionA (D := (b12, .cells (mcX M X' C (ba2 s)).cells 37 (0, 0)) :: (b2, .cells (Value.agg #[.slice (some ⟨pb, 0, none⟩) M.pr.length X.pc, .slice (ad X.tb) M.tx.length X.tc]).cells 29 (0, 0)) :: H) (by kernel_rfl)
      refine kAt 0 ?_ (cv := by (repeat (first | exact Cv.refl | exact Cv.app | (refine Cv.take tk_ ?_) | apply Cv.skip)))
      refine kAt 1 ?_ (cv := by (repeat (first | exact Cv.refl | exact Cv.app | (refine Cv.take tk_ ?_) | apply Cv.skip)))
      refine kAt 2 ?_ (cv := by (repeat (first | exact Cv.refl | exact Cv.app | (refine Cv.take tk_ ?_) | apply Cv.skip)))
      refine kAt 3 ?_ (cv := by (repeat (first | exact Cv.refl | exact Cv.app | (refine Cv.take tk_ ?_) | apply Cv.skip)))
      refine kAt 4 ?_ (cv := by (repeat (first | exact Cv.refl | exact Cv.app | (refine Cv.take tk_ ?_) | apply Cv.skip)))
      refine A_val (v := .int .i64 q.sl) 5 rfl (by kernel_rfl) rfl rfl rfl (by (repeat (first | exact Cv.refl | exact Cv.app | (refine Cv.take tk_ ?_) | apply Cv.skip))) (v_ldFc (j := 1) prLen rfl at_ hz (by decide) rfl) ?_
      refine kAt 6 ?_ (cv := by (repeat (first | exact Cv.refl | exact Cv.app | (refine Cv.take tk_ ?_) | apply Cv.skip)))
      refine A_one (i := 7) (by kernel_rfl) (by (repeat (first | exact Cv.refl | exact Cv.app | (refine Cv.take tk_ ?_) | apply Cv.skip))) rfl (O_of_L fun S hS => ?_)
      apply L_call rfl rfl rfl rfl rfl
      · exact l11PutT (A := bb1 s) (x := 3 + q.sl) mcb1 hC1 tk_ tk_ (by omega) (by omega)
      rintro _ _ ⟨rfl, rfl⟩
      refine L_nil (hS _ _ ?_)
      clear hS
      refine A_one (i := 8) (by kernel_rfl) (by (repeat (first | exact Cv.refl | exact Cv.app | (refine Cv.take tk_ ?_) | apply Cv.skip))) rfl (O_of_L fun S hS => ?_)
      first | (apply gCall; apply L_call rfl rfl rfl rfl rfl; (· first | exact zspecNewArena_c hs); rintro _ _ ⟨rfl, rfl⟩) | (apply gL; first | refine L_nil ?_ | refine yS ?_ | refine yX fun _ => ?_ | refine yA fun _ => ?_ | (apply gSt; first | refine sR ?_ | refine sB ?_ | refine s1 ?_ | refine sW ?_ | refine sN ?_) | refine kV ?_ | (apply L_val rfl rfl rfl; (· first | (apply gBin; first | fail ) | fail | exact v_bz | exact v_bm rfl rfl | exact v_fieldAddrN rfl)) | ((fail_if_success (refine L_known rfl ?_)); refine yW (fun h => ?_) fun h => ?_))
      refine L_nil (hS _ _ ?_)
      clear hS
      refine A_nil (by kernel_rfl) (by (repeat (first | exact Cv.refl | exact Cv.app | (refine Cv.take tk_ ?_) | apply Cv.skip))) ?_
      repeat' (first | (apply gCall; apply L_call rfl rfl rfl rfl rfl; (· exact l11PutT (A := bb2 s q.sl) mcb2 hC2 tk_ tk_ (by omega) (by omega)); rintro _ _ ⟨rfl, rfl⟩) | ((fail_if_success apply gAtR 12); (first | (apply gCall; apply L_call rfl rfl rfl rfl rfl; (· first | exact zspecNewArena_c hs); rintro _ _ ⟨rfl, rfl⟩) | (apply gL; first | refine L_nil ?_ | refine yS ?_ | refine yX fun _ => ?_ | refine yA fun _ => ?_ | (apply gSt; first | refine sR ?_ | refine sB ?_ | refine s1 ?_ | refine sW ?_ | refine sN ?_) | refine kV ?_ | (apply L_val rfl rfl rfl; (· first | (apply gBin; first | fail ) | fail | exact v_bz | exact v_bm rfl rfl | exact v_fieldAddrN rfl)) | ((fail_if_success (refine L_known rfl ?_)); refine yW (fun h => ?_) fun h => ?_)) | (apply gW; first | refine W_seq ?_ | refine W_region ?_ | refine W_ret ?_ | refine W_skip ?_ | refine W_cond1 rfl ?_ | refine W_cond0 rfl ?_ | refine cW (fun h => ?_) fun h => ?_) | (first | refine seqR.normal ?_ | refine seqR.ret ?_ | refine midA.ret ?_ | refine midA.exit ?_) | fail)))
      refine W_seq ?_
      apply W_regionA (D := (b12, .cells (mcX M X' C (ba2 s)).cells 37 (0, 0)) :: H) (by kernel_rfl)
      refine kAt 0 ?_ (cv := by (repeat (first | exact Cv.refl | exact Cv.app | (refine Cv.take tk_ ?_) | apply Cv.skip)))
      refine A_one (i := 1) (by kernel_rfl) (by (repeat (first | exact Cv.refl | exact Cv.app | (refine Cv.take tk_ ?_) | apply Cv.skip))) rfl (O_of_L fun S hS => ?_)
      apply L_call rfl rfl rfl rfl rfl
      · exact l11Int_c
      rintro _ _ ⟨rfl, rfl⟩
      refine L_nil (hS _ _ ?_)
      clear hS
      refine A_one (i := 2) (by kernel_rfl) (by (repeat (first | exact Cv.refl | exact Cv.app | (refine Cv.take tk_ ?_) | apply Cv.skip))) rfl (O_of_L fun S hS => ?_)
      apply L_call rfl rfl rfl rfl rfl
      · exact l11SetT (A := bb3 s q.sl) mcb3 hC3 tk_ tk_ (by omega)
      rintro _ _ ⟨rfl, rfl⟩
      refine L_nil (hS _ _ ?_)
      clear hS
      refine A_one (i := 3) (by kernel_rfl) (by (repeat (first | exact Cv.refl | exact Cv.app | (refine Cv.take tk_ ?_) | apply Cv.skip))) rfl (O_of_L fun S hS => ?_)
      first | (apply gCall; apply L_call rfl rfl rfl rfl rfl; (· first | exact zspecNewArena_c hs); rintro _ _ ⟨rfl, rfl⟩) | (apply gL; first | refine L_nil ?_ | refine yS ?_ | refine yX fun _ => ?_ | refine yA fun _ => ?_ | (apply gSt; first | refine sR ?_ | refine sB ?_ | refine s1 ?_ | refine sW ?_ | refine sN ?_) | refine kV ?_ | (apply L_val rfl rfl rfl; (· first | (apply gBin; first | fail ) | fail | exact v_bz | exact v_bm rfl rfl | exact v_fieldAddrN rfl)) | ((fail_if_success (refine L_known rfl ?_)); refine yW (fun h => ?_) fun h => ?_))
      refine L_nil (hS _ _ ?_)
      clear hS
      refine A_nil (by kernel_rfl) (by (repeat (first | exact Cv.refl | exact Cv.app | (refine Cv.take tk_ ?_) | apply Cv.skip))) ?_
      repeat' ((fail_if_success apply gAtR 13); (first | (apply gCall; apply L_call rfl rfl rfl rfl rfl; (· first | exact zspecNewArena_c hs); rintro _ _ ⟨rfl, rfl⟩) | (apply gL; first | refine L_nil ?_ | refine yS ?_ | refine yX fun _ => ?_ | refine yA fun _ => ?_ | (apply gSt; first | refine sR ?_ | refine sB ?_ | refine s1 ?_ | refine sW ?_ | refine sN ?_) | refine kV ?_ | (apply L_val rfl rfl rfl; (· first | (apply gBin; first | fail ) | fail | exact v_bz | exact v_bm rfl rfl | exact v_fieldAddrN rfl)) | ((fail_if_success (refine L_known rfl ?_)); refine yW (fun h => ?_) fun h => ?_)) | (apply gW; first | refine W_seq ?_ | refine W_region ?_ | refine W_ret ?_ | refine W_skip ?_ | refine W_cond1 rfl ?_ | refine W_cond0 rfl ?_ | refine cW (fun h => ?_) fun h => ?_) | (first | refine seqR.normal ?_ | refine seqR.ret ?_ | refine midA.ret ?_ | refine midA.exit ?_) | fail))
      refine W_seq ?_
      apply W_regionA (D := (b12, .cells (mcX M X' C (ba2 s)).cells 37 (0, 0)) :: H) (by kernel_rfl)
      refine kAt 0 ?_ (cv := by (repeat (first | exact Cv.refl | exact Cv.app | (refine Cv.take tk_ ?_) | apply Cv.skip)))
      refine A_one (i := 1) (by kernel_rfl) (by (repeat (first | exact Cv.refl | exact Cv.app | (refine Cv.take tk_ ?_) | apply Cv.skip))) rfl (O_of_L fun S hS => ?_)
      apply L_call rfl rfl rfl rfl rfl
      · exact l11Int_c
      rintro _ _ ⟨rfl, rfl⟩
      refine L_nil (hS _ _ ?_)
      clear hS
      refine A_one (i := 2) (by kernel_rfl) (by (repeat (first | exact Cv.refl | exact Cv.app | (refine Cv.take tk_ ?_) | apply Cv.skip))) rfl (O_of_L fun S hS => ?_)
      apply L_call rfl rfl rfl rfl rfl
      · exact l11SetT (A := bb4 s q.sl) mcb4 hC4 tk_ tk_ (by omega)
      rintro _ _ ⟨rfl, rfl⟩
      refine L_nil (hS _ _ ?_)
      clear hS
      refine A_one (i := 3) (by kernel_rfl) (by (repeat (first | exact Cv.refl | exact Cv.app | (refine Cv.take tk_ ?_) | apply Cv.skip))) rfl (O_of_L fun S hS => ?_)
      first | (apply gCall; apply L_call rfl rfl rfl rfl rfl; (· first | exact zspecNewArena_c hs); rintro _ _ ⟨rfl, rfl⟩) | (apply gL; first | refine L_nil ?_ | refine yS ?_ | refine yX fun _ => ?_ | refine yA fun _ => ?_ | (apply gSt; first | refine sR ?_ | refine sB ?_ | refine s1 ?_ | refine sW ?_ | refine sN ?_) | refine kV ?_ | (apply L_val rfl rfl rfl; (· first | (apply gBin; first | fail ) | fail | exact v_bz | exact v_bm rfl rfl | exact v_fieldAddrN rfl)) | ((fail_if_success (refine L_known rfl ?_)); refine yW (fun h => ?_) fun h => ?_))
      refine L_nil (hS _ _ ?_)
      clear hS
      refine A_nil (by kernel_rfl) (by (repeat (first | exact Cv.refl | exact Cv.app | (refine Cv.take tk_ ?_) | apply Cv.skip))) ?_
      repeat' ((fail_if_success apply gAtR 14); (first | (apply gCall; apply L_call rfl rfl rfl rfl rfl; (· first | exact zspecNewArena_c hs); rintro _ _ ⟨rfl, rfl⟩) | (apply gL; first | refine L_nil ?_ | refine yS ?_ | refine yX fun _ => ?_ | refine yA fun _ => ?_ | (apply gSt; first | refine sR ?_ | refine sB ?_ | refine s1 ?_ | refine sW ?_ | refine sN ?_) | refine kV ?_ | (apply L_val rfl rfl rfl; (· first | (apply gBin; first | fail ) | fail | exact v_bz | exact v_bm rfl rfl | exact v_fieldAddrN rfl)) | ((fail_if_success (refine L_known rfl ?_)); refine yW (fun h => ?_) fun h => ?_)) | (apply gW; first | refine W_seq ?_ | refine W_region ?_ | refine W_ret ?_ | refine W_skip ?_ | refine W_cond1 rfl ?_ | refine W_cond0 rfl ?_ | refine cW (fun h => ?_) fun h => ?_) | (first | refine seqR.normal ?_ | refine seqR.ret ?_ | refine midA.ret ?_ | refine midA.exit ?_) | fail))
      refine W_seq ?_
      apply W_regionA (D := (b12, .cells (mcX M X' C (ba2 s)).cells 37 (0, 0)) :: (C.br, rObj C (ba2 s)) :: H) (by kernel_rfl)
      have l2 : (ba2 s).vs.length = 6 := rfl
      refine kAt 0 ?_ (cv := by (repeat (first | exact Cv.refl | exact Cv.app | (refine Cv.take tk_ ?_) | apply Cv.skip)))
      refine A_val 1 rfl (by kernel_rfl) rfl rfl rfl (by (repeat (first | exact Cv.refl | exact Cv.app | (refine Cv.take tk_ ?_) | apply Cv.skip))) (v_fieldAddrN rfl) ?_
      refine kAt 2 ?_ (cv := by (repeat (first | exact Cv.refl | exact Cv.app | (refine Cv.take tk_ ?_) | apply Cv.skip)))
      refine kAt 3 ?_ (cv := by (repeat (first | exact Cv.refl | exact Cv.app | (refine Cv.take tk_ ?_) | apply Cv.skip)))
      refine kAt 4 ?_ (cv := by (repeat (first | exact Cv.refl | exact Cv.app | (refine Cv.take tk_ ?_) | apply Cv.skip)))
      refine kAt 5 ?_ (cv := by (repeat (first | exact Cv.refl | exact Cv.app | (refine Cv.take tk_ ?_) | apply Cv.skip)))
      refine A_one (i := 6) (by kernel_rfl) (by (repeat (first | exact Cv.refl | exact Cv.app | (refine Cv.take tk_ ?_) | apply Cv.skip))) rfl (O_of_L fun S hS => ?_)
      apply L_call rfl rfl rfl rfl rfl
      · exact l11SetT (A := bb5 s q.sl) (t := 5) (n := 1) mcb5 hC5 tk_ tk_ (by omega)
      rintro _ _ ⟨rfl, rfl⟩
      refine L_nil (hS _ _ ?_)
      clear hS
      refine A_one (i := 7) (by kernel_rfl) (by (repeat (first | exact Cv.refl | exact Cv.app | (refine Cv.take tk_ ?_) | apply Cv.skip))) rfl (O_of_L fun S hS => ?_)
      first | (apply gCall; apply L_call rfl rfl rfl rfl rfl; (· first | exact zspecNewArena_c hs); rintro _ _ ⟨rfl, rfl⟩) | (apply gL; first | refine L_nil ?_ | refine yS ?_ | refine yX fun _ => ?_ | refine yA fun _ => ?_ | (apply gSt; first | refine sR ?_ | refine sB ?_ | refine s1 ?_ | refine sW ?_ | refine sN ?_) | refine kV ?_ | (apply L_val rfl rfl rfl; (· first | (apply gBin; first | fail ) | fail | exact v_bz | exact v_bm rfl rfl | exact v_fieldAddrN rfl)) | ((fail_if_success (refine L_known rfl ?_)); refine yW (fun h => ?_) fun h => ?_))
      refine L_nil (hS _ _ ?_)
      clear hS
      refine A_nil (by kernel_rfl) (by (repeat (first | exact Cv.refl | exact Cv.app | (refine Cv.take tk_ ?_) | apply Cv.skip))) ?_
      have l5 : (bb5 s q.sl).vs.length = 6 := rfl
      repeat' (first | (apply gSt; apply L_stV rfl rfl rfl rfl rfl; (· exact up_); (· first | omega | decide); (· first | omega | decide)) | first | (apply gCall; apply L_call rfl rfl rfl rfl rfl; (· first | exact zspecNewArena_c hs); rintro _ _ ⟨rfl, rfl⟩) | (apply gL; first | refine L_nil ?_ | refine yS ?_ | refine yX fun _ => ?_ | refine yA fun _ => ?_ | (apply gSt; first | refine sR ?_ | refine sB ?_ | refine s1 ?_ | refine sW ?_ | refine sN ?_) | refine kV ?_ | (apply L_val rfl rfl rfl; (· first | (apply gBin; first | fail ) | fail | exact v_bz | exact v_bm rfl rfl | exact v_fieldAddrN rfl)) | ((fail_if_success (refine L_known rfl ?_)); refine yW (fun h => ?_) fun h => ?_)) | (apply gW; first | refine W_seq ?_ | refine W_region ?_ | refine W_ret ?_ | refine W_skip ?_ | refine W_cond1 rfl ?_ | refine W_cond0 rfl ?_ | refine cW (fun h => ?_) fun h => ?_) | (first | refine seqR.normal ?_ | refine seqR.ret ?_ | refine midA.ret ?_ | refine midA.exit ?_) | fail)
      refine retR.ret _ ((C.br, rObj C (bootA s q.sl)) :: (C.bw, wObj C (bootA s q.sl)) :: (mHL M X' ++ H)) (retCT rfl rfl at_ (by rfl) rfl) cvt_ (.inl ⟨⟨hs, hok⟩, X', C, rfl, hMO, by rw [esl]⟩)
    · have hb' : b = false := by cases b with | false => rfl | true => exact absurd (hb.1 rfl) hok
      subst hb'
      repeat' (first | exact absurd rfl h | first | (apply gCall; apply L_call rfl rfl rfl rfl rfl; (· first | exact zspecNewArena_c hs); rintro _ _ ⟨rfl, rfl⟩) | (apply gL; first | refine L_nil ?_ | refine yS ?_ | refine yX fun _ => ?_ | refine yA fun _ => ?_ | (apply gSt; first | refine sR ?_ | refine sB ?_ | refine s1 ?_ | refine sW ?_ | refine sN ?_) | refine kV ?_ | (apply L_val rfl rfl rfl; (· first | (apply gBin; first | fail ) | fail | exact v_bz | exact v_bm rfl rfl | exact v_fieldAddrN rfl)) | ((fail_if_success (refine L_known rfl ?_)); refine yW (fun h => ?_) fun h => ?_)) | (apply gW; first | refine W_seq ?_ | refine W_region ?_ | refine W_ret ?_ | refine W_skip ?_ | refine W_cond1 rfl ?_ | refine W_cond0 rfl ?_ | refine cW (fun h => ?_) fun h => ?_) | (first | refine seqR.normal ?_ | refine seqR.ret ?_ | refine midA.ret ?_ | refine midA.exit ?_) | fail)
      exact retR.ret _ _ (retCT rfl rfl at_ (by rfl) rfl) cvt_ (.inr ⟨fun c => hok c.2, rfl, rfl⟩)
  · repeat' (first | exact absurd rfl h | first | (apply gCall; apply L_call rfl rfl rfl rfl rfl; (· first | exact zspecNewArena_c hs); rintro _ _ ⟨rfl, rfl⟩) | (apply gL; first | refine L_nil ?_ | refine yS ?_ | refine yX fun _ => ?_ | refine yA fun _ => ?_ | (apply gSt; first | refine sR ?_ | refine sB ?_ | refine s1 ?_ | refine sW ?_ | refine sN ?_) | refine kV ?_ | (apply L_val rfl rfl rfl; (· first | (apply gBin; first | fail ) | fail | exact v_bz | exact v_bm rfl rfl | exact v_fieldAddrN rfl)) | ((fail_if_success (refine L_known rfl ?_)); refine yW (fun h => ?_) fun h => ?_)) | (apply gW; first | refine W_seq ?_ | refine W_region ?_ | refine W_ret ?_ | refine W_skip ?_ | refine W_cond1 rfl ?_ | refine W_cond0 rfl ?_ | refine cW (fun h => ?_) fun h => ?_) | (first | refine seqR.normal ?_ | refine seqR.ret ?_ | refine midA.ret ?_ | refine midA.exit ?_) | fail)
    exact retR.ret _ _ (retCT rfl rfl at_ (by rfl) rfl) cvt_ (.inr ⟨fun c => hs c.1, rfl, rfl⟩)
end Go.Proofs.YtfmhlieaodbgiaaGreat.Eng
