/- The implementation's ShapeOf. -/
import Derived.Test.YtfhihnonafklbaaH5
namespace Go.Proofs.Ytfhihnonafklbaa.Eng
open Go Go.RowKit Go.Proofs.Ytfhihnonafklbaa.Sl Go.Proofs.Ytfhihnonafklbaa.Ar Go.Proofs.Ytfhihnonafklbaa.Base
set_option linter.unusedVariables false
set_option linter.unusedSimpArgs false
set_option maxRecDepth 10000
theorem sinkA (B X J V N L H : HL) : (X ++ (J ++ (B ++ (V ++ (N ++ (L ++ H)))))).Perm (B ++ (X ++ (V ++ (N ++ (L ++ (J ++ H)))))) := by
  refine (List.Perm.append_left X (List.perm_append_comm_assoc J B _)).trans ((List.perm_append_comm_assoc X B _).trans (List.Perm.append_left B (List.Perm.append_left X ?_)))
  refine (List.perm_append_comm_assoc J V _).trans (List.Perm.append_left V ?_)
  refine (List.perm_append_comm_assoc J N _).trans (List.Perm.append_left N ?_)
  exact List.perm_append_comm_assoc J L _
theorem Cv.under {X H L : HL} (c : Cv H L) : Cv (X ++ H) (X ++ L) := by
  induction X with
  | nil => exact c
  | cons p X ih => exact Cv.take (b := p.1) (o := p.2) Tk.here ih
variable {w0 : World} {H : HL} {C : Cn} {A : Ar} {m : List Int} {ba : Nat}
set_option maxHeartbeats 4000000 in
theorem ishape_c (hP : At H ba (aObj C A)) (hA : At H C.bw (wObj C A)) (hRt : At H C.br (rObj C A)) (hw : Wf A.ws) (hO : OkP A m) :
    Fn Try.prog w0 21 #[.pointer (some ⟨ba, 0, none⟩)] H fun v H' => ∃ br rc rsp bn nc nsp l, v = .agg #[.slice (ad br) A.shape.1.length rc, .slice (ad bn) (List.length l) nc] ∧ l.map Prod.fst = A.shape.2 ∧ (br = none → A.shape.1 = []) ∧ (bn = none → l = []) ∧ (∀ x ∈ l, NOk x) ∧ H' = oV br A.shape.1 rsp ++ (oN bn l nsp ++ (nHL l ++ H)) := by
  obtain ⟨hm8, hh, hs, hv24⟩ := hO.lens
  refine enter1 Try.func21 rfl rfl Try.ntmps21 rfl ?_
  repeat' (first | (apply gMm; refine L_mkmapN rfl rfl rfl rfl (fun _ => ?_)) | first | (apply gCall; apply L_call rfl rfl rfl rfl rfl; (· fail); rintro _ _ ⟨rfl, rfl⟩) | (apply gL; first | refine L_nil ?_ | refine yX fun _ => ?_ | refine yA fun _ => ?_ | (apply gSt; first | refine sR ?_ | refine sB ?_ | refine s1 ?_ | refine sW ?_ | refine sN ?_) | (apply gBs; first | (refine L_bs0 rfl rfl rfl rfl (fun _ => ?_)) | (refine L_bs1 rfl rfl rfl rfl rfl rfl rfl (fun _ => ?_))) | (apply gMm; refine L_mkmap rfl rfl rfl rfl (fun _ => ?_)) | (apply gApp; apply L_appI rfl rfl rfl rfl rfl rfl; (· exact at_); (· exact tk_); (· rfl); (· omega); intro _ _) | refine kV ?_) | (apply gW; first | refine W_seq ?_ | refine W_region ?_ | refine W_ret ?_ | refine W_skip ?_ | refine W_block ?_ | refine W_exit ?_ | refine W_cond1 rfl ?_ | refine W_cond0 rfl ?_ | refine cW (fun h => ?_) fun h => ?_) | (first | refine seqR.normal ?_ | refine seqR.ret ?_ | refine seqR.exit ?_ | refine blockR.normal ?_ | refine blockR.ret ?_ | refine blockR.here ?_ | refine blockR.exit rfl ?_ | refine loopR.ret ?_ | refine loopR.exit ?_) | fail)
  rename_i b2 bm bs b4
  apply W_loopX (α := Int × List Int × List (Int × Int) × (Option Nat × Nat × List Value) × (Option Nat × Nat × List Value)) (fun y => [(2, .pointer (some ⟨b2, 0, none⟩)), (3, .pointer (some ⟨bs, 0, none⟩)), (4, .pointer (some ⟨b4, 0, none⟩)), (18, .slice (some ⟨C.br, 0, none⟩) A.vs.length C.rc), (19, .int .i64 (A.vs.length : Int)), (20, .int .i64 y.1)])
    (fun y => (b4, .cells #[.slice (ad y.2.2.2.2.1) y.2.2.1.length y.2.2.2.2.2.1, .slice none 0 0] 30 (0, 0)) :: (b2, .cells #[.slice none 0 0, .slice none 0 0] 30 (0, 0)) :: (bs, shO ba bm y.2.2.2.1.1 y.2.1 y.2.2.2.1.2.1) :: (bm, nObj y.2.1) :: (oV y.2.2.2.2.1 y.2.2.1 y.2.2.2.2.2.2 ++ (oJ y.2.2.2.1.1 y.2.1 y.2.2.2.1.2.2 ++ H)))
    (fun y => (0 ≤ y.1 ∧ y.1 ≤ A.vs.length) ∧ (y.2.2.1.length : Int) = y.1 ∧ Pls A m y.2.1 ∧ RowK 1 y.2.2.2.1.1 y.2.1.length y.2.2.2.1.2.1 (y.2.1.map (Value.int .i64)) y.2.2.2.1.2.2 ∧ RowK 2 y.2.2.2.2.1 y.2.2.1.length y.2.2.2.2.2.1 (flat y.2.2.1) y.2.2.2.2.2.2 ∧ A.shRs (A.vs.drop y.1.toNat) (y.2.1, y.2.2.1) = A.shRs A.vs ([], [])) (fun y => (A.vs.length - y.1).toNat) (0, [], [], (none, 0, []), (none, 0, []))
  · exact sub_
  · exact cvt_
  · exact ⟨⟨by dsimp only; omega, by dsimp only; omega⟩, rfl, Pls.nil, RowK.zero, RowK.zero, rfl⟩
  rintro ⟨i, Q, out, ⟨qb, qc, sq⟩, ⟨bo, c, ssp⟩⟩ ⟨⟨hi, hi2⟩, ho, hQ, hRq, hS2, hS⟩
  dsimp only at hi hi2 ho hQ hRq hS2 hS ⊢
  have hQl := hQ.le
  have hP3 : At (oV bo out ssp ++ (oJ qb Q sq ++ H)) ba (aObj C A) := At.app (At.app hP)
  have hA3 : At (oV bo out ssp ++ (oJ qb Q sq ++ H)) C.bw (wObj C A) := At.app (At.app hA)
  have hR3 : At (oV bo out ssp ++ (oJ qb Q sq ++ H)) C.br (rObj C A) := At.app (At.app hRt)
  by_cases hlt : i < (A.vs.length : Int)
  · rw [shRs_step hi hlt] at hS
    have v1 := hO.vRoot hi hlt
    repeat' (first | exact absurd hlt h | first | (apply gCall; apply L_call rfl rfl rfl rfl rfl; (· fail); rintro _ _ ⟨rfl, rfl⟩) | (apply gL; first | refine L_nil ?_ | refine yX fun _ => ?_ | refine yA fun _ => ?_ | (apply gSt; first | refine sR ?_ | refine sB ?_ | refine s1 ?_ | refine sW ?_ | refine sN ?_) | (apply gBs; first | (refine L_bs0 rfl rfl rfl rfl (fun _ => ?_)) | (refine L_bs1 rfl rfl rfl rfl rfl rfl rfl (fun _ => ?_))) | (apply gMm; refine L_mkmap rfl rfl rfl rfl (fun _ => ?_)) | (apply gApp; apply L_appI rfl rfl rfl rfl rfl rfl; (· exact at_); (· exact tk_); (· rfl); (· omega); intro _ _) | refine kV ?_) | (apply gW; first | refine W_seq ?_ | refine W_region ?_ | refine W_ret ?_ | refine W_skip ?_ | refine W_block ?_ | refine W_exit ?_ | refine W_cond1 rfl ?_ | refine W_cond0 rfl ?_ | refine cW (fun h => ?_) fun h => ?_) | (first | refine seqR.normal ?_ | refine seqR.ret ?_ | refine seqR.exit ?_ | refine blockR.normal ?_ | refine blockR.ret ?_ | refine blockR.here ?_ | refine blockR.exit rfl ?_ | refine loopR.ret ?_ | refine loopR.exit ?_) | fail)
    rename_i b6
    apply L_call rfl rfl rfl rfl rfl
    · refine ival_c (C := C) (m := m) (H3 := (b6, .cells #[.int .i64 (A.vs.getD i.toNat (0, 0)).1, .int .i64 (A.vs.getD i.toNat (0, 0)).2] 46 (0, 0)) :: (b4, .cells #[.slice (ad bo) out.length c, .slice none 0 0] 30 (0, 0)) :: (b2, .cells #[.slice none 0 0, .slice none 0 0] 30 (0, 0)) :: (oV bo out ssp ++ H)) (v := A.vs.getD i.toNat (0, 0)) tk_ tk_ (by (repeat (first | exact TkG.here | apply TkG.there | apply TkG.app))) ?_ ?_ hw hO v1 hQ hRq
      · exact .there (.there (.there (At.app hP)))
      · exact .there (.there (.there (At.app hA)))
    rintro _ _ ⟨qb', qc', sq', rfl, hRq', rfl⟩
    refine L_perm (.cons _ (.cons _ (sink2 [_, _, _] _ _ _))) ?_
    dsimp only [List.cons_append, List.nil_append]
    have hQ' : Pls A m (A.shV Q (A.vs.getD i.toNat (0, 0))).1 := hQ.v v1
    generalize hV : A.shV Q (A.vs.getD i.toNat (0, 0)) = V at *
    obtain ⟨Q', t', n'⟩ := V
    dsimp only at hS hQ' hRq' ⊢
    repeat' (first | (apply gBs; refine L_bs1K rfl rfl rfl rfl rfl rfl (by rfl) (by rfl) (by rfl) fun _ => ?_) | (apply gApp; refine L_appV rfl rfl rfl rfl rfl rfl (by (repeat (first | exact TkG.here | apply TkG.there | apply TkG.app))) at_ (by rfl) hS2 om (by rfl) fun _ _ _ hS2' => ?_) | (apply gSt; apply L_stc rfl rfl rfl rfl rfl rfl; (· exact at_); (· simp only [List.set_cons_zero, List.set_cons_succ]; rfl); (· exact up_); (· rfl)) | first | (apply gCall; apply L_call rfl rfl rfl rfl rfl; (· fail); rintro _ _ ⟨rfl, rfl⟩) | (apply gL; first | refine L_nil ?_ | refine yX fun _ => ?_ | refine yA fun _ => ?_ | (apply gSt; first | refine sR ?_ | refine sB ?_ | refine s1 ?_ | refine sW ?_ | refine sN ?_) | (apply gBs; first | (refine L_bs0 rfl rfl rfl rfl (fun _ => ?_)) | (refine L_bs1 rfl rfl rfl rfl rfl rfl rfl (fun _ => ?_))) | (apply gMm; refine L_mkmap rfl rfl rfl rfl (fun _ => ?_)) | (apply gApp; apply L_appI rfl rfl rfl rfl rfl rfl; (· exact at_); (· exact tk_); (· rfl); (· omega); intro _ _) | refine kV ?_) | (apply gW; first | refine W_seq ?_ | refine W_region ?_ | refine W_ret ?_ | refine W_skip ?_ | refine W_block ?_ | refine W_exit ?_ | refine W_cond1 rfl ?_ | refine W_cond0 rfl ?_ | refine cW (fun h => ?_) fun h => ?_) | (first | refine seqR.normal ?_ | refine seqR.ret ?_ | refine seqR.exit ?_ | refine blockR.normal ?_ | refine blockR.ret ?_ | refine blockR.here ?_ | refine blockR.exit rfl ?_ | refine loopR.ret ?_ | refine loopR.exit ?_) | fail)
    rename_i b' c' sp'
    apply loopR.mk (i + 1, Q', out ++ [(t', n')], (qb', qc', sq'), (some b', c', sp'))
    · exact sub_
    · dsimp only [oV_s, ad_s, List.cons_append, List.nil_append]
      exact cvt_
    · exact ⟨⟨by dsimp only; omega, by dsimp only; omega⟩, by simp; omega, hQ', hRq', hS2', hS⟩
    · dsimp only; omega
  rw [shRs_end (by omega)] at hS
  have e2 : A.shape = (out, (A.shNs (A.ws.length + 1) 0 Q []).2) := by unfold Ar.shape; rw [← hS]
  rw [e2]
  repeat' (first | exact absurd h hlt | first | (apply gCall; apply L_call rfl rfl rfl rfl rfl; (· fail); rintro _ _ ⟨rfl, rfl⟩) | (apply gL; first | refine L_nil ?_ | refine yX fun _ => ?_ | refine yA fun _ => ?_ | (apply gSt; first | refine sR ?_ | refine sB ?_ | refine s1 ?_ | refine sW ?_ | refine sN ?_) | (apply gBs; first | (refine L_bs0 rfl rfl rfl rfl (fun _ => ?_)) | (refine L_bs1 rfl rfl rfl rfl rfl rfl rfl (fun _ => ?_))) | (apply gMm; refine L_mkmap rfl rfl rfl rfl (fun _ => ?_)) | (apply gApp; apply L_appI rfl rfl rfl rfl rfl rfl; (· exact at_); (· exact tk_); (· rfl); (· omega); intro _ _) | refine kV ?_) | (apply gW; first | refine W_seq ?_ | refine W_region ?_ | refine W_ret ?_ | refine W_skip ?_ | refine W_block ?_ | refine W_exit ?_ | refine W_cond1 rfl ?_ | refine W_cond0 rfl ?_ | refine cW (fun h => ?_) fun h => ?_) | (first | refine seqR.normal ?_ | refine seqR.ret ?_ | refine seqR.exit ?_ | refine blockR.normal ?_ | refine blockR.ret ?_ | refine blockR.here ?_ | refine blockR.exit rfl ?_ | refine loopR.ret ?_ | refine loopR.exit ?_) | fail)
  apply W_loopX (α := Int × List Int × List (ND × NA) × (Option Nat × Nat × List Value) × (Option Nat × Nat × List Value)) (fun y => [(2, .pointer (some ⟨b2, 0, none⟩)), (3, .pointer (some ⟨bs, 0, none⟩)), (4, .pointer (some ⟨b4, 0, none⟩)), (8, .int .i64 y.1)])
    (fun y => (b4, .cells #[.slice (ad bo) out.length c, .slice (ad y.2.2.2.2.1) (List.length y.2.2.1) y.2.2.2.2.2.1] 30 (0, 0)) :: (b2, .cells #[.slice none 0 0, .slice none 0 0] 30 (0, 0)) :: (bs, shO ba bm y.2.2.2.1.1 y.2.1 y.2.2.2.1.2.1) :: (bm, nObj y.2.1) :: (oV bo out ssp ++ (oN y.2.2.2.2.1 y.2.2.1 y.2.2.2.2.2.2 ++ (nHL y.2.2.1 ++ (oJ y.2.2.2.1.1 y.2.1 y.2.2.2.1.2.2 ++ H)))))
    (fun y => (0 ≤ y.1 ∧ y.1 ≤ y.2.1.length) ∧ ((List.length y.2.2.1 : Nat) : Int) = y.1 ∧ Pls A m y.2.1 ∧ RowK 1 y.2.2.2.1.1 y.2.1.length y.2.2.2.1.2.1 (y.2.1.map (Value.int .i64)) y.2.2.2.1.2.2 ∧ RowK 6 y.2.2.2.2.1 (List.length y.2.2.1) y.2.2.2.2.2.1 (y.2.2.1.flatMap nCells) y.2.2.2.2.2.2 ∧ (∀ x ∈ y.2.2.1, NOk x) ∧ A.shNs (A.ws.length + 1 - y.1.toNat) y.1 y.2.1 (y.2.2.1.map Prod.fst) = A.shNs (A.ws.length + 1) 0 Q []) (fun y => (A.ws.length + 1 - y.1).toNat) (0, Q, [], (qb, qc, sq), (none, 0, []))
  · exact sub_
  · exact cvt_
  · exact ⟨⟨by dsimp only; omega, by dsimp only; omega⟩, rfl, hQ, hRq, RowK.zero, fun x hx => (by cases hx), rfl⟩
  rintro ⟨i, P, l, ⟨pb, pc, sp⟩, ⟨bn, nc, nsp⟩⟩ ⟨⟨hi, hi2⟩, ho3, hQ3, hRp, hR3k, hNk, hS3⟩
  dsimp only at hi hi2 ho3 hQ3 hRp hR3k hNk hS3 ⊢
  have hQl3 := hQ3.le
  have hlen : ∀ (x : ND × NA), (nCells x).length = 6 := fun x => rfl
  by_cases hlt2 : i < (P.length : Int)
  · rw [shNs_step hi hlt2 (by omega)] at hS3
    have hp : MkO A m (g P i) := hQ3.mo _ (g_mem hi hlt2)
    cases pb with
    | none => exfalso; have := (hRp.nil rfl).1; omega
    | some pb =>
    have hJ : At (oV bo out ssp ++ (oN bn l nsp ++ (nHL l ++ (oJ (some pb) P sp ++ H)))) pb (.cells (rowA .i64 P sp) 3 (0, 0)) := At.app (At.app (At.app .here))
    have hP4 : At (oV bo out ssp ++ (oN bn l nsp ++ (nHL l ++ (oJ (some pb) P sp ++ H)))) ba (aObj C A) := At.app (At.app (At.app (At.app hP)))
    rw [show shO ba bm (some pb) P pc = .cells #[.pointer (some ⟨ba, 0, none⟩), .map (some bm), .slice (some ⟨pb, 0, none⟩) P.length pc] 94 (0, 0) from rfl]
    repeat' (first | exact absurd hlt2 h | first | (apply gCall; apply L_call rfl rfl rfl rfl rfl; (· fail); rintro _ _ ⟨rfl, rfl⟩) | (apply gL; first | refine L_nil ?_ | refine yX fun _ => ?_ | refine yA fun _ => ?_ | (apply gSt; first | refine sR ?_ | refine sB ?_ | refine s1 ?_ | refine sW ?_ | refine sN ?_) | (apply gBs; first | (refine L_bs0 rfl rfl rfl rfl (fun _ => ?_)) | (refine L_bs1 rfl rfl rfl rfl rfl rfl rfl (fun _ => ?_))) | (apply gMm; refine L_mkmap rfl rfl rfl rfl (fun _ => ?_)) | (apply gApp; apply L_appI rfl rfl rfl rfl rfl rfl; (· exact at_); (· exact tk_); (· rfl); (· omega); intro _ _) | refine kV ?_) | (apply gW; first | refine W_seq ?_ | refine W_region ?_ | refine W_ret ?_ | refine W_skip ?_ | refine W_block ?_ | refine W_exit ?_ | refine W_cond1 rfl ?_ | refine W_cond0 rfl ?_ | refine cW (fun h => ?_) fun h => ?_) | (first | refine seqR.normal ?_ | refine seqR.ret ?_ | refine seqR.exit ?_ | refine blockR.normal ?_ | refine blockR.ret ?_ | refine blockR.here ?_ | refine blockR.exit rfl ?_ | refine loopR.ret ?_ | refine loopR.exit ?_) | fail)
    apply L_call rfl rfl rfl rfl rfl
    · refine inode_c (C := C) (m := m) (P := P) (pb := some pb) (sp := sp) (pc := pc) (H3 := (b4, .cells #[.slice (ad bo) out.length c, .slice (ad bn) (List.length l) nc] 30 (0, 0)) :: (b2, .cells #[.slice none 0 0, .slice none 0 0] 30 (0, 0)) :: (oV bo out ssp ++ (oN bn l nsp ++ (nHL l ++ H)))) tk_ tk_ (by (repeat (first | exact TkG.here | apply TkG.there | apply TkG.app))) ?_ ?_ hw hO hp hQ3 hRp
      · exact .there (.there (At.app (At.app (At.app hP))))
      · exact .there (.there (At.app (At.app (At.app hA))))
    rintro _ _ ⟨pb', pc', sp', bs', c', ssp', rfl, hNOk, hRp', rfl⟩
    refine L_perm (.cons _ (.cons _ (sinkA [_, _] _ _ _ _ _ _))) ?_
    dsimp only [List.cons_append, List.nil_append]
    have hQ' : Pls A m (A.shN P (g P i)).1 := (hQ3.n hO hp).1
    have hpr : P <+: (A.shN P (g P i)).1 := (hQ3.n hO hp).2
    generalize hV : A.shN P (g P i) = V at *
    obtain ⟨Q', D⟩ := V
    dsimp only at hS3 hQ' hNOk hpr hRp' ⊢
    repeat' ((fail_if_success apply gBs); (first | (apply gCall; apply L_call rfl rfl rfl rfl rfl; (· fail); rintro _ _ ⟨rfl, rfl⟩) | (apply gL; first | refine L_nil ?_ | refine yX fun _ => ?_ | refine yA fun _ => ?_ | (apply gSt; first | refine sR ?_ | refine sB ?_ | refine s1 ?_ | refine sW ?_ | refine sN ?_) | (apply gBs; first | (refine L_bs0 rfl rfl rfl rfl (fun _ => ?_)) | (refine L_bs1 rfl rfl rfl rfl rfl rfl rfl (fun _ => ?_))) | (apply gMm; refine L_mkmap rfl rfl rfl rfl (fun _ => ?_)) | (apply gApp; apply L_appI rfl rfl rfl rfl rfl rfl; (· exact at_); (· exact tk_); (· rfl); (· omega); intro _ _) | refine kV ?_) | (apply gW; first | refine W_seq ?_ | refine W_region ?_ | refine W_ret ?_ | refine W_skip ?_ | refine W_block ?_ | refine W_exit ?_ | refine W_cond1 rfl ?_ | refine W_cond0 rfl ?_ | refine cW (fun h => ?_) fun h => ?_) | (first | refine seqR.normal ?_ | refine seqR.ret ?_ | refine seqR.exit ?_ | refine blockR.normal ?_ | refine blockR.ret ?_ | refine blockR.here ?_ | refine blockR.exit rfl ?_ | refine loopR.ret ?_ | refine loopR.exit ?_) | fail))
    apply gBs
    refine L_bs1K (cs := (nCells (D, ⟨bs', c', ssp'⟩)).toArray) rfl rfl rfl rfl rfl rfl (by rfl) (by rfl) (by rfl) fun b63 => ?_
    repeat' ((fail_if_success apply gApp); (first | (apply gCall; apply L_call rfl rfl rfl rfl rfl; (· fail); rintro _ _ ⟨rfl, rfl⟩) | (apply gL; first | refine L_nil ?_ | refine yX fun _ => ?_ | refine yA fun _ => ?_ | (apply gSt; first | refine sR ?_ | refine sB ?_ | refine s1 ?_ | refine sW ?_ | refine sN ?_) | (apply gBs; first | (refine L_bs0 rfl rfl rfl rfl (fun _ => ?_)) | (refine L_bs1 rfl rfl rfl rfl rfl rfl rfl (fun _ => ?_))) | (apply gMm; refine L_mkmap rfl rfl rfl rfl (fun _ => ?_)) | (apply gApp; apply L_appI rfl rfl rfl rfl rfl rfl; (· exact at_); (· exact tk_); (· rfl); (· omega); intro _ _) | refine kV ?_) | (apply gW; first | refine W_seq ?_ | refine W_region ?_ | refine W_ret ?_ | refine W_skip ?_ | refine W_block ?_ | refine W_exit ?_ | refine W_cond1 rfl ?_ | refine W_cond0 rfl ?_ | refine cW (fun h => ?_) fun h => ?_) | (first | refine seqR.normal ?_ | refine seqR.ret ?_ | refine seqR.exit ?_ | refine blockR.normal ?_ | refine blockR.ret ?_ | refine blockR.here ?_ | refine blockR.exit rfl ?_ | refine loopR.ret ?_ | refine loopR.exit ?_) | fail))
    apply gApp
    refine L_appF (f := nCells) (a := (D, ⟨bs', c', ssp'⟩)) (xs := l) (sp := nsp) rfl rfl rfl rfl rfl rfl (by (repeat (first | exact TkG.here | apply TkG.there | apply TkG.app))) at_ (by rfl) rfl (hlen _) ?_ hR3k (by omega) (by rfl) fun bn' nc' nsp' hR3k' => ?_
    · intro u hu; simp [nCells] at hu; rcases hu with rfl | rfl | rfl | rfl | rfl | rfl <;> rfl
    refine L_perm (tail_perm [_, _, _, _, _, _] _ _ _ _ _) ?_
    rw [nHL_snoc l (D, ⟨bs', c', ssp'⟩)]
    dsimp only [List.cons_append, List.nil_append]
    repeat' (first | (apply gSt; apply L_stc rfl rfl rfl rfl rfl rfl; (· exact at_); (· simp only [List.set_cons_zero, List.set_cons_succ]; rfl); (· exact up_); (· rfl)) | first | (apply gCall; apply L_call rfl rfl rfl rfl rfl; (· fail); rintro _ _ ⟨rfl, rfl⟩) | (apply gL; first | refine L_nil ?_ | refine yX fun _ => ?_ | refine yA fun _ => ?_ | (apply gSt; first | refine sR ?_ | refine sB ?_ | refine s1 ?_ | refine sW ?_ | refine sN ?_) | (apply gBs; first | (refine L_bs0 rfl rfl rfl rfl (fun _ => ?_)) | (refine L_bs1 rfl rfl rfl rfl rfl rfl rfl (fun _ => ?_))) | (apply gMm; refine L_mkmap rfl rfl rfl rfl (fun _ => ?_)) | (apply gApp; apply L_appI rfl rfl rfl rfl rfl rfl; (· exact at_); (· exact tk_); (· rfl); (· omega); intro _ _) | refine kV ?_) | (apply gW; first | refine W_seq ?_ | refine W_region ?_ | refine W_ret ?_ | refine W_skip ?_ | refine W_block ?_ | refine W_exit ?_ | refine W_cond1 rfl ?_ | refine W_cond0 rfl ?_ | refine cW (fun h => ?_) fun h => ?_) | (first | refine seqR.normal ?_ | refine seqR.ret ?_ | refine seqR.exit ?_ | refine blockR.normal ?_ | refine blockR.ret ?_ | refine blockR.here ?_ | refine blockR.exit rfl ?_ | refine loopR.ret ?_ | refine loopR.exit ?_) | fail)
    apply loopR.mk (i + 1, Q', l ++ [(D, ⟨bs', c', ssp'⟩)], (pb', pc', sp'), (some bn', nc', nsp'))
    · exact sub_
    · dsimp only [oN, oC, ad_s, List.cons_append, List.nil_append]
      exact cvt_
    · have := hpr.length_le
      exact ⟨⟨by dsimp only; omega, by dsimp only; omega⟩, by simp; omega, hQ', hRp', hR3k', fun x hx => (by
        rcases List.mem_append.1 hx with h | h
        · exact hNk x h
        · rw [List.mem_singleton] at h; subst h; exact hNOk), by rw [← hS3]; simp⟩
    · dsimp only; omega
  rw [shNs_end hlt2] at hS3
  rw [← hS3]
  repeat' (first | exact absurd h hlt2 | first | (apply gCall; apply L_call rfl rfl rfl rfl rfl; (· fail); rintro _ _ ⟨rfl, rfl⟩) | (apply gL; first | refine L_nil ?_ | refine yX fun _ => ?_ | refine yA fun _ => ?_ | (apply gSt; first | refine sR ?_ | refine sB ?_ | refine s1 ?_ | refine sW ?_ | refine sN ?_) | (apply gBs; first | (refine L_bs0 rfl rfl rfl rfl (fun _ => ?_)) | (refine L_bs1 rfl rfl rfl rfl rfl rfl rfl (fun _ => ?_))) | (apply gMm; refine L_mkmap rfl rfl rfl rfl (fun _ => ?_)) | (apply gApp; apply L_appI rfl rfl rfl rfl rfl rfl; (· exact at_); (· exact tk_); (· rfl); (· omega); intro _ _) | refine kV ?_) | (apply gW; first | refine W_seq ?_ | refine W_region ?_ | refine W_ret ?_ | refine W_skip ?_ | refine W_block ?_ | refine W_exit ?_ | refine W_cond1 rfl ?_ | refine W_cond0 rfl ?_ | refine cW (fun h => ?_) fun h => ?_) | (first | refine seqR.normal ?_ | refine seqR.ret ?_ | refine seqR.exit ?_ | refine blockR.normal ?_ | refine blockR.ret ?_ | refine blockR.here ?_ | refine blockR.exit rfl ?_ | refine loopR.ret ?_ | refine loopR.exit ?_) | fail)
  exact retR.ret _ _ (retC rfl rfl at_ (by rfl)) (by repeat (first | exact Cv.under (Cv.under (Cv.under Cv.app)) | apply Cv.skip)) ⟨bo, c, ssp, bn, nc, nsp, l, rfl, rfl, fun e => (hS2.nil e).1 |> List.eq_nil_of_length_eq_zero, fun e => (hR3k.nil e).1 |> List.eq_nil_of_length_eq_zero, hNk, rfl⟩
end Go.Proofs.Ytfhihnonafklbaa.Eng
