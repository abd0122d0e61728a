/- NextKey: the implementation's door. -/
import Derived.Test.YtepddopgmhdllaaGreatY9
import Derived.Test.YtepddopgmhdllaaGreatYB
import Derived.Test.YtepddopgmhdllaaGreatBkH
namespace Go.Proofs.YtepddopgmhdllaaGreat.Eng
open Go Go.RowKit Go.Proofs.YtepddopgmhdllaaGreat.Sl Go.Proofs.YtepddopgmhdllaaGreat.Ar Go.Proofs.YtepddopgmhdllaaGreat.Base
set_option linter.unusedVariables false
set_option linter.unusedSimpArgs false
set_option maxRecDepth 10000
variable {w0 : World} {H : HL} {C : Cn} {A : Ar} {m : List Int}
theorem nextA_len {p t x s u : Int} {B : Ar} (h : A.nextA p t x s u = some B) : B.ws.length = A.ws.length := by
  unfold Ar.nextA at h
  cases e : A.nextK p t x with
  | none => rw [e] at h; cases h
  | some R => obtain ⟨D, v, w⟩ := R; rw [e] at h; cases h; exact (nextK_same e).2.2
theorem Cv.appl {X G G' : HL} (h : Cv G G') : Cv (X ++ G) (X ++ G') := by
  induction X with
  | nil => exact h
  | cons p X ih => exact Cv.take (b := p.1) (o := p.2) Tk.here ih
theorem cv_xy {X Y : HL} : Cv (X ++ (Y ++ H)) H := by rw [← List.append_assoc]; exact Cv.app
theorem cv_two {G G1 G2 : HL} {b b' : Nat} {o o' : Obj} (h : Tk G b o G1) (h' : Tk G1 b' o' G2) (hc : Cv G2 H) : Cv G ((b, o) :: (b', o') :: H) := Cv.take h (Cv.take h' hc)
/-- the blocks behind the questions: the copy that is handed back, or nothing -/
def nxH (C : Cn) (A : Ar) (g gwc : Nat) (gws : List Value) (gr grc : Nat) (grs : List Value) (b5 b10 b12 : Nat) (H : HL) : Option Ar → HL
  | none => (b5, aObj C A) :: (b10, .cells #[.slice none 0 0, .int .i64 0, .int .i64 0, .int .i64 0, .bool false, .int .i64 0, .int .i64 0, .int .i64 0, .int .i64 0, .slice none 0 0] 29 (0, 0)) :: H
  | some B => (b12, aObj ⟨g, gwc, gws, gr, grc, grs⟩ B) :: (b10, .cells #[.slice none 0 0, .int .i64 0, .int .i64 0, .int .i64 0, .bool false, .int .i64 0, .int .i64 0, .int .i64 0, .int .i64 0, .slice none 0 0] 29 (0, 0)) :: (g, wObj ⟨g, gwc, gws, gr, grc, grs⟩ B) :: (gr, rObj ⟨g, gwc, gws, gr, grc, grs⟩ B) :: H
set_option maxHeartbeats 8000000 in
theorem implNextKey_c {r k s u : Int} (hA : At H C.bw (wObj C A)) (hR : At H C.br (rObj C A)) (hw : Wf A.ws) (hc : A.ws.length ≤ C.wc) (hl : A.ws.length ≤ 1048576) (hx : A.vs.length ≤ 1048576) :
    Fn Tryz.prog w0 15 #[arV C A, .int .i64 r, .int .i64 k, .int .i64 s, .int .i64 u] H (IRes (A.nextR r k s u).1 (.bool (A.nextR r k s u).2) H) := by
  refine enter5 Tryz.func15 rfl rfl Tryz.ntmps15 rfl ?_
  repeat' (first | (apply gCall; apply L_call rfl rfl rfl rfl rfl; (· first | exact implArenaOkB_c hok at_ at_ hw hc hx | exact isRoot4_c hb at_ at_ hx); rintro _ _ ⟨rfl, rfl⟩) | (apply gL; first | refine L_nil ?_ | refine yS ?_ | refine yX fun _ => ?_ | refine yA fun _ => ?_ | (apply gSt; first | refine sR ?_ | refine sB ?_ | refine s1 ?_ | refine sW ?_ | refine sN ?_) | (apply gBs; first | (refine L_bs0 rfl rfl rfl rfl (fun _ => ?_)) | (refine L_bs1 rfl rfl rfl rfl rfl rfl rfl (fun _ => ?_))) | refine kV ?_ | ((fail_if_success (refine L_known rfl ?_)); refine yW (fun h => ?_) fun h => ?_)) | (apply gW; first | refine W_seq ?_ | refine W_region ?_ | refine W_ret ?_ | refine W_skip ?_ | refine W_cond1 rfl ?_ | refine W_cond0 rfl ?_ | refine cW (fun h => ?_) fun h => ?_) | (first | refine seqR.normal ?_ | refine seqR.ret ?_ | refine midA.ret ?_ | refine midA.exit ?_) | fail)
  rename_i b5 b10
  apply L_call rfl rfl rfl rfl rfl
  · exact copyArena_p at_ at_ hl hx
  rintro _ _ ⟨gw, gwc, gws, gr, grc, grs, rfl, hgw, hgr, hwc, rfl⟩
  apply L_front2
  have hA1 : At (oU gw A.ws gws ++ (oV gr A.vs grs ++ H)) C.bw (wObj C A) := At.app (At.app hA)
  have hR1 : At (oU gw A.ws gws ++ (oV gr A.vs grs ++ H)) C.br (rObj C A) := At.app (At.app hR)
  repeat' ((fail_if_success apply gAtR 2); (first | (apply gCall; apply L_call rfl rfl rfl rfl rfl; (· first | exact implArenaOkB_c hok at_ at_ hw hc hx | exact isRoot4_c hb at_ at_ hx); rintro _ _ ⟨rfl, rfl⟩) | (apply gL; first | refine L_nil ?_ | refine yS ?_ | refine yX fun _ => ?_ | refine yA fun _ => ?_ | (apply gSt; first | refine sR ?_ | refine sB ?_ | refine s1 ?_ | refine sW ?_ | refine sN ?_) | (apply gBs; first | (refine L_bs0 rfl rfl rfl rfl (fun _ => ?_)) | (refine L_bs1 rfl rfl rfl rfl rfl rfl rfl (fun _ => ?_))) | refine kV ?_ | ((fail_if_success (refine L_known rfl ?_)); refine yW (fun h => ?_) fun h => ?_)) | (apply gW; first | refine W_seq ?_ | refine W_region ?_ | refine W_ret ?_ | refine W_skip ?_ | refine W_cond1 rfl ?_ | refine W_cond0 rfl ?_ | refine cW (fun h => ?_) fun h => ?_) | (first | refine seqR.normal ?_ | refine seqR.ret ?_ | refine midA.ret ?_ | refine midA.exit ?_) | fail))
  rename_i b12
  refine W_midA (α := Option (Ar × Nat × Nat)) (fun o => [(5, .pointer (some ⟨b5, 0, none⟩)), (10, .pointer (some ⟨b10, 0, none⟩)), (12, .pointer (some ⟨b12, 0, none⟩)), (57, .bool o.isNone)]) (fun o => match o with | none => nxH C A 0 gwc gws 0 grc grs b5 b10 b12 H none | some (B, g, r) => nxH C A g gwc gws r grc grs b5 b10 b12 H (some B))
    (fun o => match o with | none => A.nextR r k s u = (A, false) | some (B, _) => A.nextR r k s u = (B, true) ∧ B.ws.length = A.ws.length) ?_ ?_
  · cases hok : A.ok with
    | false =>
      have e : A.nextR r k s u = (A, false) := by unfold Ar.nextR; rw [hok]; rfl
      apply W_regionA (by kernel_rfl)
      refine kAt 0 ?_
      refine A_one (i := 1) (by kernel_rfl) cvt_ rfl (O_of_L fun S hS => ?_)
      first | (apply gCall; apply L_call rfl rfl rfl rfl rfl; (· first | exact implArenaOkB_c hok at_ at_ hw hc hx | exact isRoot4_c hb at_ at_ hx); rintro _ _ ⟨rfl, rfl⟩) | (apply gL; first | refine L_nil ?_ | refine yS ?_ | refine yX fun _ => ?_ | refine yA fun _ => ?_ | (apply gSt; first | refine sR ?_ | refine sB ?_ | refine s1 ?_ | refine sW ?_ | refine sN ?_) | (apply gBs; first | (refine L_bs0 rfl rfl rfl rfl (fun _ => ?_)) | (refine L_bs1 rfl rfl rfl rfl rfl rfl rfl (fun _ => ?_))) | refine kV ?_ | ((fail_if_success (refine L_known rfl ?_)); refine yW (fun h => ?_) fun h => ?_))
      refine L_nil (hS _ _ ?_)
      clear hS
      first | refine kAt 2 ?_ | refine kS 2 ?_
      first | refine kAt 3 ?_ | refine kS 3 ?_
      first | refine kAt 4 ?_ | refine kS 4 ?_
      first | refine kAt 5 ?_ | refine kS 5 ?_
      first | refine kAt 6 ?_ | refine kS 6 ?_
      first | refine kAt 7 ?_ | refine kS 7 ?_
      first | refine kAt 8 ?_ | refine kS 8 ?_
      first | refine kAt 9 ?_ | refine kS 9 ?_
      first | refine kAt 10 ?_ | refine kS 10 ?_
      first | refine kAt 11 ?_ | refine kS 11 ?_
      first | refine kAt 12 ?_ | refine kS 12 ?_
      first | refine kAt 13 ?_ | refine kS 13 ?_
      first | refine kAt 14 ?_ | refine kS 14 ?_
      first | refine kAt 15 ?_ | refine kS 15 ?_
      first | refine kAt 16 ?_ | refine kS 16 ?_
      first | refine kAt 17 ?_ | refine kS 17 ?_
      first | refine kAt 18 ?_ | refine kS 18 ?_
      first | refine kAt 19 ?_ | refine kS 19 ?_
      first | refine kAt 20 ?_ | refine kS 20 ?_
      first | refine kAt 21 ?_ | refine kS 21 ?_
      first | refine kAt 22 ?_ | refine kS 22 ?_
      first | refine kAt 23 ?_ | refine kS 23 ?_
      first | refine kAt 24 ?_ | refine kS 24 ?_
      first | refine kAt 25 ?_ | refine kS 25 ?_
      first | refine kAt 26 ?_ | refine kS 26 ?_
      first | refine kAt 27 ?_ | refine kS 27 ?_
      first | refine kAt 28 ?_ | refine kS 28 ?_
      first | refine kAt 29 ?_ | refine kS 29 ?_
      first | refine kAt 30 ?_ | refine kS 30 ?_
      first | refine kAt 31 ?_ | refine kS 31 ?_
      first | refine kAt 32 ?_ | refine kS 32 ?_
      first | refine kAt 33 ?_ | refine kS 33 ?_
      first | refine kAt 34 ?_ | refine kS 34 ?_
      first | refine kAt 35 ?_ | refine kS 35 ?_
      first | refine kAt 36 ?_ | refine kS 36 ?_
      first | refine kAt 37 ?_ | refine kS 37 ?_
      first | refine kAt 38 ?_ | refine kS 38 ?_
      first | refine kAt 39 ?_ | refine kS 39 ?_
      first | refine kAt 40 ?_ | refine kS 40 ?_
      first | refine kAt 41 ?_ | refine kS 41 ?_
      first | refine kAt 42 ?_ | refine kS 42 ?_
      refine A_nil (by kernel_rfl) cvt_ ?_
      exact midA.mk none sub_ (cv_two tk_ tk_ (by repeat (first | exact cv_xy | apply Cv.skip))) e
    | true =>
      obtain ⟨m, hP⟩ := okP_of hok
      have hSI := okSI hP hw
      have hlen := hSI.ln
      have hse := hSI.se
      cases hb : (A.inR r && A.inR k && A.inR s && A.inR u) with
      | false =>
        have e : A.nextR r k s u = (A, false) := by
          unfold Ar.nextR
          rw [if_neg]
          rintro ⟨-, c1, c2, c3, c4, -⟩
          rw [c1, c2, c3, c4] at hb; cases hb
        apply W_regionA (by kernel_rfl)
        refine kAt 0 ?_
        refine A_one (i := 1) (by kernel_rfl) cvt_ rfl (O_of_L fun S hS => ?_)
        first | (apply gCall; apply L_call rfl rfl rfl rfl rfl; (· first | exact implArenaOkB_c hok at_ at_ hw hc hx | exact isRoot4_c hb at_ at_ hx); rintro _ _ ⟨rfl, rfl⟩) | (apply gL; first | refine L_nil ?_ | refine yS ?_ | refine yX fun _ => ?_ | refine yA fun _ => ?_ | (apply gSt; first | refine sR ?_ | refine sB ?_ | refine s1 ?_ | refine sW ?_ | refine sN ?_) | (apply gBs; first | (refine L_bs0 rfl rfl rfl rfl (fun _ => ?_)) | (refine L_bs1 rfl rfl rfl rfl rfl rfl rfl (fun _ => ?_))) | refine kV ?_ | ((fail_if_success (refine L_known rfl ?_)); refine yW (fun h => ?_) fun h => ?_))
        refine L_nil (hS _ _ ?_)
        clear hS
        refine kAt 2 ?_
        refine kAt 3 ?_
        refine kAt 4 ?_
        refine kAt 5 ?_
        refine kAt 6 ?_
        refine kAt 7 ?_
        refine A_one (i := 8) (by kernel_rfl) cvt_ rfl (O_of_L fun S hS => ?_); (apply gBs; refine L_bs4 rfl rfl rfl rfl rfl rfl rfl rfl rfl rfl rfl rfl rfl fun _ => ?_); refine L_nil (hS _ _ ?_); clear hS
        refine A_one (i := 9) (by kernel_rfl) cvt_ rfl (O_of_L fun S hS => ?_)
        first | (apply gCall; apply L_call rfl rfl rfl rfl rfl; (· first | exact implArenaOkB_c hok at_ at_ hw hc hx | exact isRoot4_c hb at_ at_ hx); rintro _ _ ⟨rfl, rfl⟩) | (apply gL; first | refine L_nil ?_ | refine yS ?_ | refine yX fun _ => ?_ | refine yA fun _ => ?_ | (apply gSt; first | refine sR ?_ | refine sB ?_ | refine s1 ?_ | refine sW ?_ | refine sN ?_) | (apply gBs; first | (refine L_bs0 rfl rfl rfl rfl (fun _ => ?_)) | (refine L_bs1 rfl rfl rfl rfl rfl rfl rfl (fun _ => ?_))) | refine kV ?_ | ((fail_if_success (refine L_known rfl ?_)); refine yW (fun h => ?_) fun h => ?_))
        refine L_nil (hS _ _ ?_)
        clear hS
        first | refine kAt 10 ?_ | refine kS 10 ?_
        first | refine kAt 11 ?_ | refine kS 11 ?_
        first | refine kAt 12 ?_ | refine kS 12 ?_
        first | refine kAt 13 ?_ | refine kS 13 ?_
        first | refine kAt 14 ?_ | refine kS 14 ?_
        first | refine kAt 15 ?_ | refine kS 15 ?_
        first | refine kAt 16 ?_ | refine kS 16 ?_
        first | refine kAt 17 ?_ | refine kS 17 ?_
        first | refine kAt 18 ?_ | refine kS 18 ?_
        first | refine kAt 19 ?_ | refine kS 19 ?_
        first | refine kAt 20 ?_ | refine kS 20 ?_
        first | refine kAt 21 ?_ | refine kS 21 ?_
        first | refine kAt 22 ?_ | refine kS 22 ?_
        first | refine kAt 23 ?_ | refine kS 23 ?_
        first | refine kAt 24 ?_ | refine kS 24 ?_
        first | refine kAt 25 ?_ | refine kS 25 ?_
        first | refine kAt 26 ?_ | refine kS 26 ?_
        first | refine kAt 27 ?_ | refine kS 27 ?_
        first | refine kAt 28 ?_ | refine kS 28 ?_
        first | refine kAt 29 ?_ | refine kS 29 ?_
        first | refine kAt 30 ?_ | refine kS 30 ?_
        first | refine kAt 31 ?_ | refine kS 31 ?_
        first | refine kAt 32 ?_ | refine kS 32 ?_
        first | refine kAt 33 ?_ | refine kS 33 ?_
        first | refine kAt 34 ?_ | refine kS 34 ?_
        first | refine kAt 35 ?_ | refine kS 35 ?_
        first | refine kAt 36 ?_ | refine kS 36 ?_
        first | refine kAt 37 ?_ | refine kS 37 ?_
        first | refine kAt 38 ?_ | refine kS 38 ?_
        first | refine kAt 39 ?_ | refine kS 39 ?_
        first | refine kAt 40 ?_ | refine kS 40 ?_
        first | refine kAt 41 ?_ | refine kS 41 ?_
        first | refine kAt 42 ?_ | refine kS 42 ?_
        refine A_nil (by kernel_rfl) cvt_ ?_
        exact midA.mk none sub_ (cv_two tk_ tk_ (by repeat (first | exact cv_xy | apply Cv.skip))) e
      | true =>
        have hb' := hb
        rw [Bool.and_eq_true, Bool.and_eq_true, Bool.and_eq_true] at hb'
        obtain ⟨⟨⟨c1, c2⟩, c3⟩, c4⟩ := hb'
        have i1 := inR_iff.1 c1
        have i2 := inR_iff.1 c2
        have i3 := inR_iff.1 c3
        have i4 := inR_iff.1 c4
        rcases gw with _ | gw
        · rw [hgw rfl] at hlen; simp at hlen; omega
        rcases gr with _ | gr
        · rw [hgr rfl] at i1; simp at i1; omega
        simp only [oU, oV, ad, List.cons_append, List.nil_append] at hA1 hR1 ⊢
        apply W_regionA (D := (b5, aObj C A) :: H) (by kernel_rfl)
        refine kAt 0 ?_
        refine A_one (i := 1) (by kernel_rfl) cvt_ rfl (O_of_L fun S hS => ?_)
        first | (apply gCall; apply L_call rfl rfl rfl rfl rfl; (· first | exact implArenaOkB_c hok at_ at_ hw hc hx | exact isRoot4_c hb at_ at_ hx); rintro _ _ ⟨rfl, rfl⟩) | (apply gL; first | refine L_nil ?_ | refine yS ?_ | refine yX fun _ => ?_ | refine yA fun _ => ?_ | (apply gSt; first | refine sR ?_ | refine sB ?_ | refine s1 ?_ | refine sW ?_ | refine sN ?_) | (apply gBs; first | (refine L_bs0 rfl rfl rfl rfl (fun _ => ?_)) | (refine L_bs1 rfl rfl rfl rfl rfl rfl rfl (fun _ => ?_))) | refine kV ?_ | ((fail_if_success (refine L_known rfl ?_)); refine yW (fun h => ?_) fun h => ?_))
        refine L_nil (hS _ _ ?_)
        clear hS
        refine kAt 2 ?_
        refine kAt 3 ?_
        refine kAt 4 ?_
        refine kAt 5 ?_
        refine kAt 6 ?_
        refine kAt 7 ?_
        refine A_one (i := 8) (by kernel_rfl) cvt_ rfl (O_of_L fun S hS => ?_); (apply gBs; refine L_bs4 rfl rfl rfl rfl rfl rfl rfl rfl rfl rfl rfl rfl rfl fun _ => ?_); refine L_nil (hS _ _ ?_); clear hS
        refine A_one (i := 9) (by kernel_rfl) cvt_ rfl (O_of_L fun S hS => ?_)
        first | (apply gCall; apply L_call rfl rfl rfl rfl rfl; (· first | exact implArenaOkB_c hok at_ at_ hw hc hx | exact isRoot4_c hb at_ at_ hx); rintro _ _ ⟨rfl, rfl⟩) | (apply gL; first | refine L_nil ?_ | refine yS ?_ | refine yX fun _ => ?_ | refine yA fun _ => ?_ | (apply gSt; first | refine sR ?_ | refine sB ?_ | refine s1 ?_ | refine sW ?_ | refine sN ?_) | (apply gBs; first | (refine L_bs0 rfl rfl rfl rfl (fun _ => ?_)) | (refine L_bs1 rfl rfl rfl rfl rfl rfl rfl (fun _ => ?_))) | refine kV ?_ | ((fail_if_success (refine L_known rfl ?_)); refine yW (fun h => ?_) fun h => ?_))
        refine L_nil (hS _ _ ?_)
        clear hS
        refine kAt 10 ?_
        refine kAt 11 ?_
        refine kAt 12 ?_
        refine kAt 13 ?_
        refine kAt 14 ?_
        refine kAt 15 ?_
        refine kAt 16 ?_
        refine kAt 17 ?_
        apply A_val 18 rfl (by kernel_rfl) rfl rfl rfl cvt_
        · apply gLd; apply v_ld rfl; (· exact at_); exact ld_rowV0 (by omega) (by omega)
        refine kAt 19 ?_
        refine kAt 20 ?_
        refine kAt 21 ?_
        refine A_know 22 rfl rfl rfl rfl (fun h => ?_) (fun h => ?_)
        · have e : A.nextR r k s u = (A, false) := by
            unfold Ar.nextR
            rw [if_neg]
            rintro ⟨-, -, -, -, -, d, -⟩
            rw [d] at h; simp at h
          first | refine kAt 22 ?_ | refine kS 22 ?_
          first | refine kAt 23 ?_ | refine kS 23 ?_
          first | refine kAt 24 ?_ | refine kS 24 ?_
          first | refine kAt 25 ?_ | refine kS 25 ?_
          first | refine kAt 26 ?_ | refine kS 26 ?_
          first | refine kAt 27 ?_ | refine kS 27 ?_
          first | refine kAt 28 ?_ | refine kS 28 ?_
          first | refine kAt 29 ?_ | refine kS 29 ?_
          first | refine kAt 30 ?_ | refine kS 30 ?_
          first | refine kAt 31 ?_ | refine kS 31 ?_
          first | refine kAt 32 ?_ | refine kS 32 ?_
          first | refine kAt 33 ?_ | refine kS 33 ?_
          first | refine kAt 34 ?_ | refine kS 34 ?_
          first | refine kAt 35 ?_ | refine kS 35 ?_
          first | refine kAt 36 ?_ | refine kS 36 ?_
          first | refine kAt 37 ?_ | refine kS 37 ?_
          first | refine kAt 38 ?_ | refine kS 38 ?_
          first | refine kAt 39 ?_ | refine kS 39 ?_
          first | refine kAt 40 ?_ | refine kS 40 ?_
          first | refine kAt 41 ?_ | refine kS 41 ?_
          first | refine kAt 42 ?_ | refine kS 42 ?_
          refine A_nil (by kernel_rfl) cvt_ ?_
          exact midA.mk none sub_ cvt_ e
        have h4 : (A.vs.getD r.toNat (0, 0)).1 = 4 := by simpa using h
        refine kAt 22 ?_
        refine kAt 23 ?_
        refine kAt 24 ?_
        refine kAt 25 ?_
        refine kAt 26 ?_
        refine A_know 27 rfl rfl rfl rfl (fun h' => ?_) (fun h' => ?_)
        · have e : A.nextR r k s u = (A, false) := by
            unfold Ar.nextR
            rw [if_neg]
            rintro ⟨-, -, -, -, -, -, d⟩
            exact d (of_decide_eq_true h')
          first | refine kAt 27 ?_ | refine kS 27 ?_
          first | refine kAt 28 ?_ | refine kS 28 ?_
          first | refine kAt 29 ?_ | refine kS 29 ?_
          first | refine kAt 30 ?_ | refine kS 30 ?_
          first | refine kAt 31 ?_ | refine kS 31 ?_
          first | refine kAt 32 ?_ | refine kS 32 ?_
          first | refine kAt 33 ?_ | refine kS 33 ?_
          first | refine kAt 34 ?_ | refine kS 34 ?_
          first | refine kAt 35 ?_ | refine kS 35 ?_
          first | refine kAt 36 ?_ | refine kS 36 ?_
          first | refine kAt 37 ?_ | refine kS 37 ?_
          first | refine kAt 38 ?_ | refine kS 38 ?_
          first | refine kAt 39 ?_ | refine kS 39 ?_
          first | refine kAt 40 ?_ | refine kS 40 ?_
          first | refine kAt 41 ?_ | refine kS 41 ?_
          first | refine kAt 42 ?_ | refine kS 42 ?_
          refine A_nil (by kernel_rfl) cvt_ ?_
          exact midA.mk none sub_ cvt_ e
        have hsu : s ≠ u := of_decide_eq_false h'
        refine kAt 27 ?_
        refine kAt 28 ?_
        refine kAt 29 ?_
        refine kAt 30 ?_
        refine kAt 31 ?_
        apply A_val 32 rfl (by kernel_rfl) rfl rfl rfl cvt_
        · apply gLd; apply v_ld rfl; (· exact at_); exact ld_rowV1 (by omega) (by omega)
        refine kAt 33 ?_
        refine kAt 34 ?_
        refine kAt 35 ?_
        refine kAt 36 ?_
        refine kAt 37 ?_
        refine kAt 38 ?_
        refine kAt 39 ?_
        have hrf : isRef (rT A r) = true := by rw [show rT A r = 4 from h4]; decide
        obtain ⟨p0, p1', p2'⟩ := hSI.rts r i1.1 i1.2 hrf
        have p1 := p2' i1.2
        have p2 : hk (g A.ws (rN A r)) = 2 := by
          have := (hSI.rtk r i1.1 i1.2).1 hrf
          rw [hSI.where1 p0 p1, show rT A r = 4 from h4] at this; exact this
        obtain ⟨-, hv, h8⟩ := hSI.rtk k i2.1 i2.2
        have hky : ∀ mB, SI (A.ld (rN A r + 2)) mB → KeyP (A.ld (rN A r + 2)) (rT A k) (rN A k) ∧ (kd (rT A k) ≠ 0 → PlaceP (A.ld (rN A r + 2)) (rN A k)) := fun mB hB => by
          have ev := (ld_len (A := A) (rN A r + 2)).2
          have := hB.rootKey (i := k) i2.1 (by rw [ev]; exact i2.2)
          have eT : rT (A.ld (rN A r + 2)) k = rT A k := by dsimp only [rT]; rw [ev]
          have eN : rN (A.ld (rN A r + 2)) k = rN A k := by dsimp only [rN]; rw [ev]
          rwa [eT, eN] at this
        have h9 : rT A k = 9 → 0 ≤ rN A k ∧ rN A k ≤ 9223372036854775807 := fun c => by
          obtain ⟨a, b, d⟩ := hSI.rts k i2.1 i2.2 (by rw [c]; decide)
          have := GI.lt hSI a b
          omega
        have hcond : A.ok = true ∧ A.inR r = true ∧ A.inR k = true ∧ A.inR s = true ∧ A.inR u = true ∧ (A.vs.getD r.toNat (0, 0)).1 = 4 ∧ s ≠ u := ⟨hok, c1, c2, c3, c4, h4, hsu⟩
        refine A_one (i := 40) (by kernel_rfl) cvt_ rfl (O_of_L fun S hS => ?_)
        apply L_call rfl rfl rfl rfl rfl
        · exact Fn.conv (Cv.take tk_ (Cv.take tk_ (Cv.take tk_ Cv.refl))) (inextKey_c (C := ⟨gw, gwc, gws, gr, grc, grs⟩) hSI hwc p0 p1 p2 hv h8 hx i3 i4 hsu h9 hky)
        rintro _ _ hN
        rcases hN with ⟨B, eB, rfl, rfl⟩ | ⟨eB, rfl, B, rfl⟩
        · refine L_nil (hS _ _ ?_)
          clear hS
          refine kAt 41 ?_
          refine kAt 42 ?_
          refine A_nil (by kernel_rfl) cvt_ ?_
          refine midA.mk (some (B, gw, gr)) sub_ cvt_ ⟨?_, nextA_len eB⟩
          unfold Ar.nextR; rw [if_pos hcond, eB]
        · refine L_nil (hS _ _ ?_)
          clear hS
          refine kAt 41 ?_
          refine kAt 42 ?_
          refine A_nil (by kernel_rfl) cvt_ ?_
          refine midA.mk none sub_ cvt_ ?_
          show A.nextR r k s u = (A, false)
          unfold Ar.nextR; rw [if_pos hcond, eB]
  · rintro o ho
    cases o with
    | none =>
      dsimp only at ho ⊢
      rw [ho]
      unfold nxH
      repeat' (first | (apply gCall; apply L_call rfl rfl rfl rfl rfl; (· first | exact implArenaOkB_c hok at_ at_ hw hc hx | exact isRoot4_c hb at_ at_ hx); rintro _ _ ⟨rfl, rfl⟩) | (apply gL; first | refine L_nil ?_ | refine yS ?_ | refine yX fun _ => ?_ | refine yA fun _ => ?_ | (apply gSt; first | refine sR ?_ | refine sB ?_ | refine s1 ?_ | refine sW ?_ | refine sN ?_) | (apply gBs; first | (refine L_bs0 rfl rfl rfl rfl (fun _ => ?_)) | (refine L_bs1 rfl rfl rfl rfl rfl rfl rfl (fun _ => ?_))) | refine kV ?_ | ((fail_if_success (refine L_known rfl ?_)); refine yW (fun h => ?_) fun h => ?_)) | (apply gW; first | refine W_seq ?_ | refine W_region ?_ | refine W_ret ?_ | refine W_skip ?_ | refine W_cond1 rfl ?_ | refine W_cond0 rfl ?_ | refine cW (fun h => ?_) fun h => ?_) | (first | refine seqR.normal ?_ | refine seqR.ret ?_ | refine midA.ret ?_ | refine midA.exit ?_) | fail)
      apply L_call rfl rfl rfl rfl rfl
      · exact copyArena_p at_ at_ hl hx
      rintro _ _ ⟨gw2, gwc2, gws2, gr2, grc2, grs2, rfl, hgw2, hgr2, hwc2, rfl⟩
      apply L_front2
      repeat' (first | (apply gCall; apply L_call rfl rfl rfl rfl rfl; (· first | exact implArenaOkB_c hok at_ at_ hw hc hx | exact isRoot4_c hb at_ at_ hx); rintro _ _ ⟨rfl, rfl⟩) | (apply gL; first | refine L_nil ?_ | refine yS ?_ | refine yX fun _ => ?_ | refine yA fun _ => ?_ | (apply gSt; first | refine sR ?_ | refine sB ?_ | refine s1 ?_ | refine sW ?_ | refine sN ?_) | (apply gBs; first | (refine L_bs0 rfl rfl rfl rfl (fun _ => ?_)) | (refine L_bs1 rfl rfl rfl rfl rfl rfl rfl (fun _ => ?_))) | refine kV ?_ | ((fail_if_success (refine L_known rfl ?_)); refine yW (fun h => ?_) fun h => ?_)) | (apply gW; first | refine W_seq ?_ | refine W_region ?_ | refine W_ret ?_ | refine W_skip ?_ | refine W_cond1 rfl ?_ | refine W_cond0 rfl ?_ | refine cW (fun h => ?_) fun h => ?_) | (first | refine seqR.normal ?_ | refine seqR.ret ?_ | refine midA.ret ?_ | refine midA.exit ?_) | fail)
      exact retR.ret _ _ (retCT rfl rfl at_ (by rfl) rfl) cv_d2 ⟨gw2, gwc2, gws2, gr2, grc2, grs2, rfl, hgw2, hgr2, hwc2, rfl⟩
    | some q =>
      obtain ⟨B, g, r'⟩ := q
      dsimp only at ho ⊢
      rw [ho.1]
      unfold nxH
      repeat' (first | (apply gCall; apply L_call rfl rfl rfl rfl rfl; (· first | exact implArenaOkB_c hok at_ at_ hw hc hx | exact isRoot4_c hb at_ at_ hx); rintro _ _ ⟨rfl, rfl⟩) | (apply gL; first | refine L_nil ?_ | refine yS ?_ | refine yX fun _ => ?_ | refine yA fun _ => ?_ | (apply gSt; first | refine sR ?_ | refine sB ?_ | refine s1 ?_ | refine sW ?_ | refine sN ?_) | (apply gBs; first | (refine L_bs0 rfl rfl rfl rfl (fun _ => ?_)) | (refine L_bs1 rfl rfl rfl rfl rfl rfl rfl (fun _ => ?_))) | refine kV ?_ | ((fail_if_success (refine L_known rfl ?_)); refine yW (fun h => ?_) fun h => ?_)) | (apply gW; first | refine W_seq ?_ | refine W_region ?_ | refine W_ret ?_ | refine W_skip ?_ | refine W_cond1 rfl ?_ | refine W_cond0 rfl ?_ | refine cW (fun h => ?_) fun h => ?_) | (first | refine seqR.normal ?_ | refine seqR.ret ?_ | refine midA.ret ?_ | refine midA.exit ?_) | fail)
      exact retR.ret _ _ (retCT rfl rfl at_ (by rfl) rfl) cvt_ ⟨some g, gwc, gws, some r', grc, grs, rfl, fun c => (by cases c), fun c => (by cases c), by rw [ho.2]; exact hwc, rfl⟩
end Go.Proofs.YtepddopgmhdllaaGreat.Eng
