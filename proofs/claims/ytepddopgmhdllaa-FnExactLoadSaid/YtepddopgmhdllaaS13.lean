/- The reference's ArenaOk. -/
import Derived.Test.YtepddopgmhdllaaS12
namespace Go.Proofs.Ytepddopgmhdllaa.Eng
open Go Go.RowKit Go.Proofs.Ytepddopgmhdllaa.Sl Go.Proofs.Ytepddopgmhdllaa.Ar Go.Proofs.Ytepddopgmhdllaa.Base
set_option linter.unusedVariables false
set_option linter.unusedSimpArgs false
set_option maxRecDepth 10000
variable {w0 : World} {H : HL} {C : Cn} {A : Ar}
theorem roots_iff {m : List Int} : A.rootsOk m = true ↔ ∀ i : Int, 0 ≤ i → i < (A.vs.length : Int) → valOk (A.vs.getD i.toNat (0, 0)).1 (A.vs.getD i.toNat (0, 0)).2 = true ∧ ¬ (A.vs.getD i.toNat (0, 0)).1 = 8 ∧ A.leads m (A.vs.getD i.toNat (0, 0)).1 (A.vs.getD i.toNat (0, 0)).2 1 = true := by
  unfold Ar.rootsOk
  simp only [List.all_eq_true, Bool.and_eq_true, Bool.not_eq_true', decide_eq_false_iff_not, and_assoc]
  constructor
  · intro h i hi hi2
    have hl : i.toNat < A.vs.length := by omega
    have := h (A.vs[i.toNat]) (List.getElem_mem hl)
    rw [List.getD_eq_getElem?_getD, List.getElem?_eq_getElem hl]; exact this
  · intro h v hv
    obtain ⟨n, hn, rfl⟩ := List.getElem_of_mem hv
    have := h (n : Int) (by omega) (by omega)
    rw [Int.toNat_natCast, List.getD_eq_getElem?_getD, List.getElem?_eq_getElem hn] at this; exact this
theorem tabs_step {m : List Int} {led : List Bool} {f : Nat} {p : Int} (h : p < (m.length : Int)) (hf : (m.length : Int) - p < (f : Int)) : ∃ f', f = f' + 1 ∧ A.tabsFrom m f p led =
    if Ar.isM m p = true ∧ rk (g A.ws p) = 2 then (match A.tab p led with | none => false | some led' => A.tabsFrom m f' (p + 1) led') else A.tabsFrom m f' (p + 1) led := by
  cases f with
  | zero => omega
  | succ f => exact ⟨f, rfl, by rw [Ar.tabsFrom, if_pos h]; rfl⟩
theorem tabs_end {m : List Int} {led : List Bool} {f : Nat} {p : Int} (h : ¬ p < (m.length : Int)) : A.tabsFrom m f p led = true := by
  cases f with
  | zero => rfl
  | succ f => rw [Ar.tabsFrom, if_neg h]
theorem valP_n {t n : Int} (h : ValP t n) (hk : kd t ≠ 0) : 0 ≤ n := by
  have := kindOf_ne.1 hk
  unfold ValP at h; omega
set_option maxHeartbeats 4000000 in
theorem specArenaOk_c (hA : At H C.bw (wObj C A)) (hR : At H C.br (rObj C A)) (hw : Wf A.ws) (hx : A.vs.length ≤ 1048576) :
    Fn Try.prog w0 40 #[arV C A] H fun v H' => v = .bool A.ok ∧ H' = H := by
  refine enter1 Try.func40 rfl rfl Try.ntmps40 rfl ?_
  repeat' (first | (apply gL; first | refine L_nil ?_ | refine yS ?_ | refine yX fun _ => ?_ | refine yA fun _ => ?_ | (apply gSt; first | refine sR ?_ | refine sB ?_ | refine s1 ?_ | refine sW ?_ | refine sN ?_) | (apply gMk; first | (apply L_mkcap rfl rfl rfl rfl rfl rfl; (· omega); (· omega); (· omega); intro _ _) | (apply L_makeI rfl rfl rfl rfl rfl rfl; (· omega); (· omega); intro _) | (apply L_makeB rfl rfl rfl rfl rfl rfl; (· omega); (· omega); intro _) | (apply L_makeV rfl rfl rfl rfl rfl rfl; (· omega); (· omega); intro _)) | (apply gCall; apply L_call rfl rfl rfl rfl rfl; (· first | exact specValOk_c _ _ | exact l2Numbers_c om | exact l2Look_c at_ hw om om | exact l2Serials_c at_ at_ hw hM.len om | exact l2Object_c at_ at_ hw om hM om om om | exact l2Leads_c at_ at_ hw hM.len om (hV (by assumption)) (fun h1 h2 h3 => ⟨(hM.wh _ (hV (by assumption) h1) h2 h3).1, (hM.wh _ (hV (by assumption) h1) h2 h3).2.1⟩)); rintro _ _ ⟨rfl, rfl⟩) | refine kV ?_ | ((fail_if_success (refine L_known rfl ?_)); first | refine yN (fun h => ?_) fun h => ?_ | refine yP (fun h => ?_) fun h => ?_ | refine yB (fun h => ?_) fun h => ?_ | refine yK (fun h => ?_) fun h => ?_)) | (apply gW; first | refine W_seq ?_ | refine W_region ?_ | refine W_ret ?_ | refine W_skip ?_ | refine W_block ?_ | refine W_exit ?_ | refine W_cond1 rfl ?_ | refine W_cond0 rfl ?_ | refine cN (fun h => ?_) fun h => ?_ | refine cP (fun h => ?_) fun h => ?_ | refine cB (fun h => ?_) fun h => ?_ | refine cK (fun h => ?_) fun h => ?_) | (first | refine seqR.normal ?_ | refine seqR.ret ?_ | refine seqR.exit ?_ | refine blockR.normal ?_ | refine blockR.ret ?_ | refine blockR.here ?_ | refine blockR.exit rfl ?_ | refine loopR.ret ?_ | refine loopR.exit ?_ | refine midA.ret ?_ | refine midA.exit ?_) | fail)
  · refine retR.ret _ _ (ret1 rfl rfl) cv_ ⟨?_, rfl⟩
    unfold Ar.ok; rw [show A.numbers = false from decide_eq_false h]; rfl
  have hnum := h
  obtain ⟨f1, f2, f3, f4, f5, ⟨f6, hm⟩, f7, f8, f9⟩ := numF hnum
  rename_i ba
  have hok0 : A.numbers = true := decide_eq_true h
  repeat' (first | (apply gL; first | refine L_nil ?_ | refine yS ?_ | refine yX fun _ => ?_ | refine yA fun _ => ?_ | (apply gSt; first | refine sR ?_ | refine sB ?_ | refine s1 ?_ | refine sW ?_ | refine sN ?_) | (apply gMk; first | (apply L_mkcap rfl rfl rfl rfl rfl rfl; (· omega); (· omega); (· omega); intro _ _) | (apply L_makeI rfl rfl rfl rfl rfl rfl; (· omega); (· omega); intro _) | (apply L_makeB rfl rfl rfl rfl rfl rfl; (· omega); (· omega); intro _) | (apply L_makeV rfl rfl rfl rfl rfl rfl; (· omega); (· omega); intro _)) | (apply gCall; apply L_call rfl rfl rfl rfl rfl; (· first | exact specValOk_c _ _ | exact l2Numbers_c om | exact l2Look_c at_ hw om om | exact l2Serials_c at_ at_ hw hM.len om | exact l2Object_c at_ at_ hw om hM om om om | exact l2Leads_c at_ at_ hw hM.len om (hV (by assumption)) (fun h1 h2 h3 => ⟨(hM.wh _ (hV (by assumption) h1) h2 h3).1, (hM.wh _ (hV (by assumption) h1) h2 h3).2.1⟩)); rintro _ _ ⟨rfl, rfl⟩) | refine kV ?_ | ((fail_if_success (refine L_known rfl ?_)); first | refine yN (fun h => ?_) fun h => ?_ | refine yP (fun h => ?_) fun h => ?_ | refine yB (fun h => ?_) fun h => ?_ | refine yK (fun h => ?_) fun h => ?_)) | (apply gW; first | refine W_seq ?_ | refine W_region ?_ | refine W_ret ?_ | refine W_skip ?_ | refine W_block ?_ | refine W_exit ?_ | refine W_cond1 rfl ?_ | refine W_cond0 rfl ?_ | refine cN (fun h => ?_) fun h => ?_ | refine cP (fun h => ?_) fun h => ?_ | refine cB (fun h => ?_) fun h => ?_ | refine cK (fun h => ?_) fun h => ?_) | (first | refine seqR.normal ?_ | refine seqR.ret ?_ | refine seqR.exit ?_ | refine blockR.normal ?_ | refine blockR.ret ?_ | refine blockR.here ?_ | refine blockR.exit rfl ?_ | refine loopR.ret ?_ | refine loopR.exit ?_ | refine midA.ret ?_ | refine midA.exit ?_) | fail)
  rename_i bm
  apply L_call rfl rfl rfl rfl rfl
  · exact l2Tile_c at_ hw hnum
  rintro _ _ ⟨rfl, m, rfl, hml, hme⟩
  cases hmk : A.marks with
  | none =>
    simp only [Option.isSome_none]
    repeat' (first | (apply gL; first | refine L_nil ?_ | refine yS ?_ | refine yX fun _ => ?_ | refine yA fun _ => ?_ | (apply gSt; first | refine sR ?_ | refine sB ?_ | refine s1 ?_ | refine sW ?_ | refine sN ?_) | (apply gMk; first | (apply L_mkcap rfl rfl rfl rfl rfl rfl; (· omega); (· omega); (· omega); intro _ _) | (apply L_makeI rfl rfl rfl rfl rfl rfl; (· omega); (· omega); intro _) | (apply L_makeB rfl rfl rfl rfl rfl rfl; (· omega); (· omega); intro _) | (apply L_makeV rfl rfl rfl rfl rfl rfl; (· omega); (· omega); intro _)) | (apply gCall; apply L_call rfl rfl rfl rfl rfl; (· first | exact specValOk_c _ _ | exact l2Numbers_c om | exact l2Look_c at_ hw om om | exact l2Serials_c at_ at_ hw hM.len om | exact l2Object_c at_ at_ hw om hM om om om | exact l2Leads_c at_ at_ hw hM.len om (hV (by assumption)) (fun h1 h2 h3 => ⟨(hM.wh _ (hV (by assumption) h1) h2 h3).1, (hM.wh _ (hV (by assumption) h1) h2 h3).2.1⟩)); rintro _ _ ⟨rfl, rfl⟩) | refine kV ?_ | ((fail_if_success (refine L_known rfl ?_)); first | refine yN (fun h => ?_) fun h => ?_ | refine yP (fun h => ?_) fun h => ?_ | refine yB (fun h => ?_) fun h => ?_ | refine yK (fun h => ?_) fun h => ?_)) | (apply gW; first | refine W_seq ?_ | refine W_region ?_ | refine W_ret ?_ | refine W_skip ?_ | refine W_block ?_ | refine W_exit ?_ | refine W_cond1 rfl ?_ | refine W_cond0 rfl ?_ | refine cN (fun h => ?_) fun h => ?_ | refine cP (fun h => ?_) fun h => ?_ | refine cB (fun h => ?_) fun h => ?_ | refine cK (fun h => ?_) fun h => ?_) | (first | refine seqR.normal ?_ | refine seqR.ret ?_ | refine seqR.exit ?_ | refine blockR.normal ?_ | refine blockR.ret ?_ | refine blockR.here ?_ | refine blockR.exit rfl ?_ | refine loopR.ret ?_ | refine loopR.exit ?_ | refine midA.ret ?_ | refine midA.exit ?_) | fail)
    refine retR.ret _ _ (ret1 rfl rfl) cv_ ⟨?_, rfl⟩
    unfold Ar.ok; rw [hmk, Bool.and_false]
  | some m' =>
  simp only [Option.isSome_some]
  have e := hme _ hmk
  subst e
  have hM := markP_of hnum hmk
  have hokm : A.ok = (A.sers m && A.objsFrom m (m.length + 1) 0 && A.tabsFrom m (m.length + 1) 0 A.falses && A.rootsOk m) := by unfold Ar.ok; rw [hmk, hok0, Bool.true_and]
  clear hme hmk
  have hV : ∀ {t n : Int}, ValP t n → kd t ≠ 0 → 0 ≤ n := fun h1 h2 => valP_n h1 h2
  repeat' (fail_if_success apply gAt 6); (first | (apply gL; first | refine L_nil ?_ | refine yS ?_ | refine yX fun _ => ?_ | refine yA fun _ => ?_ | (apply gSt; first | refine sR ?_ | refine sB ?_ | refine s1 ?_ | refine sW ?_ | refine sN ?_) | (apply gMk; first | (apply L_mkcap rfl rfl rfl rfl rfl rfl; (· omega); (· omega); (· omega); intro _ _) | (apply L_makeI rfl rfl rfl rfl rfl rfl; (· omega); (· omega); intro _) | (apply L_makeB rfl rfl rfl rfl rfl rfl; (· omega); (· omega); intro _) | (apply L_makeV rfl rfl rfl rfl rfl rfl; (· omega); (· omega); intro _)) | (apply gCall; apply L_call rfl rfl rfl rfl rfl; (· first | exact specValOk_c _ _ | exact l2Numbers_c om | exact l2Look_c at_ hw om om | exact l2Serials_c at_ at_ hw hM.len om | exact l2Object_c at_ at_ hw om hM om om om | exact l2Leads_c at_ at_ hw hM.len om (hV (by assumption)) (fun h1 h2 h3 => ⟨(hM.wh _ (hV (by assumption) h1) h2 h3).1, (hM.wh _ (hV (by assumption) h1) h2 h3).2.1⟩)); rintro _ _ ⟨rfl, rfl⟩) | refine kV ?_ | ((fail_if_success (refine L_known rfl ?_)); first | refine yN (fun h => ?_) fun h => ?_ | refine yP (fun h => ?_) fun h => ?_ | refine yB (fun h => ?_) fun h => ?_ | refine yK (fun h => ?_) fun h => ?_)) | (apply gW; first | refine W_seq ?_ | refine W_region ?_ | refine W_ret ?_ | refine W_skip ?_ | refine W_block ?_ | refine W_exit ?_ | refine W_cond1 rfl ?_ | refine W_cond0 rfl ?_ | refine cN (fun h => ?_) fun h => ?_ | refine cP (fun h => ?_) fun h => ?_ | refine cB (fun h => ?_) fun h => ?_ | refine cK (fun h => ?_) fun h => ?_) | (first | refine seqR.normal ?_ | refine seqR.ret ?_ | refine seqR.exit ?_ | refine blockR.normal ?_ | refine blockR.ret ?_ | refine blockR.here ?_ | refine blockR.exit rfl ?_ | refine loopR.ret ?_ | refine loopR.exit ?_ | refine midA.ret ?_ | refine midA.exit ?_) | fail)
  · refine retR.ret _ _ (ret1 rfl rfl) cv_ ⟨?_, rfl⟩
    rw [hokm, h]; rfl
  rw [h, Bool.true_and] at hokm
  refine W_midA (α := Unit) (fun _ => [(1, .pointer (some ⟨ba, 0, none⟩)), (3, .slice (some ⟨bm, 0, none⟩) A.ws.length A.ws.length)]) (fun _ => (ba, aObj C A) :: (bm, mObj m) :: H) (fun _ => ObjP A m) ?_ ?_
  · repeat' (first | (apply gL; first | refine L_nil ?_ | refine yS ?_ | refine yX fun _ => ?_ | refine yA fun _ => ?_ | (apply gSt; first | refine sR ?_ | refine sB ?_ | refine s1 ?_ | refine sW ?_ | refine sN ?_) | (apply gMk; first | (apply L_mkcap rfl rfl rfl rfl rfl rfl; (· omega); (· omega); (· omega); intro _ _) | (apply L_makeI rfl rfl rfl rfl rfl rfl; (· omega); (· omega); intro _) | (apply L_makeB rfl rfl rfl rfl rfl rfl; (· omega); (· omega); intro _) | (apply L_makeV rfl rfl rfl rfl rfl rfl; (· omega); (· omega); intro _)) | (apply gCall; apply L_call rfl rfl rfl rfl rfl; (· first | exact specValOk_c _ _ | exact l2Numbers_c om | exact l2Look_c at_ hw om om | exact l2Serials_c at_ at_ hw hM.len om | exact l2Object_c at_ at_ hw om hM om om om | exact l2Leads_c at_ at_ hw hM.len om (hV (by assumption)) (fun h1 h2 h3 => ⟨(hM.wh _ (hV (by assumption) h1) h2 h3).1, (hM.wh _ (hV (by assumption) h1) h2 h3).2.1⟩)); rintro _ _ ⟨rfl, rfl⟩) | refine kV ?_ | ((fail_if_success (refine L_known rfl ?_)); first | refine yN (fun h => ?_) fun h => ?_ | refine yP (fun h => ?_) fun h => ?_ | refine yB (fun h => ?_) fun h => ?_ | refine yK (fun h => ?_) fun h => ?_)) | (apply gW; first | refine W_seq ?_ | refine W_region ?_ | refine W_ret ?_ | refine W_skip ?_ | refine W_block ?_ | refine W_exit ?_ | refine W_cond1 rfl ?_ | refine W_cond0 rfl ?_ | refine cN (fun h => ?_) fun h => ?_ | refine cP (fun h => ?_) fun h => ?_ | refine cB (fun h => ?_) fun h => ?_ | refine cK (fun h => ?_) fun h => ?_) | (first | refine seqR.normal ?_ | refine seqR.ret ?_ | refine seqR.exit ?_ | refine blockR.normal ?_ | refine blockR.ret ?_ | refine blockR.here ?_ | refine blockR.exit rfl ?_ | refine loopR.ret ?_ | refine loopR.exit ?_ | refine midA.ret ?_ | refine midA.exit ?_) | fail)
    apply W_loopX (α := Int) (fun y => [(1, .pointer (some ⟨ba, 0, none⟩)), (3, .slice (some ⟨bm, 0, none⟩) A.ws.length A.ws.length), (4, .int .i64 y)]) (fun _ => (ba, aObj C A) :: (bm, mObj m) :: H)
      (fun y => 0 ≤ y ∧ y ≤ A.ws.length ∧ ∀ q : Int, 0 ≤ q → q < y → (g m q = 1 ∨ g m q = 2) → A.object m q = true) (fun y => (A.ws.length - y).toNat) 0
    · exact sub_
    · exact cvt_
    · exact ⟨by omega, by omega, fun j h1 h2 => by omega⟩
    rintro p ⟨hp, hp2, hp3⟩
    have hfalse : p < A.ws.length → (g m p = 1 ∨ g m p = 2) → A.object m p = false → false = A.ok := fun h1 h2 h3 => by
      cases e : A.objsFrom m (m.length + 1) 0 with
      | false => rw [hokm, e]; rfl
      | true => have := (objs_iff hM.len).1 e p hp h1 h2; rw [h3] at this; cases this
    repeat' (first | (apply gL; first | refine L_nil ?_ | refine yS ?_ | refine yX fun _ => ?_ | refine yA fun _ => ?_ | (apply gSt; first | refine sR ?_ | refine sB ?_ | refine s1 ?_ | refine sW ?_ | refine sN ?_) | (apply gMk; first | (apply L_mkcap rfl rfl rfl rfl rfl rfl; (· omega); (· omega); (· omega); intro _ _) | (apply L_makeI rfl rfl rfl rfl rfl rfl; (· omega); (· omega); intro _) | (apply L_makeB rfl rfl rfl rfl rfl rfl; (· omega); (· omega); intro _) | (apply L_makeV rfl rfl rfl rfl rfl rfl; (· omega); (· omega); intro _)) | (apply gCall; apply L_call rfl rfl rfl rfl rfl; (· first | exact specValOk_c _ _ | exact l2Numbers_c om | exact l2Look_c at_ hw om om | exact l2Serials_c at_ at_ hw hM.len om | exact l2Object_c at_ at_ hw om hM om om om | exact l2Leads_c at_ at_ hw hM.len om (hV (by assumption)) (fun h1 h2 h3 => ⟨(hM.wh _ (hV (by assumption) h1) h2 h3).1, (hM.wh _ (hV (by assumption) h1) h2 h3).2.1⟩)); rintro _ _ ⟨rfl, rfl⟩) | refine kV ?_ | ((fail_if_success (refine L_known rfl ?_)); first | refine yN (fun h => ?_) fun h => ?_ | refine yP (fun h => ?_) fun h => ?_ | refine yB (fun h => ?_) fun h => ?_ | refine yK (fun h => ?_) fun h => ?_)) | (apply gW; first | refine W_seq ?_ | refine W_region ?_ | refine W_ret ?_ | refine W_skip ?_ | refine W_block ?_ | refine W_exit ?_ | refine W_cond1 rfl ?_ | refine W_cond0 rfl ?_ | refine cN (fun h => ?_) fun h => ?_ | refine cP (fun h => ?_) fun h => ?_ | refine cB (fun h => ?_) fun h => ?_ | refine cK (fun h => ?_) fun h => ?_) | (first | refine seqR.normal ?_ | refine seqR.ret ?_ | refine seqR.exit ?_ | refine blockR.normal ?_ | refine blockR.ret ?_ | refine blockR.here ?_ | refine blockR.exit rfl ?_ | refine loopR.ret ?_ | refine loopR.exit ?_ | refine midA.ret ?_ | refine midA.exit ?_) | fail)
    all_goals (first
      | (refine retR.ret _ _ (ret1 rfl rfl) cv_ ⟨?_, rfl⟩
         exact congrArg Value.bool (hfalse (by omega) (by omega) h))
      | (apply loopR.mk (p + 1)
         · exact sub_
         · exact cvt_
         · exact ⟨by omega, by omega, fun j h1 h2 h3 => by
             by_cases hj : j = p
             · subst hj; first | exact h | omega
             · exact hp3 j h1 (by omega) h3⟩
         · (try dsimp only); omega)
      | (apply midA.mk ()
         · exact sub_
         · exact cvt_
         · exact fun j h1 h2 h3 => hp3 j h1 (by omega) h3))
  rintro _ hO
  rw [(objs_iff hM.len).2 hO, Bool.true_and] at hokm
  repeat' (fail_if_success apply gAt 12); (first | (apply gL; first | refine L_nil ?_ | refine yS ?_ | refine yX fun _ => ?_ | refine yA fun _ => ?_ | (apply gSt; first | refine sR ?_ | refine sB ?_ | refine s1 ?_ | refine sW ?_ | refine sN ?_) | (apply gMk; first | (apply L_mkcap rfl rfl rfl rfl rfl rfl; (· omega); (· omega); (· omega); intro _ _) | (apply L_makeI rfl rfl rfl rfl rfl rfl; (· omega); (· omega); intro _) | (apply L_makeB rfl rfl rfl rfl rfl rfl; (· omega); (· omega); intro _) | (apply L_makeV rfl rfl rfl rfl rfl rfl; (· omega); (· omega); intro _)) | (apply gCall; apply L_call rfl rfl rfl rfl rfl; (· first | exact specValOk_c _ _ | exact l2Numbers_c om | exact l2Look_c at_ hw om om | exact l2Serials_c at_ at_ hw hM.len om | exact l2Object_c at_ at_ hw om hM om om om | exact l2Leads_c at_ at_ hw hM.len om (hV (by assumption)) (fun h1 h2 h3 => ⟨(hM.wh _ (hV (by assumption) h1) h2 h3).1, (hM.wh _ (hV (by assumption) h1) h2 h3).2.1⟩)); rintro _ _ ⟨rfl, rfl⟩) | refine kV ?_ | ((fail_if_success (refine L_known rfl ?_)); first | refine yN (fun h => ?_) fun h => ?_ | refine yP (fun h => ?_) fun h => ?_ | refine yB (fun h => ?_) fun h => ?_ | refine yK (fun h => ?_) fun h => ?_)) | (apply gW; first | refine W_seq ?_ | refine W_region ?_ | refine W_ret ?_ | refine W_skip ?_ | refine W_block ?_ | refine W_exit ?_ | refine W_cond1 rfl ?_ | refine W_cond0 rfl ?_ | refine cN (fun h => ?_) fun h => ?_ | refine cP (fun h => ?_) fun h => ?_ | refine cB (fun h => ?_) fun h => ?_ | refine cK (fun h => ?_) fun h => ?_) | (first | refine seqR.normal ?_ | refine seqR.ret ?_ | refine seqR.exit ?_ | refine blockR.normal ?_ | refine blockR.ret ?_ | refine blockR.here ?_ | refine blockR.exit rfl ?_ | refine loopR.ret ?_ | refine loopR.exit ?_ | refine midA.ret ?_ | refine midA.exit ?_) | fail)
  rename_i bl
  have hfl : A.falses.length = A.ws.length := by simp [Ar.falses]
  refine W_midA (α := Unit) (fun _ => [(1, .pointer (some ⟨ba, 0, none⟩)), (3, .slice (some ⟨bm, 0, none⟩) A.ws.length A.ws.length)]) (fun _ => (ba, aObj C A) :: (bm, mObj m) :: H) (fun _ => A.tabsFrom m (m.length + 1) 0 A.falses = true) ?_ ?_
  · repeat' (first | (apply gL; first | refine L_nil ?_ | refine yS ?_ | refine yX fun _ => ?_ | refine yA fun _ => ?_ | (apply gSt; first | refine sR ?_ | refine sB ?_ | refine s1 ?_ | refine sW ?_ | refine sN ?_) | (apply gMk; first | (apply L_mkcap rfl rfl rfl rfl rfl rfl; (· omega); (· omega); (· omega); intro _ _) | (apply L_makeI rfl rfl rfl rfl rfl rfl; (· omega); (· omega); intro _) | (apply L_makeB rfl rfl rfl rfl rfl rfl; (· omega); (· omega); intro _) | (apply L_makeV rfl rfl rfl rfl rfl rfl; (· omega); (· omega); intro _)) | (apply gCall; apply L_call rfl rfl rfl rfl rfl; (· first | exact specValOk_c _ _ | exact l2Numbers_c om | exact l2Look_c at_ hw om om | exact l2Serials_c at_ at_ hw hM.len om | exact l2Object_c at_ at_ hw om hM om om om | exact l2Leads_c at_ at_ hw hM.len om (hV (by assumption)) (fun h1 h2 h3 => ⟨(hM.wh _ (hV (by assumption) h1) h2 h3).1, (hM.wh _ (hV (by assumption) h1) h2 h3).2.1⟩)); rintro _ _ ⟨rfl, rfl⟩) | refine kV ?_ | ((fail_if_success (refine L_known rfl ?_)); first | refine yN (fun h => ?_) fun h => ?_ | refine yP (fun h => ?_) fun h => ?_ | refine yB (fun h => ?_) fun h => ?_ | refine yK (fun h => ?_) fun h => ?_)) | (apply gW; first | refine W_seq ?_ | refine W_region ?_ | refine W_ret ?_ | refine W_skip ?_ | refine W_block ?_ | refine W_exit ?_ | refine W_cond1 rfl ?_ | refine W_cond0 rfl ?_ | refine cN (fun h => ?_) fun h => ?_ | refine cP (fun h => ?_) fun h => ?_ | refine cB (fun h => ?_) fun h => ?_ | refine cK (fun h => ?_) fun h => ?_) | (first | refine seqR.normal ?_ | refine seqR.ret ?_ | refine seqR.exit ?_ | refine blockR.normal ?_ | refine blockR.ret ?_ | refine blockR.here ?_ | refine blockR.exit rfl ?_ | refine loopR.ret ?_ | refine loopR.exit ?_ | refine midA.ret ?_ | refine midA.exit ?_) | fail)
    apply W_loopX (α := Int × List Bool) (fun y => [(1, .pointer (some ⟨ba, 0, none⟩)), (3, .slice (some ⟨bm, 0, none⟩) A.ws.length A.ws.length), (5, .slice (some ⟨bl, 0, none⟩) A.ws.length A.ws.length), (6, .int .i64 y.1)]) (fun y => (bl, bObj y.2) :: (ba, aObj C A) :: (bm, mObj m) :: H)
      (fun y => 0 ≤ y.1 ∧ y.1 ≤ A.ws.length ∧ y.2.length = A.ws.length ∧ ∃ f, A.tabsFrom m f y.1 y.2 = A.tabsFrom m (m.length + 1) 0 A.falses ∧ (m.length : Int) - y.1 < (f : Int)) (fun y => (A.ws.length - y.1).toNat) (0, A.falses)
    · exact sub_
    · exact cvt_
    · exact ⟨by dsimp only; omega, by dsimp only; omega, hfl, _, rfl, by dsimp only; omega⟩
    rintro ⟨p, led⟩ ⟨hp, hp2, hl, f, hf, hf2⟩
    dsimp only at hp hp2 hl hf hf2 ⊢
    have hlen := hM.len
    repeat' (first | (apply gL; first | refine L_nil ?_ | refine yS ?_ | refine yX fun _ => ?_ | refine yA fun _ => ?_ | (apply gSt; first | refine sR ?_ | refine sB ?_ | refine s1 ?_ | refine sW ?_ | refine sN ?_) | (apply gMk; first | (apply L_mkcap rfl rfl rfl rfl rfl rfl; (· omega); (· omega); (· omega); intro _ _) | (apply L_makeI rfl rfl rfl rfl rfl rfl; (· omega); (· omega); intro _) | (apply L_makeB rfl rfl rfl rfl rfl rfl; (· omega); (· omega); intro _) | (apply L_makeV rfl rfl rfl rfl rfl rfl; (· omega); (· omega); intro _)) | (apply gCall; apply L_call rfl rfl rfl rfl rfl; (· first | exact specValOk_c _ _ | exact l2Numbers_c om | exact l2Look_c at_ hw om om | exact l2Serials_c at_ at_ hw hM.len om | exact l2Object_c at_ at_ hw om hM om om om | exact l2Leads_c at_ at_ hw hM.len om (hV (by assumption)) (fun h1 h2 h3 => ⟨(hM.wh _ (hV (by assumption) h1) h2 h3).1, (hM.wh _ (hV (by assumption) h1) h2 h3).2.1⟩)); rintro _ _ ⟨rfl, rfl⟩) | refine kV ?_ | ((fail_if_success (refine L_known rfl ?_)); first | refine yN (fun h => ?_) fun h => ?_ | refine yP (fun h => ?_) fun h => ?_ | refine yB (fun h => ?_) fun h => ?_ | refine yK (fun h => ?_) fun h => ?_)) | (apply gW; first | refine W_seq ?_ | refine W_region ?_ | refine W_ret ?_ | refine W_skip ?_ | refine W_block ?_ | refine W_exit ?_ | refine W_cond1 rfl ?_ | refine W_cond0 rfl ?_ | refine cN (fun h => ?_) fun h => ?_ | refine cP (fun h => ?_) fun h => ?_ | refine cB (fun h => ?_) fun h => ?_ | refine cK (fun h => ?_) fun h => ?_) | (first | refine seqR.normal ?_ | refine seqR.ret ?_ | refine seqR.exit ?_ | refine blockR.normal ?_ | refine blockR.ret ?_ | refine blockR.here ?_ | refine blockR.exit rfl ?_ | refine loopR.ret ?_ | refine loopR.exit ?_ | refine midA.ret ?_ | refine midA.exit ?_) | fail)
    all_goals (first
      | (obtain ⟨f', rfl, e⟩ := tabs_step (A := A) (led := led) (show p < (m.length : Int) by omega) hf2
         rw [e, if_neg (fun c => by have := isM_iff.1 c.1; omega)] at hf
         apply loopR.mk (p + 1, led)
         · exact sub_
         · exact cvt_
         · exact ⟨by dsimp only; omega, by dsimp only; omega, hl, f', hf, by dsimp only; omega⟩
         · dsimp only; omega)
      | (rw [tabs_end (by omega)] at hf
         apply midA.mk ()
         · exact sub_
         · exact cvt_
         · exact hf.symm)
      | skip)
    all_goals (
      have pre := tab_pre hM hO hp (by omega) (by omega) h
      apply L_call rfl rfl rfl rfl rfl
      · exact l2TabOk_c at_ hw (by omega) hl hp pre.1 pre.2.1 pre.2.2
      rintro _ _ ⟨rfl, led', rfl, hl', he⟩
      obtain ⟨f', rfl, e⟩ := tabs_step (A := A) (led := led) (show p < (m.length : Int) by omega) hf2
      rw [e, if_pos ⟨isM_iff.2 (by omega), h⟩] at hf
      cases htb : A.tab p led with
      | none =>
        rw [htb] at hf
        simp only [Option.isSome_none]
        repeat' (first | (apply gL; first | refine L_nil ?_ | refine yS ?_ | refine yX fun _ => ?_ | refine yA fun _ => ?_ | (apply gSt; first | refine sR ?_ | refine sB ?_ | refine s1 ?_ | refine sW ?_ | refine sN ?_) | (apply gMk; first | (apply L_mkcap rfl rfl rfl rfl rfl rfl; (· omega); (· omega); (· omega); intro _ _) | (apply L_makeI rfl rfl rfl rfl rfl rfl; (· omega); (· omega); intro _) | (apply L_makeB rfl rfl rfl rfl rfl rfl; (· omega); (· omega); intro _) | (apply L_makeV rfl rfl rfl rfl rfl rfl; (· omega); (· omega); intro _)) | (apply gCall; apply L_call rfl rfl rfl rfl rfl; (· first | exact specValOk_c _ _ | exact l2Numbers_c om | exact l2Look_c at_ hw om om | exact l2Serials_c at_ at_ hw hM.len om | exact l2Object_c at_ at_ hw om hM om om om | exact l2Leads_c at_ at_ hw hM.len om (hV (by assumption)) (fun h1 h2 h3 => ⟨(hM.wh _ (hV (by assumption) h1) h2 h3).1, (hM.wh _ (hV (by assumption) h1) h2 h3).2.1⟩)); rintro _ _ ⟨rfl, rfl⟩) | refine kV ?_ | ((fail_if_success (refine L_known rfl ?_)); first | refine yN (fun h => ?_) fun h => ?_ | refine yP (fun h => ?_) fun h => ?_ | refine yB (fun h => ?_) fun h => ?_ | refine yK (fun h => ?_) fun h => ?_)) | (apply gW; first | refine W_seq ?_ | refine W_region ?_ | refine W_ret ?_ | refine W_skip ?_ | refine W_block ?_ | refine W_exit ?_ | refine W_cond1 rfl ?_ | refine W_cond0 rfl ?_ | refine cN (fun h => ?_) fun h => ?_ | refine cP (fun h => ?_) fun h => ?_ | refine cB (fun h => ?_) fun h => ?_ | refine cK (fun h => ?_) fun h => ?_) | (first | refine seqR.normal ?_ | refine seqR.ret ?_ | refine seqR.exit ?_ | refine blockR.normal ?_ | refine blockR.ret ?_ | refine blockR.here ?_ | refine blockR.exit rfl ?_ | refine loopR.ret ?_ | refine loopR.exit ?_ | refine midA.ret ?_ | refine midA.exit ?_) | fail)
        refine retR.ret _ _ (ret1 rfl rfl) cv_ ⟨?_, rfl⟩
        rw [hokm, ← hf]; rfl
      | some l' =>
        have e3 := he l' htb
        subst e3
        rw [htb] at hf
        simp only [Option.isSome_some]
        repeat' (first | (apply gL; first | refine L_nil ?_ | refine yS ?_ | refine yX fun _ => ?_ | refine yA fun _ => ?_ | (apply gSt; first | refine sR ?_ | refine sB ?_ | refine s1 ?_ | refine sW ?_ | refine sN ?_) | (apply gMk; first | (apply L_mkcap rfl rfl rfl rfl rfl rfl; (· omega); (· omega); (· omega); intro _ _) | (apply L_makeI rfl rfl rfl rfl rfl rfl; (· omega); (· omega); intro _) | (apply L_makeB rfl rfl rfl rfl rfl rfl; (· omega); (· omega); intro _) | (apply L_makeV rfl rfl rfl rfl rfl rfl; (· omega); (· omega); intro _)) | (apply gCall; apply L_call rfl rfl rfl rfl rfl; (· first | exact specValOk_c _ _ | exact l2Numbers_c om | exact l2Look_c at_ hw om om | exact l2Serials_c at_ at_ hw hM.len om | exact l2Object_c at_ at_ hw om hM om om om | exact l2Leads_c at_ at_ hw hM.len om (hV (by assumption)) (fun h1 h2 h3 => ⟨(hM.wh _ (hV (by assumption) h1) h2 h3).1, (hM.wh _ (hV (by assumption) h1) h2 h3).2.1⟩)); rintro _ _ ⟨rfl, rfl⟩) | refine kV ?_ | ((fail_if_success (refine L_known rfl ?_)); first | refine yN (fun h => ?_) fun h => ?_ | refine yP (fun h => ?_) fun h => ?_ | refine yB (fun h => ?_) fun h => ?_ | refine yK (fun h => ?_) fun h => ?_)) | (apply gW; first | refine W_seq ?_ | refine W_region ?_ | refine W_ret ?_ | refine W_skip ?_ | refine W_block ?_ | refine W_exit ?_ | refine W_cond1 rfl ?_ | refine W_cond0 rfl ?_ | refine cN (fun h => ?_) fun h => ?_ | refine cP (fun h => ?_) fun h => ?_ | refine cB (fun h => ?_) fun h => ?_ | refine cK (fun h => ?_) fun h => ?_) | (first | refine seqR.normal ?_ | refine seqR.ret ?_ | refine seqR.exit ?_ | refine blockR.normal ?_ | refine blockR.ret ?_ | refine blockR.here ?_ | refine blockR.exit rfl ?_ | refine loopR.ret ?_ | refine loopR.exit ?_ | refine midA.ret ?_ | refine midA.exit ?_) | fail)
        apply loopR.mk (p + 1, led')
        · exact sub_
        · exact cvt_
        · exact ⟨by dsimp only; omega, by dsimp only; omega, hl', f', hf, by dsimp only; omega⟩
        · dsimp only; omega)
  rintro _ hT
  rw [hT, Bool.true_and] at hokm
  repeat' (first | (apply gL; first | refine L_nil ?_ | refine yS ?_ | refine yX fun _ => ?_ | refine yA fun _ => ?_ | (apply gSt; first | refine sR ?_ | refine sB ?_ | refine s1 ?_ | refine sW ?_ | refine sN ?_) | (apply gMk; first | (apply L_mkcap rfl rfl rfl rfl rfl rfl; (· omega); (· omega); (· omega); intro _ _) | (apply L_makeI rfl rfl rfl rfl rfl rfl; (· omega); (· omega); intro _) | (apply L_makeB rfl rfl rfl rfl rfl rfl; (· omega); (· omega); intro _) | (apply L_makeV rfl rfl rfl rfl rfl rfl; (· omega); (· omega); intro _)) | (apply gCall; apply L_call rfl rfl rfl rfl rfl; (· first | exact specValOk_c _ _ | exact l2Numbers_c om | exact l2Look_c at_ hw om om | exact l2Serials_c at_ at_ hw hM.len om | exact l2Object_c at_ at_ hw om hM om om om | exact l2Leads_c at_ at_ hw hM.len om (hV (by assumption)) (fun h1 h2 h3 => ⟨(hM.wh _ (hV (by assumption) h1) h2 h3).1, (hM.wh _ (hV (by assumption) h1) h2 h3).2.1⟩)); rintro _ _ ⟨rfl, rfl⟩) | refine kV ?_ | ((fail_if_success (refine L_known rfl ?_)); first | refine yN (fun h => ?_) fun h => ?_ | refine yP (fun h => ?_) fun h => ?_ | refine yB (fun h => ?_) fun h => ?_ | refine yK (fun h => ?_) fun h => ?_)) | (apply gW; first | refine W_seq ?_ | refine W_region ?_ | refine W_ret ?_ | refine W_skip ?_ | refine W_block ?_ | refine W_exit ?_ | refine W_cond1 rfl ?_ | refine W_cond0 rfl ?_ | refine cN (fun h => ?_) fun h => ?_ | refine cP (fun h => ?_) fun h => ?_ | refine cB (fun h => ?_) fun h => ?_ | refine cK (fun h => ?_) fun h => ?_) | (first | refine seqR.normal ?_ | refine seqR.ret ?_ | refine seqR.exit ?_ | refine blockR.normal ?_ | refine blockR.ret ?_ | refine blockR.here ?_ | refine blockR.exit rfl ?_ | refine loopR.ret ?_ | refine loopR.exit ?_ | refine midA.ret ?_ | refine midA.exit ?_) | fail)
  apply W_loopX (α := Int) (fun y => [(1, .pointer (some ⟨ba, 0, none⟩)), (3, .slice (some ⟨bm, 0, none⟩) A.ws.length A.ws.length), (7, .int .i64 y)]) (fun _ => (ba, aObj C A) :: (bm, mObj m) :: H)
      (fun y => 0 ≤ y ∧ y ≤ A.vs.length ∧ ∀ i : Int, 0 ≤ i → i < y → valOk (A.vs.getD i.toNat (0, 0)).1 (A.vs.getD i.toNat (0, 0)).2 = true ∧ ¬ (A.vs.getD i.toNat (0, 0)).1 = 8 ∧ A.leads m (A.vs.getD i.toNat (0, 0)).1 (A.vs.getD i.toNat (0, 0)).2 1 = true) (fun y => (A.vs.length - y).toNat) 0
  · exact sub_
  · exact cvt_
  · exact ⟨by omega, by omega, fun j h1 h2 => by omega⟩
  rintro i ⟨hi, hi2, hi3⟩
  have hfalse : i < A.vs.length → ¬ (valOk (A.vs.getD i.toNat (0, 0)).1 (A.vs.getD i.toNat (0, 0)).2 = true ∧ ¬ (A.vs.getD i.toNat (0, 0)).1 = 8 ∧ A.leads m (A.vs.getD i.toNat (0, 0)).1 (A.vs.getD i.toNat (0, 0)).2 1 = true) → false = A.ok := fun h1 h2 => by
    rw [hokm]
    cases e : A.rootsOk m with
    | false => rfl
    | true => exact absurd (roots_iff.1 e i hi h1) h2
  repeat' (first | (apply gL; first | refine L_nil ?_ | refine yS ?_ | refine yX fun _ => ?_ | refine yA fun _ => ?_ | (apply gSt; first | refine sR ?_ | refine sB ?_ | refine s1 ?_ | refine sW ?_ | refine sN ?_) | (apply gMk; first | (apply L_mkcap rfl rfl rfl rfl rfl rfl; (· omega); (· omega); (· omega); intro _ _) | (apply L_makeI rfl rfl rfl rfl rfl rfl; (· omega); (· omega); intro _) | (apply L_makeB rfl rfl rfl rfl rfl rfl; (· omega); (· omega); intro _) | (apply L_makeV rfl rfl rfl rfl rfl rfl; (· omega); (· omega); intro _)) | (apply gCall; apply L_call rfl rfl rfl rfl rfl; (· first | exact specValOk_c _ _ | exact l2Numbers_c om | exact l2Look_c at_ hw om om | exact l2Serials_c at_ at_ hw hM.len om | exact l2Object_c at_ at_ hw om hM om om om | exact l2Leads_c at_ at_ hw hM.len om (hV (by assumption)) (fun h1 h2 h3 => ⟨(hM.wh _ (hV (by assumption) h1) h2 h3).1, (hM.wh _ (hV (by assumption) h1) h2 h3).2.1⟩)); rintro _ _ ⟨rfl, rfl⟩) | refine kV ?_ | ((fail_if_success (refine L_known rfl ?_)); first | refine yN (fun h => ?_) fun h => ?_ | refine yP (fun h => ?_) fun h => ?_ | refine yB (fun h => ?_) fun h => ?_ | refine yK (fun h => ?_) fun h => ?_)) | (apply gW; first | refine W_seq ?_ | refine W_region ?_ | refine W_ret ?_ | refine W_skip ?_ | refine W_block ?_ | refine W_exit ?_ | refine W_cond1 rfl ?_ | refine W_cond0 rfl ?_ | refine cN (fun h => ?_) fun h => ?_ | refine cP (fun h => ?_) fun h => ?_ | refine cB (fun h => ?_) fun h => ?_ | refine cK (fun h => ?_) fun h => ?_) | (first | refine seqR.normal ?_ | refine seqR.ret ?_ | refine seqR.exit ?_ | refine blockR.normal ?_ | refine blockR.ret ?_ | refine blockR.here ?_ | refine blockR.exit rfl ?_ | refine loopR.ret ?_ | refine loopR.exit ?_ | refine midA.ret ?_ | refine midA.exit ?_) | fail)
  · refine retR.ret _ _ (ret1 rfl rfl) cv_ ⟨?_, rfl⟩
    exact congrArg Value.bool (hfalse (by assumption) (fun c => h (of_decide_eq_true c.1)))
  · refine retR.ret _ _ (ret1 rfl rfl) cv_ ⟨?_, rfl⟩
    exact congrArg Value.bool (hfalse (by assumption) (fun c => c.2.1 h))
  · refine retR.ret _ _ (ret1 rfl rfl) cv_ ⟨?_, rfl⟩
    exact congrArg Value.bool (hfalse (by assumption) (fun c => by rw [c.2.2] at h; cases h))
  · apply loopR.mk (i + 1)
    · exact sub_
    · exact cvt_
    · exact ⟨by omega, by omega, fun j h1 h2 => by
        by_cases hj : j = i
        · subst hj; exact ⟨decide_eq_true (by assumption), by assumption, h⟩
        · exact hi3 j h1 (by omega)⟩
    · (try dsimp only); omega
  · refine retR.ret _ _ (ret1 rfl rfl) cv_ ⟨?_, rfl⟩
    rw [hokm, roots_iff.2 (fun j h1 h2 => hi3 j h1 (by omega))]
end Go.Proofs.Ytepddopgmhdllaa.Eng
