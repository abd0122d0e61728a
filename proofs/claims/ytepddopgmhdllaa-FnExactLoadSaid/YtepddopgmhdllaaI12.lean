/- The implementation's contentOk. -/
import Derived.Test.YtepddopgmhdllaaI11
import Derived.Test.YtepddopgmhdllaaS13
namespace Go.Proofs.Ytepddopgmhdllaa.Ar
def Ar.rootOk (A : Ar) (m : List Int) (t n : Int) : Bool := valOk t n && !(decide (t = 8)) && A.leads m t n 1
end Go.Proofs.Ytepddopgmhdllaa.Ar
namespace Go.Proofs.Ytepddopgmhdllaa.Eng
open Go Go.RowKit Go.Proofs.Ytepddopgmhdllaa.Sl Go.Proofs.Ytepddopgmhdllaa.Ar Go.Proofs.Ytepddopgmhdllaa.Base
set_option linter.unusedVariables false
set_option linter.unusedSimpArgs false
set_option maxRecDepth 10000
variable {w0 : World} {H : HL} {C : Cn} {A : Ar} {ba : Nat}
abbrev pObj (bv : Nat) : Obj := .cells #[.pointer (some ⟨bv, 0, none⟩)] 116 (0, 0)
theorem closure_c {b1 bv bi bs bb : Nat} {m : List Int} {t n : Int} (h1 : At H b1 (pObj bv)) (hV : At H bv (svObj ba bi A.ws.length bs bb)) (hB : At H bi (uObj m)) (hP : At H ba (aObj C A)) (hA : At H C.bw (wObj C A)) (hw : Wf A.ws) (hm : A.ws.length ≤ 8000) (hh : A.to = 0 ∨ A.to = 1) (hs : 256 ≤ A.semi ∧ A.semi ≤ 4000)
    (hM : MarkP A m) (hof : ∀ n : Int, g m n = 0 ∨ g m n = 1 ∨ g m n = 2 ∨ g m n = 3) (hPl : ∀ n : Int, 0 ≤ n → n < A.ws.length → g m n ≠ 0 → PlaceP A n) :
    Fn Try.prog w0 153 #[.agg #[.int .i64 t, .int .i64 n], .pointer (some ⟨b1, 0, none⟩)] H fun v H' => v = .bool (!(A.rootOk m t n)) ∧ H' = H := by
  have hWh : ∀ n : Int, 0 ≤ n → n < A.ws.length → g m n ≠ 0 → PlaceP A n ∧ 0 ≤ A.where_ n ∧ A.where_ n < A.ws.length := fun n h1 h2 h3 => ⟨hPl n h1 h2 h3, (hM.wh n h1 h2 h3).1, (hM.wh n h1 h2 h3).2.1⟩
  refine enter2 Try.func153 rfl rfl Try.ntmps153 rfl ?_
  repeat' (first | (apply gL; first | refine L_nil ?_ | refine yS ?_ | refine yX fun _ => ?_ | (apply gCall; apply L_call rfl rfl rfl rfl rfl; (· first | exact implValOk_c _ _ | exact leads_c (fr := 1) at_ at_ at_ at_ hw hm hM.len hh hs (fun h => valP_n (by assumption) h) (fun h1 h2 h3 => hWh _ (valP_n (by assumption) h1) h2 h3) (hof _) (.inl ⟨rfl, rfl⟩) | exact objectOk_c at_ at_ at_ at_ hw hm hc hh hs hM hof hPl om om om | exact head_c at_ at_ hw om om); rintro _ _ ⟨rfl, rfl⟩) | refine kV ?_ | (apply L_val rfl rfl rfl; (· first | (apply gBin; first | fail ) | fail | exact v_func rfl rfl)) | ((fail_if_success (refine L_known rfl ?_)); first | refine yN (fun h => ?_) fun h => ?_ | refine yP (fun h => ?_) fun h => ?_ | refine yB (fun h => ?_) fun h => ?_ | refine yK (fun h => ?_) fun h => ?_)) | (apply gW; first | refine W_seq ?_ | refine W_region ?_ | refine W_ret ?_ | refine W_skip ?_ | refine W_block ?_ | refine W_exit ?_ | refine W_cond1 rfl ?_ | refine W_cond0 rfl ?_ | refine cN (fun h => ?_) fun h => ?_ | refine cP (fun h => ?_) fun h => ?_ | refine cB (fun h => ?_) fun h => ?_ | refine cK (fun h => ?_) fun h => ?_) | (first | refine seqR.normal ?_ | refine seqR.ret ?_ | refine seqR.exit ?_ | refine blockR.normal ?_ | refine blockR.ret ?_ | refine blockR.here ?_ | refine blockR.exit rfl ?_ | refine loopR.ret ?_ | refine loopR.exit ?_ | refine midA.ret ?_ | refine midA.exit ?_) | fail)
  all_goals refine retR.ret _ _ (ret1 rfl rfl) cv_ ⟨?_, rfl⟩
  · unfold Ar.rootOk; rw [show valOk t n = false from decide_eq_false h]; rfl
  · unfold Ar.rootOk; rw [h]; simp
  · unfold Ar.rootOk; rw [show valOk t n = true from decide_eq_true (by assumption), decide_eq_false h]; simp
theorem rootsAll {m : List Int} : A.rootsOk m = true ↔ ∀ i : Int, 0 ≤ i → i < (A.vs.length : Int) → A.rootOk m (A.vs.getD i.toNat (0, 0)).1 (A.vs.getD i.toNat (0, 0)).2 = true := by
  unfold Ar.rootsOk
  rw [List.all_eq_true]
  constructor
  · intro h i hi hi2
    have hl : i.toNat < A.vs.length := by omega
    have := h (A.vs[i.toNat]) (List.getElem_mem hl)
    rw [List.getD_eq_getElem?_getD, List.getElem?_eq_getElem hl]; exact this
  · intro h v hv
    obtain ⟨n, hn, rfl⟩ := List.getElem_of_mem hv
    have := h (n : Int) (by omega) (by omega)
    rw [Int.toNat_natCast, List.getD_eq_getElem?_getD, List.getElem?_eq_getElem hn] at this; exact this
theorem indexFunc_c {b1 bv bi bs bb : Nat} {m : List Int} (h1 : At H b1 (pObj bv)) (hV : At H bv (svObj ba bi A.ws.length bs bb)) (hB : At H bi (uObj m)) (hP : At H ba (aObj C A)) (hA : At H C.bw (wObj C A)) (hR : At H C.br (rObj C A)) (hw : Wf A.ws) (hm : A.ws.length ≤ 8000) (hx : A.vs.length ≤ 1048576) (hh : A.to = 0 ∨ A.to = 1) (hs : 256 ≤ A.semi ∧ A.semi ≤ 4000)
    (hM : MarkP A m) (hof : ∀ n : Int, g m n = 0 ∨ g m n = 1 ∨ g m n = 2 ∨ g m n = 3) (hPl : ∀ n : Int, 0 ≤ n → n < A.ws.length → g m n ≠ 0 → PlaceP A n) :
    Fn Try.prog w0 168 #[.slice (some ⟨C.br, 0, none⟩) A.vs.length C.rc, .func (.func 153) #[] #[.pointer (some ⟨b1, 0, none⟩)]] H fun v H' => (∃ r : Int, v = .int .i64 r ∧ A.rootsOk m = decide (r < 0)) ∧ H' = H := by
  refine enter2 Try.func168 rfl rfl Try.ntmps168 rfl ?_
  repeat' (first | (apply gL; first | refine L_nil ?_ | refine yS ?_ | refine yX fun _ => ?_ | (apply gCall; apply L_call rfl rfl rfl rfl rfl; (· first | exact implValOk_c _ _ | exact leads_c (fr := 1) at_ at_ at_ at_ hw hm hM.len hh hs (fun h => valP_n (by assumption) h) (fun h1 h2 h3 => hWh _ (valP_n (by assumption) h1) h2 h3) (hof _) (.inl ⟨rfl, rfl⟩) | exact objectOk_c at_ at_ at_ at_ hw hm hc hh hs hM hof hPl om om om | exact head_c at_ at_ hw om om); rintro _ _ ⟨rfl, rfl⟩) | refine kV ?_ | (apply L_val rfl rfl rfl; (· first | (apply gBin; first | fail ) | fail | exact v_func rfl rfl)) | ((fail_if_success (refine L_known rfl ?_)); first | refine yN (fun h => ?_) fun h => ?_ | refine yP (fun h => ?_) fun h => ?_ | refine yB (fun h => ?_) fun h => ?_ | refine yK (fun h => ?_) fun h => ?_)) | (apply gW; first | refine W_seq ?_ | refine W_region ?_ | refine W_ret ?_ | refine W_skip ?_ | refine W_block ?_ | refine W_exit ?_ | refine W_cond1 rfl ?_ | refine W_cond0 rfl ?_ | refine cN (fun h => ?_) fun h => ?_ | refine cP (fun h => ?_) fun h => ?_ | refine cB (fun h => ?_) fun h => ?_ | refine cK (fun h => ?_) fun h => ?_) | (first | refine seqR.normal ?_ | refine seqR.ret ?_ | refine seqR.exit ?_ | refine blockR.normal ?_ | refine blockR.ret ?_ | refine blockR.here ?_ | refine blockR.exit rfl ?_ | refine loopR.ret ?_ | refine loopR.exit ?_ | refine midA.ret ?_ | refine midA.exit ?_) | fail)
  apply W_loopX (α := Int) (fun y => [(0, .slice (some ⟨C.br, 0, none⟩) A.vs.length C.rc), (1, .func (.func 153) #[] #[.pointer (some ⟨b1, 0, none⟩)]), (7, .int .i64 (A.vs.length : Int)), (8, .int .i64 y)]) (fun _ => H)
    (fun y => 0 ≤ y ∧ y ≤ A.vs.length ∧ ∀ j : Int, 0 ≤ j → j < y → A.rootOk m (A.vs.getD j.toNat (0, 0)).1 (A.vs.getD j.toNat (0, 0)).2 = true) (fun y => (A.vs.length - y).toNat) 0
  · exact sub_
  · exact cvt_
  · exact ⟨by omega, by omega, fun j a b => by omega⟩
  rintro i ⟨hi, hi2, hi3⟩
  repeat' (first | (apply gL; first | refine L_nil ?_ | refine yS ?_ | refine yX fun _ => ?_ | (apply gCall; apply L_call rfl rfl rfl rfl rfl; (· first | exact implValOk_c _ _ | exact leads_c (fr := 1) at_ at_ at_ at_ hw hm hM.len hh hs (fun h => valP_n (by assumption) h) (fun h1 h2 h3 => hWh _ (valP_n (by assumption) h1) h2 h3) (hof _) (.inl ⟨rfl, rfl⟩) | exact objectOk_c at_ at_ at_ at_ hw hm hc hh hs hM hof hPl om om om | exact head_c at_ at_ hw om om); rintro _ _ ⟨rfl, rfl⟩) | refine kV ?_ | (apply L_val rfl rfl rfl; (· first | (apply gBin; first | fail ) | fail | exact v_func rfl rfl)) | ((fail_if_success (refine L_known rfl ?_)); first | refine yN (fun h => ?_) fun h => ?_ | refine yP (fun h => ?_) fun h => ?_ | refine yB (fun h => ?_) fun h => ?_ | refine yK (fun h => ?_) fun h => ?_)) | (apply gW; first | refine W_seq ?_ | refine W_region ?_ | refine W_ret ?_ | refine W_skip ?_ | refine W_block ?_ | refine W_exit ?_ | refine W_cond1 rfl ?_ | refine W_cond0 rfl ?_ | refine cN (fun h => ?_) fun h => ?_ | refine cP (fun h => ?_) fun h => ?_ | refine cB (fun h => ?_) fun h => ?_ | refine cK (fun h => ?_) fun h => ?_) | (first | refine seqR.normal ?_ | refine seqR.ret ?_ | refine seqR.exit ?_ | refine blockR.normal ?_ | refine blockR.ret ?_ | refine blockR.here ?_ | refine blockR.exit rfl ?_ | refine loopR.ret ?_ | refine loopR.exit ?_ | refine midA.ret ?_ | refine midA.exit ?_) | fail)
  · apply L_callv rfl rfl rfl rfl rfl rfl
    · exact closure_c at_ at_ at_ at_ at_ hw hm hh hs hM hof hPl
    rintro _ _ ⟨rfl, rfl⟩
    repeat' (first | (apply gL; first | refine L_nil ?_ | refine yS ?_ | refine yX fun _ => ?_ | (apply gCall; apply L_call rfl rfl rfl rfl rfl; (· first | exact implValOk_c _ _ | exact leads_c (fr := 1) at_ at_ at_ at_ hw hm hM.len hh hs (fun h => valP_n (by assumption) h) (fun h1 h2 h3 => hWh _ (valP_n (by assumption) h1) h2 h3) (hof _) (.inl ⟨rfl, rfl⟩) | exact objectOk_c at_ at_ at_ at_ hw hm hc hh hs hM hof hPl om om om | exact head_c at_ at_ hw om om); rintro _ _ ⟨rfl, rfl⟩) | refine kV ?_ | (apply L_val rfl rfl rfl; (· first | (apply gBin; first | fail ) | fail | exact v_func rfl rfl)) | ((fail_if_success (refine L_known rfl ?_)); first | refine yN (fun h => ?_) fun h => ?_ | refine yP (fun h => ?_) fun h => ?_ | refine yB (fun h => ?_) fun h => ?_ | refine yK (fun h => ?_) fun h => ?_)) | (apply gW; first | refine W_seq ?_ | refine W_region ?_ | refine W_ret ?_ | refine W_skip ?_ | refine W_block ?_ | refine W_exit ?_ | refine W_cond1 rfl ?_ | refine W_cond0 rfl ?_ | refine cN (fun h => ?_) fun h => ?_ | refine cP (fun h => ?_) fun h => ?_ | refine cB (fun h => ?_) fun h => ?_ | refine cK (fun h => ?_) fun h => ?_) | (first | refine seqR.normal ?_ | refine seqR.ret ?_ | refine seqR.exit ?_ | refine blockR.normal ?_ | refine blockR.ret ?_ | refine blockR.here ?_ | refine blockR.exit rfl ?_ | refine loopR.ret ?_ | refine loopR.exit ?_ | refine midA.ret ?_ | refine midA.exit ?_) | fail)
    · refine retR.ret _ _ (ret1 rfl rfl) cv_ ⟨?_, rfl⟩
      refine ⟨_, rfl, ?_⟩
      rw [decide_eq_false (by omega)]
      cases e : A.rootsOk m with
      | false => rfl
      | true => have := rootsAll.1 e i hi (by assumption); rw [this] at h; cases h
    · apply loopR.mk (i + 1)
      · exact sub_
      · exact cvt_
      · exact ⟨by omega, by omega, fun j a b => by
          by_cases hj : j = i
          · subst hj; exact h
          · exact hi3 j a (by omega)⟩
      · (try dsimp only); omega
  · refine retR.ret _ _ (ret1 rfl rfl) cv_ ⟨?_, rfl⟩
    refine ⟨_, rfl, ?_⟩
    rw [rootsAll.2 (fun j a b => hi3 j a (by omega))]; rfl
theorem containsFunc_c {b1 bv bi bs bb : Nat} {m : List Int} (h1 : At H b1 (pObj bv)) (hV : At H bv (svObj ba bi A.ws.length bs bb)) (hB : At H bi (uObj m)) (hP : At H ba (aObj C A)) (hA : At H C.bw (wObj C A)) (hR : At H C.br (rObj C A)) (hw : Wf A.ws) (hm : A.ws.length ≤ 8000) (hx : A.vs.length ≤ 1048576) (hh : A.to = 0 ∨ A.to = 1) (hs : 256 ≤ A.semi ∧ A.semi ≤ 4000)
    (hM : MarkP A m) (hof : ∀ n : Int, g m n = 0 ∨ g m n = 1 ∨ g m n = 2 ∨ g m n = 3) (hPl : ∀ n : Int, 0 ≤ n → n < A.ws.length → g m n ≠ 0 → PlaceP A n) :
    Fn Try.prog w0 152 #[.slice (some ⟨C.br, 0, none⟩) A.vs.length C.rc, .func (.func 153) #[] #[.pointer (some ⟨b1, 0, none⟩)]] H fun v H' => v = .bool (!(A.rootsOk m)) ∧ H' = H := by
  refine enter2 Try.func152 rfl rfl Try.ntmps152 rfl ?_
  repeat' (first | (apply gL; first | refine L_nil ?_ | refine yS ?_ | refine yX fun _ => ?_ | (apply gCall; apply L_call rfl rfl rfl rfl rfl; (· first | exact implValOk_c _ _ | exact leads_c (fr := 1) at_ at_ at_ at_ hw hm hM.len hh hs (fun h => valP_n (by assumption) h) (fun h1 h2 h3 => hWh _ (valP_n (by assumption) h1) h2 h3) (hof _) (.inl ⟨rfl, rfl⟩) | exact objectOk_c at_ at_ at_ at_ hw hm hc hh hs hM hof hPl om om om | exact head_c at_ at_ hw om om); rintro _ _ ⟨rfl, rfl⟩) | refine kV ?_ | (apply L_val rfl rfl rfl; (· first | (apply gBin; first | fail ) | fail | exact v_func rfl rfl)) | ((fail_if_success (refine L_known rfl ?_)); first | refine yN (fun h => ?_) fun h => ?_ | refine yP (fun h => ?_) fun h => ?_ | refine yB (fun h => ?_) fun h => ?_ | refine yK (fun h => ?_) fun h => ?_)) | (apply gW; first | refine W_seq ?_ | refine W_region ?_ | refine W_ret ?_ | refine W_skip ?_ | refine W_block ?_ | refine W_exit ?_ | refine W_cond1 rfl ?_ | refine W_cond0 rfl ?_ | refine cN (fun h => ?_) fun h => ?_ | refine cP (fun h => ?_) fun h => ?_ | refine cB (fun h => ?_) fun h => ?_ | refine cK (fun h => ?_) fun h => ?_) | (first | refine seqR.normal ?_ | refine seqR.ret ?_ | refine seqR.exit ?_ | refine blockR.normal ?_ | refine blockR.ret ?_ | refine blockR.here ?_ | refine blockR.exit rfl ?_ | refine loopR.ret ?_ | refine loopR.exit ?_ | refine midA.ret ?_ | refine midA.exit ?_) | fail)
  apply L_call rfl rfl rfl rfl rfl
  · exact indexFunc_c at_ at_ at_ at_ at_ at_ hw hm hx hh hs hM hof hPl
  rintro _ _ ⟨⟨r, rfl, hr⟩, rfl⟩
  repeat' (first | (apply gL; first | refine L_nil ?_ | refine yS ?_ | refine yX fun _ => ?_ | (apply gCall; apply L_call rfl rfl rfl rfl rfl; (· first | exact implValOk_c _ _ | exact leads_c (fr := 1) at_ at_ at_ at_ hw hm hM.len hh hs (fun h => valP_n (by assumption) h) (fun h1 h2 h3 => hWh _ (valP_n (by assumption) h1) h2 h3) (hof _) (.inl ⟨rfl, rfl⟩) | exact objectOk_c at_ at_ at_ at_ hw hm hc hh hs hM hof hPl om om om | exact head_c at_ at_ hw om om); rintro _ _ ⟨rfl, rfl⟩) | refine kV ?_ | (apply L_val rfl rfl rfl; (· first | (apply gBin; first | fail ) | fail | exact v_func rfl rfl)) | ((fail_if_success (refine L_known rfl ?_)); first | refine yN (fun h => ?_) fun h => ?_ | refine yP (fun h => ?_) fun h => ?_ | refine yB (fun h => ?_) fun h => ?_ | refine yK (fun h => ?_) fun h => ?_)) | (apply gW; first | refine W_seq ?_ | refine W_region ?_ | refine W_ret ?_ | refine W_skip ?_ | refine W_block ?_ | refine W_exit ?_ | refine W_cond1 rfl ?_ | refine W_cond0 rfl ?_ | refine cN (fun h => ?_) fun h => ?_ | refine cP (fun h => ?_) fun h => ?_ | refine cB (fun h => ?_) fun h => ?_ | refine cK (fun h => ?_) fun h => ?_) | (first | refine seqR.normal ?_ | refine seqR.ret ?_ | refine seqR.exit ?_ | refine blockR.normal ?_ | refine blockR.ret ?_ | refine blockR.here ?_ | refine blockR.exit rfl ?_ | refine loopR.ret ?_ | refine loopR.exit ?_ | refine midA.ret ?_ | refine midA.exit ?_) | fail)
  refine retR.ret _ _ (ret1 rfl rfl) cv_ ⟨?_, rfl⟩
  rw [hr]
  by_cases c : r < 0
  · rw [decide_eq_true c, decide_eq_false (by omega)]; rfl
  · rw [decide_eq_false c, decide_eq_true (by omega)]; rfl
/-! ### what is told of all objects -/
theorem tabs_f {m : List Int} : ∀ (f : Nat) (p : Int) (led : List Bool) (q : Int), (m.length : Int) - p < (f : Int) → p ≤ q → q < (m.length : Int) → (g m q = 1 ∨ g m q = 2) → rk (g A.ws q) = 2 → (∀ led, A.tab q led = none) → A.tabsFrom m f p led = false := by
  intro f
  induction f with
  | zero => intro p led q h1 h2 h3; omega
  | succ f ih =>
    intro p led q h1 h2 h3 h4 h5 h6
    rw [Ar.tabsFrom, if_pos (by omega)]
    by_cases e : p = q
    · subst e
      rw [if_pos ⟨isM_iff.2 h4, h5⟩, h6]
    · split
      · cases A.tab p led with
        | none => rfl
        | some l => exact ih _ _ q (by omega) (by omega) h3 h4 h5 h6
      · exact ih _ _ q (by omega) (by omega) h3 h4 h5 h6
def Ar.content (A : Ar) (m : List Int) : Bool := A.objsFrom m (m.length + 1) 0 && A.tabsFrom m (m.length + 1) 0 A.falses && A.rootsOk m
theorem content_f {m : List Int} (hl : m.length = A.ws.length) {q : Int} (h0 : 0 ≤ q) (h1 : q < A.ws.length) (h2 : g m q = 1 ∨ g m q = 2) (h : (A.object m q && A.tabTag q) = false) : false = Ar.content A m := by
  unfold Ar.content
  rw [Bool.and_eq_false_iff] at h
  rcases h with h | h
  · cases e : A.objsFrom m (m.length + 1) 0 with
    | false => rfl
    | true => have := (objs_iff hl).1 e q h0 h1 h2; rw [h] at this; cases this
  · have h := of_decide_eq_false (show decide _ = false from h)
    have hk : rk (g A.ws q) = 2 := by
      rcases Decidable.em (rk (g A.ws q) = 2) with c | c
      · exact c
      · exact absurd (fun d => absurd d c) h
    have ht : ¬ (rvT A.ws (q + 2) = 0 ∨ rvT A.ws (q + 2) = 8) := fun c => h (fun _ => c)
    rw [tabs_f _ 0 _ q (by omega) h0 (by omega) h2 hk (fun led => tabN (fun c => ht (.inl c)) (fun c => ht (.inr c)))]
    simp
set_option maxHeartbeats 4000000 in
theorem contentOk_c {bv bi bs bb : Nat} {m : List Int} (hB : At H bi (uObj m)) (hP : At H ba (aObj C A)) (hA : At H C.bw (wObj C A)) (hR : At H C.br (rObj C A)) (hw : Wf A.ws) (hm : A.ws.length ≤ 8000) (hc : A.ws.length ≤ C.wc) (hx : A.vs.length ≤ 1048576) (hh : A.to = 0 ∨ A.to = 1) (hs : 256 ≤ A.semi ∧ A.semi ≤ 4000)
    (hM : MarkP A m) (hof : ∀ n : Int, g m n = 0 ∨ g m n = 1 ∨ g m n = 2 ∨ g m n = 3) (hPl : ∀ n : Int, 0 ≤ n → n < A.ws.length → g m n ≠ 0 → PlaceP A n) :
    Fn Try.prog w0 115 #[.pointer (some ⟨bv, 0, none⟩)] ((bv, svObj ba bi A.ws.length bs bb) :: (bb, sObj []) :: H) fun v H' => v = .bool (Ar.content A m) ∧ ∃ kb', H' = (bv, svObj ba bi A.ws.length bs bb) :: (bb, sObj kb') :: H := by
  have hlen := hM.len
  refine enter1 Try.func115 rfl rfl Try.ntmps115 rfl ?_
  repeat' (fail_if_success apply gAt 1); (first | (apply gL; first | refine L_nil ?_ | refine yS ?_ | refine yX fun _ => ?_ | (apply gCall; apply L_call rfl rfl rfl rfl rfl; (· first | exact implValOk_c _ _ | exact leads_c (fr := 1) at_ at_ at_ at_ hw hm hM.len hh hs (fun h => valP_n (by assumption) h) (fun h1 h2 h3 => hWh _ (valP_n (by assumption) h1) h2 h3) (hof _) (.inl ⟨rfl, rfl⟩) | exact objectOk_c at_ at_ at_ at_ hw hm hc hh hs hM hof hPl om om om | exact head_c at_ at_ hw om om); rintro _ _ ⟨rfl, rfl⟩) | refine kV ?_ | (apply L_val rfl rfl rfl; (· first | (apply gBin; first | fail ) | fail | exact v_func rfl rfl)) | ((fail_if_success (refine L_known rfl ?_)); first | refine yN (fun h => ?_) fun h => ?_ | refine yP (fun h => ?_) fun h => ?_ | refine yB (fun h => ?_) fun h => ?_ | refine yK (fun h => ?_) fun h => ?_)) | (apply gW; first | refine W_seq ?_ | refine W_region ?_ | refine W_ret ?_ | refine W_skip ?_ | refine W_block ?_ | refine W_exit ?_ | refine W_cond1 rfl ?_ | refine W_cond0 rfl ?_ | refine cN (fun h => ?_) fun h => ?_ | refine cP (fun h => ?_) fun h => ?_ | refine cB (fun h => ?_) fun h => ?_ | refine cK (fun h => ?_) fun h => ?_) | (first | refine seqR.normal ?_ | refine seqR.ret ?_ | refine seqR.exit ?_ | refine blockR.normal ?_ | refine blockR.ret ?_ | refine blockR.here ?_ | refine blockR.exit rfl ?_ | refine loopR.ret ?_ | refine loopR.exit ?_ | refine midA.ret ?_ | refine midA.exit ?_) | fail)
  rename_i b1
  refine W_midA (α := Unit) (fun _ => [(1, .pointer (some ⟨b1, 0, none⟩))]) (fun _ => (b1, pObj bv) :: (bv, svObj ba bi A.ws.length bs bb) :: (bb, sObj []) :: H) (fun _ => ∀ q : Int, 0 ≤ q → q < A.ws.length → (g m q = 1 ∨ g m q = 2) → (A.object m q && A.tabTag q) = true) ?_ ?_
  · repeat' (first | (apply gL; first | refine L_nil ?_ | refine yS ?_ | refine yX fun _ => ?_ | (apply gCall; apply L_call rfl rfl rfl rfl rfl; (· first | exact implValOk_c _ _ | exact leads_c (fr := 1) at_ at_ at_ at_ hw hm hM.len hh hs (fun h => valP_n (by assumption) h) (fun h1 h2 h3 => hWh _ (valP_n (by assumption) h1) h2 h3) (hof _) (.inl ⟨rfl, rfl⟩) | exact objectOk_c at_ at_ at_ at_ hw hm hc hh hs hM hof hPl om om om | exact head_c at_ at_ hw om om); rintro _ _ ⟨rfl, rfl⟩) | refine kV ?_ | (apply L_val rfl rfl rfl; (· first | (apply gBin; first | fail ) | fail | exact v_func rfl rfl)) | ((fail_if_success (refine L_known rfl ?_)); first | refine yN (fun h => ?_) fun h => ?_ | refine yP (fun h => ?_) fun h => ?_ | refine yB (fun h => ?_) fun h => ?_ | refine yK (fun h => ?_) fun h => ?_)) | (apply gW; first | refine W_seq ?_ | refine W_region ?_ | refine W_ret ?_ | refine W_skip ?_ | refine W_block ?_ | refine W_exit ?_ | refine W_cond1 rfl ?_ | refine W_cond0 rfl ?_ | refine cN (fun h => ?_) fun h => ?_ | refine cP (fun h => ?_) fun h => ?_ | refine cB (fun h => ?_) fun h => ?_ | refine cK (fun h => ?_) fun h => ?_) | (first | refine seqR.normal ?_ | refine seqR.ret ?_ | refine seqR.exit ?_ | refine blockR.normal ?_ | refine blockR.ret ?_ | refine blockR.here ?_ | refine blockR.exit rfl ?_ | refine loopR.ret ?_ | refine loopR.exit ?_ | refine midA.ret ?_ | refine midA.exit ?_) | fail)
    apply W_loopX (α := Int) (fun y => [(1, .pointer (some ⟨b1, 0, none⟩)), (10, .slice (some ⟨bi, 0, none⟩) A.ws.length A.ws.length), (11, .int .i64 (A.ws.length : Int)), (12, .int .i64 y)]) (fun _ => (b1, pObj bv) :: (bv, svObj ba bi A.ws.length bs bb) :: (bb, sObj []) :: H)
      (fun y => 0 ≤ y ∧ y ≤ A.ws.length ∧ ∀ q : Int, 0 ≤ q → q < y → (g m q = 1 ∨ g m q = 2) → (A.object m q && A.tabTag q) = true) (fun y => (A.ws.length - y).toNat) 0
    · exact sub_
    · exact cvt_
    · exact ⟨by omega, by omega, fun j h1 h2 => by omega⟩
    rintro p ⟨hp, hp2, hp3⟩
    repeat' (first | (apply gL; first | refine L_nil ?_ | refine yS ?_ | refine yX fun _ => ?_ | (apply gCall; apply L_call rfl rfl rfl rfl rfl; (· first | exact implValOk_c _ _ | exact leads_c (fr := 1) at_ at_ at_ at_ hw hm hM.len hh hs (fun h => valP_n (by assumption) h) (fun h1 h2 h3 => hWh _ (valP_n (by assumption) h1) h2 h3) (hof _) (.inl ⟨rfl, rfl⟩) | exact objectOk_c at_ at_ at_ at_ hw hm hc hh hs hM hof hPl om om om | exact head_c at_ at_ hw om om); rintro _ _ ⟨rfl, rfl⟩) | refine kV ?_ | (apply L_val rfl rfl rfl; (· first | (apply gBin; first | fail ) | fail | exact v_func rfl rfl)) | ((fail_if_success (refine L_known rfl ?_)); first | refine yN (fun h => ?_) fun h => ?_ | refine yP (fun h => ?_) fun h => ?_ | refine yB (fun h => ?_) fun h => ?_ | refine yK (fun h => ?_) fun h => ?_)) | (apply gW; first | refine W_seq ?_ | refine W_region ?_ | refine W_ret ?_ | refine W_skip ?_ | refine W_block ?_ | refine W_exit ?_ | refine W_cond1 rfl ?_ | refine W_cond0 rfl ?_ | refine cN (fun h => ?_) fun h => ?_ | refine cP (fun h => ?_) fun h => ?_ | refine cB (fun h => ?_) fun h => ?_ | refine cK (fun h => ?_) fun h => ?_) | (first | refine seqR.normal ?_ | refine seqR.ret ?_ | refine seqR.exit ?_ | refine blockR.normal ?_ | refine blockR.ret ?_ | refine blockR.here ?_ | refine blockR.exit rfl ?_ | refine loopR.ret ?_ | refine loopR.exit ?_ | refine midA.ret ?_ | refine midA.exit ?_) | fail)
    all_goals (first
      | (exfalso; omega)
      | (refine retR.ret _ _ (ret1 rfl rfl) cvt_ ⟨?_, _, rfl⟩
         exact congrArg Value.bool (content_f hM.len hp (by omega) (by omega) h))
      | (apply loopR.mk (p + 1)
         · exact sub_
         · exact cvt_
         · exact ⟨by omega, by omega, fun j h1 h2 h3 => by
             by_cases hj : j = p
             · subst hj; first | exact h | omega
             · exact hp3 j h1 (by omega) h3⟩
         · (try dsimp only); omega)
      | (apply midA.mk ()
         · exact sub_
         · exact cvt_
         · exact fun j h1 h2 h3 => hp3 j h1 (by omega) h3))
  rintro _ hOT
  have hO : ObjP A m := fun q h0 h1 h2 => by have := hOT q h0 h1 h2; rw [Bool.and_eq_true] at this; exact this.1
  have hTT : ∀ q : Int, 0 ≤ q → q < A.ws.length → (g m q = 1 ∨ g m q = 2) → A.tabTag q = true := fun q h0 h1 h2 => by have := hOT q h0 h1 h2; rw [Bool.and_eq_true] at this; exact this.2
  have hcon : Ar.content A m = (A.tabsFrom m (m.length + 1) 0 A.falses && A.rootsOk m) := by unfold Ar.content; rw [(objs_iff hM.len).2 hO, Bool.true_and]
  clear hOT
  have hfl : A.falses.length = A.ws.length := by simp [Ar.falses]
  repeat' (fail_if_success apply gAt 7); (first | (apply gL; first | refine L_nil ?_ | refine yS ?_ | refine yX fun _ => ?_ | (apply gCall; apply L_call rfl rfl rfl rfl rfl; (· first | exact implValOk_c _ _ | exact leads_c (fr := 1) at_ at_ at_ at_ hw hm hM.len hh hs (fun h => valP_n (by assumption) h) (fun h1 h2 h3 => hWh _ (valP_n (by assumption) h1) h2 h3) (hof _) (.inl ⟨rfl, rfl⟩) | exact objectOk_c at_ at_ at_ at_ hw hm hc hh hs hM hof hPl om om om | exact head_c at_ at_ hw om om); rintro _ _ ⟨rfl, rfl⟩) | refine kV ?_ | (apply L_val rfl rfl rfl; (· first | (apply gBin; first | fail ) | fail | exact v_func rfl rfl)) | ((fail_if_success (refine L_known rfl ?_)); first | refine yN (fun h => ?_) fun h => ?_ | refine yP (fun h => ?_) fun h => ?_ | refine yB (fun h => ?_) fun h => ?_ | refine yK (fun h => ?_) fun h => ?_)) | (apply gW; first | refine W_seq ?_ | refine W_region ?_ | refine W_ret ?_ | refine W_skip ?_ | refine W_block ?_ | refine W_exit ?_ | refine W_cond1 rfl ?_ | refine W_cond0 rfl ?_ | refine cN (fun h => ?_) fun h => ?_ | refine cP (fun h => ?_) fun h => ?_ | refine cB (fun h => ?_) fun h => ?_ | refine cK (fun h => ?_) fun h => ?_) | (first | refine seqR.normal ?_ | refine seqR.ret ?_ | refine seqR.exit ?_ | refine blockR.normal ?_ | refine blockR.ret ?_ | refine blockR.here ?_ | refine blockR.exit rfl ?_ | refine loopR.ret ?_ | refine loopR.exit ?_ | refine midA.ret ?_ | refine midA.exit ?_) | fail)
  refine W_midA (α := List Int) (fun _ => [(1, .pointer (some ⟨b1, 0, none⟩))]) (fun kb => (b1, pObj bv) :: (bv, svObj ba bi A.ws.length bs bb) :: (bb, sObj kb) :: H) (fun _ => A.tabsFrom m (m.length + 1) 0 A.falses = true) ?_ ?_
  · repeat' (first | (apply gL; first | refine L_nil ?_ | refine yS ?_ | refine yX fun _ => ?_ | (apply gCall; apply L_call rfl rfl rfl rfl rfl; (· first | exact implValOk_c _ _ | exact leads_c (fr := 1) at_ at_ at_ at_ hw hm hM.len hh hs (fun h => valP_n (by assumption) h) (fun h1 h2 h3 => hWh _ (valP_n (by assumption) h1) h2 h3) (hof _) (.inl ⟨rfl, rfl⟩) | exact objectOk_c at_ at_ at_ at_ hw hm hc hh hs hM hof hPl om om om | exact head_c at_ at_ hw om om); rintro _ _ ⟨rfl, rfl⟩) | refine kV ?_ | (apply L_val rfl rfl rfl; (· first | (apply gBin; first | fail ) | fail | exact v_func rfl rfl)) | ((fail_if_success (refine L_known rfl ?_)); first | refine yN (fun h => ?_) fun h => ?_ | refine yP (fun h => ?_) fun h => ?_ | refine yB (fun h => ?_) fun h => ?_ | refine yK (fun h => ?_) fun h => ?_)) | (apply gW; first | refine W_seq ?_ | refine W_region ?_ | refine W_ret ?_ | refine W_skip ?_ | refine W_block ?_ | refine W_exit ?_ | refine W_cond1 rfl ?_ | refine W_cond0 rfl ?_ | refine cN (fun h => ?_) fun h => ?_ | refine cP (fun h => ?_) fun h => ?_ | refine cB (fun h => ?_) fun h => ?_ | refine cK (fun h => ?_) fun h => ?_) | (first | refine seqR.normal ?_ | refine seqR.ret ?_ | refine seqR.exit ?_ | refine blockR.normal ?_ | refine blockR.ret ?_ | refine blockR.here ?_ | refine blockR.exit rfl ?_ | refine loopR.ret ?_ | refine loopR.exit ?_ | refine midA.ret ?_ | refine midA.exit ?_) | fail)
    apply W_loopX (α := Int × List Bool × List Int) (fun y => [(1, .pointer (some ⟨b1, 0, none⟩)), (33, .slice (some ⟨bi, 0, none⟩) A.ws.length A.ws.length), (34, .int .i64 (A.ws.length : Int)), (35, .int .i64 y.1)]) (fun y => (b1, pObj bv) :: (bv, svObj ba bi A.ws.length bs bb) :: (bb, sObj y.2.2) :: H)
      (fun y => 0 ≤ y.1 ∧ y.1 ≤ A.ws.length ∧ y.2.1.length = A.ws.length ∧ LedK (A.ws.length : Int) y.2.1 y.2.2 ∧ ∃ f, A.tabsFrom m f y.1 y.2.1 = A.tabsFrom m (m.length + 1) 0 A.falses ∧ (m.length : Int) - y.1 < (f : Int)) (fun y => (A.ws.length - y.1).toNat) (0, A.falses, [])
    · exact sub_
    · exact cvt_
    · refine ⟨by dsimp only; omega, by dsimp only; omega, hfl, fun q h0 h1 => ?_, _, rfl, by dsimp only; omega⟩
      dsimp only
      unfold Ar.falses
      rw [List.getD_eq_getElem?_getD, List.getElem?_replicate]
      split <;> simp
    rintro ⟨p, led, kb⟩ ⟨hp, hp2, hl, hL, f, hf, hf2⟩
    dsimp only at hp hp2 hl hL hf hf2 ⊢
    repeat' (first | (apply gL; first | refine L_nil ?_ | refine yS ?_ | refine yX fun _ => ?_ | (apply gCall; apply L_call rfl rfl rfl rfl rfl; (· first | exact implValOk_c _ _ | exact leads_c (fr := 1) at_ at_ at_ at_ hw hm hM.len hh hs (fun h => valP_n (by assumption) h) (fun h1 h2 h3 => hWh _ (valP_n (by assumption) h1) h2 h3) (hof _) (.inl ⟨rfl, rfl⟩) | exact objectOk_c at_ at_ at_ at_ hw hm hc hh hs hM hof hPl om om om | exact head_c at_ at_ hw om om); rintro _ _ ⟨rfl, rfl⟩) | refine kV ?_ | (apply L_val rfl rfl rfl; (· first | (apply gBin; first | fail ) | fail | exact v_func rfl rfl)) | ((fail_if_success (refine L_known rfl ?_)); first | refine yN (fun h => ?_) fun h => ?_ | refine yP (fun h => ?_) fun h => ?_ | refine yB (fun h => ?_) fun h => ?_ | refine yK (fun h => ?_) fun h => ?_)) | (apply gW; first | refine W_seq ?_ | refine W_region ?_ | refine W_ret ?_ | refine W_skip ?_ | refine W_block ?_ | refine W_exit ?_ | refine W_cond1 rfl ?_ | refine W_cond0 rfl ?_ | refine cN (fun h => ?_) fun h => ?_ | refine cP (fun h => ?_) fun h => ?_ | refine cB (fun h => ?_) fun h => ?_ | refine cK (fun h => ?_) fun h => ?_) | (first | refine seqR.normal ?_ | refine seqR.ret ?_ | refine seqR.exit ?_ | refine blockR.normal ?_ | refine blockR.ret ?_ | refine blockR.here ?_ | refine blockR.exit rfl ?_ | refine loopR.ret ?_ | refine loopR.exit ?_ | refine midA.ret ?_ | refine midA.exit ?_) | fail)
    all_goals (first
      | (exfalso; omega)
      | (obtain ⟨f', rfl, e⟩ := tabs_step (A := A) (led := led) (show p < (m.length : Int) by omega) hf2
         rw [e, if_neg (fun c => by have := isM_iff.1 c.1; omega)] at hf
         apply loopR.mk (p + 1, led, kb)
         · exact sub_
         · exact cvt_
         · exact ⟨by dsimp only; omega, by dsimp only; omega, hl, hL, f', hf, by dsimp only; omega⟩
         · dsimp only; omega)
      | (rw [tabs_end (by omega)] at hf
         apply midA.mk kb
         · exact sub_
         · exact cvt_
         · exact hf.symm)
      | skip)
    all_goals (
      apply L_call rfl rfl rfl rfl rfl
      · exact Fn.conv (H' := (bv, svObj ba bi A.ws.length bs bb) :: (bb, sObj kb) :: (b1, pObj bv) :: H) cvt_ (tableOk_c at_ at_ hw hm hh hs hM hO hPl hp (by omega) (by omega) h (hTT p hp (by omega) (by omega)) hl hL)
      rintro _ _ ⟨rfl, kb', rfl, hk'⟩
      obtain ⟨f', rfl, e⟩ := tabs_step (A := A) (led := led) (show p < (m.length : Int) by omega) hf2
      rw [e, if_pos ⟨isM_iff.2 (by omega), h⟩] at hf
      cases htb : A.tab p led with
      | none =>
        rw [htb] at hf
        simp only [Option.isSome_none]
        repeat' (first | (apply gL; first | refine L_nil ?_ | refine yS ?_ | refine yX fun _ => ?_ | (apply gCall; apply L_call rfl rfl rfl rfl rfl; (· first | exact implValOk_c _ _ | exact leads_c (fr := 1) at_ at_ at_ at_ hw hm hM.len hh hs (fun h => valP_n (by assumption) h) (fun h1 h2 h3 => hWh _ (valP_n (by assumption) h1) h2 h3) (hof _) (.inl ⟨rfl, rfl⟩) | exact objectOk_c at_ at_ at_ at_ hw hm hc hh hs hM hof hPl om om om | exact head_c at_ at_ hw om om); rintro _ _ ⟨rfl, rfl⟩) | refine kV ?_ | (apply L_val rfl rfl rfl; (· first | (apply gBin; first | fail ) | fail | exact v_func rfl rfl)) | ((fail_if_success (refine L_known rfl ?_)); first | refine yN (fun h => ?_) fun h => ?_ | refine yP (fun h => ?_) fun h => ?_ | refine yB (fun h => ?_) fun h => ?_ | refine yK (fun h => ?_) fun h => ?_)) | (apply gW; first | refine W_seq ?_ | refine W_region ?_ | refine W_ret ?_ | refine W_skip ?_ | refine W_block ?_ | refine W_exit ?_ | refine W_cond1 rfl ?_ | refine W_cond0 rfl ?_ | refine cN (fun h => ?_) fun h => ?_ | refine cP (fun h => ?_) fun h => ?_ | refine cB (fun h => ?_) fun h => ?_ | refine cK (fun h => ?_) fun h => ?_) | (first | refine seqR.normal ?_ | refine seqR.ret ?_ | refine seqR.exit ?_ | refine blockR.normal ?_ | refine blockR.ret ?_ | refine blockR.here ?_ | refine blockR.exit rfl ?_ | refine loopR.ret ?_ | refine loopR.exit ?_ | refine midA.ret ?_ | refine midA.exit ?_) | fail)
        refine retR.ret _ _ (ret1 rfl rfl) cvt_ ⟨?_, _, rfl⟩
        rw [hcon, ← hf]; rfl
      | some l' =>
        obtain ⟨hl', hL'⟩ := hk' l' htb
        rw [htb] at hf
        simp only [Option.isSome_some]
        repeat' (first | (apply gL; first | refine L_nil ?_ | refine yS ?_ | refine yX fun _ => ?_ | (apply gCall; apply L_call rfl rfl rfl rfl rfl; (· first | exact implValOk_c _ _ | exact leads_c (fr := 1) at_ at_ at_ at_ hw hm hM.len hh hs (fun h => valP_n (by assumption) h) (fun h1 h2 h3 => hWh _ (valP_n (by assumption) h1) h2 h3) (hof _) (.inl ⟨rfl, rfl⟩) | exact objectOk_c at_ at_ at_ at_ hw hm hc hh hs hM hof hPl om om om | exact head_c at_ at_ hw om om); rintro _ _ ⟨rfl, rfl⟩) | refine kV ?_ | (apply L_val rfl rfl rfl; (· first | (apply gBin; first | fail ) | fail | exact v_func rfl rfl)) | ((fail_if_success (refine L_known rfl ?_)); first | refine yN (fun h => ?_) fun h => ?_ | refine yP (fun h => ?_) fun h => ?_ | refine yB (fun h => ?_) fun h => ?_ | refine yK (fun h => ?_) fun h => ?_)) | (apply gW; first | refine W_seq ?_ | refine W_region ?_ | refine W_ret ?_ | refine W_skip ?_ | refine W_block ?_ | refine W_exit ?_ | refine W_cond1 rfl ?_ | refine W_cond0 rfl ?_ | refine cN (fun h => ?_) fun h => ?_ | refine cP (fun h => ?_) fun h => ?_ | refine cB (fun h => ?_) fun h => ?_ | refine cK (fun h => ?_) fun h => ?_) | (first | refine seqR.normal ?_ | refine seqR.ret ?_ | refine seqR.exit ?_ | refine blockR.normal ?_ | refine blockR.ret ?_ | refine blockR.here ?_ | refine blockR.exit rfl ?_ | refine loopR.ret ?_ | refine loopR.exit ?_ | refine midA.ret ?_ | refine midA.exit ?_) | fail)
        apply loopR.mk (p + 1, l', kb')
        · exact sub_
        · exact cvt_
        · exact ⟨by dsimp only; omega, by dsimp only; omega, hl', hL', f', hf, by dsimp only; omega⟩
        · dsimp only; omega)
  rintro kb hT
  rw [hT, Bool.true_and] at hcon
  repeat' (first | (apply gL; first | refine L_nil ?_ | refine yS ?_ | refine yX fun _ => ?_ | (apply gCall; apply L_call rfl rfl rfl rfl rfl; (· first | exact implValOk_c _ _ | exact leads_c (fr := 1) at_ at_ at_ at_ hw hm hM.len hh hs (fun h => valP_n (by assumption) h) (fun h1 h2 h3 => hWh _ (valP_n (by assumption) h1) h2 h3) (hof _) (.inl ⟨rfl, rfl⟩) | exact objectOk_c at_ at_ at_ at_ hw hm hc hh hs hM hof hPl om om om | exact head_c at_ at_ hw om om); rintro _ _ ⟨rfl, rfl⟩) | refine kV ?_ | (apply L_val rfl rfl rfl; (· first | (apply gBin; first | fail ) | fail | exact v_func rfl rfl)) | ((fail_if_success (refine L_known rfl ?_)); first | refine yN (fun h => ?_) fun h => ?_ | refine yP (fun h => ?_) fun h => ?_ | refine yB (fun h => ?_) fun h => ?_ | refine yK (fun h => ?_) fun h => ?_)) | (apply gW; first | refine W_seq ?_ | refine W_region ?_ | refine W_ret ?_ | refine W_skip ?_ | refine W_block ?_ | refine W_exit ?_ | refine W_cond1 rfl ?_ | refine W_cond0 rfl ?_ | refine cN (fun h => ?_) fun h => ?_ | refine cP (fun h => ?_) fun h => ?_ | refine cB (fun h => ?_) fun h => ?_ | refine cK (fun h => ?_) fun h => ?_) | (first | refine seqR.normal ?_ | refine seqR.ret ?_ | refine seqR.exit ?_ | refine blockR.normal ?_ | refine blockR.ret ?_ | refine blockR.here ?_ | refine blockR.exit rfl ?_ | refine loopR.ret ?_ | refine loopR.exit ?_ | refine midA.ret ?_ | refine midA.exit ?_) | fail)
  apply L_call rfl rfl rfl rfl rfl
  · exact containsFunc_c at_ at_ at_ at_ at_ at_ hw hm hx hh hs hM hof hPl
  rintro _ _ ⟨rfl, rfl⟩
  repeat' (first | (apply gL; first | refine L_nil ?_ | refine yS ?_ | refine yX fun _ => ?_ | (apply gCall; apply L_call rfl rfl rfl rfl rfl; (· first | exact implValOk_c _ _ | exact leads_c (fr := 1) at_ at_ at_ at_ hw hm hM.len hh hs (fun h => valP_n (by assumption) h) (fun h1 h2 h3 => hWh _ (valP_n (by assumption) h1) h2 h3) (hof _) (.inl ⟨rfl, rfl⟩) | exact objectOk_c at_ at_ at_ at_ hw hm hc hh hs hM hof hPl om om om | exact head_c at_ at_ hw om om); rintro _ _ ⟨rfl, rfl⟩) | refine kV ?_ | (apply L_val rfl rfl rfl; (· first | (apply gBin; first | fail ) | fail | exact v_func rfl rfl)) | ((fail_if_success (refine L_known rfl ?_)); first | refine yN (fun h => ?_) fun h => ?_ | refine yP (fun h => ?_) fun h => ?_ | refine yB (fun h => ?_) fun h => ?_ | refine yK (fun h => ?_) fun h => ?_)) | (apply gW; first | refine W_seq ?_ | refine W_region ?_ | refine W_ret ?_ | refine W_skip ?_ | refine W_block ?_ | refine W_exit ?_ | refine W_cond1 rfl ?_ | refine W_cond0 rfl ?_ | refine cN (fun h => ?_) fun h => ?_ | refine cP (fun h => ?_) fun h => ?_ | refine cB (fun h => ?_) fun h => ?_ | refine cK (fun h => ?_) fun h => ?_) | (first | refine seqR.normal ?_ | refine seqR.ret ?_ | refine seqR.exit ?_ | refine blockR.normal ?_ | refine blockR.ret ?_ | refine blockR.here ?_ | refine blockR.exit rfl ?_ | refine loopR.ret ?_ | refine loopR.exit ?_ | refine midA.ret ?_ | refine midA.exit ?_) | fail)
  refine retR.ret _ _ (ret1 rfl rfl) cvt_ ⟨?_, _, rfl⟩
  rw [hcon]; simp
end Go.Proofs.Ytepddopgmhdllaa.Eng
