/- Modules that may be run: ModuleOk of the implementation. -/
import Derived.Test.YtfmhlieaodbgiaaGreatB8
namespace Go.Proofs.YtfmhlieaodbgiaaGreat.Eng
open Go Go.RowKit Go.Proofs.YtfmhlieaodbgiaaGreat.Sl Go.Proofs.YtfmhlieaodbgiaaGreat.Ar Go.Proofs.YtfmhlieaodbgiaaGreat.Base
set_option linter.unusedVariables false
set_option linter.unusedSimpArgs false
set_option maxRecDepth 10000
theorem insOkD_c {w0 : World} {H : HL} {M : Md} {X : MA} {p : PR} {a : PA} {x : Int × Int} {V : Value} (e : mdV M X = V) (hm : RM H M X) (hub : ∀ q ∈ M.pr, q.ups.length ≤ 1048576) (hp : 0 ≤ p.sl ∧ p.sl ≤ 20) (hl : p.ups.length ≤ 100 ∧ p.code.length ≤ 4000) (hM : M.pr.length ≤ 100 ∧ M.tx.length ≤ 255) :
    Fn Tryz.prog w0 54 #[V, prV p a, .agg #[.int .i64 x.1, .int .i64 x.2]] H fun v H' => v = .bool (@decide (insP M p x) (Classical.propDecidable _)) ∧ H' = H := by
  subst e
  refine (insOk_c (w0 := w0) (a := a) (x := x) hm hub hp hl hM).mono ?_
  rintro v H' ⟨b, rfl, hb, rfl⟩
  refine ⟨?_, rfl⟩
  congr 1
  rw [Bool.eq_iff_iff, hb]; simp
variable {w0 : World} {H : HL} {M : Md} {X : MA}
set_option maxHeartbeats 4000000 in
theorem implModuleOk_c (hm : RM H M X) (hl : M.pr.length ≤ 1048576 ∧ M.tx.length ≤ 1048576) (hub : ∀ q ∈ M.pr, q.ups.length ≤ 1048576 ∧ q.code.length ≤ 1048576) :
    Fn Tryz.prog w0 24 #[mdV M X] H fun v H' => ∃ b, v = .bool b ∧ (b = true ↔ mOkP M) ∧ H' = H := by
  refine enter1 Tryz.func24 rfl rfl Tryz.ntmps24 rfl ?_
  by_cases h0 : 1 ≤ (M.pr.length : Int) ∧ (M.pr.length : Int) ≤ 100
  · obtain ⟨q, eq⟩ : ∃ q, M.pr[(0 : Int).toNat]? = some q := ⟨M.pr[(0 : Int).toNat]'(by show 0 < _; omega), List.getElem?_eq_getElem _⟩
    obtain ⟨pb, sp, a', ep, hA, hz, ea, hu, -⟩ := hm.at eq
    have e : mdV M X = .agg #[.slice (some ⟨pb, 0, none⟩) M.pr.length X.pc, .slice (ad X.tb) M.tx.length X.tc] := by unfold mdV; rw [ep]; rfl
    rw [e]
    repeat' (first | exact absurd h0 h | ((fail_if_success apply gAtR 3); (first | (apply gCall; apply L_call rfl rfl rfl rfl rfl; (· first | exact within_c _ _ _ | exact insOkD_c e (p := ⟨rpa, rsl, rups, rcode⟩) (a := ⟨xub, xuc, xus, some cb, xcc, xcs⟩) (x := rcode.getD k.toNat (0, 0)) hm.there.there.there hub' hs' hl' hM'); rintro _ _ ⟨rfl, rfl⟩) | (apply gL; first | refine L_nil ?_ | refine yS ?_ | refine yX fun _ => ?_ | refine yA fun _ => ?_ | (apply gSt; first | refine sR ?_ | refine sB ?_ | refine s1 ?_ | refine sW ?_ | refine sN ?_) | refine kV ?_ | (apply L_val rfl rfl rfl; (· first | (apply gBin; first | fail ) | fail | exact v_ldFc (j := 0) prLen rfl at_ hz (by decide) rfl | exact v_ldFc (j := 2) prLen rfl at_ hz (by decide) rfl | exact v_ldFc (j := 0) tsLen rfl at_ et (by decide) rfl | (apply v_ld rfl; (· exact at_); (· exact ld_rI0 om om); done) | exact v_lenz rfl | exact v_ldF prLen rfl at_ hz)) | ((fail_if_success (refine L_known rfl ?_)); refine yW (fun h => ?_) fun h => ?_)) | (apply gW; first | refine W_seq ?_ | refine W_region ?_ | refine W_ret ?_ | refine W_skip ?_ | refine W_block ?_ | refine W_exit ?_ | refine W_cond1 rfl ?_ | refine W_cond0 rfl ?_ | refine cW (fun h => ?_) fun h => ?_) | (first | refine seqR.normal ?_ | refine seqR.ret ?_ | refine seqR.exit ?_ | refine blockR.normal ?_ | refine blockR.ret ?_ | refine blockR.here ?_ | refine blockR.exit rfl ?_ | refine loopR.ret ?_ | refine loopR.exit ?_) | fail)))
    · refine retR.ret _ _ (ret1 rfl rfl) cvt_ ⟨_, rfl, ?_, rfl⟩
      simp only [Bool.false_eq_true, false_iff]
      exact fun c => by have := c.2.1; omega
    · refine retR.ret _ _ (ret1 rfl rfl) cvt_ ⟨_, rfl, ?_, rfl⟩
      simp only [Bool.false_eq_true, false_iff]
      exact fun c => h (c.2.2.1 q eq).1
    · refine retR.ret _ _ (ret1 rfl rfl) cvt_ ⟨_, rfl, ?_, rfl⟩
      simp only [Bool.false_eq_true, false_iff]
      exact fun c => absurd (c.2.2.1 q eq).2 (by dsimp only at h; omega)
    rename_i b1 _ htx hq0
    have hfirst : ∀ q, M.pr[0]? = some q → q.pa = 0 ∧ (q.ups.length : Int) = 0 := fun q' e' => by
      rw [show M.pr[0]? = some q from eq] at e'; cases e'; exact ⟨hq0, by dsimp only at h; omega⟩
    repeat' (first | (apply gCall; apply L_call rfl rfl rfl rfl rfl; (· first | exact within_c _ _ _ | exact insOkD_c e (p := ⟨rpa, rsl, rups, rcode⟩) (a := ⟨xub, xuc, xus, some cb, xcc, xcs⟩) (x := rcode.getD k.toNat (0, 0)) hm.there.there.there hub' hs' hl' hM'); rintro _ _ ⟨rfl, rfl⟩) | (apply gL; first | refine L_nil ?_ | refine yS ?_ | refine yX fun _ => ?_ | refine yA fun _ => ?_ | (apply gSt; first | refine sR ?_ | refine sB ?_ | refine s1 ?_ | refine sW ?_ | refine sN ?_) | refine kV ?_ | (apply L_val rfl rfl rfl; (· first | (apply gBin; first | fail ) | fail | exact v_ldFc (j := 0) prLen rfl at_ hz (by decide) rfl | exact v_ldFc (j := 2) prLen rfl at_ hz (by decide) rfl | exact v_ldFc (j := 0) tsLen rfl at_ et (by decide) rfl | (apply v_ld rfl; (· exact at_); (· exact ld_rI0 om om); done) | exact v_lenz rfl | exact v_ldF prLen rfl at_ hz)) | ((fail_if_success (refine L_known rfl ?_)); refine yW (fun h => ?_) fun h => ?_)) | (apply gW; first | refine W_seq ?_ | refine W_region ?_ | refine W_ret ?_ | refine W_skip ?_ | refine W_block ?_ | refine W_exit ?_ | refine W_cond1 rfl ?_ | refine W_cond0 rfl ?_ | refine cW (fun h => ?_) fun h => ?_) | (first | refine seqR.normal ?_ | refine seqR.ret ?_ | refine seqR.exit ?_ | refine blockR.normal ?_ | refine blockR.ret ?_ | refine blockR.here ?_ | refine blockR.exit rfl ?_ | refine loopR.ret ?_ | refine loopR.exit ?_) | fail)
    apply W_loopX (α := Int) (fun i => [(1, .pointer (some ⟨b1, 0, none⟩)), (39, .slice (ad X.tb) M.tx.length X.tc), (40, .int .i64 M.tx.length), (41, .int .i64 i)]) (fun _ => (b1, .cells #[.slice (some ⟨pb, 0, none⟩) M.pr.length X.pc, .slice (ad X.tb) M.tx.length X.tc] 29 (0, 0)) :: H)
      (fun i => (0 ≤ i ∧ i ≤ M.tx.length) ∧ ∀ j : Nat, (j : Int) < i → ∀ t, M.tx[j]? = some t → (t.length : Int) ≤ 160) (fun i => (M.tx.length - i).toNat) 0
    · exact sub_
    · exact cvt_
    · exact ⟨⟨by omega, by omega⟩, fun j hj => by omega⟩
    rintro i ⟨⟨hi, hi2⟩, hall⟩
    by_cases hlt : i < (M.tx.length : Int)
    · obtain ⟨t, et⟩ : ∃ t, M.tx[i.toNat]? = some t := ⟨M.tx[i.toNat]'(by omega), List.getElem?_eq_getElem _⟩
      have htr := hm.tx
      obtain ⟨tb, etb⟩ : ∃ tb, X.tb = some tb := by
        cases h : X.tb with
        | none => rw [h] at htr; have : M.tx = [] := htr; rw [this] at hlt; simp at hlt; omega
        | some tb => exact ⟨tb, rfl⟩
      rw [etb] at htr ⊢
      obtain ⟨tsp, hT⟩ := htr
      simp only [ad_s]
      by_cases hw : (t.length : Int) ≤ 160
      · have hw' : ¬ (160 : Int) < t.length := by omega
        repeat' (first | exact absurd hlt h | exact absurd h hw' | first | (apply gCall; apply L_call rfl rfl rfl rfl rfl; (· first | exact within_c _ _ _ | exact insOkD_c e (p := ⟨rpa, rsl, rups, rcode⟩) (a := ⟨xub, xuc, xus, some cb, xcc, xcs⟩) (x := rcode.getD k.toNat (0, 0)) hm.there.there.there hub' hs' hl' hM'); rintro _ _ ⟨rfl, rfl⟩) | (apply gL; first | refine L_nil ?_ | refine yS ?_ | refine yX fun _ => ?_ | refine yA fun _ => ?_ | (apply gSt; first | refine sR ?_ | refine sB ?_ | refine s1 ?_ | refine sW ?_ | refine sN ?_) | refine kV ?_ | (apply L_val rfl rfl rfl; (· first | (apply gBin; first | fail ) | fail | exact v_ldFc (j := 0) prLen rfl at_ hz (by decide) rfl | exact v_ldFc (j := 2) prLen rfl at_ hz (by decide) rfl | exact v_ldFc (j := 0) tsLen rfl at_ et (by decide) rfl | (apply v_ld rfl; (· exact at_); (· exact ld_rI0 om om); done) | exact v_lenz rfl | exact v_ldF prLen rfl at_ hz)) | ((fail_if_success (refine L_known rfl ?_)); refine yW (fun h => ?_) fun h => ?_)) | (apply gW; first | refine W_seq ?_ | refine W_region ?_ | refine W_ret ?_ | refine W_skip ?_ | refine W_block ?_ | refine W_exit ?_ | refine W_cond1 rfl ?_ | refine W_cond0 rfl ?_ | refine cW (fun h => ?_) fun h => ?_) | (first | refine seqR.normal ?_ | refine seqR.ret ?_ | refine seqR.exit ?_ | refine blockR.normal ?_ | refine blockR.ret ?_ | refine blockR.here ?_ | refine blockR.exit rfl ?_ | refine loopR.ret ?_ | refine loopR.exit ?_) | fail)
        apply loopR.mk (i + 1)
        · exact sub_
        · exact cvt_
        · refine ⟨⟨by omega, by omega⟩, fun j hj t' ht' => ?_⟩
          by_cases e3 : (j : Int) = i
          · have : j = i.toNat := by omega
            rw [this, et] at ht'; cases ht'; exact hw
          · exact hall j (by omega) t' ht'
        · omega
      · have hw' : (160 : Int) < t.length := by omega
        repeat' (first | exact absurd hlt h | exact absurd hw' h | first | (apply gCall; apply L_call rfl rfl rfl rfl rfl; (· first | exact within_c _ _ _ | exact insOkD_c e (p := ⟨rpa, rsl, rups, rcode⟩) (a := ⟨xub, xuc, xus, some cb, xcc, xcs⟩) (x := rcode.getD k.toNat (0, 0)) hm.there.there.there hub' hs' hl' hM'); rintro _ _ ⟨rfl, rfl⟩) | (apply gL; first | refine L_nil ?_ | refine yS ?_ | refine yX fun _ => ?_ | refine yA fun _ => ?_ | (apply gSt; first | refine sR ?_ | refine sB ?_ | refine s1 ?_ | refine sW ?_ | refine sN ?_) | refine kV ?_ | (apply L_val rfl rfl rfl; (· first | (apply gBin; first | fail ) | fail | exact v_ldFc (j := 0) prLen rfl at_ hz (by decide) rfl | exact v_ldFc (j := 2) prLen rfl at_ hz (by decide) rfl | exact v_ldFc (j := 0) tsLen rfl at_ et (by decide) rfl | (apply v_ld rfl; (· exact at_); (· exact ld_rI0 om om); done) | exact v_lenz rfl | exact v_ldF prLen rfl at_ hz)) | ((fail_if_success (refine L_known rfl ?_)); refine yW (fun h => ?_) fun h => ?_)) | (apply gW; first | refine W_seq ?_ | refine W_region ?_ | refine W_ret ?_ | refine W_skip ?_ | refine W_block ?_ | refine W_exit ?_ | refine W_cond1 rfl ?_ | refine W_cond0 rfl ?_ | refine cW (fun h => ?_) fun h => ?_) | (first | refine seqR.normal ?_ | refine seqR.ret ?_ | refine seqR.exit ?_ | refine blockR.normal ?_ | refine blockR.ret ?_ | refine blockR.here ?_ | refine blockR.exit rfl ?_ | refine loopR.ret ?_ | refine loopR.exit ?_) | fail)
        refine retR.ret _ _ (ret1 rfl rfl) cvt_ ⟨_, rfl, ?_, rfl⟩
        simp only [Bool.false_eq_true, false_iff]
        exact fun c => hw (c.2.2.2.1 _ (List.mem_of_getElem? et))
    have htxs : ∀ t ∈ M.tx, (t.length : Int) ≤ 160 := fun t ht => by
      obtain ⟨j, hj, e4⟩ := List.getElem_of_mem ht
      exact hall j (by omega) t (by rw [List.getElem?_eq_getElem hj, e4])
    have hub' : ∀ q ∈ M.pr, q.ups.length ≤ 1048576 := fun q hq => (hub q hq).1
    have hM' : M.pr.length ≤ 100 ∧ M.tx.length ≤ 255 := ⟨by omega, by omega⟩
    repeat' (first | exact absurd h hlt | ((fail_if_success apply gAtR 9); (first | (apply gCall; apply L_call rfl rfl rfl rfl rfl; (· first | exact within_c _ _ _ | exact insOkD_c e (p := ⟨rpa, rsl, rups, rcode⟩) (a := ⟨xub, xuc, xus, some cb, xcc, xcs⟩) (x := rcode.getD k.toNat (0, 0)) hm.there.there.there hub' hs' hl' hM'); rintro _ _ ⟨rfl, rfl⟩) | (apply gL; first | refine L_nil ?_ | refine yS ?_ | refine yX fun _ => ?_ | refine yA fun _ => ?_ | (apply gSt; first | refine sR ?_ | refine sB ?_ | refine s1 ?_ | refine sW ?_ | refine sN ?_) | refine kV ?_ | (apply L_val rfl rfl rfl; (· first | (apply gBin; first | fail ) | fail | exact v_ldFc (j := 0) prLen rfl at_ hz (by decide) rfl | exact v_ldFc (j := 2) prLen rfl at_ hz (by decide) rfl | exact v_ldFc (j := 0) tsLen rfl at_ et (by decide) rfl | (apply v_ld rfl; (· exact at_); (· exact ld_rI0 om om); done) | exact v_lenz rfl | exact v_ldF prLen rfl at_ hz)) | ((fail_if_success (refine L_known rfl ?_)); refine yW (fun h => ?_) fun h => ?_)) | (apply gW; first | refine W_seq ?_ | refine W_region ?_ | refine W_ret ?_ | refine W_skip ?_ | refine W_block ?_ | refine W_exit ?_ | refine W_cond1 rfl ?_ | refine W_cond0 rfl ?_ | refine cW (fun h => ?_) fun h => ?_) | (first | refine seqR.normal ?_ | refine seqR.ret ?_ | refine seqR.exit ?_ | refine blockR.normal ?_ | refine blockR.ret ?_ | refine blockR.here ?_ | refine blockR.exit rfl ?_ | refine loopR.ret ?_ | refine loopR.exit ?_) | fail)))
    repeat' (first | (apply gCall; apply L_call rfl rfl rfl rfl rfl; (· first | exact within_c _ _ _ | exact insOkD_c e (p := ⟨rpa, rsl, rups, rcode⟩) (a := ⟨xub, xuc, xus, some cb, xcc, xcs⟩) (x := rcode.getD k.toNat (0, 0)) hm.there.there.there hub' hs' hl' hM'); rintro _ _ ⟨rfl, rfl⟩) | (apply gL; first | refine L_nil ?_ | refine yS ?_ | refine yX fun _ => ?_ | refine yA fun _ => ?_ | (apply gSt; first | refine sR ?_ | refine sB ?_ | refine s1 ?_ | refine sW ?_ | refine sN ?_) | refine kV ?_ | (apply L_val rfl rfl rfl; (· first | (apply gBin; first | fail ) | fail | exact v_ldFc (j := 0) prLen rfl at_ hz (by decide) rfl | exact v_ldFc (j := 2) prLen rfl at_ hz (by decide) rfl | exact v_ldFc (j := 0) tsLen rfl at_ et (by decide) rfl | (apply v_ld rfl; (· exact at_); (· exact ld_rI0 om om); done) | exact v_lenz rfl | exact v_ldF prLen rfl at_ hz)) | ((fail_if_success (refine L_known rfl ?_)); refine yW (fun h => ?_) fun h => ?_)) | (apply gW; first | refine W_seq ?_ | refine W_region ?_ | refine W_ret ?_ | refine W_skip ?_ | refine W_block ?_ | refine W_exit ?_ | refine W_cond1 rfl ?_ | refine W_cond0 rfl ?_ | refine cW (fun h => ?_) fun h => ?_) | (first | refine seqR.normal ?_ | refine seqR.ret ?_ | refine seqR.exit ?_ | refine blockR.normal ?_ | refine blockR.ret ?_ | refine blockR.here ?_ | refine blockR.exit rfl ?_ | refine loopR.ret ?_ | refine loopR.exit ?_) | fail)
    apply W_loopX (α := Int) (fun i => [(1, .pointer (some ⟨b1, 0, none⟩)), (50, .slice (some ⟨pb, 0, none⟩) M.pr.length X.pc), (51, .int .i64 M.pr.length), (52, .int .i64 i)]) (fun _ => (b1, .cells #[.slice (some ⟨pb, 0, none⟩) M.pr.length X.pc, .slice (ad X.tb) M.tx.length X.tc] 29 (0, 0)) :: H)
      (fun i => (0 ≤ i ∧ i ≤ M.pr.length) ∧ ∀ j : Nat, (j : Int) < i → ∀ q, M.pr[j]? = some q → prP q ∧ ∀ x ∈ q.code, insP M q x) (fun i => (M.pr.length - i).toNat) 0
    · exact sub_
    · exact cvt_
    · exact ⟨⟨by omega, by omega⟩, fun j hj => by omega⟩
    clear hz ea hu eq hall hlt hi hi2
    rintro i2 ⟨⟨hk, hk2⟩, hall2⟩
    by_cases hlt2 : i2 < (M.pr.length : Int)
    · obtain ⟨r, er⟩ : ∃ r, M.pr[i2.toNat]? = some r := ⟨M.pr[i2.toNat]'(by omega), List.getElem?_eq_getElem _⟩
      obtain ⟨pb2, sp2, ar, ep2, hA2, hz, -, -, hc⟩ := hm.at er
      rw [ep] at ep2; cases ep2
      obtain ⟨hub1, hub2⟩ := hub r (List.mem_of_getElem? er)
      by_cases hce : 1 ≤ r.code.length
      · obtain ⟨cb, ecb⟩ : ∃ cb, ar.cb = some cb := by
          cases h : ar.cb with
          | none => rw [h] at hc; have : r.code = [] := hc; rw [this] at hce; simp at hce
          | some cb => exact ⟨cb, rfl⟩
        obtain ⟨rpa, rsl, rups, rcode⟩ := r
        obtain ⟨xub, xuc, xus, xcb, xcc, xcs⟩ := ar
        dsimp only at ecb hc hub1 hub2 hce
        subst ecb
        obtain ⟨csp, hC⟩ := hc
        have hmem := List.mem_of_getElem? er
        have hlast : rcode.getD (rcode.length - 1) (0, 0) = rcode.getD ((rcode.length : Int) - 1).toNat (0, 0) := by congr 1; omega
        repeat' (first | exact absurd hlt2 h | ((fail_if_success apply gAtR 12); (first | (apply gCall; apply L_call rfl rfl rfl rfl rfl; (· first | exact within_c _ _ _ | exact insOkD_c e (p := ⟨rpa, rsl, rups, rcode⟩) (a := ⟨xub, xuc, xus, some cb, xcc, xcs⟩) (x := rcode.getD k.toNat (0, 0)) hm.there.there.there hub' hs' hl' hM'); rintro _ _ ⟨rfl, rfl⟩) | (apply gL; first | refine L_nil ?_ | refine yS ?_ | refine yX fun _ => ?_ | refine yA fun _ => ?_ | (apply gSt; first | refine sR ?_ | refine sB ?_ | refine s1 ?_ | refine sW ?_ | refine sN ?_) | refine kV ?_ | (apply L_val rfl rfl rfl; (· first | (apply gBin; first | fail ) | fail | exact v_ldFc (j := 0) prLen rfl at_ hz (by decide) rfl | exact v_ldFc (j := 2) prLen rfl at_ hz (by decide) rfl | exact v_ldFc (j := 0) tsLen rfl at_ et (by decide) rfl | (apply v_ld rfl; (· exact at_); (· exact ld_rI0 om om); done) | exact v_lenz rfl | exact v_ldF prLen rfl at_ hz)) | ((fail_if_success (refine L_known rfl ?_)); refine yW (fun h => ?_) fun h => ?_)) | (apply gW; first | refine W_seq ?_ | refine W_region ?_ | refine W_ret ?_ | refine W_skip ?_ | refine W_block ?_ | refine W_exit ?_ | refine W_cond1 rfl ?_ | refine W_cond0 rfl ?_ | refine cW (fun h => ?_) fun h => ?_) | (first | refine seqR.normal ?_ | refine seqR.ret ?_ | refine seqR.exit ?_ | refine blockR.normal ?_ | refine blockR.ret ?_ | refine blockR.here ?_ | refine blockR.exit rfl ?_ | refine loopR.ret ?_ | refine loopR.exit ?_) | fail)))
        rename_i b2
        dsimp only [prC, ad_s]
        repeat' (first | exact absurd hlt2 h | (exfalso; omega) | ((fail_if_success apply gAtR 15); (first | (apply gCall; apply L_call rfl rfl rfl rfl rfl; (· first | exact within_c _ _ _ | exact insOkD_c e (p := ⟨rpa, rsl, rups, rcode⟩) (a := ⟨xub, xuc, xus, some cb, xcc, xcs⟩) (x := rcode.getD k.toNat (0, 0)) hm.there.there.there hub' hs' hl' hM'); rintro _ _ ⟨rfl, rfl⟩) | (apply gL; first | refine L_nil ?_ | refine yS ?_ | refine yX fun _ => ?_ | refine yA fun _ => ?_ | (apply gSt; first | refine sR ?_ | refine sB ?_ | refine s1 ?_ | refine sW ?_ | refine sN ?_) | refine kV ?_ | (apply L_val rfl rfl rfl; (· first | (apply gBin; first | fail ) | fail | exact v_ldFc (j := 0) prLen rfl at_ hz (by decide) rfl | exact v_ldFc (j := 2) prLen rfl at_ hz (by decide) rfl | exact v_ldFc (j := 0) tsLen rfl at_ et (by decide) rfl | (apply v_ld rfl; (· exact at_); (· exact ld_rI0 om om); done) | exact v_lenz rfl | exact v_ldF prLen rfl at_ hz)) | ((fail_if_success (refine L_known rfl ?_)); refine yW (fun h => ?_) fun h => ?_)) | (apply gW; first | refine W_seq ?_ | refine W_region ?_ | refine W_ret ?_ | refine W_skip ?_ | refine W_block ?_ | refine W_exit ?_ | refine W_cond1 rfl ?_ | refine W_cond0 rfl ?_ | refine cW (fun h => ?_) fun h => ?_) | (first | refine seqR.normal ?_ | refine seqR.ret ?_ | refine seqR.exit ?_ | refine blockR.normal ?_ | refine blockR.ret ?_ | refine blockR.here ?_ | refine blockR.exit rfl ?_ | refine loopR.ret ?_ | refine loopR.exit ?_) | fail)))
        all_goals first
          | (refine retR.ret _ _ (ret1 rfl rfl) cvt_ ⟨_, rfl, ?_, rfl⟩
             simp only [Bool.false_eq_true, false_iff]
             intro c
             have h9 := c.2.2.2.2.1 _ hmem
             unfold prP at h9
             dsimp only at h9
             rw [hlast] at h9
             omega)
          | skip
        have hp9 : prP ⟨rpa, rsl, rups, rcode⟩ := by
          unfold prP
          dsimp only
          rw [hlast]
          omega
        obtain ⟨hs', -, hu', hc', -⟩ := id hp9
        have hl' : rups.length ≤ 100 ∧ rcode.length ≤ 4000 := by dsimp only at hu' hc'; exact ⟨by omega, by omega⟩
        repeat' (first | (apply gCall; apply L_call rfl rfl rfl rfl rfl; (· first | exact within_c _ _ _ | exact insOkD_c e (p := ⟨rpa, rsl, rups, rcode⟩) (a := ⟨xub, xuc, xus, some cb, xcc, xcs⟩) (x := rcode.getD k.toNat (0, 0)) hm.there.there.there hub' hs' hl' hM'); rintro _ _ ⟨rfl, rfl⟩) | (apply gL; first | refine L_nil ?_ | refine yS ?_ | refine yX fun _ => ?_ | refine yA fun _ => ?_ | (apply gSt; first | refine sR ?_ | refine sB ?_ | refine s1 ?_ | refine sW ?_ | refine sN ?_) | refine kV ?_ | (apply L_val rfl rfl rfl; (· first | (apply gBin; first | fail ) | fail | exact v_ldFc (j := 0) prLen rfl at_ hz (by decide) rfl | exact v_ldFc (j := 2) prLen rfl at_ hz (by decide) rfl | exact v_ldFc (j := 0) tsLen rfl at_ et (by decide) rfl | (apply v_ld rfl; (· exact at_); (· exact ld_rI0 om om); done) | exact v_lenz rfl | exact v_ldF prLen rfl at_ hz)) | ((fail_if_success (refine L_known rfl ?_)); refine yW (fun h => ?_) fun h => ?_)) | (apply gW; first | refine W_seq ?_ | refine W_region ?_ | refine W_ret ?_ | refine W_skip ?_ | refine W_block ?_ | refine W_exit ?_ | refine W_cond1 rfl ?_ | refine W_cond0 rfl ?_ | refine cW (fun h => ?_) fun h => ?_) | (first | refine seqR.normal ?_ | refine seqR.ret ?_ | refine seqR.exit ?_ | refine blockR.normal ?_ | refine blockR.ret ?_ | refine blockR.here ?_ | refine blockR.exit rfl ?_ | refine loopR.ret ?_ | refine loopR.exit ?_) | fail)
        apply W_loopX (α := Int) (fun k => [(1, .pointer (some ⟨b1, 0, none⟩)), (50, .slice (some ⟨pb, 0, none⟩) M.pr.length X.pc), (51, .int .i64 M.pr.length), (52, .int .i64 i2), (6, .pointer (some ⟨b2, 0, none⟩)), (93, .slice (some ⟨cb, 0, none⟩) rcode.length xcc), (94, .int .i64 rcode.length), (95, .int .i64 k)]) (fun _ => (b2, .cells #[.int .i64 rpa, .int .i64 rsl, .slice (ad xub) rups.length xuc, .slice (some ⟨cb, 0, none⟩) rcode.length xcc] 58 (0, 0)) :: (b1, .cells #[.slice (some ⟨pb, 0, none⟩) M.pr.length X.pc, .slice (ad X.tb) M.tx.length X.tc] 29 (0, 0)) :: H)
          (fun k => (0 ≤ k ∧ k ≤ rcode.length) ∧ ∀ j : Nat, (j : Int) < k → ∀ x, rcode[j]? = some x → insP M ⟨rpa, rsl, rups, rcode⟩ x) (fun k => (rcode.length - k).toNat) 0
        · exact sub_
        · exact cvt_
        · exact ⟨⟨by omega, by omega⟩, fun j hj => by omega⟩
        rintro k ⟨⟨hk3, hk4⟩, hall4⟩
        by_cases hlt4 : k < (rcode.length : Int)
        · have hx : rcode[k.toNat]? = some (rcode.getD k.toNat (0, 0)) := by
            rw [List.getD_eq_getElem?_getD, List.getElem?_eq_getElem (show k.toNat < rcode.length by omega)]; rfl
          repeat' (first | exact absurd hlt4 h | first | (apply gCall; apply L_call rfl rfl rfl rfl rfl; (· first | exact within_c _ _ _ | exact insOkD_c e (p := ⟨rpa, rsl, rups, rcode⟩) (a := ⟨xub, xuc, xus, some cb, xcc, xcs⟩) (x := rcode.getD k.toNat (0, 0)) hm.there.there.there hub' hs' hl' hM'); rintro _ _ ⟨rfl, rfl⟩) | (apply gL; first | refine L_nil ?_ | refine yS ?_ | refine yX fun _ => ?_ | refine yA fun _ => ?_ | (apply gSt; first | refine sR ?_ | refine sB ?_ | refine s1 ?_ | refine sW ?_ | refine sN ?_) | refine kV ?_ | (apply L_val rfl rfl rfl; (· first | (apply gBin; first | fail ) | fail | exact v_ldFc (j := 0) prLen rfl at_ hz (by decide) rfl | exact v_ldFc (j := 2) prLen rfl at_ hz (by decide) rfl | exact v_ldFc (j := 0) tsLen rfl at_ et (by decide) rfl | (apply v_ld rfl; (· exact at_); (· exact ld_rI0 om om); done) | exact v_lenz rfl | exact v_ldF prLen rfl at_ hz)) | ((fail_if_success (refine L_known rfl ?_)); refine yW (fun h => ?_) fun h => ?_)) | (apply gW; first | refine W_seq ?_ | refine W_region ?_ | refine W_ret ?_ | refine W_skip ?_ | refine W_block ?_ | refine W_exit ?_ | refine W_cond1 rfl ?_ | refine W_cond0 rfl ?_ | refine cW (fun h => ?_) fun h => ?_) | (first | refine seqR.normal ?_ | refine seqR.ret ?_ | refine seqR.exit ?_ | refine blockR.normal ?_ | refine blockR.ret ?_ | refine blockR.here ?_ | refine blockR.exit rfl ?_ | refine loopR.ret ?_ | refine loopR.exit ?_) | fail)
          · refine retR.ret _ _ (ret1 rfl rfl) cvt_ ⟨_, rfl, ?_, rfl⟩
            simp only [Bool.false_eq_true, false_iff]
            exact fun c => @of_decide_eq_false _ (Classical.propDecidable _) h (c.2.2.2.2.2 _ hmem _ (List.mem_of_getElem? hx))
          · apply loopR.mk (k + 1)
            · exact sub_
            · exact cvt_
            · refine ⟨⟨by omega, by omega⟩, fun j hj x' hx' => ?_⟩
              by_cases e3 : (j : Int) = k
              · have e5 : j = k.toNat := by omega
                rw [e5, hx] at hx'; cases hx'; exact @of_decide_eq_true _ (Classical.propDecidable _) h
              · exact hall4 j (by omega) x' hx'
            · omega
        · repeat' (first | exact absurd h hlt4 | first | (apply gCall; apply L_call rfl rfl rfl rfl rfl; (· first | exact within_c _ _ _ | exact insOkD_c e (p := ⟨rpa, rsl, rups, rcode⟩) (a := ⟨xub, xuc, xus, some cb, xcc, xcs⟩) (x := rcode.getD k.toNat (0, 0)) hm.there.there.there hub' hs' hl' hM'); rintro _ _ ⟨rfl, rfl⟩) | (apply gL; first | refine L_nil ?_ | refine yS ?_ | refine yX fun _ => ?_ | refine yA fun _ => ?_ | (apply gSt; first | refine sR ?_ | refine sB ?_ | refine s1 ?_ | refine sW ?_ | refine sN ?_) | refine kV ?_ | (apply L_val rfl rfl rfl; (· first | (apply gBin; first | fail ) | fail | exact v_ldFc (j := 0) prLen rfl at_ hz (by decide) rfl | exact v_ldFc (j := 2) prLen rfl at_ hz (by decide) rfl | exact v_ldFc (j := 0) tsLen rfl at_ et (by decide) rfl | (apply v_ld rfl; (· exact at_); (· exact ld_rI0 om om); done) | exact v_lenz rfl | exact v_ldF prLen rfl at_ hz)) | ((fail_if_success (refine L_known rfl ?_)); refine yW (fun h => ?_) fun h => ?_)) | (apply gW; first | refine W_seq ?_ | refine W_region ?_ | refine W_ret ?_ | refine W_skip ?_ | refine W_block ?_ | refine W_exit ?_ | refine W_cond1 rfl ?_ | refine W_cond0 rfl ?_ | refine cW (fun h => ?_) fun h => ?_) | (first | refine seqR.normal ?_ | refine seqR.ret ?_ | refine seqR.exit ?_ | refine blockR.normal ?_ | refine blockR.ret ?_ | refine blockR.here ?_ | refine blockR.exit rfl ?_ | refine loopR.ret ?_ | refine loopR.exit ?_) | fail)
          apply loopR.mk (i2 + 1)
          · exact sub_
          · exact cvt_
          · refine ⟨⟨by omega, by omega⟩, fun j hj q' hq' => ?_⟩
            by_cases e3 : (j : Int) = i2
            · have e5 : j = i2.toNat := by omega
              rw [e5, er] at hq'; cases hq'
              refine ⟨hp9, fun x hx => ?_⟩
              obtain ⟨j2, hj2, e6⟩ := List.getElem_of_mem hx
              exact hall4 j2 (by dsimp only at hj2; omega) x (by rw [List.getElem?_eq_getElem hj2, e6])
            · exact hall2 j (by omega) q' hq'
          · omega
      · have hmem := List.mem_of_getElem? er
        obtain ⟨rpa, rsl, rups, rcode⟩ := r
        obtain ⟨xub, xuc, xus, xcb, xcc, xcs⟩ := ar
        dsimp only at hub1 hub2 hce
        repeat' (first | exact absurd hlt2 h | (exfalso; omega) | ((fail_if_success apply gAtR 12); (first | (apply gCall; apply L_call rfl rfl rfl rfl rfl; (· first | exact within_c _ _ _ | exact insOkD_c e (p := ⟨rpa, rsl, rups, rcode⟩) (a := ⟨xub, xuc, xus, some cb, xcc, xcs⟩) (x := rcode.getD k.toNat (0, 0)) hm.there.there.there hub' hs' hl' hM'); rintro _ _ ⟨rfl, rfl⟩) | (apply gL; first | refine L_nil ?_ | refine yS ?_ | refine yX fun _ => ?_ | refine yA fun _ => ?_ | (apply gSt; first | refine sR ?_ | refine sB ?_ | refine s1 ?_ | refine sW ?_ | refine sN ?_) | refine kV ?_ | (apply L_val rfl rfl rfl; (· first | (apply gBin; first | fail ) | fail | exact v_ldFc (j := 0) prLen rfl at_ hz (by decide) rfl | exact v_ldFc (j := 2) prLen rfl at_ hz (by decide) rfl | exact v_ldFc (j := 0) tsLen rfl at_ et (by decide) rfl | (apply v_ld rfl; (· exact at_); (· exact ld_rI0 om om); done) | exact v_lenz rfl | exact v_ldF prLen rfl at_ hz)) | ((fail_if_success (refine L_known rfl ?_)); refine yW (fun h => ?_) fun h => ?_)) | (apply gW; first | refine W_seq ?_ | refine W_region ?_ | refine W_ret ?_ | refine W_skip ?_ | refine W_block ?_ | refine W_exit ?_ | refine W_cond1 rfl ?_ | refine W_cond0 rfl ?_ | refine cW (fun h => ?_) fun h => ?_) | (first | refine seqR.normal ?_ | refine seqR.ret ?_ | refine seqR.exit ?_ | refine blockR.normal ?_ | refine blockR.ret ?_ | refine blockR.here ?_ | refine blockR.exit rfl ?_ | refine loopR.ret ?_ | refine loopR.exit ?_) | fail)))
        dsimp only [prC]
        repeat' (first | exact absurd hlt2 h | (exfalso; omega) | first | (apply gCall; apply L_call rfl rfl rfl rfl rfl; (· first | exact within_c _ _ _ | exact insOkD_c e (p := ⟨rpa, rsl, rups, rcode⟩) (a := ⟨xub, xuc, xus, some cb, xcc, xcs⟩) (x := rcode.getD k.toNat (0, 0)) hm.there.there.there hub' hs' hl' hM'); rintro _ _ ⟨rfl, rfl⟩) | (apply gL; first | refine L_nil ?_ | refine yS ?_ | refine yX fun _ => ?_ | refine yA fun _ => ?_ | (apply gSt; first | refine sR ?_ | refine sB ?_ | refine s1 ?_ | refine sW ?_ | refine sN ?_) | refine kV ?_ | (apply L_val rfl rfl rfl; (· first | (apply gBin; first | fail ) | fail | exact v_ldFc (j := 0) prLen rfl at_ hz (by decide) rfl | exact v_ldFc (j := 2) prLen rfl at_ hz (by decide) rfl | exact v_ldFc (j := 0) tsLen rfl at_ et (by decide) rfl | (apply v_ld rfl; (· exact at_); (· exact ld_rI0 om om); done) | exact v_lenz rfl | exact v_ldF prLen rfl at_ hz)) | ((fail_if_success (refine L_known rfl ?_)); refine yW (fun h => ?_) fun h => ?_)) | (apply gW; first | refine W_seq ?_ | refine W_region ?_ | refine W_ret ?_ | refine W_skip ?_ | refine W_block ?_ | refine W_exit ?_ | refine W_cond1 rfl ?_ | refine W_cond0 rfl ?_ | refine cW (fun h => ?_) fun h => ?_) | (first | refine seqR.normal ?_ | refine seqR.ret ?_ | refine seqR.exit ?_ | refine blockR.normal ?_ | refine blockR.ret ?_ | refine blockR.here ?_ | refine blockR.exit rfl ?_ | refine loopR.ret ?_ | refine loopR.exit ?_) | fail)
        all_goals (
          refine retR.ret _ _ (ret1 rfl rfl) cvt_ ⟨_, rfl, ?_, rfl⟩
          simp only [Bool.false_eq_true, false_iff]
          intro c
          have h9 := c.2.2.2.2.1 _ hmem
          unfold prP at h9
          dsimp only at h9
          omega)
    · repeat' (first | exact absurd h hlt2 | first | (apply gCall; apply L_call rfl rfl rfl rfl rfl; (· first | exact within_c _ _ _ | exact insOkD_c e (p := ⟨rpa, rsl, rups, rcode⟩) (a := ⟨xub, xuc, xus, some cb, xcc, xcs⟩) (x := rcode.getD k.toNat (0, 0)) hm.there.there.there hub' hs' hl' hM'); rintro _ _ ⟨rfl, rfl⟩) | (apply gL; first | refine L_nil ?_ | refine yS ?_ | refine yX fun _ => ?_ | refine yA fun _ => ?_ | (apply gSt; first | refine sR ?_ | refine sB ?_ | refine s1 ?_ | refine sW ?_ | refine sN ?_) | refine kV ?_ | (apply L_val rfl rfl rfl; (· first | (apply gBin; first | fail ) | fail | exact v_ldFc (j := 0) prLen rfl at_ hz (by decide) rfl | exact v_ldFc (j := 2) prLen rfl at_ hz (by decide) rfl | exact v_ldFc (j := 0) tsLen rfl at_ et (by decide) rfl | (apply v_ld rfl; (· exact at_); (· exact ld_rI0 om om); done) | exact v_lenz rfl | exact v_ldF prLen rfl at_ hz)) | ((fail_if_success (refine L_known rfl ?_)); refine yW (fun h => ?_) fun h => ?_)) | (apply gW; first | refine W_seq ?_ | refine W_region ?_ | refine W_ret ?_ | refine W_skip ?_ | refine W_block ?_ | refine W_exit ?_ | refine W_cond1 rfl ?_ | refine W_cond0 rfl ?_ | refine cW (fun h => ?_) fun h => ?_) | (first | refine seqR.normal ?_ | refine seqR.ret ?_ | refine seqR.exit ?_ | refine blockR.normal ?_ | refine blockR.ret ?_ | refine blockR.here ?_ | refine blockR.exit rfl ?_ | refine loopR.ret ?_ | refine loopR.exit ?_) | fail)
      refine retR.ret _ _ (ret1 rfl rfl) cvt_ ⟨_, rfl, ?_, rfl⟩
      simp only [true_iff]
      refine ⟨h0, by omega, hfirst, htxs, fun q hq => ?_, fun q hq => ?_⟩ <;> obtain ⟨j2, hj2, e6⟩ := List.getElem_of_mem hq
      · exact (hall2 j2 (by omega) q (by rw [List.getElem?_eq_getElem hj2, e6])).1
      · exact (hall2 j2 (by omega) q (by rw [List.getElem?_eq_getElem hj2, e6])).2
  · repeat' (first | exact absurd h h0 | first | (apply gCall; apply L_call rfl rfl rfl rfl rfl; (· first | exact within_c _ _ _ | exact insOkD_c e (p := ⟨rpa, rsl, rups, rcode⟩) (a := ⟨xub, xuc, xus, some cb, xcc, xcs⟩) (x := rcode.getD k.toNat (0, 0)) hm.there.there.there hub' hs' hl' hM'); rintro _ _ ⟨rfl, rfl⟩) | (apply gL; first | refine L_nil ?_ | refine yS ?_ | refine yX fun _ => ?_ | refine yA fun _ => ?_ | (apply gSt; first | refine sR ?_ | refine sB ?_ | refine s1 ?_ | refine sW ?_ | refine sN ?_) | refine kV ?_ | (apply L_val rfl rfl rfl; (· first | (apply gBin; first | fail ) | fail | exact v_ldFc (j := 0) prLen rfl at_ hz (by decide) rfl | exact v_ldFc (j := 2) prLen rfl at_ hz (by decide) rfl | exact v_ldFc (j := 0) tsLen rfl at_ et (by decide) rfl | (apply v_ld rfl; (· exact at_); (· exact ld_rI0 om om); done) | exact v_lenz rfl | exact v_ldF prLen rfl at_ hz)) | ((fail_if_success (refine L_known rfl ?_)); refine yW (fun h => ?_) fun h => ?_)) | (apply gW; first | refine W_seq ?_ | refine W_region ?_ | refine W_ret ?_ | refine W_skip ?_ | refine W_block ?_ | refine W_exit ?_ | refine W_cond1 rfl ?_ | refine W_cond0 rfl ?_ | refine cW (fun h => ?_) fun h => ?_) | (first | refine seqR.normal ?_ | refine seqR.ret ?_ | refine seqR.exit ?_ | refine blockR.normal ?_ | refine blockR.ret ?_ | refine blockR.here ?_ | refine blockR.exit rfl ?_ | refine loopR.ret ?_ | refine loopR.exit ?_) | fail)
    refine retR.ret _ _ (ret1 rfl rfl) cvt_ ⟨_, rfl, ?_, rfl⟩
    simp only [Bool.false_eq_true, false_iff]
    exact fun c => h0 c.1
end Go.Proofs.YtfmhlieaodbgiaaGreat.Eng
