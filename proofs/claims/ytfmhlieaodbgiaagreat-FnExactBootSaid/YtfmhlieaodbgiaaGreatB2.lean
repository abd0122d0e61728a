/- Modules that may be run: the reference's l11InsOk where a function is made. -/
import Derived.Test.YtfmhlieaodbgiaaGreatB1
namespace Go.Proofs.YtfmhlieaodbgiaaGreat.Eng
open Go Go.RowKit Go.Proofs.YtfmhlieaodbgiaaGreat.Sl Go.Proofs.YtfmhlieaodbgiaaGreat.Ar Go.Proofs.YtfmhlieaodbgiaaGreat.Base
set_option linter.unusedVariables false
set_option linter.unusedSimpArgs false
set_option maxRecDepth 10000
variable {w0 : World} {H : HL} {M : Md} {X : MA} {p : PR} {a : PA} {x : Int × Int}
theorem ad_s {b : Nat} : ad (some b) = some ⟨b, 0, none⟩ := rfl
theorem upLen : ∀ (x : Bool × Int), (upC x).length = 2 := fun x => rfl
theorem prLen : ∀ (x : PR × PA), (prC x).length = 4 := fun x => rfl
theorem insP_12 {n : Int} : insP M p (12, n) ↔ (0 ≤ n ∧ n ≤ (M.pr.length : Int) - 1) ∧ ∀ q, M.pr[n.toNat]? = some q → ∀ u ∈ q.ups, upP p u := by
  unfold insP; dsimp only
  rw [if_neg (by decide), if_neg (by decide), if_neg (by decide), if_neg (by decide), if_neg (by decide), if_neg (by decide), if_neg (by decide), if_neg (by decide), if_neg (by decide), if_neg (by decide), if_pos rfl]
theorem RM.at {i : Nat} {q : PR} (h : RM H M X) (e : M.pr[i]? = some q) : ∃ pb sp a', X.pb = some pb ∧ At H pb (.cells (rowF prC (M.pr.zip X.aa) sp) 58 (0, 0)) ∧ (M.pr.zip X.aa)[i]? = some (q, a') ∧ X.aa[i]? = some a' ∧ RUp H a'.ub q.ups ∧ RIn H a'.cb q.code := by
  obtain ⟨hi, -⟩ := List.getElem?_eq_some_iff.1 e
  obtain ⟨a', ea⟩ : ∃ a', X.aa[i]? = some a' := ⟨X.aa[i]'(by rw [h.la]; exact hi), List.getElem?_eq_getElem _⟩
  have hz : (M.pr.zip X.aa)[i]? = some (q, a') := by rw [List.getElem?_zip_eq_some]; exact ⟨e, ea⟩
  have hp := h.pr
  cases hb : X.pb with
  | none =>
    rw [hb] at hp
    have : M.pr.zip X.aa = [] := hp
    rw [this] at hz; simp at hz
  | some pb =>
    rw [hb] at hp
    obtain ⟨sp, hA⟩ := hp
    exact ⟨pb, sp, a', rfl, hA, hz, ea, h.up i q a' e ea⟩
set_option maxHeartbeats 4000000 in
theorem l11InsOk12_c {n : Int} (hm : RM H M X) (hub : ∀ q ∈ M.pr, q.ups.length ≤ 1048576) (hp : 0 ≤ p.sl ∧ p.sl ≤ 20) (hl : p.ups.length ≤ 100 ∧ p.code.length ≤ 4000) (hM : M.pr.length ≤ 100 ∧ M.tx.length ≤ 255) :
    Fn Tryz.prog w0 42 #[mdV M X, prV p a, .agg #[.int .i64 12, .int .i64 n]] H fun v H' => ∃ b, v = .bool b ∧ (b = true ↔ insP M p (12, n)) ∧ H' = H := by
  refine enter3 Tryz.func42 rfl rfl Tryz.ntmps42 rfl ?_
  by_cases hn : 0 ≤ n ∧ n ≤ (M.pr.length : Int) - 1
  · have hb : ¬ inB n 0 ((M.pr.length : Int) - 1) = false := by unfold inB; simp; omega
    have hb' : inB n 0 ((M.pr.length : Int) - 1) = true := by simpa using hb
    obtain ⟨q, eq⟩ : ∃ q, M.pr[n.toNat]? = some q := ⟨M.pr[n.toNat]'(by omega), List.getElem?_eq_getElem _⟩
    have hqu := hub q (List.mem_of_getElem? eq)
    obtain ⟨pb, sp, a', ep, hA, hz, ea, hu, -⟩ := hm.at eq
    have e : mdV M X = .agg #[.slice (some ⟨pb, 0, none⟩) M.pr.length X.pc, .slice (ad X.tb) M.tx.length X.tc] := by unfold mdV; rw [ep]; rfl
    rw [e]
    repeat' (first | exact absurd h hb | exact absurd hb' h | (exfalso; omega) | first | (apply gCall; apply L_call rfl rfl rfl rfl rfl; (· exact l1In_c _ _ _); rintro _ _ ⟨rfl, rfl⟩) | (apply gL; first | refine L_nil ?_ | refine yS ?_ | refine yX fun _ => ?_ | refine kV ?_ | (apply L_val rfl rfl rfl; (· first | (apply gBin; first | fail ) | fail | exact v_ldFc (j := 2) prLen rfl at_ hz (by decide) rfl | exact v_ldFc (j := 0) upLen rfl at_ eu (by decide) hv0 | exact v_ldFc (j := 1) upLen rfl at_ eu (by decide) hv1)) | ((fail_if_success (refine L_known rfl ?_)); refine yW (fun h => ?_) fun h => ?_)) | (apply gW; first | refine W_seq ?_ | refine W_region ?_ | refine W_ret ?_ | refine W_skip ?_ | refine W_block ?_ | refine W_exit ?_ | refine W_cond1 rfl ?_ | refine W_cond0 rfl ?_ | refine cW (fun h => ?_) fun h => ?_) | (first | refine seqR.normal ?_ | refine seqR.ret ?_ | refine seqR.exit ?_ | refine blockR.normal ?_ | refine blockR.ret ?_ | refine blockR.here ?_ | refine blockR.exit rfl ?_ | refine loopR.ret ?_ | refine loopR.exit ?_) | fail)
    rename_i b3 b4 b5
    apply W_loopX (α := Int) (fun i => [(3, .pointer (some ⟨b3, 0, none⟩)), (4, .pointer (some ⟨b4, 0, none⟩)), (5, .pointer (some ⟨b5, 0, none⟩)), (7, .slice (ad a'.ub) q.ups.length a'.uc), (8, .int .i64 i)]) (fun _ => (b5, .cells #[.int .i64 12, .int .i64 n] 80 (0, 0)) :: (b4, .cells #[.int .i64 p.pa, .int .i64 p.sl, .slice (ad a.ub) p.ups.length a.uc, .slice (ad a.cb) p.code.length a.cc] 58 (0, 0)) :: (b3, .cells #[.slice (some ⟨pb, 0, none⟩) M.pr.length X.pc, .slice (ad X.tb) M.tx.length X.tc] 29 (0, 0)) :: H)
      (fun i => (0 ≤ i ∧ i ≤ q.ups.length) ∧ ∀ j : Nat, (j : Int) < i → ∀ u, q.ups[j]? = some u → upP p u) (fun i => (q.ups.length - i).toNat) 0
    · exact sub_
    · exact cvt_
    · exact ⟨⟨by omega, by omega⟩, fun j hj => by omega⟩
    rintro i ⟨⟨hi, hi2⟩, hall⟩
    try dsimp only at hi hi2 hall ⊢
    by_cases hlt : i < (q.ups.length : Int)
    · obtain ⟨u, eu⟩ : ∃ u, q.ups[i.toNat]? = some u := ⟨q.ups[i.toNat]'(by omega), List.getElem?_eq_getElem _⟩
      obtain ⟨ub, eub⟩ : ∃ ub, a'.ub = some ub := by
        cases h : a'.ub with
        | none => rw [h] at hu; have : q.ups = [] := hu; rw [this] at hlt; simp at hlt; omega
        | some ub => exact ⟨ub, rfl⟩
      rw [eub] at hu ⊢
      obtain ⟨usp, hU⟩ := hu
      simp only [ad_s]
      obtain ⟨uf, un⟩ := u
      have hv0 : (upC (uf, un))[0]? = some (.bool uf) := rfl
      have hv1 : (upC (uf, un))[1]? = some (.int .i64 un) := rfl
      cases uf
      · by_cases hw : 0 ≤ un ∧ un ≤ (p.ups.length : Int) - 1
        · have hb2 : ¬ inB un 0 ((p.ups.length : Int) - 1) = false := by unfold inB; simp; omega
          have hb3 : inB un 0 ((p.ups.length : Int) - 1) = true := by simpa using hb2
          repeat' (first | exact absurd hlt h | exact absurd hw h | first | (apply gCall; apply L_call rfl rfl rfl rfl rfl; (· exact l1In_c _ _ _); rintro _ _ ⟨rfl, rfl⟩) | (apply gL; first | refine L_nil ?_ | refine yS ?_ | refine yX fun _ => ?_ | refine kV ?_ | (apply L_val rfl rfl rfl; (· first | (apply gBin; first | fail ) | fail | exact v_ldFc (j := 2) prLen rfl at_ hz (by decide) rfl | exact v_ldFc (j := 0) upLen rfl at_ eu (by decide) hv0 | exact v_ldFc (j := 1) upLen rfl at_ eu (by decide) hv1)) | ((fail_if_success (refine L_known rfl ?_)); refine yW (fun h => ?_) fun h => ?_)) | (apply gW; first | refine W_seq ?_ | refine W_region ?_ | refine W_ret ?_ | refine W_skip ?_ | refine W_block ?_ | refine W_exit ?_ | refine W_cond1 rfl ?_ | refine W_cond0 rfl ?_ | refine cW (fun h => ?_) fun h => ?_) | (first | refine seqR.normal ?_ | refine seqR.ret ?_ | refine seqR.exit ?_ | refine blockR.normal ?_ | refine blockR.ret ?_ | refine blockR.here ?_ | refine blockR.exit rfl ?_ | refine loopR.ret ?_ | refine loopR.exit ?_) | fail)
          apply loopR.mk (i + 1)
          · exact sub_
          · exact cvt_
          · refine ⟨⟨by omega, by omega⟩, fun j hj u hu2 => ?_⟩
            by_cases e3 : (j : Int) = i
            · have : j = i.toNat := by omega
              rw [this, eu] at hu2; cases hu2; exact hw
            · exact hall j (by omega) u hu2
          · omega
        · have hb2 : ¬ inB un 0 ((p.ups.length : Int) - 1) = true := by unfold inB; simp; omega
          repeat' (first | exact absurd hlt h | exact absurd h hw | first | (apply gCall; apply L_call rfl rfl rfl rfl rfl; (· exact l1In_c _ _ _); rintro _ _ ⟨rfl, rfl⟩) | (apply gL; first | refine L_nil ?_ | refine yS ?_ | refine yX fun _ => ?_ | refine kV ?_ | (apply L_val rfl rfl rfl; (· first | (apply gBin; first | fail ) | fail | exact v_ldFc (j := 2) prLen rfl at_ hz (by decide) rfl | exact v_ldFc (j := 0) upLen rfl at_ eu (by decide) hv0 | exact v_ldFc (j := 1) upLen rfl at_ eu (by decide) hv1)) | ((fail_if_success (refine L_known rfl ?_)); refine yW (fun h => ?_) fun h => ?_)) | (apply gW; first | refine W_seq ?_ | refine W_region ?_ | refine W_ret ?_ | refine W_skip ?_ | refine W_block ?_ | refine W_exit ?_ | refine W_cond1 rfl ?_ | refine W_cond0 rfl ?_ | refine cW (fun h => ?_) fun h => ?_) | (first | refine seqR.normal ?_ | refine seqR.ret ?_ | refine seqR.exit ?_ | refine blockR.normal ?_ | refine blockR.ret ?_ | refine blockR.here ?_ | refine blockR.exit rfl ?_ | refine loopR.ret ?_ | refine loopR.exit ?_) | fail)
          refine retR.ret _ _ (ret1 rfl rfl) cvt_ ⟨_, rfl, ?_, rfl⟩
          rw [insP_12]
          simp only [Bool.false_eq_true, false_iff]
          exact fun c => hw (c.2 q eq _ (List.mem_of_getElem? eu))
      · by_cases hw : 0 ≤ un ∧ un ≤ p.sl - 1
        · have hb2 : ¬ inB un 0 (p.sl - 1) = false := by unfold inB; simp; omega
          have hb3 : inB un 0 (p.sl - 1) = true := by simpa using hb2
          repeat' (first | exact absurd hlt h | exact absurd hw h | first | (apply gCall; apply L_call rfl rfl rfl rfl rfl; (· exact l1In_c _ _ _); rintro _ _ ⟨rfl, rfl⟩) | (apply gL; first | refine L_nil ?_ | refine yS ?_ | refine yX fun _ => ?_ | refine kV ?_ | (apply L_val rfl rfl rfl; (· first | (apply gBin; first | fail ) | fail | exact v_ldFc (j := 2) prLen rfl at_ hz (by decide) rfl | exact v_ldFc (j := 0) upLen rfl at_ eu (by decide) hv0 | exact v_ldFc (j := 1) upLen rfl at_ eu (by decide) hv1)) | ((fail_if_success (refine L_known rfl ?_)); refine yW (fun h => ?_) fun h => ?_)) | (apply gW; first | refine W_seq ?_ | refine W_region ?_ | refine W_ret ?_ | refine W_skip ?_ | refine W_block ?_ | refine W_exit ?_ | refine W_cond1 rfl ?_ | refine W_cond0 rfl ?_ | refine cW (fun h => ?_) fun h => ?_) | (first | refine seqR.normal ?_ | refine seqR.ret ?_ | refine seqR.exit ?_ | refine blockR.normal ?_ | refine blockR.ret ?_ | refine blockR.here ?_ | refine blockR.exit rfl ?_ | refine loopR.ret ?_ | refine loopR.exit ?_) | fail)
          apply loopR.mk (i + 1)
          · exact sub_
          · exact cvt_
          · refine ⟨⟨by omega, by omega⟩, fun j hj u hu2 => ?_⟩
            by_cases e3 : (j : Int) = i
            · have : j = i.toNat := by omega
              rw [this, eu] at hu2; cases hu2; exact hw
            · exact hall j (by omega) u hu2
          · omega
        · have hb2 : ¬ inB un 0 (p.sl - 1) = true := by unfold inB; simp; omega
          repeat' (first | exact absurd hlt h | exact absurd h hw | first | (apply gCall; apply L_call rfl rfl rfl rfl rfl; (· exact l1In_c _ _ _); rintro _ _ ⟨rfl, rfl⟩) | (apply gL; first | refine L_nil ?_ | refine yS ?_ | refine yX fun _ => ?_ | refine kV ?_ | (apply L_val rfl rfl rfl; (· first | (apply gBin; first | fail ) | fail | exact v_ldFc (j := 2) prLen rfl at_ hz (by decide) rfl | exact v_ldFc (j := 0) upLen rfl at_ eu (by decide) hv0 | exact v_ldFc (j := 1) upLen rfl at_ eu (by decide) hv1)) | ((fail_if_success (refine L_known rfl ?_)); refine yW (fun h => ?_) fun h => ?_)) | (apply gW; first | refine W_seq ?_ | refine W_region ?_ | refine W_ret ?_ | refine W_skip ?_ | refine W_block ?_ | refine W_exit ?_ | refine W_cond1 rfl ?_ | refine W_cond0 rfl ?_ | refine cW (fun h => ?_) fun h => ?_) | (first | refine seqR.normal ?_ | refine seqR.ret ?_ | refine seqR.exit ?_ | refine blockR.normal ?_ | refine blockR.ret ?_ | refine blockR.here ?_ | refine blockR.exit rfl ?_ | refine loopR.ret ?_ | refine loopR.exit ?_) | fail)
          refine retR.ret _ _ (ret1 rfl rfl) cvt_ ⟨_, rfl, ?_, rfl⟩
          rw [insP_12]
          simp only [Bool.false_eq_true, false_iff]
          exact fun c => hw (c.2 q eq _ (List.mem_of_getElem? eu))
    · repeat' (first | exact absurd h hlt | first | (apply gCall; apply L_call rfl rfl rfl rfl rfl; (· exact l1In_c _ _ _); rintro _ _ ⟨rfl, rfl⟩) | (apply gL; first | refine L_nil ?_ | refine yS ?_ | refine yX fun _ => ?_ | refine kV ?_ | (apply L_val rfl rfl rfl; (· first | (apply gBin; first | fail ) | fail | exact v_ldFc (j := 2) prLen rfl at_ hz (by decide) rfl | exact v_ldFc (j := 0) upLen rfl at_ eu (by decide) hv0 | exact v_ldFc (j := 1) upLen rfl at_ eu (by decide) hv1)) | ((fail_if_success (refine L_known rfl ?_)); refine yW (fun h => ?_) fun h => ?_)) | (apply gW; first | refine W_seq ?_ | refine W_region ?_ | refine W_ret ?_ | refine W_skip ?_ | refine W_block ?_ | refine W_exit ?_ | refine W_cond1 rfl ?_ | refine W_cond0 rfl ?_ | refine cW (fun h => ?_) fun h => ?_) | (first | refine seqR.normal ?_ | refine seqR.ret ?_ | refine seqR.exit ?_ | refine blockR.normal ?_ | refine blockR.ret ?_ | refine blockR.here ?_ | refine blockR.exit rfl ?_ | refine loopR.ret ?_ | refine loopR.exit ?_) | fail)
      refine retR.ret _ _ (ret1 rfl rfl) cvt_ ⟨_, rfl, ?_, rfl⟩
      rw [insP_12]
      refine ⟨fun _ => ⟨hn, fun q' e' u hu2 => ?_⟩, fun _ => rfl⟩
      rw [eq] at e'; cases e'
      obtain ⟨j, hj, e4⟩ := List.getElem_of_mem hu2
      exact hall j (by omega) u (by rw [List.getElem?_eq_getElem hj, e4])
  · have hb : ¬ inB n 0 ((M.pr.length : Int) - 1) = true := by unfold inB; simp; omega
    repeat' (first | exact absurd h hb | (exfalso; omega) | first | (apply gCall; apply L_call rfl rfl rfl rfl rfl; (· exact l1In_c _ _ _); rintro _ _ ⟨rfl, rfl⟩) | (apply gL; first | refine L_nil ?_ | refine yS ?_ | refine yX fun _ => ?_ | refine kV ?_ | (apply L_val rfl rfl rfl; (· first | (apply gBin; first | fail ) | fail | exact v_ldFc (j := 2) prLen rfl at_ hz (by decide) rfl | exact v_ldFc (j := 0) upLen rfl at_ eu (by decide) hv0 | exact v_ldFc (j := 1) upLen rfl at_ eu (by decide) hv1)) | ((fail_if_success (refine L_known rfl ?_)); refine yW (fun h => ?_) fun h => ?_)) | (apply gW; first | refine W_seq ?_ | refine W_region ?_ | refine W_ret ?_ | refine W_skip ?_ | refine W_block ?_ | refine W_exit ?_ | refine W_cond1 rfl ?_ | refine W_cond0 rfl ?_ | refine cW (fun h => ?_) fun h => ?_) | (first | refine seqR.normal ?_ | refine seqR.ret ?_ | refine seqR.exit ?_ | refine blockR.normal ?_ | refine blockR.ret ?_ | refine blockR.here ?_ | refine blockR.exit rfl ?_ | refine loopR.ret ?_ | refine loopR.exit ?_) | fail)
    refine retR.ret _ _ (ret1 rfl rfl) cvt_ ⟨_, rfl, ?_, rfl⟩
    rw [insP_12]
    simp only [Bool.false_eq_true, false_iff]
    exact fun c => hn c.1
end Go.Proofs.YtfmhlieaodbgiaaGreat.Eng
