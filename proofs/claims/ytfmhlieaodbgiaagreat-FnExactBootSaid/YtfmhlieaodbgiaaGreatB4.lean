/- Modules that may be run: the implementation's upsOk. -/
import Derived.Test.YtfmhlieaodbgiaaGreatB2
namespace Go.Proofs.YtfmhlieaodbgiaaGreat.Eng
open Go Go.RowKit Go.Proofs.YtfmhlieaodbgiaaGreat.Sl Go.Proofs.YtfmhlieaodbgiaaGreat.Ar Go.Proofs.YtfmhlieaodbgiaaGreat.Base
set_option linter.unusedVariables false
set_option linter.unusedSimpArgs false
set_option maxRecDepth 10000
variable {w0 : World} {H : HL} {M : Md} {X : MA} {p q : PR} {a a' : PA} {x : Int × Int}
set_option maxHeartbeats 4000000 in
theorem upsOk_c (hu : RUp H a'.ub q.ups) (hqu : q.ups.length ≤ 1048576) (hp : 0 ≤ p.sl ∧ p.sl ≤ 20) (hl : p.ups.length ≤ 100) :
    Fn Tryz.prog w0 78 #[prV q a', prV p a] H fun v H' => ∃ b, v = .bool b ∧ (b = true ↔ ∀ u ∈ q.ups, upP p u) ∧ H' = H := by
  refine enter2 Tryz.func78 rfl rfl Tryz.ntmps78 rfl ?_
  repeat' (first | (apply gCall; apply L_call rfl rfl rfl rfl rfl; (· exact within_c _ _ _); rintro _ _ ⟨rfl, rfl⟩) | (apply gL; first | refine L_nil ?_ | refine yX fun _ => ?_ | refine yA fun _ => ?_ | (apply gSt; first | refine sR ?_ | refine sB ?_ | refine s1 ?_ | refine sW ?_ | refine sN ?_) | refine kV ?_ | (apply L_val rfl rfl rfl; (· first | (apply gBin; first | fail ) | fail | exact v_ldF upLen rfl at_ eu))) | (apply gW; first | refine W_seq ?_ | refine W_region ?_ | refine W_ret ?_ | refine W_skip ?_ | refine W_block ?_ | refine W_exit ?_ | refine W_cond1 rfl ?_ | refine W_cond0 rfl ?_ | refine cW (fun h => ?_) fun h => ?_) | (first | refine seqR.normal ?_ | refine seqR.ret ?_ | refine seqR.exit ?_ | refine blockR.normal ?_ | refine blockR.ret ?_ | refine blockR.here ?_ | refine blockR.exit rfl ?_ | refine loopR.ret ?_ | refine loopR.exit ?_) | fail)
  rename_i b2 b3
  apply W_loopX (α := Int) (fun i => [(2, .pointer (some ⟨b2, 0, none⟩)), (3, .pointer (some ⟨b3, 0, none⟩)), (9, .slice (ad a'.ub) q.ups.length a'.uc), (10, .int .i64 (q.ups.length : Int)), (11, .int .i64 i)]) (fun _ => (b3, .cells #[.int .i64 p.pa, .int .i64 p.sl, .slice (ad a.ub) p.ups.length a.uc, .slice (ad a.cb) p.code.length a.cc] 58 (0, 0)) :: (b2, .cells #[.int .i64 q.pa, .int .i64 q.sl, .slice (ad a'.ub) q.ups.length a'.uc, .slice (ad a'.cb) q.code.length a'.cc] 58 (0, 0)) :: H)
    (fun i => (0 ≤ i ∧ i ≤ q.ups.length) ∧ ∀ j : Nat, (j : Int) < i → ∀ u, q.ups[j]? = some u → upP p u) (fun i => (q.ups.length - i).toNat) 0
  · exact sub_
  · exact cvt_
  · exact ⟨⟨by omega, by omega⟩, fun j hj => by omega⟩
  rintro i ⟨⟨hi, hi2⟩, hall⟩
  by_cases hlt : i < (q.ups.length : Int)
  · obtain ⟨u, eu⟩ : ∃ u, q.ups[i.toNat]? = some u := ⟨q.ups[i.toNat]'(by omega), List.getElem?_eq_getElem _⟩
    obtain ⟨ub, eub⟩ : ∃ ub, a'.ub = some ub := by
      cases h : a'.ub with
      | none => rw [h] at hu; have : q.ups = [] := hu; rw [this] at hlt; simp at hlt; omega
      | some ub => exact ⟨ub, rfl⟩
    rw [eub] at hu ⊢
    obtain ⟨usp, hU⟩ := hu
    simp only [ad_s]
    obtain ⟨uf, un⟩ := u
    cases uf
    · by_cases hw : 0 ≤ un ∧ un ≤ (p.ups.length : Int) - 1
      · repeat' (first | exact absurd hlt h | exact absurd hw h | first | (apply gCall; apply L_call rfl rfl rfl rfl rfl; (· exact within_c _ _ _); rintro _ _ ⟨rfl, rfl⟩) | (apply gL; first | refine L_nil ?_ | refine yX fun _ => ?_ | refine yA fun _ => ?_ | (apply gSt; first | refine sR ?_ | refine sB ?_ | refine s1 ?_ | refine sW ?_ | refine sN ?_) | refine kV ?_ | (apply L_val rfl rfl rfl; (· first | (apply gBin; first | fail ) | fail | exact v_ldF upLen rfl at_ eu))) | (apply gW; first | refine W_seq ?_ | refine W_region ?_ | refine W_ret ?_ | refine W_skip ?_ | refine W_block ?_ | refine W_exit ?_ | refine W_cond1 rfl ?_ | refine W_cond0 rfl ?_ | refine cW (fun h => ?_) fun h => ?_) | (first | refine seqR.normal ?_ | refine seqR.ret ?_ | refine seqR.exit ?_ | refine blockR.normal ?_ | refine blockR.ret ?_ | refine blockR.here ?_ | refine blockR.exit rfl ?_ | refine loopR.ret ?_ | refine loopR.exit ?_) | fail)
        apply loopR.mk (i + 1)
        · exact sub_
        · exact cvt_
        · refine ⟨⟨by omega, by omega⟩, fun j hj u hu2 => ?_⟩
          by_cases e3 : (j : Int) = i
          · have : j = i.toNat := by omega
            rw [this, eu] at hu2; cases hu2; exact hw
          · exact hall j (by omega) u hu2
        · omega
      · repeat' (first | exact absurd hlt h | exact absurd h hw | first | (apply gCall; apply L_call rfl rfl rfl rfl rfl; (· exact within_c _ _ _); rintro _ _ ⟨rfl, rfl⟩) | (apply gL; first | refine L_nil ?_ | refine yX fun _ => ?_ | refine yA fun _ => ?_ | (apply gSt; first | refine sR ?_ | refine sB ?_ | refine s1 ?_ | refine sW ?_ | refine sN ?_) | refine kV ?_ | (apply L_val rfl rfl rfl; (· first | (apply gBin; first | fail ) | fail | exact v_ldF upLen rfl at_ eu))) | (apply gW; first | refine W_seq ?_ | refine W_region ?_ | refine W_ret ?_ | refine W_skip ?_ | refine W_block ?_ | refine W_exit ?_ | refine W_cond1 rfl ?_ | refine W_cond0 rfl ?_ | refine cW (fun h => ?_) fun h => ?_) | (first | refine seqR.normal ?_ | refine seqR.ret ?_ | refine seqR.exit ?_ | refine blockR.normal ?_ | refine blockR.ret ?_ | refine blockR.here ?_ | refine blockR.exit rfl ?_ | refine loopR.ret ?_ | refine loopR.exit ?_) | fail)
        refine retR.ret _ _ (ret1 rfl rfl) cvt_ ⟨_, rfl, ?_, rfl⟩
        simp only [Bool.false_eq_true, false_iff]
        exact fun c => hw (c _ (List.mem_of_getElem? eu))
    · by_cases hw : 0 ≤ un ∧ un ≤ p.sl - 1
      · repeat' (first | exact absurd hlt h | exact absurd hw h | first | (apply gCall; apply L_call rfl rfl rfl rfl rfl; (· exact within_c _ _ _); rintro _ _ ⟨rfl, rfl⟩) | (apply gL; first | refine L_nil ?_ | refine yX fun _ => ?_ | refine yA fun _ => ?_ | (apply gSt; first | refine sR ?_ | refine sB ?_ | refine s1 ?_ | refine sW ?_ | refine sN ?_) | refine kV ?_ | (apply L_val rfl rfl rfl; (· first | (apply gBin; first | fail ) | fail | exact v_ldF upLen rfl at_ eu))) | (apply gW; first | refine W_seq ?_ | refine W_region ?_ | refine W_ret ?_ | refine W_skip ?_ | refine W_block ?_ | refine W_exit ?_ | refine W_cond1 rfl ?_ | refine W_cond0 rfl ?_ | refine cW (fun h => ?_) fun h => ?_) | (first | refine seqR.normal ?_ | refine seqR.ret ?_ | refine seqR.exit ?_ | refine blockR.normal ?_ | refine blockR.ret ?_ | refine blockR.here ?_ | refine blockR.exit rfl ?_ | refine loopR.ret ?_ | refine loopR.exit ?_) | fail)
        apply loopR.mk (i + 1)
        · exact sub_
        · exact cvt_
        · refine ⟨⟨by omega, by omega⟩, fun j hj u hu2 => ?_⟩
          by_cases e3 : (j : Int) = i
          · have : j = i.toNat := by omega
            rw [this, eu] at hu2; cases hu2; exact hw
          · exact hall j (by omega) u hu2
        · omega
      · repeat' (first | exact absurd hlt h | exact absurd h hw | first | (apply gCall; apply L_call rfl rfl rfl rfl rfl; (· exact within_c _ _ _); rintro _ _ ⟨rfl, rfl⟩) | (apply gL; first | refine L_nil ?_ | refine yX fun _ => ?_ | refine yA fun _ => ?_ | (apply gSt; first | refine sR ?_ | refine sB ?_ | refine s1 ?_ | refine sW ?_ | refine sN ?_) | refine kV ?_ | (apply L_val rfl rfl rfl; (· first | (apply gBin; first | fail ) | fail | exact v_ldF upLen rfl at_ eu))) | (apply gW; first | refine W_seq ?_ | refine W_region ?_ | refine W_ret ?_ | refine W_skip ?_ | refine W_block ?_ | refine W_exit ?_ | refine W_cond1 rfl ?_ | refine W_cond0 rfl ?_ | refine cW (fun h => ?_) fun h => ?_) | (first | refine seqR.normal ?_ | refine seqR.ret ?_ | refine seqR.exit ?_ | refine blockR.normal ?_ | refine blockR.ret ?_ | refine blockR.here ?_ | refine blockR.exit rfl ?_ | refine loopR.ret ?_ | refine loopR.exit ?_) | fail)
        refine retR.ret _ _ (ret1 rfl rfl) cvt_ ⟨_, rfl, ?_, rfl⟩
        simp only [Bool.false_eq_true, false_iff]
        exact fun c => hw (c _ (List.mem_of_getElem? eu))
  · repeat' (first | exact absurd h hlt | first | (apply gCall; apply L_call rfl rfl rfl rfl rfl; (· exact within_c _ _ _); rintro _ _ ⟨rfl, rfl⟩) | (apply gL; first | refine L_nil ?_ | refine yX fun _ => ?_ | refine yA fun _ => ?_ | (apply gSt; first | refine sR ?_ | refine sB ?_ | refine s1 ?_ | refine sW ?_ | refine sN ?_) | refine kV ?_ | (apply L_val rfl rfl rfl; (· first | (apply gBin; first | fail ) | fail | exact v_ldF upLen rfl at_ eu))) | (apply gW; first | refine W_seq ?_ | refine W_region ?_ | refine W_ret ?_ | refine W_skip ?_ | refine W_block ?_ | refine W_exit ?_ | refine W_cond1 rfl ?_ | refine W_cond0 rfl ?_ | refine cW (fun h => ?_) fun h => ?_) | (first | refine seqR.normal ?_ | refine seqR.ret ?_ | refine seqR.exit ?_ | refine blockR.normal ?_ | refine blockR.ret ?_ | refine blockR.here ?_ | refine blockR.exit rfl ?_ | refine loopR.ret ?_ | refine loopR.exit ?_) | fail)
    refine retR.ret _ _ (ret1 rfl rfl) cvt_ ⟨_, rfl, ?_, rfl⟩
    refine ⟨fun _ u hu2 => ?_, fun _ => rfl⟩
    obtain ⟨j, hj, e4⟩ := List.getElem_of_mem hu2
    exact hall j (by omega) u (by rw [List.getElem?_eq_getElem hj, e4])
end Go.Proofs.YtfmhlieaodbgiaaGreat.Eng
