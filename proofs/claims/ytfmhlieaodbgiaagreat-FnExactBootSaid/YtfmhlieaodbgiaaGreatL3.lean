/- The law's own: rows of words, arenas held. -/
import Derived.Test.YtfmhlieaodbgiaaGreatL3a
namespace Go.Proofs.YtfmhlieaodbgiaaGreat.Eng
open Go Go.RowKit Go.Proofs.YtfmhlieaodbgiaaGreat.Sl Go.Proofs.YtfmhlieaodbgiaaGreat.Ar Go.Proofs.YtfmhlieaodbgiaaGreat.Base
set_option linter.unusedVariables false
set_option linter.unusedSimpArgs false
set_option maxRecDepth 10000
variable {w0 : World} {H : HL} {C : Cn} {A : Ar}
theorem heldUint64S_g {bo : Option Nat} {c : Nat} {xs : List Int} {k : Int} (hB : RU H bo xs) (hl : xs.length ≤ 1048576) (hk : 0 ≤ k ∧ k ≤ 10000000) (hx : HU k xs) :
    Fn Tryz.prog w0 65 #[.slice (ad bo) xs.length c, .int .i64 k] H fun v H' => v = .int .i64 (k + xs.length) ∧ H' = H := by
  refine enter2 Tryz.func65 rfl rfl Tryz.ntmps65 rfl ?_
  repeat' (first | (apply gCall; apply L_call rfl rfl rfl rfl rfl; (· first | fail); rintro _ _ ⟨rfl, rfl⟩) | (apply gL; first | refine L_nil ?_ | refine yX fun _ => ?_ | refine kV ?_ | (apply L_val rfl rfl rfl; (· first | (apply gBin; first | fail | exact v_nebs rfl rfl) | fail | (apply v_ld rfl; (· exact at_); (· first | exact ld_rV0 om om | exact ld_rV1 om om); done)))) | (apply gW; first | refine W_seq ?_ | refine W_region ?_ | refine W_ret ?_ | refine W_skip ?_ | refine W_block ?_ | refine W_exit ?_ | refine W_cond1 rfl ?_ | refine W_cond0 rfl ?_ | refine cW (fun h => ?_) fun h => ?_) | (first | refine seqR.normal ?_ | refine seqR.ret ?_ | refine seqR.exit ?_ | refine blockR.normal ?_ | refine blockR.ret ?_ | refine blockR.here ?_ | refine blockR.exit rfl ?_ | refine loopR.ret ?_ | refine loopR.exit ?_) | fail)
  apply W_loopX (α := Int) (fun y => [(0, .slice (ad bo) xs.length c), (1, .int .i64 (k + y)), (5, .int .i64 y)]) (fun y => H) (fun y => (0 ≤ y ∧ y ≤ xs.length)) (fun y => (xs.length - y).toNat) 0
  · exact ⟨rfl, lk (by omega), rfl, trivial⟩
  · exact cvt_
  · exact ⟨by omega, by omega⟩
  rintro i ⟨hi, hi2⟩
  by_cases hlt : i < (xs.length : Int)
  · rcases bo with _ | bo
    · rw [show xs = [] from hB] at hlt; simp at hlt; omega
    obtain ⟨sp, hB⟩ := hB
    simp only [ad]
    repeat' (first | exact absurd hlt h | first | (apply gCall; apply L_call rfl rfl rfl rfl rfl; (· first | fail); rintro _ _ ⟨rfl, rfl⟩) | (apply gL; first | refine L_nil ?_ | refine yX fun _ => ?_ | refine kV ?_ | (apply L_val rfl rfl rfl; (· first | (apply gBin; first | fail | exact v_nebs rfl rfl) | fail | (apply v_ld rfl; (· exact at_); (· first | exact ld_rV0 om om | exact ld_rV1 om om); done)))) | (apply gW; first | refine W_seq ?_ | refine W_region ?_ | refine W_ret ?_ | refine W_skip ?_ | refine W_block ?_ | refine W_exit ?_ | refine W_cond1 rfl ?_ | refine W_cond0 rfl ?_ | refine cW (fun h => ?_) fun h => ?_) | (first | refine seqR.normal ?_ | refine seqR.ret ?_ | refine seqR.exit ?_ | refine blockR.normal ?_ | refine blockR.ret ?_ | refine blockR.here ?_ | refine blockR.exit rfl ?_ | refine loopR.ret ?_ | refine loopR.exit ?_) | fail)
    · exact absurd (hx i hi hlt) h
    · apply loopR.mk (i + 1)
      · exact ⟨rfl, lk (by omega), rfl, trivial⟩
      · exact cvt_
      · exact ⟨by omega, by omega⟩
      · (try dsimp only); omega
  · repeat' (first | exact absurd h hlt | first | (apply gCall; apply L_call rfl rfl rfl rfl rfl; (· first | fail); rintro _ _ ⟨rfl, rfl⟩) | (apply gL; first | refine L_nil ?_ | refine yX fun _ => ?_ | refine kV ?_ | (apply L_val rfl rfl rfl; (· first | (apply gBin; first | fail | exact v_nebs rfl rfl) | fail | (apply v_ld rfl; (· exact at_); (· first | exact ld_rV0 om om | exact ld_rV1 om om); done)))) | (apply gW; first | refine W_seq ?_ | refine W_region ?_ | refine W_ret ?_ | refine W_skip ?_ | refine W_block ?_ | refine W_exit ?_ | refine W_cond1 rfl ?_ | refine W_cond0 rfl ?_ | refine cW (fun h => ?_) fun h => ?_) | (first | refine seqR.normal ?_ | refine seqR.ret ?_ | refine seqR.exit ?_ | refine blockR.normal ?_ | refine blockR.ret ?_ | refine blockR.here ?_ | refine blockR.exit rfl ?_ | refine loopR.ret ?_ | refine loopR.exit ?_) | fail)
    refine retR.ret _ _ (ret1 rfl rfl) cv_ ⟨?_, rfl⟩
    rw [show i = (xs.length : Int) by omega]
theorem heldArena_g {bw br : Option Nat} {cw cr : Nat} {ws : List Int} {vs : List (Int × Int)} {k : Int} (h1 : RU H bw ws) (h2 : RV H br vs) (hl : ws.length ≤ 1048576) (hl2 : vs.length ≤ 1048576) (hk : 0 ≤ k ∧ k ≤ 8000000) (hu : HU k ws) (hv : HV (k + ws.length) vs) (ew : ws.length = A.ws.length) (ev : vs.length = A.vs.length) :
    Fn Tryz.prog w0 38 #[arG (ad bw) cw (ad br) cr A, .int .i64 k] H fun v H' => v = .int .i64 (k + A.ws.length + 2 * A.vs.length) ∧ H' = H := by
  refine enter2 Tryz.func38 rfl rfl Tryz.ntmps38 rfl ?_
  repeat' (first | (apply gCall; apply L_call rfl rfl rfl rfl rfl; (· first | fail); rintro _ _ ⟨rfl, rfl⟩) | (apply gL; first | refine L_nil ?_ | refine yX fun _ => ?_ | refine kV ?_ | (apply L_val rfl rfl rfl; (· first | (apply gBin; first | fail | exact v_nebs rfl rfl) | fail | (apply v_ld rfl; (· exact at_); (· first | exact ld_rV0 om om | exact ld_rV1 om om); done)))) | (apply gW; first | refine W_seq ?_ | refine W_region ?_ | refine W_ret ?_ | refine W_skip ?_ | refine W_block ?_ | refine W_exit ?_ | refine W_cond1 rfl ?_ | refine W_cond0 rfl ?_ | refine cW (fun h => ?_) fun h => ?_) | (first | refine seqR.normal ?_ | refine seqR.ret ?_ | refine seqR.exit ?_ | refine blockR.normal ?_ | refine blockR.ret ?_ | refine blockR.here ?_ | refine blockR.exit rfl ?_ | refine loopR.ret ?_ | refine loopR.exit ?_) | fail)
  rw [← ew]
  apply L_call rfl rfl rfl rfl rfl
  · exact heldUint64S_g (RU.there h1) hl (by omega) hu
  rintro _ _ ⟨rfl, rfl⟩
  repeat' (first | exact absurd h (by omega) | first | (apply gCall; apply L_call rfl rfl rfl rfl rfl; (· first | fail); rintro _ _ ⟨rfl, rfl⟩) | (apply gL; first | refine L_nil ?_ | refine yX fun _ => ?_ | refine kV ?_ | (apply L_val rfl rfl rfl; (· first | (apply gBin; first | fail | exact v_nebs rfl rfl) | fail | (apply v_ld rfl; (· exact at_); (· first | exact ld_rV0 om om | exact ld_rV1 om om); done)))) | (apply gW; first | refine W_seq ?_ | refine W_region ?_ | refine W_ret ?_ | refine W_skip ?_ | refine W_block ?_ | refine W_exit ?_ | refine W_cond1 rfl ?_ | refine W_cond0 rfl ?_ | refine cW (fun h => ?_) fun h => ?_) | (first | refine seqR.normal ?_ | refine seqR.ret ?_ | refine seqR.exit ?_ | refine blockR.normal ?_ | refine blockR.ret ?_ | refine blockR.here ?_ | refine blockR.exit rfl ?_ | refine loopR.ret ?_ | refine loopR.exit ?_) | fail)
  rw [← ev]
  apply L_call rfl rfl rfl rfl rfl
  · exact heldValS_g (RV.there h2) hl2 (by omega) hv
  rintro _ _ ⟨rfl, rfl⟩
  repeat' (first | exact absurd h (by omega) | first | (apply gCall; apply L_call rfl rfl rfl rfl rfl; (· first | fail); rintro _ _ ⟨rfl, rfl⟩) | (apply gL; first | refine L_nil ?_ | refine yX fun _ => ?_ | refine kV ?_ | (apply L_val rfl rfl rfl; (· first | (apply gBin; first | fail | exact v_nebs rfl rfl) | fail | (apply v_ld rfl; (· exact at_); (· first | exact ld_rV0 om om | exact ld_rV1 om om); done)))) | (apply gW; first | refine W_seq ?_ | refine W_region ?_ | refine W_ret ?_ | refine W_skip ?_ | refine W_block ?_ | refine W_exit ?_ | refine W_cond1 rfl ?_ | refine W_cond0 rfl ?_ | refine cW (fun h => ?_) fun h => ?_) | (first | refine seqR.normal ?_ | refine seqR.ret ?_ | refine seqR.exit ?_ | refine blockR.normal ?_ | refine blockR.ret ?_ | refine blockR.here ?_ | refine blockR.exit rfl ?_ | refine loopR.ret ?_ | refine loopR.exit ?_) | fail)
  refine retR.ret _ _ (ret1 rfl rfl) cv_ ⟨?_, rfl⟩
  rfl
end Go.Proofs.YtfmhlieaodbgiaaGreat.Eng
