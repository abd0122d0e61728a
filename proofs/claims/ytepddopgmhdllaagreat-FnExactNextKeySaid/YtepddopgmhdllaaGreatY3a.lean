/- The implementation's entry of a key that no block has: nothing, or a box. -/
import Derived.Test.YtepddopgmhdllaaGreatBkI
namespace Go.Proofs.YtepddopgmhdllaaGreat.Eng
open Go Go.RowKit Go.Proofs.YtepddopgmhdllaaGreat.Sl Go.Proofs.YtepddopgmhdllaaGreat.Ar Go.Proofs.YtepddopgmhdllaaGreat.Base
set_option linter.unusedVariables false
set_option linter.unusedSimpArgs false
set_option maxRecDepth 10000
variable {w0 : World} {H : HL} {C : Cn} {A : Ar} {ba : Nat}
theorem hashNo_c {t x : Int} (hno : t = 0 ∨ t = 9) : Fn Tryz.prog w0 148 #[.pointer (some ⟨ba, 0, none⟩), .agg #[.int .i64 t, .int .i64 x]] H fun v H' => v = .int .i64 x ∧ H' = H := by
  refine enter2 Tryz.func148 rfl rfl Tryz.ntmps148 rfl ?_
  repeat' (first | (exfalso; omega) | first | (apply gCall; apply L_call rfl rfl rfl rfl rfl; (· first | exact head_c at_ at_ hw om om | exact val2_c at_ at_ hw (hR _ om om) om om om | exact hashNo_c hno | exact isame_c at_ at_ hw hm hh hs (hK _ om om) hkt (hQ _ om om) p1); rintro _ _ ⟨rfl, rfl⟩) | (apply gL; first | refine L_nil ?_ | refine yX fun _ => ?_ | refine yA fun _ => ?_ | (apply gSt; first | refine sR ?_ | refine sB ?_ | refine s1 ?_ | refine sW ?_ | refine sN ?_) | refine kV ?_) | (apply gW; first | refine W_seq ?_ | refine W_region ?_ | refine W_ret ?_ | refine W_skip ?_ | refine W_block ?_ | refine W_exit ?_ | refine W_cond1 rfl ?_ | refine W_cond0 rfl ?_ | refine cW (fun h => ?_) fun h => ?_) | (first | refine seqR.normal ?_ | refine seqR.ret ?_ | refine seqR.exit ?_ | refine blockR.normal ?_ | refine blockR.ret ?_ | refine blockR.here ?_ | refine blockR.exit rfl ?_ | refine loopR.ret ?_ | refine loopR.exit ?_) | fail)
  all_goals refine retR.ret _ _ (ret1 rfl rfl) cv_ ⟨?_, rfl⟩
  all_goals rfl
set_option maxHeartbeats 1000000 in
theorem entryNo_c {b t x n : Int} (hP : At H ba (aObj C A)) (hA : At H C.bw (wObj C A)) (hw : Wf A.ws) (hm : A.ws.length ≤ 8000) (hh : A.to = 0 ∨ A.to = 1) (hs : 256 ≤ A.semi ∧ A.semi ≤ 4000)
    (hb : 0 ≤ b) (hn : n = rs (g A.ws b) / 4) (hn1 : 1 ≤ n) (hbn : b + 4 * n < A.ws.length)
    (hR : ∀ i : Int, 0 ≤ i → i < n → rv A.ws (b + 1 + 4 * i) = true)
    (hK : ∀ i : Int, 0 ≤ i → i < n → KeyP A (rvT A.ws (b + 1 + 4 * i)) (rvN A.ws (b + 1 + 4 * i)))
    (hQ : ∀ i : Int, 0 ≤ i → i < n → kd (rvT A.ws (b + 1 + 4 * i)) ≠ 0 → PlaceP A (rvN A.ws (b + 1 + 4 * i)))
    (hno : t = 0 ∨ t = 9) (h9 : ∀ i : Int, 0 ≤ i → i < n → rvT A.ws (b + 1 + 4 * i) ≠ 9) (hkt : KeyP A t x) (hx0 : 0 ≤ x) (hx1 : x ≤ 9223372036854775807) (p1 : kd t ≠ 0 → PlaceP A x) :
    Fn Tryz.prog w0 97 #[.pointer (some ⟨ba, 0, none⟩), .int .i64 b, .agg #[.int .i64 t, .int .i64 x]] H fun v H' => (∃ z, v = .tuple #[.int .i64 z, .bool false]) ∧ H' = H := by
  have hrr := rsR (g A.ws b)
  have hsm : ∀ i : Int, 0 ≤ i → i < n → rvT A.ws (b + 1 + 4 * i) ≠ 0 → A.same (rvT A.ws (b + 1 + 4 * i)) (rvN A.ws (b + 1 + 4 * i)) t x = false := fun i i0 i1 hne => by
    have := h9 i i0 i1
    unfold Ar.same; rw [if_neg (by omega)]
  refine enter3 Tryz.func97 rfl rfl Tryz.ntmps97 rfl ?_
  repeat' (first | (apply gCall; apply L_call rfl rfl rfl rfl rfl; (· first | exact head_c at_ at_ hw om om | exact val2_c at_ at_ hw (hR _ om om) om om om | exact hashNo_c hno | exact isame_c at_ at_ hw hm hh hs (hK _ om om) hkt (hQ _ om om) p1); rintro _ _ ⟨rfl, rfl⟩) | (apply gL; first | refine L_nil ?_ | refine yX fun _ => ?_ | refine yA fun _ => ?_ | (apply gSt; first | refine sR ?_ | refine sB ?_ | refine s1 ?_ | refine sW ?_ | refine sN ?_) | refine kV ?_) | (apply gW; first | refine W_seq ?_ | refine W_region ?_ | refine W_ret ?_ | refine W_skip ?_ | refine W_block ?_ | refine W_exit ?_ | refine W_cond1 rfl ?_ | refine W_cond0 rfl ?_ | refine cW (fun h => ?_) fun h => ?_) | (first | refine seqR.normal ?_ | refine seqR.ret ?_ | refine seqR.exit ?_ | refine blockR.normal ?_ | refine blockR.ret ?_ | refine blockR.here ?_ | refine blockR.exit rfl ?_ | refine loopR.ret ?_ | refine loopR.exit ?_) | fail)
  rename_i bx
  apply W_loopX (α := Int × Int) (fun y => [(0, .pointer (some ⟨ba, 0, none⟩)), (1, .int .i64 b), (8, .int .i64 n), (5, .pointer (some ⟨bx, 0, none⟩)), (9, .int .i64 y.2), (21, .int .i64 n), (22, .int .i64 y.1)]) (fun _ => (bx, .cells #[.int .i64 t, .int .i64 x] 47 (0, 0)) :: H)
    (fun y => 0 ≤ y.1 ∧ y.1 ≤ n ∧ 0 ≤ y.2 ∧ y.2 < n) (fun y => (n - y.1).toNat) (0, x % n)
  · subst hn; exact sub_
  · exact cvt_
  · have := Int.emod_nonneg x (show n ≠ 0 by omega)
    have := Int.emod_lt_of_pos x (show 0 < n by omega)
    exact ⟨by dsimp only; omega, by dsimp only; omega, by dsimp only; omega, by dsimp only; omega⟩
  rintro ⟨s, i⟩ ⟨hj, hj2, hi, hi2⟩
  dsimp only at hj hj2 hi hi2 ⊢
  repeat' (first | (apply gCall; apply L_call rfl rfl rfl rfl rfl; (· first | exact head_c at_ at_ hw om om | exact val2_c at_ at_ hw (hR _ om om) om om om | exact hashNo_c hno | exact isame_c at_ at_ hw hm hh hs (hK _ om om) hkt (hQ _ om om) p1); rintro _ _ ⟨rfl, rfl⟩) | (apply gL; first | refine L_nil ?_ | refine yX fun _ => ?_ | refine yA fun _ => ?_ | (apply gSt; first | refine sR ?_ | refine sB ?_ | refine s1 ?_ | refine sW ?_ | refine sN ?_) | refine kV ?_) | (apply gW; first | refine W_seq ?_ | refine W_region ?_ | refine W_ret ?_ | refine W_skip ?_ | refine W_block ?_ | refine W_exit ?_ | refine W_cond1 rfl ?_ | refine W_cond0 rfl ?_ | refine cW (fun h => ?_) fun h => ?_) | (first | refine seqR.normal ?_ | refine seqR.ret ?_ | refine seqR.exit ?_ | refine blockR.normal ?_ | refine blockR.ret ?_ | refine blockR.here ?_ | refine blockR.exit rfl ?_ | refine loopR.ret ?_ | refine loopR.exit ?_) | fail)
  · exact retR.ret _ _ (ret2 rfl rfl rfl) cv_ ⟨⟨_, rfl⟩, rfl⟩
  · rw [hsm i hi hi2 (by assumption)] at h; cases h
  · have h2 := Int.emod_nonneg (i + 1) (show n ≠ 0 by omega)
    have h3 := Int.emod_lt_of_pos (i + 1) (show 0 < n by omega)
    apply loopR.mk (s + 1, (i + 1) % n)
    · exact sub_
    · exact cvt_
    · exact ⟨by dsimp only; omega, by dsimp only; omega, by dsimp only; omega, by dsimp only; omega⟩
    · dsimp only; omega
  · exact retR.ret _ _ (ret2 rfl rfl rfl) cv_ ⟨⟨_, rfl⟩, rfl⟩
end Go.Proofs.YtepddopgmhdllaaGreat.Eng
