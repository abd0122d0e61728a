/- The reference's words: within, heads, values. -/
import Derived.Test.YtfhihnonafklbaaBkV
namespace Go.Proofs.Ytfhihnonafklbaa.Eng
open Go Go.RowKit Go.Proofs.Ytfhihnonafklbaa.Sl Go.Proofs.Ytfhihnonafklbaa.Ar Go.Proofs.Ytfhihnonafklbaa.Base
set_option linter.unusedVariables false
set_option linter.unusedSimpArgs false
set_option maxRecDepth 10000
variable {w0 : World} {H : HL}
theorem l1In_c (x lo hi : Int) : Fn Try.prog w0 58 #[.int .i64 x, .int .i64 lo, .int .i64 hi] H fun v H' => v = .bool (inB x lo hi) ∧ H' = H := by
  refine enter3 Try.func58 rfl rfl Try.ntmps58 rfl ?_
  repeat' (first | (apply gCall; apply L_call rfl rfl rfl rfl rfl; (· first | exact l1In_c _ _ _); rintro _ _ ⟨rfl, rfl⟩) | (apply gL; first | refine L_nil ?_ | refine yS ?_ | refine yX fun _ => ?_ | refine kV ?_ | (apply L_val rfl rfl rfl; (· first | (apply gBin; first | fail | exact v_addw rfl rfl | exact v_mulw rfl rfl | exact v_andv rfl rfl (by first | exact and15 om om | exact and65535 om om | exact and32 om om | exact and63 om om) | exact v_shrv (c := 16) rfl rfl (by decide) (by decide) (by decide) | exact v_shrv (c := 1048576) rfl rfl (by decide) (by decide) (by decide) | exact v_shrv (c := 9223372036854775808) rfl rfl (by decide) (by decide) (by decide)) | fail )) | ((fail_if_success (refine L_known rfl ?_)); refine yW (fun h => ?_) fun h => ?_)) | (apply gW; first | refine W_seq ?_ | refine W_region ?_ | refine W_ret ?_ | refine W_skip ?_ | refine W_block ?_ | refine W_exit ?_ | refine W_cond1 rfl ?_ | refine W_cond0 rfl ?_ | refine cW (fun h => ?_) fun h => ?_) | (first | refine seqR.normal ?_ | refine seqR.ret ?_ | refine seqR.exit ?_ | refine blockR.normal ?_ | refine blockR.ret ?_ | refine blockR.here ?_ | refine blockR.exit rfl ?_) | fail)
  all_goals refine retR.ret _ _ (ret1 rfl rfl) cv_ ⟨?_, rfl⟩
  all_goals unfold inB
  all_goals (first | rfl | exact bx om | exact b0 om | exact b1 om | exact bn om)
set_option maxHeartbeats 1000000 in
theorem specHeadOk_c (k s n : Int) : Fn Try.prog w0 69 #[.agg #[.int .i64 k, .int .i64 s, .int .i64 n]] H fun v H' => v = .bool (headOk k s n) ∧ H' = H := by
  refine enter1 Try.func69 rfl rfl Try.ntmps69 rfl ?_
  repeat' (first | (apply gCall; apply L_call rfl rfl rfl rfl rfl; (· first | exact l1In_c _ _ _); rintro _ _ ⟨rfl, rfl⟩) | (apply gL; first | refine L_nil ?_ | refine yS ?_ | refine yX fun _ => ?_ | refine kV ?_ | (apply L_val rfl rfl rfl; (· first | (apply gBin; first | fail | exact v_addw rfl rfl | exact v_mulw rfl rfl | exact v_andv rfl rfl (by first | exact and15 om om | exact and65535 om om | exact and32 om om | exact and63 om om) | exact v_shrv (c := 16) rfl rfl (by decide) (by decide) (by decide) | exact v_shrv (c := 1048576) rfl rfl (by decide) (by decide) (by decide) | exact v_shrv (c := 9223372036854775808) rfl rfl (by decide) (by decide) (by decide)) | fail )) | ((fail_if_success (refine L_known rfl ?_)); refine yW (fun h => ?_) fun h => ?_)) | (apply gW; first | refine W_seq ?_ | refine W_region ?_ | refine W_ret ?_ | refine W_skip ?_ | refine W_block ?_ | refine W_exit ?_ | refine W_cond1 rfl ?_ | refine W_cond0 rfl ?_ | refine cW (fun h => ?_) fun h => ?_) | (first | refine seqR.normal ?_ | refine seqR.ret ?_ | refine seqR.exit ?_ | refine blockR.normal ?_ | refine blockR.ret ?_ | refine blockR.here ?_ | refine blockR.exit rfl ?_) | fail)
  all_goals refine retR.ret _ _ (ret1 rfl rfl) cv_ ⟨?_, rfl⟩
  all_goals unfold headOk
  all_goals (try unfold inB)
  all_goals (try unfold HeadP SizeP BornP)
  all_goals (first | rfl | exact bx om | exact b0 om | exact b1 om | exact bn om)
end Go.Proofs.Ytfhihnonafklbaa.Eng
namespace Go.Proofs.Ytfhihnonafklbaa.Eng
open Go Go.RowKit Go.Proofs.Ytfhihnonafklbaa.Sl Go.Proofs.Ytfhihnonafklbaa.Ar Go.Proofs.Ytfhihnonafklbaa.Base
set_option linter.unusedVariables false
set_option linter.unusedSimpArgs false
set_option maxRecDepth 10000
variable {w0 : World} {H : HL} {C : Cn} {A : Ar}
def packU (k s n : Int) : Int := IntKind.u64.wrap (IntKind.u64.wrap (IntKind.u64.wrap k + IntKind.u64.wrap (IntKind.u64.wrap s * 16)) + IntKind.u64.wrap (IntKind.u64.wrap n * 1048576))
theorem specPackHead_c (k s n : Int) : Fn Try.prog w0 84 #[.agg #[.int .i64 k, .int .i64 s, .int .i64 n]] H fun v H' => v = .tuple #[.int .u64 (if headOk k s n = true then packU k s n else 0), .bool (headOk k s n)] ∧ H' = H := by
  refine enter1 Try.func84 rfl rfl Try.ntmps84 rfl ?_
  repeat' (first | (apply gCall; apply L_call rfl rfl rfl rfl rfl; (· first | exact l1In_c _ _ _ | exact specHeadOk_c _ _ _ | exact specPackHead_c _ _ _ | exact l1Kind_c _ | exact specIsRef_c _ _ | exact specValOk_c _ _ | exact specReadHead_c om om | exact specForwarded_c om om); rintro _ _ ⟨rfl, rfl⟩) | (apply gL; first | refine L_nil ?_ | refine yS ?_ | refine yX fun _ => ?_ | refine yA fun _ => ?_ | (apply gSt; first | refine sR ?_ | refine sB ?_ | refine s1 ?_ | refine sW ?_ | refine sN ?_) | refine kV ?_ | (apply L_val rfl rfl rfl; (· first | (apply gBin; first | fail | exact v_addw rfl rfl | exact v_mulw rfl rfl | exact v_andv rfl rfl (by first | exact and15 om om | exact and65535 om om | exact and32 om om | exact and63 om om) | exact v_shrv (c := 16) rfl rfl (by decide) (by decide) (by decide) | exact v_shrv (c := 1048576) rfl rfl (by decide) (by decide) (by decide) | exact v_shrv (c := 9223372036854775808) rfl rfl (by decide) (by decide) (by decide)) | fail )) | ((fail_if_success (refine L_known rfl ?_)); refine yW (fun h => ?_) fun h => ?_)) | (apply gW; first | refine W_seq ?_ | refine W_region ?_ | refine W_ret ?_ | refine W_skip ?_ | refine W_block ?_ | refine W_exit ?_ | refine W_cond1 rfl ?_ | refine W_cond0 rfl ?_ | refine cW (fun h => ?_) fun h => ?_) | (first | refine seqR.normal ?_ | refine seqR.ret ?_ | refine seqR.exit ?_ | refine blockR.normal ?_ | refine blockR.ret ?_ | refine blockR.here ?_ | refine blockR.exit rfl ?_) | fail)
  all_goals refine retR.ret _ _ (ret2 rfl rfl rfl) cv_ ⟨?_, rfl⟩
  · rename_i h; simp [headOk, h]
  · rename_i h; simp [headOk, h, packU]
theorem l1Kind_c (t : Int) : Fn Try.prog w0 68 #[.int .i64 t] H fun v H' => v = .int .i64 (kd t) ∧ H' = H := by
  refine enter1 Try.func68 rfl rfl Try.ntmps68 rfl ?_
  repeat' (first | (apply gCall; apply L_call rfl rfl rfl rfl rfl; (· first | exact l1In_c _ _ _ | exact specHeadOk_c _ _ _ | exact specPackHead_c _ _ _ | exact l1Kind_c _ | exact specIsRef_c _ _ | exact specValOk_c _ _ | exact specReadHead_c om om | exact specForwarded_c om om); rintro _ _ ⟨rfl, rfl⟩) | (apply gL; first | refine L_nil ?_ | refine yS ?_ | refine yX fun _ => ?_ | refine yA fun _ => ?_ | (apply gSt; first | refine sR ?_ | refine sB ?_ | refine s1 ?_ | refine sW ?_ | refine sN ?_) | refine kV ?_ | (apply L_val rfl rfl rfl; (· first | (apply gBin; first | fail | exact v_addw rfl rfl | exact v_mulw rfl rfl | exact v_andv rfl rfl (by first | exact and15 om om | exact and65535 om om | exact and32 om om | exact and63 om om) | exact v_shrv (c := 16) rfl rfl (by decide) (by decide) (by decide) | exact v_shrv (c := 1048576) rfl rfl (by decide) (by decide) (by decide) | exact v_shrv (c := 9223372036854775808) rfl rfl (by decide) (by decide) (by decide)) | fail )) | ((fail_if_success (refine L_known rfl ?_)); refine yW (fun h => ?_) fun h => ?_)) | (apply gW; first | refine W_seq ?_ | refine W_region ?_ | refine W_ret ?_ | refine W_skip ?_ | refine W_block ?_ | refine W_exit ?_ | refine W_cond1 rfl ?_ | refine W_cond0 rfl ?_ | refine cW (fun h => ?_) fun h => ?_) | (first | refine seqR.normal ?_ | refine seqR.ret ?_ | refine seqR.exit ?_ | refine blockR.normal ?_ | refine blockR.ret ?_ | refine blockR.here ?_ | refine blockR.exit rfl ?_) | fail)
  all_goals refine retR.ret _ _ (ret1 rfl rfl) cv_ ⟨?_, rfl⟩
  all_goals simp [kd, kindOf, *]
theorem specIsRef_c (t n : Int) : Fn Try.prog w0 38 #[.agg #[.int .i64 t, .int .i64 n]] H fun v H' => v = .bool (isRef t) ∧ H' = H := by
  refine enter1 Try.func38 rfl rfl Try.ntmps38 rfl ?_
  repeat' (first | (apply gCall; apply L_call rfl rfl rfl rfl rfl; (· first | exact l1In_c _ _ _ | exact specHeadOk_c _ _ _ | exact specPackHead_c _ _ _ | exact l1Kind_c _ | exact specIsRef_c _ _ | exact specValOk_c _ _ | exact specReadHead_c om om | exact specForwarded_c om om); rintro _ _ ⟨rfl, rfl⟩) | (apply gL; first | refine L_nil ?_ | refine yS ?_ | refine yX fun _ => ?_ | refine yA fun _ => ?_ | (apply gSt; first | refine sR ?_ | refine sB ?_ | refine s1 ?_ | refine sW ?_ | refine sN ?_) | refine kV ?_ | (apply L_val rfl rfl rfl; (· first | (apply gBin; first | fail | exact v_addw rfl rfl | exact v_mulw rfl rfl | exact v_andv rfl rfl (by first | exact and15 om om | exact and65535 om om | exact and32 om om | exact and63 om om) | exact v_shrv (c := 16) rfl rfl (by decide) (by decide) (by decide) | exact v_shrv (c := 1048576) rfl rfl (by decide) (by decide) (by decide) | exact v_shrv (c := 9223372036854775808) rfl rfl (by decide) (by decide) (by decide)) | fail )) | ((fail_if_success (refine L_known rfl ?_)); refine yW (fun h => ?_) fun h => ?_)) | (apply gW; first | refine W_seq ?_ | refine W_region ?_ | refine W_ret ?_ | refine W_skip ?_ | refine W_block ?_ | refine W_exit ?_ | refine W_cond1 rfl ?_ | refine W_cond0 rfl ?_ | refine cW (fun h => ?_) fun h => ?_) | (first | refine seqR.normal ?_ | refine seqR.ret ?_ | refine seqR.exit ?_ | refine blockR.normal ?_ | refine blockR.ret ?_ | refine blockR.here ?_ | refine blockR.exit rfl ?_) | fail)
  all_goals refine retR.ret _ _ (ret1 rfl rfl) cv_ ⟨?_, rfl⟩
  unfold isRef
  (first | rfl | exact bx om | exact b0 om | exact b1 om | exact bn om)
set_option maxHeartbeats 1000000 in
theorem specValOk_c (t n : Int) : Fn Try.prog w0 36 #[.agg #[.int .i64 t, .int .i64 n]] H fun v H' => v = .bool (valOk t n) ∧ H' = H := by
  refine enter1 Try.func36 rfl rfl Try.ntmps36 rfl ?_
  repeat' (first | (apply gCall; apply L_call rfl rfl rfl rfl rfl; (· first | exact l1In_c _ _ _ | exact specHeadOk_c _ _ _ | exact specPackHead_c _ _ _ | exact l1Kind_c _ | exact specIsRef_c _ _ | exact specValOk_c _ _ | exact specReadHead_c om om | exact specForwarded_c om om); rintro _ _ ⟨rfl, rfl⟩) | (apply gL; first | refine L_nil ?_ | refine yS ?_ | refine yX fun _ => ?_ | refine yA fun _ => ?_ | (apply gSt; first | refine sR ?_ | refine sB ?_ | refine s1 ?_ | refine sW ?_ | refine sN ?_) | refine kV ?_ | (apply L_val rfl rfl rfl; (· first | (apply gBin; first | fail | exact v_addw rfl rfl | exact v_mulw rfl rfl | exact v_andv rfl rfl (by first | exact and15 om om | exact and65535 om om | exact and32 om om | exact and63 om om) | exact v_shrv (c := 16) rfl rfl (by decide) (by decide) (by decide) | exact v_shrv (c := 1048576) rfl rfl (by decide) (by decide) (by decide) | exact v_shrv (c := 9223372036854775808) rfl rfl (by decide) (by decide) (by decide)) | fail )) | ((fail_if_success (refine L_known rfl ?_)); refine yW (fun h => ?_) fun h => ?_)) | (apply gW; first | refine W_seq ?_ | refine W_region ?_ | refine W_ret ?_ | refine W_skip ?_ | refine W_block ?_ | refine W_exit ?_ | refine W_cond1 rfl ?_ | refine W_cond0 rfl ?_ | refine cW (fun h => ?_) fun h => ?_) | (first | refine seqR.normal ?_ | refine seqR.ret ?_ | refine seqR.exit ?_ | refine blockR.normal ?_ | refine blockR.ret ?_ | refine blockR.here ?_ | refine blockR.exit rfl ?_) | fail)
  all_goals refine retR.ret _ _ (ret1 rfl rfl) cv_ ⟨?_, rfl⟩
  all_goals unfold valOk ValP
  all_goals (try unfold inB)
  all_goals (try unfold kd kindOf at *)
  all_goals (first | rfl | exact bx om | exact b0 om | exact b1 om | exact bn om)
theorem hOk_of {x : Int} (h0 : 0 ≤ x) (h1 : x < 18446744073709551616) : headOk (x % 16) (x / 16 % 65536) (x / 1048576 % 4294967296) = true ∧ packU (x % 16) (x / 16 % 65536) (x / 1048576 % 4294967296) = x ↔ hOk x = true := by
  unfold hOk headOk packU hk hs hn
  simp only [decide_eq_true_eq, IntKind.wrap_u64]
  constructor
  · rintro ⟨h, e⟩
    have r := h.range
    have : x / 1048576 < 4294967296 := by omega
    rwa [show x / 1048576 % 4294967296 = x / 1048576 by omega] at h
  · intro h
    have r := h.range
    have e2 : x / 1048576 % 4294967296 = x / 1048576 := by omega
    rw [e2]
    exact ⟨h, by omega⟩
set_option maxHeartbeats 1000000 in
theorem specReadHead_c {x : Int} (h0 : 0 ≤ x) (h1 : x < 18446744073709551616) : Fn Try.prog w0 61 #[.int .u64 x] H fun v H' => v = .tuple #[hdV x, .bool (hOk x)] ∧ H' = H := by
  have hk := hOk_of h0 h1
  refine enter1 Try.func61 rfl rfl Try.ntmps61 rfl ?_
  repeat' (first | (apply gCall; apply L_call rfl rfl rfl rfl rfl; (· first | exact l1In_c _ _ _ | exact specHeadOk_c _ _ _ | exact specPackHead_c _ _ _ | exact l1Kind_c _ | exact specIsRef_c _ _ | exact specValOk_c _ _ | exact specReadHead_c om om | exact specForwarded_c om om); rintro _ _ ⟨rfl, rfl⟩) | (apply gL; first | refine L_nil ?_ | refine yS ?_ | refine yX fun _ => ?_ | refine yA fun _ => ?_ | (apply gSt; first | refine sR ?_ | refine sB ?_ | refine s1 ?_ | refine sW ?_ | refine sN ?_) | refine kV ?_ | (apply L_val rfl rfl rfl; (· first | (apply gBin; first | fail | exact v_addw rfl rfl | exact v_mulw rfl rfl | exact v_andv rfl rfl (by first | exact and15 om om | exact and65535 om om | exact and32 om om | exact and63 om om) | exact v_shrv (c := 16) rfl rfl (by decide) (by decide) (by decide) | exact v_shrv (c := 1048576) rfl rfl (by decide) (by decide) (by decide) | exact v_shrv (c := 9223372036854775808) rfl rfl (by decide) (by decide) (by decide)) | fail )) | ((fail_if_success (refine L_known rfl ?_)); refine yW (fun h => ?_) fun h => ?_)) | (apply gW; first | refine W_seq ?_ | refine W_region ?_ | refine W_ret ?_ | refine W_skip ?_ | refine W_block ?_ | refine W_exit ?_ | refine W_cond1 rfl ?_ | refine W_cond0 rfl ?_ | refine cW (fun h => ?_) fun h => ?_) | (first | refine seqR.normal ?_ | refine seqR.ret ?_ | refine seqR.exit ?_ | refine blockR.normal ?_ | refine blockR.ret ?_ | refine blockR.here ?_ | refine blockR.exit rfl ?_) | fail)
  all_goals (refine retR.ret _ _ (retCT rfl rfl at_ (by rfl) rfl) cv_ ⟨?_, rfl⟩)
  · rename_i h
    have e : hOk x = false := by
      cases e : hOk x
      · rfl
      · exact absurd (hk.2 e).1 (by simp [headOk, h])
    simp [hdV, rk, rs, rn, e]
  · rename_i h' h
    have e : hOk x = false := by
      cases e : hOk x
      · rfl
      · obtain ⟨h1, h2⟩ := hk.2 e
        rw [if_pos h1] at h
        exact absurd h2 h
    simp [hdV, rk, rs, rn, e]
  · rename_i h
    have h1 : headOk (x % 16) (x / 16 % 65536) (x / 1048576 % 4294967296) = true := by simp only [headOk, decide_eq_true_eq]; assumption
    rw [if_pos h1] at h
    have e := hk.1 ⟨h1, h⟩
    have e2 : x / 1048576 % 4294967296 = x / 1048576 := by
      have : HeadP (Ar.hk x) (Ar.hs x) (Ar.hn x) := by simpa [hOk, headOk] using e
      have := this.range
      unfold Ar.hn at this
      omega
    simp [hdV, rk, rs, rn, e, e2, Ar.hk, Ar.hs, Ar.hn]
theorem specForwarded_c {x : Int} (h0 : 0 ≤ x) (h1 : x < 18446744073709551616) : Fn Try.prog w0 62 #[.int .u64 x] H fun v H' => v = .tuple #[.int .i64 (fw x), .bool (isFw x)] ∧ H' = H := by
  refine enter1 Try.func62 rfl rfl Try.ntmps62 rfl ?_
  repeat' (first | (apply gCall; apply L_call rfl rfl rfl rfl rfl; (· first | exact l1In_c _ _ _ | exact specHeadOk_c _ _ _ | exact specPackHead_c _ _ _ | exact l1Kind_c _ | exact specIsRef_c _ _ | exact specValOk_c _ _ | exact specReadHead_c om om | exact specForwarded_c om om); rintro _ _ ⟨rfl, rfl⟩) | (apply gL; first | refine L_nil ?_ | refine yS ?_ | refine yX fun _ => ?_ | refine yA fun _ => ?_ | (apply gSt; first | refine sR ?_ | refine sB ?_ | refine s1 ?_ | refine sW ?_ | refine sN ?_) | refine kV ?_ | (apply L_val rfl rfl rfl; (· first | (apply gBin; first | fail | exact v_addw rfl rfl | exact v_mulw rfl rfl | exact v_andv rfl rfl (by first | exact and15 om om | exact and65535 om om | exact and32 om om | exact and63 om om) | exact v_shrv (c := 16) rfl rfl (by decide) (by decide) (by decide) | exact v_shrv (c := 1048576) rfl rfl (by decide) (by decide) (by decide) | exact v_shrv (c := 9223372036854775808) rfl rfl (by decide) (by decide) (by decide)) | fail )) | ((fail_if_success (refine L_known rfl ?_)); refine yW (fun h => ?_) fun h => ?_)) | (apply gW; first | refine W_seq ?_ | refine W_region ?_ | refine W_ret ?_ | refine W_skip ?_ | refine W_block ?_ | refine W_exit ?_ | refine W_cond1 rfl ?_ | refine W_cond0 rfl ?_ | refine cW (fun h => ?_) fun h => ?_) | (first | refine seqR.normal ?_ | refine seqR.ret ?_ | refine seqR.exit ?_ | refine blockR.normal ?_ | refine blockR.ret ?_ | refine blockR.here ?_ | refine blockR.exit rfl ?_) | fail)
  all_goals refine retR.ret _ _ (ret2 rfl rfl rfl) cv_ ⟨?_, rfl⟩
  · have e : isFw x = false := by unfold isFw; exact decide_eq_false (by omega)
    simp [fw, e]
  · have e : isFw x = false := by unfold isFw; exact decide_eq_false (by omega)
    simp [fw, e]
  · have e : isFw x = true := by unfold isFw; exact decide_eq_true (by omega)
    simp [fw, e]; omega
end Go.Proofs.Ytfhihnonafklbaa.Eng
namespace Go.Proofs.Ytfhihnonafklbaa.Eng
open Go Go.RowKit Go.Proofs.Ytfhihnonafklbaa.Sl Go.Proofs.Ytfhihnonafklbaa.Ar Go.Proofs.Ytfhihnonafklbaa.Base
set_option linter.unusedVariables false
set_option linter.unusedSimpArgs false
set_option maxRecDepth 10000
variable {w0 : World} {H : HL} {C : Cn} {A : Ar}
def Wf (ws : List Int) : Prop := ∀ p, 0 ≤ g ws p ∧ g ws p < 18446744073709551616
theorem l1Read_c {ws : List Int} {sp : List Value} {b c : Nat} {T : TypeId} {p : Int} (hA : At H b (.cells (rowA .u64 ws sp) T (0, 0))) (hw : Wf ws) (h0 : 0 ≤ p) (h1 : p + 1 < (ws.length : Int)) (hm : (ws.length : Int) ≤ 9000) :
    Fn Try.prog w0 44 #[.slice (some ⟨b, 0, none⟩) ws.length c, .int .i64 p] H fun v H' => v = .tuple #[.agg #[.int .i64 (rvT ws p), .int .i64 (rvN ws p)], .bool (rv ws p)] ∧ H' = H := by
  have hp := hw p
  have hq := hw (p + 1)
  refine enter2 Try.func44 rfl rfl Try.ntmps44 rfl ?_
  repeat' (first | (apply gCall; apply L_call rfl rfl rfl rfl rfl; (· first | exact l1In_c _ _ _ | exact l1Kind_c _ | exact specIsRef_c _ _ | exact specValOk_c _ _ | exact specReadHead_c om om | exact specForwarded_c om om); rintro _ _ ⟨rfl, rfl⟩) | (apply gL; first | refine L_nil ?_ | refine yX fun _ => ?_ | refine yA fun _ => ?_ | (apply gSt; first | refine sR ?_ | refine sB ?_ | refine s1 ?_ | refine sW ?_ | refine sN ?_) | refine kV ?_) | (apply gW; first | refine W_seq ?_ | refine W_region ?_ | refine W_ret ?_ | refine W_skip ?_ | refine W_cond1 rfl ?_ | refine W_cond0 rfl ?_ | refine cW (fun h => ?_) fun h => ?_) | (first | refine seqR.normal ?_ | refine seqR.ret ?_) | fail)
  · refine retR.ret _ _ (retCT rfl rfl at_ (by rfl) rfl) cv_ ⟨?_, rfl⟩
    have e : rv ws p = false := by unfold rv; rw [decide_eq_false (by omega)]; rfl
    simp [rvT, rvN, e]
  · apply W_regionA (by kernel_rfl)
    refine kA 0 ?_
    refine kA 1 ?_
    refine kA 2 ?_
    refine kA 3 ?_
    refine kA 4 ?_
    refine kA 5 ?_
    refine kA 6 ?_
    refine kA 7 ?_
    refine kA 8 ?_
    refine kA 9 ?_
    refine kA 10 ?_
    refine kA 11 ?_
    refine A_one (i := 12) (by kernel_rfl) cv_ rfl (O_of_L fun S hS => ?_)
    first | (apply gCall; apply L_call rfl rfl rfl rfl rfl; (· first | exact l1In_c _ _ _ | exact l1Kind_c _ | exact specIsRef_c _ _ | exact specValOk_c _ _ | exact specReadHead_c om om | exact specForwarded_c om om); rintro _ _ ⟨rfl, rfl⟩) | (apply gL; first | refine L_nil ?_ | refine yX fun _ => ?_ | refine yA fun _ => ?_ | (apply gSt; first | refine sR ?_ | refine sB ?_ | refine s1 ?_ | refine sW ?_ | refine sN ?_) | refine kV ?_)
    refine L_nil (hS _ _ ?_)
    clear hS
    refine A_one (i := 13) (by kernel_rfl) cv_ rfl (O_of_L fun S hS => ?_)
    first | (apply gCall; apply L_call rfl rfl rfl rfl rfl; (· first | exact l1In_c _ _ _ | exact l1Kind_c _ | exact specIsRef_c _ _ | exact specValOk_c _ _ | exact specReadHead_c om om | exact specForwarded_c om om); rintro _ _ ⟨rfl, rfl⟩) | (apply gL; first | refine L_nil ?_ | refine yX fun _ => ?_ | refine yA fun _ => ?_ | (apply gSt; first | refine sR ?_ | refine sB ?_ | refine s1 ?_ | refine sW ?_ | refine sN ?_) | refine kV ?_)
    refine L_nil (hS _ _ ?_)
    clear hS
    refine A_nil (by kernel_rfl) cv_ ?_
    repeat' (first | (apply gCall; apply L_call rfl rfl rfl rfl rfl; (· first | exact l1In_c _ _ _ | exact l1Kind_c _ | exact specIsRef_c _ _ | exact specValOk_c _ _ | exact specReadHead_c om om | exact specForwarded_c om om); rintro _ _ ⟨rfl, rfl⟩) | (apply gL; first | refine L_nil ?_ | refine yX fun _ => ?_ | refine yA fun _ => ?_ | (apply gSt; first | refine sR ?_ | refine sB ?_ | refine s1 ?_ | refine sW ?_ | refine sN ?_) | refine kV ?_) | (apply gW; first | refine W_seq ?_ | refine W_region ?_ | refine W_ret ?_ | refine W_skip ?_ | refine W_cond1 rfl ?_ | refine W_cond0 rfl ?_ | refine cW (fun h => ?_) fun h => ?_) | (first | refine seqR.normal ?_ | refine seqR.ret ?_) | fail)
    all_goals (refine retR.ret _ _ (retCT rfl rfl at_ (by rfl) rfl) cv_ ⟨?_, rfl⟩)
    all_goals (rename_i h; simp [rvT, rvN, rv_eq, valOk, h])
theorem l2Where_c {p : Int} (hA : At H C.bw (wObj C A)) (hw : Wf A.ws) (h0 : 0 ≤ p) (h1 : p < (A.ws.length : Int)) :
    Fn Try.prog w0 40 #[arV C A, .int .i64 p] H fun v H' => v = .int .i64 (A.where_ p) ∧ H' = H := by
  have hp := hw p
  refine enter2 Try.func40 rfl rfl Try.ntmps40 rfl ?_
  repeat' (first | (apply gCall; apply L_call rfl rfl rfl rfl rfl; (· first | exact l1In_c _ _ _ | exact l1Kind_c _ | exact specIsRef_c _ _ | exact specValOk_c _ _ | exact specReadHead_c om om | exact specForwarded_c om om); rintro _ _ ⟨rfl, rfl⟩) | (apply gL; first | refine L_nil ?_ | refine yX fun _ => ?_ | refine yA fun _ => ?_ | (apply gSt; first | refine sR ?_ | refine sB ?_ | refine s1 ?_ | refine sW ?_ | refine sN ?_) | refine kV ?_) | (apply gW; first | refine W_seq ?_ | refine W_region ?_ | refine W_ret ?_ | refine W_skip ?_ | refine W_cond1 rfl ?_ | refine W_cond0 rfl ?_ | refine cW (fun h => ?_) fun h => ?_) | (first | refine seqR.normal ?_ | refine seqR.ret ?_) | fail)
  all_goals refine retR.ret _ _ (ret1 rfl rfl) cv_ ⟨?_, rfl⟩
  · rename_i h; have e : isFw (g A.ws p) = true := decide_eq_true h
    simp [Ar.where_, Ar.w, e]
  · rename_i h; have e : isFw (g A.ws p) = false := decide_eq_false h
    simp [Ar.where_, Ar.w, e]
theorem l2Look_c {p : Int} (hA : At H C.bw (wObj C A)) (hw : Wf A.ws) (h0 : 0 ≤ p) (h1 : p < (A.ws.length : Int)) :
    Fn Try.prog w0 34 #[arV C A, .int .i64 p] H fun v H' => v = hdV (g A.ws p) ∧ H' = H := by
  have hp := hw p
  refine enter2 Try.func34 rfl rfl Try.ntmps34 rfl ?_
  repeat' (first | (apply gCall; apply L_call rfl rfl rfl rfl rfl; (· first | exact l1In_c _ _ _ | exact l1Kind_c _ | exact specIsRef_c _ _ | exact specValOk_c _ _ | exact specReadHead_c om om | exact specForwarded_c om om); rintro _ _ ⟨rfl, rfl⟩) | (apply gL; first | refine L_nil ?_ | refine yX fun _ => ?_ | refine yA fun _ => ?_ | (apply gSt; first | refine sR ?_ | refine sB ?_ | refine s1 ?_ | refine sW ?_ | refine sN ?_) | refine kV ?_) | (apply gW; first | refine W_seq ?_ | refine W_region ?_ | refine W_ret ?_ | refine W_skip ?_ | refine W_cond1 rfl ?_ | refine W_cond0 rfl ?_ | refine cW (fun h => ?_) fun h => ?_) | (first | refine seqR.normal ?_ | refine seqR.ret ?_) | fail)
  refine retR.ret _ _ (retC rfl rfl at_ (by rfl)) cv_ ⟨?_, rfl⟩
  rfl
theorem l2Word_c {p i : Int} (hA : At H C.bw (wObj C A)) (hw : Wf A.ws) (h0 : 0 ≤ p + i) (h1 : p + i < (A.ws.length : Int)) (hm : (A.ws.length : Int) ≤ 9000) :
    Fn Try.prog w0 43 #[arV C A, .int .i64 p, .int .i64 i] H fun v H' => v = .int .i64 (sg (g A.ws (p + i))) ∧ H' = H := by
  have hp := hw (p + i)
  refine enter3 Try.func43 rfl rfl Try.ntmps43 rfl ?_
  repeat' (first | (apply gCall; apply L_call rfl rfl rfl rfl rfl; (· first | exact l1In_c _ _ _ | exact l1Kind_c _ | exact specIsRef_c _ _ | exact specValOk_c _ _ | exact specReadHead_c om om | exact specForwarded_c om om); rintro _ _ ⟨rfl, rfl⟩) | (apply gL; first | refine L_nil ?_ | refine yX fun _ => ?_ | refine yA fun _ => ?_ | (apply gSt; first | refine sR ?_ | refine sB ?_ | refine s1 ?_ | refine sW ?_ | refine sN ?_) | refine kV ?_) | (apply gW; first | refine W_seq ?_ | refine W_region ?_ | refine W_ret ?_ | refine W_skip ?_ | refine W_cond1 rfl ?_ | refine W_cond0 rfl ?_ | refine cW (fun h => ?_) fun h => ?_) | (first | refine seqR.normal ?_ | refine seqR.ret ?_) | fail)
  all_goals refine retR.ret _ _ (ret1 rfl rfl) cv_ ⟨?_, rfl⟩
  rfl
theorem l2Start_c {half : Int} (hh : half = 0 ∨ half = 1) (hs : 256 ≤ A.semi ∧ A.semi ≤ 4000) :
    Fn Try.prog w0 59 #[arV C A, .int .i64 half] H fun v H' => v = .int .i64 (A.start half) ∧ H' = H := by
  have hm : 0 ≤ half * A.semi ∧ half * A.semi ≤ 4000 := by rcases hh with rfl | rfl <;> omega
  refine enter2 Try.func59 rfl rfl Try.ntmps59 rfl ?_
  repeat' (first | (apply gCall; apply L_call rfl rfl rfl rfl rfl; (· first | exact l1In_c _ _ _ | exact l1Kind_c _ | exact specIsRef_c _ _ | exact specValOk_c _ _ | exact specReadHead_c om om | exact specForwarded_c om om); rintro _ _ ⟨rfl, rfl⟩) | (apply gL; first | refine L_nil ?_ | refine yX fun _ => ?_ | refine yA fun _ => ?_ | (apply gSt; first | refine sR ?_ | refine sB ?_ | refine s1 ?_ | refine sW ?_ | refine sN ?_) | refine kV ?_) | (apply gW; first | refine W_seq ?_ | refine W_region ?_ | refine W_ret ?_ | refine W_skip ?_ | refine W_cond1 rfl ?_ | refine W_cond0 rfl ?_ | refine cW (fun h => ?_) fun h => ?_) | (first | refine seqR.normal ?_ | refine seqR.ret ?_) | fail)
  all_goals refine retR.ret _ _ (ret1 rfl rfl) cv_ ⟨?_, rfl⟩
  rfl
theorem l2End_c (hh : A.to = 0 ∨ A.to = 1) (hs : 256 ≤ A.semi ∧ A.semi ≤ 4000) :
    Fn Try.prog w0 60 #[arV C A] H fun v H' => v = .int .i64 ((A.to + 1) * A.semi) ∧ H' = H := by
  have hm : 0 ≤ (A.to + 1) * A.semi ∧ (A.to + 1) * A.semi ≤ 8000 := by rcases hh with e | e <;> rw [e] <;> omega
  refine enter1 Try.func60 rfl rfl Try.ntmps60 rfl ?_
  repeat' (first | (apply gCall; apply L_call rfl rfl rfl rfl rfl; (· first | exact l1In_c _ _ _ | exact l1Kind_c _ | exact specIsRef_c _ _ | exact specValOk_c _ _ | exact specReadHead_c om om | exact specForwarded_c om om); rintro _ _ ⟨rfl, rfl⟩) | (apply gL; first | refine L_nil ?_ | refine yX fun _ => ?_ | refine yA fun _ => ?_ | (apply gSt; first | refine sR ?_ | refine sB ?_ | refine s1 ?_ | refine sW ?_ | refine sN ?_) | refine kV ?_) | (apply gW; first | refine W_seq ?_ | refine W_region ?_ | refine W_ret ?_ | refine W_skip ?_ | refine W_cond1 rfl ?_ | refine W_cond0 rfl ?_ | refine cW (fun h => ?_) fun h => ?_) | (first | refine seqR.normal ?_ | refine seqR.ret ?_) | fail)
  all_goals refine retR.ret _ _ (ret1 rfl rfl) cv_ ⟨?_, rfl⟩
  rfl
end Go.Proofs.Ytfhihnonafklbaa.Eng
namespace Go.Proofs.Ytfhihnonafklbaa.Eng
open Go Go.RowKit Go.Proofs.Ytfhihnonafklbaa.Sl Go.Proofs.Ytfhihnonafklbaa.Ar Go.Proofs.Ytfhihnonafklbaa.Base
set_option linter.unusedVariables false
set_option linter.unusedSimpArgs false
set_option maxRecDepth 10000
variable {w0 : World} {H : HL} {C : Cn} {A : Ar}
theorem slotsFrom_lt {f : Nat} {i s : Int} (h : i + 1 ≤ s) (hf : s - i + 2 ≤ 2 * (f : Int)) : ∃ f', f = f' + 1 ∧ slotsFrom f i s = i :: slotsFrom f' (i + 2) s := by
  cases f with
  | zero => omega
  | succ f => exact ⟨f, rfl, by rw [slotsFrom, if_pos h]⟩
theorem slotsFrom_ge {f : Nat} {i s : Int} (h : ¬ i + 1 ≤ s) : slotsFrom f i s = [] := by
  cases f with
  | zero => rfl
  | succ f => rw [slotsFrom, if_neg h]
theorem slotsLen {f : Nat} {i s : Int} : (slotsFrom f i s).length ≤ f := by
  induction f generalizing i with
  | zero => simp [slotsFrom]
  | succ f ih => 
    rw [slotsFrom]; split
    · have := ih (i := i + 2); simp; omega
    · simp
theorem Slots_c {k s : Int} (hz : SizeP k s) :
    Fn Try.prog w0 41 #[.int .i64 k, .int .i64 s] H fun v H' => ∃ b sp, v = .slice (some ⟨b, 0, none⟩) (slots k s).length ((slots k s).length + List.length sp) ∧ H' = (b, .cells (rowA .i64 (slots k s) sp) 3 (0, 0)) :: H := by
  have hs : 1 ≤ s ∧ s ≤ 256 ∧ 1 ≤ k ∧ k ≤ 6 := by unfold SizeP at hz; omega
  refine enter2 Try.func41 rfl rfl Try.ntmps41 rfl ?_
  repeat' (fail_if_success apply gAt 3); (first | (apply gCall; apply L_call rfl rfl rfl rfl rfl; (· first | exact l1In_c _ _ _ | exact specHeadOk_c _ _ _); rintro _ _ ⟨rfl, rfl⟩) | (apply gL; first | refine L_nil ?_ | refine yS ?_ | refine yA fun _ => ?_ | (apply gSt; first | refine sR ?_ | refine sB ?_ | refine s1 ?_ | refine sW ?_ | refine sN ?_) | (apply gBs; first | (refine L_bs0 rfl rfl rfl rfl (fun _ => ?_)) | (refine L_bs1 rfl rfl rfl rfl rfl rfl rfl (fun _ => ?_))) | (apply gApp; apply L_appI rfl rfl rfl rfl rfl rfl; (· exact at_); (· exact tk_); (· rfl); (· omega); intro _ _) | refine kV ?_ | ((fail_if_success (refine L_known rfl ?_)); refine yW (fun h => ?_) fun h => ?_)) | (apply gW; first | refine W_seq ?_ | refine W_region ?_ | refine W_ret ?_ | refine W_skip ?_ | refine W_block ?_ | refine W_exit ?_ | refine W_cond1 rfl ?_ | refine W_cond0 rfl ?_ | refine cW (fun h => ?_) fun h => ?_) | (first | refine seqR.normal ?_ | refine seqR.ret ?_ | refine seqR.exit ?_ | refine blockR.normal ?_ | refine blockR.ret ?_ | refine blockR.here ?_ | refine blockR.exit rfl ?_ | refine loopR.ret ?_ | refine loopR.exit ?_ | refine midA.ret ?_ | refine midA.exit ?_) | fail)
  refine W_midA (α := Nat × Nat × Int) (fun y => [(0, .int .i64 k), (1, .int .i64 s), (5, .slice (some ⟨y.1, 0, none⟩) 0 0), (6, .pointer (some ⟨y.2.1, 0, none⟩))]) (fun y => (y.1, .cells #[] 3 (0, 0)) :: (y.2.1, .cells #[.int .i64 k, .int .i64 s, .int .i64 y.2.2] 65 (0, 0)) :: H) (fun y => HeadP k s y.2.2) ?_ ?_
  · repeat' (first | (apply gCall; apply L_call rfl rfl rfl rfl rfl; (· first | exact l1In_c _ _ _ | exact specHeadOk_c _ _ _); rintro _ _ ⟨rfl, rfl⟩) | (apply gL; first | refine L_nil ?_ | refine yS ?_ | refine yA fun _ => ?_ | (apply gSt; first | refine sR ?_ | refine sB ?_ | refine s1 ?_ | refine sW ?_ | refine sN ?_) | (apply gBs; first | (refine L_bs0 rfl rfl rfl rfl (fun _ => ?_)) | (refine L_bs1 rfl rfl rfl rfl rfl rfl rfl (fun _ => ?_))) | (apply gApp; apply L_appI rfl rfl rfl rfl rfl rfl; (· exact at_); (· exact tk_); (· rfl); (· omega); intro _ _) | refine kV ?_ | ((fail_if_success (refine L_known rfl ?_)); refine yW (fun h => ?_) fun h => ?_)) | (apply gW; first | refine W_seq ?_ | refine W_region ?_ | refine W_ret ?_ | refine W_skip ?_ | refine W_block ?_ | refine W_exit ?_ | refine W_cond1 rfl ?_ | refine W_cond0 rfl ?_ | refine cW (fun h => ?_) fun h => ?_) | (first | refine seqR.normal ?_ | refine seqR.ret ?_ | refine seqR.exit ?_ | refine blockR.normal ?_ | refine blockR.ret ?_ | refine blockR.here ?_ | refine blockR.exit rfl ?_ | refine loopR.ret ?_ | refine loopR.exit ?_ | refine midA.ret ?_ | refine midA.exit ?_) | fail)
    · apply midA.mk (_, _, 1)
      · exact sub_
      · exact cvt_
      · dsimp only; exact ⟨hz, by unfold BornP; omega⟩
    · apply midA.mk (_, _, 1)
      · exact sub_
      · exact cvt_
      · dsimp only; exact ⟨hz, by unfold BornP; omega⟩
    · apply midA.mk (_, _, 1)
      · exact sub_
      · exact cvt_
      · dsimp only; exact ⟨hz, by unfold BornP; omega⟩
    · apply midA.mk (_, _, 0)
      · exact sub_
      · exact cvt_
      · dsimp only; exact ⟨hz, by unfold BornP; omega⟩
  rintro ⟨b, b', n⟩ hh
  dsimp only at hh ⊢
  repeat' (fail_if_success apply gAt 8); (first | (apply gCall; apply L_call rfl rfl rfl rfl rfl; (· first | exact l1In_c _ _ _ | exact specHeadOk_c _ _ _); rintro _ _ ⟨rfl, rfl⟩) | (apply gL; first | refine L_nil ?_ | refine yS ?_ | refine yA fun _ => ?_ | (apply gSt; first | refine sR ?_ | refine sB ?_ | refine s1 ?_ | refine sW ?_ | refine sN ?_) | (apply gBs; first | (refine L_bs0 rfl rfl rfl rfl (fun _ => ?_)) | (refine L_bs1 rfl rfl rfl rfl rfl rfl rfl (fun _ => ?_))) | (apply gApp; apply L_appI rfl rfl rfl rfl rfl rfl; (· exact at_); (· exact tk_); (· rfl); (· omega); intro _ _) | refine kV ?_ | ((fail_if_success (refine L_known rfl ?_)); refine yW (fun h => ?_) fun h => ?_)) | (apply gW; first | refine W_seq ?_ | refine W_region ?_ | refine W_ret ?_ | refine W_skip ?_ | refine W_block ?_ | refine W_exit ?_ | refine W_cond1 rfl ?_ | refine W_cond0 rfl ?_ | refine cW (fun h => ?_) fun h => ?_) | (first | refine seqR.normal ?_ | refine seqR.ret ?_ | refine seqR.exit ?_ | refine blockR.normal ?_ | refine blockR.ret ?_ | refine blockR.here ?_ | refine blockR.exit rfl ?_ | refine loopR.ret ?_ | refine loopR.exit ?_ | refine midA.ret ?_ | refine midA.exit ?_) | fail)
  · exact absurd hh ‹_›
  refine W_midA (α := Unit) (fun y => [(0, .int .i64 k), (1, .int .i64 s), (5, .slice (some ⟨b, 0, none⟩) 0 0), (7, .int .i64 (from_ k s))]) (fun y => (b, .cells #[] 3 (0, 0)) :: H) (fun y => True) ?_ ?_
  · repeat' (first | (apply gCall; apply L_call rfl rfl rfl rfl rfl; (· first | exact l1In_c _ _ _ | exact specHeadOk_c _ _ _); rintro _ _ ⟨rfl, rfl⟩) | (apply gL; first | refine L_nil ?_ | refine yS ?_ | refine yA fun _ => ?_ | (apply gSt; first | refine sR ?_ | refine sB ?_ | refine s1 ?_ | refine sW ?_ | refine sN ?_) | (apply gBs; first | (refine L_bs0 rfl rfl rfl rfl (fun _ => ?_)) | (refine L_bs1 rfl rfl rfl rfl rfl rfl rfl (fun _ => ?_))) | (apply gApp; apply L_appI rfl rfl rfl rfl rfl rfl; (· exact at_); (· exact tk_); (· rfl); (· omega); intro _ _) | refine kV ?_ | ((fail_if_success (refine L_known rfl ?_)); refine yW (fun h => ?_) fun h => ?_)) | (apply gW; first | refine W_seq ?_ | refine W_region ?_ | refine W_ret ?_ | refine W_skip ?_ | refine W_block ?_ | refine W_exit ?_ | refine W_cond1 rfl ?_ | refine W_cond0 rfl ?_ | refine cW (fun h => ?_) fun h => ?_) | (first | refine seqR.normal ?_ | refine seqR.ret ?_ | refine seqR.exit ?_ | refine blockR.normal ?_ | refine blockR.ret ?_ | refine blockR.here ?_ | refine blockR.exit rfl ?_ | refine loopR.ret ?_ | refine loopR.exit ?_ | refine midA.ret ?_ | refine midA.exit ?_) | fail)
    all_goals (refine midA.at_ () trivial ⟨rfl, rfl, rfl, lk (by unfold from_; omega), trivial⟩ cvt_)
  rintro _ _
  repeat' (first | (apply gCall; apply L_call rfl rfl rfl rfl rfl; (· first | exact l1In_c _ _ _ | exact specHeadOk_c _ _ _); rintro _ _ ⟨rfl, rfl⟩) | (apply gL; first | refine L_nil ?_ | refine yS ?_ | refine yA fun _ => ?_ | (apply gSt; first | refine sR ?_ | refine sB ?_ | refine s1 ?_ | refine sW ?_ | refine sN ?_) | (apply gBs; first | (refine L_bs0 rfl rfl rfl rfl (fun _ => ?_)) | (refine L_bs1 rfl rfl rfl rfl rfl rfl rfl (fun _ => ?_))) | (apply gApp; apply L_appI rfl rfl rfl rfl rfl rfl; (· exact at_); (· exact tk_); (· rfl); (· omega); intro _ _) | refine kV ?_ | ((fail_if_success (refine L_known rfl ?_)); refine yW (fun h => ?_) fun h => ?_)) | (apply gW; first | refine W_seq ?_ | refine W_region ?_ | refine W_ret ?_ | refine W_skip ?_ | refine W_block ?_ | refine W_exit ?_ | refine W_cond1 rfl ?_ | refine W_cond0 rfl ?_ | refine cW (fun h => ?_) fun h => ?_) | (first | refine seqR.normal ?_ | refine seqR.ret ?_ | refine seqR.exit ?_ | refine blockR.normal ?_ | refine blockR.ret ?_ | refine blockR.here ?_ | refine blockR.exit rfl ?_ | refine loopR.ret ?_ | refine loopR.exit ?_ | refine midA.ret ?_ | refine midA.exit ?_) | fail)
  refine W_loop (α := List Int × List Value × Nat × Int) (fun y => [(0, .int .i64 k), (1, .int .i64 s), (5, .slice (some ⟨y.2.2.1, 0, none⟩) y.1.length (y.1.length + y.2.1.length)), (8, .int .i64 y.2.2.2)]) (fun y => (y.2.2.1, .cells (rowA .i64 y.1 y.2.1) 3 (0, 0)) :: H)
    (fun y => (∃ f, y.1 ++ slotsFrom f y.2.2.2 s = slots k s ∧ s - y.2.2.2 + 2 ≤ 2 * (f : Int)) ∧ y.1.length ≤ 130 ∧ 1 ≤ y.2.2.2 ∧ y.2.2.2 ≤ 300) (fun y => (s - y.2.2.2 + 2).toNat) ([], [], b, from_ k s) ⟨⟨130, rfl, by simp only [from_]; omega⟩, by simp, by simp only [from_]; omega, by simp only [from_]; omega⟩ sub_ cvt_ ?_
  rintro ⟨xs, sp, b2, i⟩ ⟨⟨f, hf, hf2⟩, hl, hi, hi2⟩
  dsimp only at hf hf2 hl hi hi2 ⊢
  repeat' (first | (apply gCall; apply L_call rfl rfl rfl rfl rfl; (· first | exact l1In_c _ _ _ | exact specHeadOk_c _ _ _); rintro _ _ ⟨rfl, rfl⟩) | (apply gL; first | refine L_nil ?_ | refine yS ?_ | refine yA fun _ => ?_ | (apply gSt; first | refine sR ?_ | refine sB ?_ | refine s1 ?_ | refine sW ?_ | refine sN ?_) | (apply gBs; first | (refine L_bs0 rfl rfl rfl rfl (fun _ => ?_)) | (refine L_bs1 rfl rfl rfl rfl rfl rfl rfl (fun _ => ?_))) | (apply gApp; apply L_appI rfl rfl rfl rfl rfl rfl; (· exact at_); (· exact tk_); (· rfl); (· omega); intro _ _) | refine kV ?_ | ((fail_if_success (refine L_known rfl ?_)); refine yW (fun h => ?_) fun h => ?_)) | (apply gW; first | refine W_seq ?_ | refine W_region ?_ | refine W_ret ?_ | refine W_skip ?_ | refine W_block ?_ | refine W_exit ?_ | refine W_cond1 rfl ?_ | refine W_cond0 rfl ?_ | refine cW (fun h => ?_) fun h => ?_) | (first | refine seqR.normal ?_ | refine seqR.ret ?_ | refine seqR.exit ?_ | refine blockR.normal ?_ | refine blockR.ret ?_ | refine blockR.here ?_ | refine blockR.exit rfl ?_ | refine loopR.ret ?_ | refine loopR.exit ?_ | refine midA.ret ?_ | refine midA.exit ?_) | fail)
  · rename_i h _ _ _
    obtain ⟨f', rfl, e⟩ := slotsFrom_lt h hf2
    rw [e] at hf
    have := congrArg List.length hf
    have h3 := slotsLen (f := 130) (i := from_ k s) (s := s)
    simp only [slots, List.length_append, List.length_cons] at this
    apply loopR.mk (xs ++ [i], _, _, i + 2)
    · exact sub_
    · exact cvt_
    · exact ⟨⟨f', by simpa using hf, by dsimp only; omega⟩, by simp; omega, by dsimp only; omega, by dsimp only; omega⟩
    dsimp only; omega
  · rename_i h
    rw [slotsFrom_ge h, List.append_nil] at hf
    subst hf
    exact retR.ret _ _ (ret1 rfl rfl) cvt_ ⟨_, _, rfl, rfl⟩
end Go.Proofs.Ytfhihnonafklbaa.Eng
