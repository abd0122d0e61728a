/- The reference's words: within, heads, values. -/
import Derived.Test.YtfmhlieaodbgiaaGreatBkV
namespace Go.Proofs.YtfmhlieaodbgiaaGreat.Eng
open Go Go.RowKit Go.Proofs.YtfmhlieaodbgiaaGreat.Sl Go.Proofs.YtfmhlieaodbgiaaGreat.Ar Go.Proofs.YtfmhlieaodbgiaaGreat.Base
set_option linter.unusedVariables false
set_option linter.unusedSimpArgs false
set_option maxRecDepth 10000
variable {w0 : World} {H : HL}
theorem l1In_c (x lo hi : Int) : Fn Tryz.prog w0 41 #[.int .i64 x, .int .i64 lo, .int .i64 hi] H fun v H' => v = .bool (inB x lo hi) ∧ H' = H := by
  refine enter3 Tryz.func41 rfl rfl Tryz.ntmps41 rfl ?_
  repeat' (first | (apply gCall; apply L_call rfl rfl rfl rfl rfl; (· first | exact l1In_c _ _ _); rintro _ _ ⟨rfl, rfl⟩) | (apply gL; first | refine L_nil ?_ | refine yS ?_ | refine yX fun _ => ?_ | refine kV ?_ | (apply L_val rfl rfl rfl; (· first | (apply gBin; first | fail | exact v_addw rfl rfl | exact v_mulw rfl rfl | exact v_andv rfl rfl (by first | exact and15 om om | exact and65535 om om | exact and32 om om | exact and63 om om) | exact v_shrv (c := 16) rfl rfl (by decide) (by decide) (by decide) | exact v_shrv (c := 1048576) rfl rfl (by decide) (by decide) (by decide) | exact v_shrv (c := 9223372036854775808) rfl rfl (by decide) (by decide) (by decide)) | fail )) | ((fail_if_success (refine L_known rfl ?_)); refine yW (fun h => ?_) fun h => ?_)) | (apply gW; first | refine W_seq ?_ | refine W_region ?_ | refine W_ret ?_ | refine W_skip ?_ | refine W_block ?_ | refine W_exit ?_ | refine W_cond1 rfl ?_ | refine W_cond0 rfl ?_ | refine cW (fun h => ?_) fun h => ?_) | (first | refine seqR.normal ?_ | refine seqR.ret ?_ | refine seqR.exit ?_ | refine blockR.normal ?_ | refine blockR.ret ?_ | refine blockR.here ?_ | refine blockR.exit rfl ?_) | fail)
  all_goals refine retR.ret _ _ (ret1 rfl rfl) cv_ ⟨?_, rfl⟩
  all_goals unfold inB
  all_goals (first | rfl | exact bx om | exact b0 om | exact b1 om | exact bn om)
set_option maxHeartbeats 1000000 in
theorem specHeadOk_c (k s n : Int) : Fn Tryz.prog w0 75 #[.agg #[.int .i64 k, .int .i64 s, .int .i64 n]] H fun v H' => v = .bool (headOk k s n) ∧ H' = H := by
  refine enter1 Tryz.func75 rfl rfl Tryz.ntmps75 rfl ?_
  repeat' (first | (apply gCall; apply L_call rfl rfl rfl rfl rfl; (· first | exact l1In_c _ _ _); rintro _ _ ⟨rfl, rfl⟩) | (apply gL; first | refine L_nil ?_ | refine yS ?_ | refine yX fun _ => ?_ | refine kV ?_ | (apply L_val rfl rfl rfl; (· first | (apply gBin; first | fail | exact v_addw rfl rfl | exact v_mulw rfl rfl | exact v_andv rfl rfl (by first | exact and15 om om | exact and65535 om om | exact and32 om om | exact and63 om om) | exact v_shrv (c := 16) rfl rfl (by decide) (by decide) (by decide) | exact v_shrv (c := 1048576) rfl rfl (by decide) (by decide) (by decide) | exact v_shrv (c := 9223372036854775808) rfl rfl (by decide) (by decide) (by decide)) | fail )) | ((fail_if_success (refine L_known rfl ?_)); refine yW (fun h => ?_) fun h => ?_)) | (apply gW; first | refine W_seq ?_ | refine W_region ?_ | refine W_ret ?_ | refine W_skip ?_ | refine W_block ?_ | refine W_exit ?_ | refine W_cond1 rfl ?_ | refine W_cond0 rfl ?_ | refine cW (fun h => ?_) fun h => ?_) | (first | refine seqR.normal ?_ | refine seqR.ret ?_ | refine seqR.exit ?_ | refine blockR.normal ?_ | refine blockR.ret ?_ | refine blockR.here ?_ | refine blockR.exit rfl ?_) | fail)
  all_goals refine retR.ret _ _ (ret1 rfl rfl) cv_ ⟨?_, rfl⟩
  all_goals unfold headOk
  all_goals (try unfold inB)
  all_goals (try unfold HeadP SizeP BornP)
  all_goals (first | rfl | exact bx om | exact b0 om | exact b1 om | exact bn om)
end Go.Proofs.YtfmhlieaodbgiaaGreat.Eng
namespace Go.Proofs.YtfmhlieaodbgiaaGreat.Eng
open Go Go.RowKit Go.Proofs.YtfmhlieaodbgiaaGreat.Sl Go.Proofs.YtfmhlieaodbgiaaGreat.Ar Go.Proofs.YtfmhlieaodbgiaaGreat.Base
set_option linter.unusedVariables false
set_option linter.unusedSimpArgs false
set_option maxRecDepth 10000
variable {w0 : World} {H : HL} {C : Cn} {A : Ar}
def packU (k s n : Int) : Int := IntKind.u64.wrap (IntKind.u64.wrap (IntKind.u64.wrap k + IntKind.u64.wrap (IntKind.u64.wrap s * 16)) + IntKind.u64.wrap (IntKind.u64.wrap n * 1048576))
theorem specPackHead_c (k s n : Int) : Fn Tryz.prog w0 49 #[.agg #[.int .i64 k, .int .i64 s, .int .i64 n]] H fun v H' => v = .tuple #[.int .u64 (if headOk k s n = true then packU k s n else 0), .bool (headOk k s n)] ∧ H' = H := by
  refine enter1 Tryz.func49 rfl rfl Tryz.ntmps49 rfl ?_
  repeat' (first | (apply gCall; apply L_call rfl rfl rfl rfl rfl; (· first | exact l1In_c _ _ _ | exact specHeadOk_c _ _ _ | exact specPackHead_c _ _ _ | exact l1Kind_c _ | exact specIsRef_c _ _ | exact specValOk_c _ _ | exact specReadHead_c om om | exact specForwarded_c om om); rintro _ _ ⟨rfl, rfl⟩) | (apply gL; first | refine L_nil ?_ | refine yS ?_ | refine yX fun _ => ?_ | refine yA fun _ => ?_ | (apply gSt; first | refine sR ?_ | refine sB ?_ | refine s1 ?_ | refine sW ?_ | refine sN ?_) | refine kV ?_ | (apply L_val rfl rfl rfl; (· first | (apply gBin; first | fail | exact v_addw rfl rfl | exact v_mulw rfl rfl | exact v_andv rfl rfl (by first | exact and15 om om | exact and65535 om om | exact and32 om om | exact and63 om om) | exact v_shrv (c := 16) rfl rfl (by decide) (by decide) (by decide) | exact v_shrv (c := 1048576) rfl rfl (by decide) (by decide) (by decide) | exact v_shrv (c := 9223372036854775808) rfl rfl (by decide) (by decide) (by decide)) | fail )) | ((fail_if_success (refine L_known rfl ?_)); refine yW (fun h => ?_) fun h => ?_)) | (apply gW; first | refine W_seq ?_ | refine W_region ?_ | refine W_ret ?_ | refine W_skip ?_ | refine W_block ?_ | refine W_exit ?_ | refine W_cond1 rfl ?_ | refine W_cond0 rfl ?_ | refine cW (fun h => ?_) fun h => ?_) | (first | refine seqR.normal ?_ | refine seqR.ret ?_ | refine seqR.exit ?_ | refine blockR.normal ?_ | refine blockR.ret ?_ | refine blockR.here ?_ | refine blockR.exit rfl ?_) | fail)
  all_goals refine retR.ret _ _ (ret2 rfl rfl rfl) cv_ ⟨?_, rfl⟩
  · rename_i h; simp [headOk, h]
  · rename_i h; simp [headOk, h, packU]
theorem l1Kind_c (t : Int) : Fn Tryz.prog w0 108 #[.int .i64 t] H fun v H' => v = .int .i64 (kd t) ∧ H' = H := by
  refine enter1 Tryz.func108 rfl rfl Tryz.ntmps108 rfl ?_
  repeat' (first | (apply gCall; apply L_call rfl rfl rfl rfl rfl; (· first | exact l1In_c _ _ _ | exact specHeadOk_c _ _ _ | exact specPackHead_c _ _ _ | exact l1Kind_c _ | exact specIsRef_c _ _ | exact specValOk_c _ _ | exact specReadHead_c om om | exact specForwarded_c om om); rintro _ _ ⟨rfl, rfl⟩) | (apply gL; first | refine L_nil ?_ | refine yS ?_ | refine yX fun _ => ?_ | refine yA fun _ => ?_ | (apply gSt; first | refine sR ?_ | refine sB ?_ | refine s1 ?_ | refine sW ?_ | refine sN ?_) | refine kV ?_ | (apply L_val rfl rfl rfl; (· first | (apply gBin; first | fail | exact v_addw rfl rfl | exact v_mulw rfl rfl | exact v_andv rfl rfl (by first | exact and15 om om | exact and65535 om om | exact and32 om om | exact and63 om om) | exact v_shrv (c := 16) rfl rfl (by decide) (by decide) (by decide) | exact v_shrv (c := 1048576) rfl rfl (by decide) (by decide) (by decide) | exact v_shrv (c := 9223372036854775808) rfl rfl (by decide) (by decide) (by decide)) | fail )) | ((fail_if_success (refine L_known rfl ?_)); refine yW (fun h => ?_) fun h => ?_)) | (apply gW; first | refine W_seq ?_ | refine W_region ?_ | refine W_ret ?_ | refine W_skip ?_ | refine W_block ?_ | refine W_exit ?_ | refine W_cond1 rfl ?_ | refine W_cond0 rfl ?_ | refine cW (fun h => ?_) fun h => ?_) | (first | refine seqR.normal ?_ | refine seqR.ret ?_ | refine seqR.exit ?_ | refine blockR.normal ?_ | refine blockR.ret ?_ | refine blockR.here ?_ | refine blockR.exit rfl ?_) | fail)
  all_goals refine retR.ret _ _ (ret1 rfl rfl) cv_ ⟨?_, rfl⟩
  all_goals simp [kd, kindOf, *]
theorem specIsRef_c (t n : Int) : Fn Tryz.prog w0 91 #[.agg #[.int .i64 t, .int .i64 n]] H fun v H' => v = .bool (isRef t) ∧ H' = H := by
  refine enter1 Tryz.func91 rfl rfl Tryz.ntmps91 rfl ?_
  repeat' (first | (apply gCall; apply L_call rfl rfl rfl rfl rfl; (· first | exact l1In_c _ _ _ | exact specHeadOk_c _ _ _ | exact specPackHead_c _ _ _ | exact l1Kind_c _ | exact specIsRef_c _ _ | exact specValOk_c _ _ | exact specReadHead_c om om | exact specForwarded_c om om); rintro _ _ ⟨rfl, rfl⟩) | (apply gL; first | refine L_nil ?_ | refine yS ?_ | refine yX fun _ => ?_ | refine yA fun _ => ?_ | (apply gSt; first | refine sR ?_ | refine sB ?_ | refine s1 ?_ | refine sW ?_ | refine sN ?_) | refine kV ?_ | (apply L_val rfl rfl rfl; (· first | (apply gBin; first | fail | exact v_addw rfl rfl | exact v_mulw rfl rfl | exact v_andv rfl rfl (by first | exact and15 om om | exact and65535 om om | exact and32 om om | exact and63 om om) | exact v_shrv (c := 16) rfl rfl (by decide) (by decide) (by decide) | exact v_shrv (c := 1048576) rfl rfl (by decide) (by decide) (by decide) | exact v_shrv (c := 9223372036854775808) rfl rfl (by decide) (by decide) (by decide)) | fail )) | ((fail_if_success (refine L_known rfl ?_)); refine yW (fun h => ?_) fun h => ?_)) | (apply gW; first | refine W_seq ?_ | refine W_region ?_ | refine W_ret ?_ | refine W_skip ?_ | refine W_block ?_ | refine W_exit ?_ | refine W_cond1 rfl ?_ | refine W_cond0 rfl ?_ | refine cW (fun h => ?_) fun h => ?_) | (first | refine seqR.normal ?_ | refine seqR.ret ?_ | refine seqR.exit ?_ | refine blockR.normal ?_ | refine blockR.ret ?_ | refine blockR.here ?_ | refine blockR.exit rfl ?_) | fail)
  all_goals refine retR.ret _ _ (ret1 rfl rfl) cv_ ⟨?_, rfl⟩
  unfold isRef
  (first | rfl | exact bx om | exact b0 om | exact b1 om | exact bn om)
set_option maxHeartbeats 1000000 in
theorem specValOk_c (t n : Int) : Fn Tryz.prog w0 94 #[.agg #[.int .i64 t, .int .i64 n]] H fun v H' => v = .bool (valOk t n) ∧ H' = H := by
  refine enter1 Tryz.func94 rfl rfl Tryz.ntmps94 rfl ?_
  repeat' (first | (apply gCall; apply L_call rfl rfl rfl rfl rfl; (· first | exact l1In_c _ _ _ | exact specHeadOk_c _ _ _ | exact specPackHead_c _ _ _ | exact l1Kind_c _ | exact specIsRef_c _ _ | exact specValOk_c _ _ | exact specReadHead_c om om | exact specForwarded_c om om); rintro _ _ ⟨rfl, rfl⟩) | (apply gL; first | refine L_nil ?_ | refine yS ?_ | refine yX fun _ => ?_ | refine yA fun _ => ?_ | (apply gSt; first | refine sR ?_ | refine sB ?_ | refine s1 ?_ | refine sW ?_ | refine sN ?_) | refine kV ?_ | (apply L_val rfl rfl rfl; (· first | (apply gBin; first | fail | exact v_addw rfl rfl | exact v_mulw rfl rfl | exact v_andv rfl rfl (by first | exact and15 om om | exact and65535 om om | exact and32 om om | exact and63 om om) | exact v_shrv (c := 16) rfl rfl (by decide) (by decide) (by decide) | exact v_shrv (c := 1048576) rfl rfl (by decide) (by decide) (by decide) | exact v_shrv (c := 9223372036854775808) rfl rfl (by decide) (by decide) (by decide)) | fail )) | ((fail_if_success (refine L_known rfl ?_)); refine yW (fun h => ?_) fun h => ?_)) | (apply gW; first | refine W_seq ?_ | refine W_region ?_ | refine W_ret ?_ | refine W_skip ?_ | refine W_block ?_ | refine W_exit ?_ | refine W_cond1 rfl ?_ | refine W_cond0 rfl ?_ | refine cW (fun h => ?_) fun h => ?_) | (first | refine seqR.normal ?_ | refine seqR.ret ?_ | refine seqR.exit ?_ | refine blockR.normal ?_ | refine blockR.ret ?_ | refine blockR.here ?_ | refine blockR.exit rfl ?_) | fail)
  all_goals refine retR.ret _ _ (ret1 rfl rfl) cv_ ⟨?_, rfl⟩
  all_goals unfold valOk ValP
  all_goals (try unfold inB)
  all_goals (try unfold kd kindOf at *)
  all_goals (first | rfl | exact bx om | exact b0 om | exact b1 om | exact bn om)
theorem hOk_of {x : Int} (h0 : 0 ≤ x) (h1 : x < 18446744073709551616) : headOk (x % 16) (x / 16 % 65536) (x / 1048576 % 4294967296) = true ∧ packU (x % 16) (x / 16 % 65536) (x / 1048576 % 4294967296) = x ↔ hOk x = true := by
  unfold hOk headOk packU hk hs hn
  simp only [decide_eq_true_eq, IntKind.wrap_u64]
  constructor
  · rintro ⟨h, e⟩
    have r := h.range
    have : x / 1048576 < 4294967296 := by omega
    rwa [show x / 1048576 % 4294967296 = x / 1048576 by omega] at h
  · intro h
    have r := h.range
    have e2 : x / 1048576 % 4294967296 = x / 1048576 := by omega
    rw [e2]
    exact ⟨h, by omega⟩
set_option maxHeartbeats 1000000 in
theorem specReadHead_c {x : Int} (h0 : 0 ≤ x) (h1 : x < 18446744073709551616) : Fn Tryz.prog w0 93 #[.int .u64 x] H fun v H' => v = .tuple #[hdV x, .bool (hOk x)] ∧ H' = H := by
  have hk := hOk_of h0 h1
  refine enter1 Tryz.func93 rfl rfl Tryz.ntmps93 rfl ?_
  repeat' (first | (apply gCall; apply L_call rfl rfl rfl rfl rfl; (· first | exact l1In_c _ _ _ | exact specHeadOk_c _ _ _ | exact specPackHead_c _ _ _ | exact l1Kind_c _ | exact specIsRef_c _ _ | exact specValOk_c _ _ | exact specReadHead_c om om | exact specForwarded_c om om); rintro _ _ ⟨rfl, rfl⟩) | (apply gL; first | refine L_nil ?_ | refine yS ?_ | refine yX fun _ => ?_ | refine yA fun _ => ?_ | (apply gSt; first | refine sR ?_ | refine sB ?_ | refine s1 ?_ | refine sW ?_ | refine sN ?_) | refine kV ?_ | (apply L_val rfl rfl rfl; (· first | (apply gBin; first | fail | exact v_addw rfl rfl | exact v_mulw rfl rfl | exact v_andv rfl rfl (by first | exact and15 om om | exact and65535 om om | exact and32 om om | exact and63 om om) | exact v_shrv (c := 16) rfl rfl (by decide) (by decide) (by decide) | exact v_shrv (c := 1048576) rfl rfl (by decide) (by decide) (by decide) | exact v_shrv (c := 9223372036854775808) rfl rfl (by decide) (by decide) (by decide)) | fail )) | ((fail_if_success (refine L_known rfl ?_)); refine yW (fun h => ?_) fun h => ?_)) | (apply gW; first | refine W_seq ?_ | refine W_region ?_ | refine W_ret ?_ | refine W_skip ?_ | refine W_block ?_ | refine W_exit ?_ | refine W_cond1 rfl ?_ | refine W_cond0 rfl ?_ | refine cW (fun h => ?_) fun h => ?_) | (first | refine seqR.normal ?_ | refine seqR.ret ?_ | refine seqR.exit ?_ | refine blockR.normal ?_ | refine blockR.ret ?_ | refine blockR.here ?_ | refine blockR.exit rfl ?_) | fail)
  all_goals (refine retR.ret _ _ (retCT rfl rfl at_ (by rfl) rfl) cv_ ⟨?_, rfl⟩)
  · rename_i h
    have e : hOk x = false := by
      cases e : hOk x
      · rfl
      · exact absurd (hk.2 e).1 (by simp [headOk, h])
    simp [hdV, rk, rs, rn, e]
  · rename_i h' h
    have e : hOk x = false := by
      cases e : hOk x
      · rfl
      · obtain ⟨h1, h2⟩ := hk.2 e
        rw [if_pos h1] at h
        exact absurd h2 h
    simp [hdV, rk, rs, rn, e]
  · rename_i h
    have h1 : headOk (x % 16) (x / 16 % 65536) (x / 1048576 % 4294967296) = true := by simp only [headOk, decide_eq_true_eq]; assumption
    rw [if_pos h1] at h
    have e := hk.1 ⟨h1, h⟩
    have e2 : x / 1048576 % 4294967296 = x / 1048576 := by
      have : HeadP (Ar.hk x) (Ar.hs x) (Ar.hn x) := by simpa [hOk, headOk] using e
      have := this.range
      unfold Ar.hn at this
      omega
    simp [hdV, rk, rs, rn, e, e2, Ar.hk, Ar.hs, Ar.hn]
theorem specForwarded_c {x : Int} (h0 : 0 ≤ x) (h1 : x < 18446744073709551616) : Fn Tryz.prog w0 92 #[.int .u64 x] H fun v H' => v = .tuple #[.int .i64 (fw x), .bool (isFw x)] ∧ H' = H := by
  refine enter1 Tryz.func92 rfl rfl Tryz.ntmps92 rfl ?_
  repeat' (first | (apply gCall; apply L_call rfl rfl rfl rfl rfl; (· first | exact l1In_c _ _ _ | exact specHeadOk_c _ _ _ | exact specPackHead_c _ _ _ | exact l1Kind_c _ | exact specIsRef_c _ _ | exact specValOk_c _ _ | exact specReadHead_c om om | exact specForwarded_c om om); rintro _ _ ⟨rfl, rfl⟩) | (apply gL; first | refine L_nil ?_ | refine yS ?_ | refine yX fun _ => ?_ | refine yA fun _ => ?_ | (apply gSt; first | refine sR ?_ | refine sB ?_ | refine s1 ?_ | refine sW ?_ | refine sN ?_) | refine kV ?_ | (apply L_val rfl rfl rfl; (· first | (apply gBin; first | fail | exact v_addw rfl rfl | exact v_mulw rfl rfl | exact v_andv rfl rfl (by first | exact and15 om om | exact and65535 om om | exact and32 om om | exact and63 om om) | exact v_shrv (c := 16) rfl rfl (by decide) (by decide) (by decide) | exact v_shrv (c := 1048576) rfl rfl (by decide) (by decide) (by decide) | exact v_shrv (c := 9223372036854775808) rfl rfl (by decide) (by decide) (by decide)) | fail )) | ((fail_if_success (refine L_known rfl ?_)); refine yW (fun h => ?_) fun h => ?_)) | (apply gW; first | refine W_seq ?_ | refine W_region ?_ | refine W_ret ?_ | refine W_skip ?_ | refine W_block ?_ | refine W_exit ?_ | refine W_cond1 rfl ?_ | refine W_cond0 rfl ?_ | refine cW (fun h => ?_) fun h => ?_) | (first | refine seqR.normal ?_ | refine seqR.ret ?_ | refine seqR.exit ?_ | refine blockR.normal ?_ | refine blockR.ret ?_ | refine blockR.here ?_ | refine blockR.exit rfl ?_) | fail)
  all_goals refine retR.ret _ _ (ret2 rfl rfl rfl) cv_ ⟨?_, rfl⟩
  · have e : isFw x = false := by unfold isFw; exact decide_eq_false (by omega)
    simp [fw, e]
  · have e : isFw x = false := by unfold isFw; exact decide_eq_false (by omega)
    simp [fw, e]
  · have e : isFw x = true := by unfold isFw; exact decide_eq_true (by omega)
    simp [fw, e]; omega
end Go.Proofs.YtfmhlieaodbgiaaGreat.Eng
