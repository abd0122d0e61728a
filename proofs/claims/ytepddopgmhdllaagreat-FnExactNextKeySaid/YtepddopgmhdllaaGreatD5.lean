/- The implementation's load of a value. -/
import Derived.Test.YtepddopgmhdllaaGreatBkD
namespace Go.Proofs.YtepddopgmhdllaaGreat.Eng
open Go Go.RowKit Go.Proofs.YtepddopgmhdllaaGreat.Sl Go.Proofs.YtepddopgmhdllaaGreat.Ar Go.Proofs.YtepddopgmhdllaaGreat.Base
set_option linter.unusedVariables false
set_option linter.unusedSimpArgs false
set_option maxRecDepth 10000
variable {w0 : World} {H : HL} {C : Cn} {A : Ar} {ba rc : Nat} {m : List Int} {rp : Option Addr}
theorem fwS_put2 {B : Ar} {a : Int} (hw : Wf B.ws) (hr : rv B.ws a = true) (h0 : 0 ≤ a) (h1 : a + 1 < (B.ws.length : Int)) (hk : g (B.fwd (rvT B.ws a) (rvN B.ws a)).1.ws a = g B.ws a) :
    (B.fwd (rvT B.ws a) (rvN B.ws a)).1.putV a (rvT B.ws a) (B.fwd (rvT B.ws a) (rvN B.ws a)).2 = B.fwS a := by
  have hfl := fwd_len (A := B) (rvT B.ws a) (rvN B.ws a)
  unfold Ar.fwS Ar.putV
  rw [(rv_w64 hw hr).1, ← hk, set_same h0 (by omega)]
set_option maxHeartbeats 2000000 in
theorem iload_c {p q : Int} (hw : Wf A.ws) (h0 : 0 ≤ p ∧ p ≤ 8000) (hq : 0 ≤ q) (h1 : p + q + 1 < (A.ws.length : Int)) (hm : A.ws.length ≤ 8000) (hr : rv A.ws (p + q) = true) (hFP : FP A (rvT A.ws (p + q)) (rvN A.ws (p + q))) (hk : g (A.fwd (rvT A.ws (p + q)) (rvN A.ws (p + q))).1.ws (p + q) = g A.ws (p + q)) (hwc : A.ws.length ≤ C.wc) :
    Fn Tryz.prog w0 96 #[.pointer (some ⟨ba, 0, none⟩), .int .i64 p, .int .i64 q] ((ba, aObjG C A rp rc) :: (C.bw, wObj C A) :: H) fun v H' => v = .agg #[.int .i64 (rvT A.ws (p + q)), .int .i64 (A.ldN (p + q))] ∧ H' = (ba, aObjG C (A.ld (p + q)) rp rc) :: (C.bw, wObj C (A.ld (p + q))) :: H := by
  have hfl := fwd_len (A := A) (rvT A.ws (p + q)) (rvN A.ws (p + q))
  cases hc : A.cyc with
  | true =>
    have eP := fwS_put2 hw hr (by omega) h1 hk
    have e1 : A.ld (p + q) = A.fwS (p + q) := by unfold Ar.ld; rw [if_pos hc]
    have e2 : A.ldN (p + q) = (A.fwd (rvT A.ws (p + q)) (rvN A.ws (p + q))).2 := by unfold Ar.ldN; rw [if_pos hc]
    rw [e1, e2, ← eP]
    refine enter3 Tryz.func96 rfl rfl Tryz.ntmps96 rfl ?_
    repeat' (first | (apply gCall; apply L_call rfl rfl rfl rfl rfl; (· first | exact val2_c at_ at_ hw hr om om om | exact forwardedT tk_ tk_ hc hFP hwc | exact forwarded0_c (A := A) hc at_ | exact isetT tk_ tk_ om om om); rintro _ _ ⟨rfl, rfl⟩) | (apply gL; first | refine L_nil ?_ | refine yA fun _ => ?_ | (apply gSt; first | refine sR ?_ | refine sB ?_ | refine s1 ?_ | refine sW ?_ | refine sN ?_) | refine kV ?_) | (apply gW; first | refine W_seq ?_ | refine W_region ?_ | refine W_ret ?_ | refine W_skip ?_) | (first | refine seqR.normal ?_ | refine seqR.ret ?_) | fail)
    exact retR.ret _ _ (retC rfl rfl at_ (by rfl)) cvt_ ⟨rfl, rfl⟩
  | false =>
    have e1 : A.ld (p + q) = A := by unfold Ar.ld; rw [if_neg (by rw [hc]; decide)]
    have e2 : A.ldN (p + q) = rvN A.ws (p + q) := by unfold Ar.ldN; rw [if_neg (by rw [hc]; decide)]
    have eP := putV_same hw hr (by omega) h1
    rw [e1, e2]
    refine enter3 Tryz.func96 rfl rfl Tryz.ntmps96 rfl ?_
    repeat' (first | (apply gCall; apply L_call rfl rfl rfl rfl rfl; (· first | exact val2_c at_ at_ hw hr om om om | exact forwardedT tk_ tk_ hc hFP hwc | exact forwarded0_c (A := A) hc at_ | exact isetT tk_ tk_ om om om); rintro _ _ ⟨rfl, rfl⟩) | (apply gL; first | refine L_nil ?_ | refine yA fun _ => ?_ | (apply gSt; first | refine sR ?_ | refine sB ?_ | refine s1 ?_ | refine sW ?_ | refine sN ?_) | refine kV ?_) | (apply gW; first | refine W_seq ?_ | refine W_region ?_ | refine W_ret ?_ | refine W_skip ?_) | (first | refine seqR.normal ?_ | refine seqR.ret ?_) | fail)
    rw [eP]
    exact retR.ret _ _ (retC rfl rfl at_ (by rfl)) cvt_ ⟨rfl, rfl⟩
theorem iloadT {p q : Int} {H1 H2 : HL} (hT : Tk H ba (aObjG C A rp rc) H1) (hT2 : Tk H1 C.bw (wObj C A) H2) (hw : Wf A.ws) (h0 : 0 ≤ p ∧ p ≤ 8000) (hq : 0 ≤ q) (h1 : p + q + 1 < (A.ws.length : Int)) (hm : A.ws.length ≤ 8000) (hr : rv A.ws (p + q) = true) (hFP : FP A (rvT A.ws (p + q)) (rvN A.ws (p + q))) (hk : g (A.fwd (rvT A.ws (p + q)) (rvN A.ws (p + q))).1.ws (p + q) = g A.ws (p + q)) (hwc : A.ws.length ≤ C.wc) :
    Fn Tryz.prog w0 96 #[.pointer (some ⟨ba, 0, none⟩), .int .i64 p, .int .i64 q] H fun v H' => v = .agg #[.int .i64 (rvT A.ws (p + q)), .int .i64 (A.ldN (p + q))] ∧ H' = (ba, aObjG C (A.ld (p + q)) rp rc) :: (C.bw, wObj C (A.ld (p + q))) :: H2 :=
  Fn.conv (Cv.take hT (Cv.take hT2 Cv.refl)) (iload_c hw h0 hq h1 hm hr hFP hk hwc)
end Go.Proofs.YtepddopgmhdllaaGreat.Eng
