/- The law of FnBorn returns true. -/
import Derived.Test.YtepddopgmhdllaaX4
import Derived.Test.YtepddopgmhdllaaX5
import Derived.Test.YtepddopgmhdllaaF2
import Derived.Test.YtepddopgmhdllaaUW
import Derived.Test.YtepddopgmhdllaaPB
namespace Go.Proofs.Ytepddopgmhdllaa.Eng
open Go Go.RowKit Go.Proofs.Ytepddopgmhdllaa.Sl Go.Proofs.Ytepddopgmhdllaa.Ar Go.Proofs.Ytepddopgmhdllaa.Base
set_option linter.unusedVariables false
set_option linter.unusedSimpArgs false
set_option maxRecDepth 10000
variable {w0 : World} {H : HL} {C : Cn} {A A' : Ar}
theorem SetRoot_k {r t n : Int} {b : Bool} (e : A.setRootR r t n = (A', b)) (hA : At H C.bw (wObj C A)) (hR : At H C.br (rObj C A)) (hw : Wf A.ws) (hc : A.ws.length ≤ C.wc) (hl : A.ws.length ≤ 1048576) (hx : A.vs.length ≤ 1048576) (hw0 : 0 < A.ws.length) (hv0 : 0 < A.vs.length) :
    Fn Try.prog w0 23 #[arV C A, .int .i64 r, .agg #[.int .i64 t, .int .i64 n]] H (CRes A' (.bool b) H) := by
  have hB := setRootR_len (A := A) (r := r) (t := t) (n := n)
  have := (implSetRoot_c (w0 := w0) (r := r) (t := t) (n := n) hA hR hw hc hl hx).cres (by omega) (by omega)
  rw [e] at this; exact this
theorem NewCell_k {r s : Int} {k : Int} (e : A.cellR r s = (A', k)) (hA : At H C.bw (wObj C A)) (hR : At H C.br (rObj C A)) (hw : Wf A.ws) (hc : A.ws.length ≤ C.wc) (hl : A.ws.length ≤ 1048576) (hx : A.vs.length ≤ 1048576) (hok : A.ok = true) (hr : 0 ≤ r ∧ r < (A.vs.length : Int)) (hs : 0 ≤ s ∧ s < (A.vs.length : Int)) :
    Fn Try.prog w0 37 #[arV C A, .int .i64 r, .int .i64 s] H (CRes A' (.int .i64 k) H) := by
  have := NewCell_c (w0 := w0) hA hR hw hc hl hx hok hr hs
  rw [e] at this; exact this
theorem NewTab_k {s : Int} {k : Int} (e : A.tabR s = (A', k)) (hA : At H C.bw (wObj C A)) (hR : At H C.br (rObj C A)) (hw : Wf A.ws) (hc : A.ws.length ≤ C.wc) (hl : A.ws.length ≤ 1048576) (hx : A.vs.length ≤ 1048576) (hok : A.ok = true) (hs : 0 ≤ s ∧ s < (A.vs.length : Int)) (hsr1 : 1 ≤ A.serial ∧ A.serial < 1000000000) :
    Fn Try.prog w0 50 #[arV C A, .int .i64 s] H (CRes A' (.int .i64 k) H) := by
  have := NewTab_c (w0 := w0) hA hR hw hc hl hx hok hs hsr1
  rw [e] at this; exact this
theorem NewFun_k {pr c s k : Int} {bc cc : Nat} (e : A.fun1R pr c s = (A', k)) (hC : At H bc (.cells #[.int .i64 c] 3 (0, 0))) (hA : At H C.bw (wObj C A)) (hR : At H C.br (rObj C A)) (hw : Wf A.ws) (hc : A.ws.length ≤ C.wc) (hl : A.ws.length ≤ 1048576) (hx : A.vs.length ≤ 1048576) (hok : A.ok = true) (hp : 0 ≤ pr ∧ pr ≤ 255) (hr : 0 ≤ c ∧ c < (A.vs.length : Int)) (h9 : rT A c = 9) (hs : 0 ≤ s ∧ s < (A.vs.length : Int)) (hsr1 : 1 ≤ A.serial ∧ A.serial < 1000000000) :
    Fn Try.prog w0 52 #[arV C A, .int .i64 pr, .slice (some ⟨bc, 0, none⟩) 1 cc, .int .i64 s] H (CRes A' (.int .i64 k) H) := by
  have := NewFun_c (w0 := w0) (cc := cc) hC hA hR hw hc hl hx hok hp hr h9 hs hsr1
  rw [e] at this; exact this
theorem PutText_k {s k : Int} {bs : List Int} {z : ByteArray} (ez : z = strOfNums bs) (e : A.putR bs s = (A', k)) (hby : Byt bs) (hn : (bs.length : Int) ≤ 160) (hA : At H C.bw (wObj C A)) (hR : At H C.br (rObj C A)) (hw : Wf A.ws) (hc : A.ws.length ≤ C.wc) (hl : A.ws.length ≤ 1048576) (hx : A.vs.length ≤ 1048576) (hok : A.ok = true) (hs : 0 ≤ s ∧ s < (A.vs.length : Int)) :
    Fn Try.prog w0 46 #[arV C A, .string z, .int .i64 s] H (CRes A' (.int .i64 k) H) := by
  have := PutText_c (w0 := w0) hby hn hA hR hw hc hl hx hok hs
  rw [e] at this; rw [ez]; exact this
theorem SerialOf_k {r n : Int} (e : A.serialR r = n) (hA : At H C.bw (wObj C A)) (hR : At H C.br (rObj C A)) (hw : Wf A.ws) (hc : A.ws.length ≤ C.wc) (hx : A.vs.length ≤ 1048576) :
    Fn Try.prog w0 51 #[arV C A, .int .i64 r] H fun v H' => v = .int .i64 n ∧ H' = H := by
  subst e; exact implSerialOf_c hA hR hw hc hx
theorem SpecOk_k (e : A.ok = true) (hA : At H C.bw (wObj C A)) (hR : At H C.br (rObj C A)) (hw : Wf A.ws) (hx : A.vs.length ≤ 1048576) :
    Fn Try.prog w0 40 #[arV C A] H fun v H' => v = .bool true ∧ H' = H := specArenaOkB_c e hA hR hw hx
set_option maxHeartbeats 8000000 in
theorem lawFnBorn_c {a : Option Addr} {c : Nat} {xs : List Int} (hI : InB w0 a c xs) :
    Fn Try.prog w0 13 #[.slice a xs.length c] [] fun v H' => v = .bool true := by
  obtain ⟨⟨m1, h1, x1⟩, e1⟩ := born1_ok
  obtain ⟨A2, e2, hB2, ok1⟩ := born2_ok
  refine enter1 Try.func13 rfl rfl Try.ntmps13 rfl ?_
  repeat' (first | (apply gCall; apply L_call rfl rfl rfl rfl rfl; (· first | exact at_c hI hl om | exact SerialOf_k g1 at_ at_ w1 hc1 om | exact SpecOk_k g5 at_ at_ w5 om); rintro _ _ ⟨rfl, rfl⟩) | (apply gL; first | refine L_nil ?_ | refine yS ?_ | refine yA fun _ => ?_ | (apply gSt; first | refine sR ?_ | refine sB ?_ | refine s1 ?_ | refine sW ?_ | refine sN ?_) | (apply gBs; first | (refine L_bs0 rfl rfl rfl rfl (fun _ => ?_)) | (refine L_bs1 rfl rfl rfl rfl rfl rfl rfl (fun _ => ?_))) | refine kV ?_ | ((fail_if_success (refine L_known rfl ?_)); refine yW (fun h => ?_) fun h => ?_)) | (apply gW; first | refine W_seq ?_ | refine W_region ?_ | refine W_ret ?_ | refine W_skip ?_ | refine W_block ?_ | refine W_exit ?_ | refine W_cond1 rfl ?_ | refine W_cond0 rfl ?_ | refine cW (fun h => ?_) fun h => ?_) | (first | refine seqR.normal ?_ | refine seqR.ret ?_ | refine seqR.exit ?_ | refine blockR.normal ?_ | refine blockR.ret ?_ | refine blockR.here ?_ | refine blockR.exit rfl ?_ | refine loopR.ret ?_ | refine loopR.exit ?_ | refine midA.ret ?_ | refine midA.exit ?_) | fail)
  apply L_call rfl rfl rfl rfl rfl
  · exact big_c
  rintro _ _ ⟨rfl, rfl⟩
  repeat' ((fail_if_success apply gAtR 3); (first | (apply gCall; apply L_call rfl rfl rfl rfl rfl; (· first | exact at_c hI hl om | exact SerialOf_k g1 at_ at_ w1 hc1 om | exact SpecOk_k g5 at_ at_ w5 om); rintro _ _ ⟨rfl, rfl⟩) | (apply gL; first | refine L_nil ?_ | refine yS ?_ | refine yA fun _ => ?_ | (apply gSt; first | refine sR ?_ | refine sB ?_ | refine s1 ?_ | refine sW ?_ | refine sN ?_) | (apply gBs; first | (refine L_bs0 rfl rfl rfl rfl (fun _ => ?_)) | (refine L_bs1 rfl rfl rfl rfl rfl rfl rfl (fun _ => ?_))) | refine kV ?_ | ((fail_if_success (refine L_known rfl ?_)); refine yW (fun h => ?_) fun h => ?_)) | (apply gW; first | refine W_seq ?_ | refine W_region ?_ | refine W_ret ?_ | refine W_skip ?_ | refine W_block ?_ | refine W_exit ?_ | refine W_cond1 rfl ?_ | refine W_cond0 rfl ?_ | refine cW (fun h => ?_) fun h => ?_) | (first | refine seqR.normal ?_ | refine seqR.ret ?_ | refine seqR.exit ?_ | refine blockR.normal ?_ | refine blockR.ret ?_ | refine blockR.here ?_ | refine blockR.exit rfl ?_ | refine loopR.ret ?_ | refine loopR.exit ?_ | refine midA.ret ?_ | refine midA.exit ?_) | fail))
  · exact retR.ret _ _ (ret1 rfl rfl) cvt_ rfl
  have hl : (xs.length : Int) ≤ 1048576 := by omega
  have bl : born1.ws.length = 800 := by show (List.replicate (2 * (400 : Int)).toNat (0 : Int)).length = 800; rw [List.length_replicate]; rfl
  have bv : born1.vs.length = 4 := rfl
  have fl : (fresh 400 4).ws.length = 800 := bl
  have fv : (fresh 400 4).vs.length = 4 := rfl
  have fw : Wf (fresh 400 4).ws := h1.wf
  repeat' (first | (apply gCall; apply L_call rfl rfl rfl rfl rfl; (· first | exact at_c hI hl om | exact SerialOf_k g1 at_ at_ w1 hc1 om | exact SpecOk_k g5 at_ at_ w5 om); rintro _ _ ⟨rfl, rfl⟩) | (apply gL; first | refine L_nil ?_ | refine yS ?_ | refine yA fun _ => ?_ | (apply gSt; first | refine sR ?_ | refine sB ?_ | refine s1 ?_ | refine sW ?_ | refine sN ?_) | (apply gBs; first | (refine L_bs0 rfl rfl rfl rfl (fun _ => ?_)) | (refine L_bs1 rfl rfl rfl rfl rfl rfl rfl (fun _ => ?_))) | refine kV ?_ | ((fail_if_success (refine L_known rfl ?_)); refine yW (fun h => ?_) fun h => ?_)) | (apply gW; first | refine W_seq ?_ | refine W_region ?_ | refine W_ret ?_ | refine W_skip ?_ | refine W_block ?_ | refine W_exit ?_ | refine W_cond1 rfl ?_ | refine W_cond0 rfl ?_ | refine cW (fun h => ?_) fun h => ?_) | (first | refine seqR.normal ?_ | refine seqR.ret ?_ | refine seqR.exit ?_ | refine blockR.normal ?_ | refine blockR.ret ?_ | refine blockR.here ?_ | refine blockR.exit rfl ?_ | refine loopR.ret ?_ | refine loopR.exit ?_ | refine midA.ret ?_ | refine midA.exit ?_) | fail)
  apply L_call rfl rfl rfl rfl rfl
  · exact NewArena_c (k := 800) (j := 4) rfl rfl (by omega) (by omega)
  rintro _ _ ⟨C0, rfl, hc0, rfl⟩
  repeat' (first | (apply gCall; apply L_call rfl rfl rfl rfl rfl; (· first | exact at_c hI hl om | exact SerialOf_k g1 at_ at_ w1 hc1 om | exact SpecOk_k g5 at_ at_ w5 om); rintro _ _ ⟨rfl, rfl⟩) | (apply gL; first | refine L_nil ?_ | refine yS ?_ | refine yA fun _ => ?_ | (apply gSt; first | refine sR ?_ | refine sB ?_ | refine s1 ?_ | refine sW ?_ | refine sN ?_) | (apply gBs; first | (refine L_bs0 rfl rfl rfl rfl (fun _ => ?_)) | (refine L_bs1 rfl rfl rfl rfl rfl rfl rfl (fun _ => ?_))) | refine kV ?_ | ((fail_if_success (refine L_known rfl ?_)); refine yW (fun h => ?_) fun h => ?_)) | (apply gW; first | refine W_seq ?_ | refine W_region ?_ | refine W_ret ?_ | refine W_skip ?_ | refine W_block ?_ | refine W_exit ?_ | refine W_cond1 rfl ?_ | refine W_cond0 rfl ?_ | refine cW (fun h => ?_) fun h => ?_) | (first | refine seqR.normal ?_ | refine seqR.ret ?_ | refine seqR.exit ?_ | refine blockR.normal ?_ | refine blockR.ret ?_ | refine blockR.here ?_ | refine blockR.exit rfl ?_ | refine loopR.ret ?_ | refine loopR.exit ?_ | refine midA.ret ?_ | refine midA.exit ?_) | fail)
  apply L_call rfl rfl rfl rfl rfl
  · exact SetRoot_k e1 at_ at_ fw hc0 (by omega) (by omega) (by omega) (by omega)
  rintro _ _ ⟨C1, rfl, hc1, rfl⟩
  repeat' (first | (apply gCall; apply L_call rfl rfl rfl rfl rfl; (· first | exact at_c hI hl om | exact SerialOf_k g1 at_ at_ w1 hc1 om | exact SpecOk_k g5 at_ at_ w5 om); rintro _ _ ⟨rfl, rfl⟩) | (apply gL; first | refine L_nil ?_ | refine yS ?_ | refine yA fun _ => ?_ | (apply gSt; first | refine sR ?_ | refine sB ?_ | refine s1 ?_ | refine sW ?_ | refine sN ?_) | (apply gBs; first | (refine L_bs0 rfl rfl rfl rfl (fun _ => ?_)) | (refine L_bs1 rfl rfl rfl rfl rfl rfl rfl (fun _ => ?_))) | refine kV ?_ | ((fail_if_success (refine L_known rfl ?_)); refine yW (fun h => ?_) fun h => ?_)) | (apply gW; first | refine W_seq ?_ | refine W_region ?_ | refine W_ret ?_ | refine W_skip ?_ | refine W_block ?_ | refine W_exit ?_ | refine W_cond1 rfl ?_ | refine W_cond0 rfl ?_ | refine cW (fun h => ?_) fun h => ?_) | (first | refine seqR.normal ?_ | refine seqR.ret ?_ | refine seqR.exit ?_ | refine blockR.normal ?_ | refine blockR.ret ?_ | refine blockR.here ?_ | refine blockR.exit rfl ?_ | refine loopR.ret ?_ | refine loopR.exit ?_ | refine midA.ret ?_ | refine midA.exit ?_) | fail)
  apply L_call rfl rfl rfl rfl rfl
  · exact NewCell_k e2 at_ at_ h1.wf hc1 (by omega) (by omega) ok1 (by omega) (by omega)
  rintro _ _ ⟨C2, rfl, hc2, rfl⟩
  rename_i b3
  repeat' ((fail_if_success apply gAt 7); (first | (apply gCall; apply L_call rfl rfl rfl rfl rfl; (· first | exact at_c hI hl om | exact SerialOf_k g1 at_ at_ w1 hc1 om | exact SpecOk_k g5 at_ at_ w5 om); rintro _ _ ⟨rfl, rfl⟩) | (apply gL; first | refine L_nil ?_ | refine yS ?_ | refine yA fun _ => ?_ | (apply gSt; first | refine sR ?_ | refine sB ?_ | refine s1 ?_ | refine sW ?_ | refine sN ?_) | (apply gBs; first | (refine L_bs0 rfl rfl rfl rfl (fun _ => ?_)) | (refine L_bs1 rfl rfl rfl rfl rfl rfl rfl (fun _ => ?_))) | refine kV ?_ | ((fail_if_success (refine L_known rfl ?_)); refine yW (fun h => ?_) fun h => ?_)) | (apply gW; first | refine W_seq ?_ | refine W_region ?_ | refine W_ret ?_ | refine W_skip ?_ | refine W_block ?_ | refine W_exit ?_ | refine W_cond1 rfl ?_ | refine W_cond0 rfl ?_ | refine cW (fun h => ?_) fun h => ?_) | (first | refine seqR.normal ?_ | refine seqR.ret ?_ | refine seqR.exit ?_ | refine blockR.normal ?_ | refine blockR.ret ?_ | refine blockR.here ?_ | refine blockR.exit rfl ?_ | refine loopR.ret ?_ | refine loopR.exit ?_ | refine midA.ret ?_ | refine midA.exit ?_) | fail))
  refine W_midA (α := Cn × Ar × Int) (fun y => [(0, .slice a xs.length c), (3, .pointer (some ⟨b3, 0, none⟩)), (5, .int .i64 y.2.2)]) (fun y => (b3, aObj y.1 y.2.1) :: (y.1.bw, wObj y.1 y.2.1) :: (y.1.br, rObj y.1 y.2.1) :: []) (fun y => y.2.1.ws.length ≤ y.1.wc ∧ BornI y.2.1 25 y.2.2) ?_ ?_
  · repeat' (first | (apply gCall; apply L_call rfl rfl rfl rfl rfl; (· first | exact at_c hI hl om | exact SerialOf_k g1 at_ at_ w1 hc1 om | exact SpecOk_k g5 at_ at_ w5 om); rintro _ _ ⟨rfl, rfl⟩) | (apply gL; first | refine L_nil ?_ | refine yS ?_ | refine yA fun _ => ?_ | (apply gSt; first | refine sR ?_ | refine sB ?_ | refine s1 ?_ | refine sW ?_ | refine sN ?_) | (apply gBs; first | (refine L_bs0 rfl rfl rfl rfl (fun _ => ?_)) | (refine L_bs1 rfl rfl rfl rfl rfl rfl rfl (fun _ => ?_))) | refine kV ?_ | ((fail_if_success (refine L_known rfl ?_)); refine yW (fun h => ?_) fun h => ?_)) | (apply gW; first | refine W_seq ?_ | refine W_region ?_ | refine W_ret ?_ | refine W_skip ?_ | refine W_block ?_ | refine W_exit ?_ | refine W_cond1 rfl ?_ | refine W_cond0 rfl ?_ | refine cW (fun h => ?_) fun h => ?_) | (first | refine seqR.normal ?_ | refine seqR.ret ?_ | refine seqR.exit ?_ | refine blockR.normal ?_ | refine blockR.ret ?_ | refine blockR.here ?_ | refine blockR.exit rfl ?_ | refine loopR.ret ?_ | refine loopR.exit ?_ | refine midA.ret ?_ | refine midA.exit ?_) | fail)
    apply W_loopX (α := Int × Cn × Ar × Int) (fun y => [(0, .slice a xs.length c), (3, .pointer (some ⟨b3, 0, none⟩)), (5, .int .i64 y.2.2.2), (6, .int .i64 y.1)]) (fun y => (b3, aObj y.2.1 y.2.2.1) :: (y.2.1.bw, wObj y.2.1 y.2.2.1) :: (y.2.1.br, rObj y.2.1 y.2.2.1) :: [])
      (fun y => (0 ≤ y.1 ∧ y.1 ≤ 25) ∧ y.2.2.1.ws.length ≤ y.2.1.wc ∧ BornI y.2.2.1 y.1 y.2.2.2) (fun y => (25 - y.1).toNat) (0, C2, A2, 1)
    · exact sub_
    · exact cvt_
    · exact ⟨⟨by dsimp only; omega, by dsimp only; omega⟩, hc2, hB2⟩
    rintro ⟨i, C, A, want⟩ ⟨⟨hi, hi2⟩, hc, hB⟩
    dsimp only at hi hi2 hc hB ⊢
    have hat := atR_r hI i
    have hA6 := hB.ln
    have hA5 := hB.vl
    have hwn := hB.wn
    have hsr := hB.sr
    by_cases hlt : i < 25
    · repeat' (first | exact absurd hlt h | first | (apply gCall; apply L_call rfl rfl rfl rfl rfl; (· first | exact at_c hI hl om | exact SerialOf_k g1 at_ at_ w1 hc1 om | exact SpecOk_k g5 at_ at_ w5 om); rintro _ _ ⟨rfl, rfl⟩) | (apply gL; first | refine L_nil ?_ | refine yS ?_ | refine yA fun _ => ?_ | (apply gSt; first | refine sR ?_ | refine sB ?_ | refine s1 ?_ | refine sW ?_ | refine sN ?_) | (apply gBs; first | (refine L_bs0 rfl rfl rfl rfl (fun _ => ?_)) | (refine L_bs1 rfl rfl rfl rfl rfl rfl rfl (fun _ => ?_))) | refine kV ?_ | ((fail_if_success (refine L_known rfl ?_)); refine yW (fun h => ?_) fun h => ?_)) | (apply gW; first | refine W_seq ?_ | refine W_region ?_ | refine W_ret ?_ | refine W_skip ?_ | refine W_block ?_ | refine W_exit ?_ | refine W_cond1 rfl ?_ | refine W_cond0 rfl ?_ | refine cW (fun h => ?_) fun h => ?_) | (first | refine seqR.normal ?_ | refine seqR.ret ?_ | refine seqR.exit ?_ | refine blockR.normal ?_ | refine blockR.ret ?_ | refine blockR.here ?_ | refine blockR.exit rfl ?_ | refine loopR.ret ?_ | refine loopR.exit ?_ | refine midA.ret ?_ | refine midA.exit ?_) | fail)
      · obtain ⟨A1, et, hB1, g1⟩ := hB.tab (by omega)
        have hA61 := hB1.ln
        have hA51 := hB1.vl
        have w1 := hB1.wf
        apply L_call rfl rfl rfl rfl rfl
        · exact NewTab_k et at_ at_ hB.wf hc (by omega) (by omega) (hB.ok (by omega)) (by omega) (by omega)
        rintro _ _ ⟨C1, rfl, hc1, rfl⟩
        repeat' (first | exact absurd rfl h | first | (apply gCall; apply L_call rfl rfl rfl rfl rfl; (· first | exact at_c hI hl om | exact SerialOf_k g1 at_ at_ w1 hc1 om | exact SpecOk_k g5 at_ at_ w5 om); rintro _ _ ⟨rfl, rfl⟩) | (apply gL; first | refine L_nil ?_ | refine yS ?_ | refine yA fun _ => ?_ | (apply gSt; first | refine sR ?_ | refine sB ?_ | refine s1 ?_ | refine sW ?_ | refine sN ?_) | (apply gBs; first | (refine L_bs0 rfl rfl rfl rfl (fun _ => ?_)) | (refine L_bs1 rfl rfl rfl rfl rfl rfl rfl (fun _ => ?_))) | refine kV ?_ | ((fail_if_success (refine L_known rfl ?_)); refine yW (fun h => ?_) fun h => ?_)) | (apply gW; first | refine W_seq ?_ | refine W_region ?_ | refine W_ret ?_ | refine W_skip ?_ | refine W_block ?_ | refine W_exit ?_ | refine W_cond1 rfl ?_ | refine W_cond0 rfl ?_ | refine cW (fun h => ?_) fun h => ?_) | (first | refine seqR.normal ?_ | refine seqR.ret ?_ | refine seqR.exit ?_ | refine blockR.normal ?_ | refine blockR.ret ?_ | refine blockR.here ?_ | refine blockR.exit rfl ?_ | refine loopR.ret ?_ | refine loopR.exit ?_ | refine midA.ret ?_ | refine midA.exit ?_) | fail)
        apply loopR.mk (i + 1, C1, A1, want + 1)
        · exact sub_
        · exact cvt_
        · exact ⟨⟨by dsimp only; omega, by dsimp only; omega⟩, hc1, hB1⟩
        · dsimp only; omega
      · obtain ⟨A1, et, hB1, g1⟩ := hB.fun_ (by omega)
        have hA61 := hB1.ln
        have hA51 := hB1.vl
        have w1 := hB1.wf
        apply L_call rfl rfl rfl rfl rfl
        · exact NewFun_k et at_ at_ at_ hB.wf hc (by omega) (by omega) (hB.ok (by omega)) (by omega) (by omega) hB.t1 (by omega) (by omega)
        rintro _ _ ⟨C1, rfl, hc1, rfl⟩
        repeat' (first | exact absurd rfl h | first | (apply gCall; apply L_call rfl rfl rfl rfl rfl; (· first | exact at_c hI hl om | exact SerialOf_k g1 at_ at_ w1 hc1 om | exact SpecOk_k g5 at_ at_ w5 om); rintro _ _ ⟨rfl, rfl⟩) | (apply gL; first | refine L_nil ?_ | refine yS ?_ | refine yA fun _ => ?_ | (apply gSt; first | refine sR ?_ | refine sB ?_ | refine s1 ?_ | refine sW ?_ | refine sN ?_) | (apply gBs; first | (refine L_bs0 rfl rfl rfl rfl (fun _ => ?_)) | (refine L_bs1 rfl rfl rfl rfl rfl rfl rfl (fun _ => ?_))) | refine kV ?_ | ((fail_if_success (refine L_known rfl ?_)); refine yW (fun h => ?_) fun h => ?_)) | (apply gW; first | refine W_seq ?_ | refine W_region ?_ | refine W_ret ?_ | refine W_skip ?_ | refine W_block ?_ | refine W_exit ?_ | refine W_cond1 rfl ?_ | refine W_cond0 rfl ?_ | refine cW (fun h => ?_) fun h => ?_) | (first | refine seqR.normal ?_ | refine seqR.ret ?_ | refine seqR.exit ?_ | refine blockR.normal ?_ | refine blockR.ret ?_ | refine blockR.here ?_ | refine blockR.exit rfl ?_ | refine loopR.ret ?_ | refine loopR.exit ?_ | refine midA.ret ?_ | refine midA.exit ?_) | fail)
        apply loopR.mk (i + 1, C1, A1, want + 1)
        · exact sub_
        · exact cvt_
        · exact ⟨⟨by dsimp only; omega, by dsimp only; omega⟩, hc1, hB1⟩
        · dsimp only; omega
      · obtain ⟨A1, et, hB1, g1⟩ := hB.text (by omega)
        have hA61 := hB1.ln
        have hA51 := hB1.vl
        have w1 := hB1.wf
        apply L_call rfl rfl rfl rfl rfl
        · exact PutText_k (by rfl) et byt4 (by decide) at_ at_ hB.wf hc (by omega) (by omega) (hB.ok (by omega)) (by omega)
        rintro _ _ ⟨C1, rfl, hc1, rfl⟩
        repeat' (first | exact absurd rfl h | first | (apply gCall; apply L_call rfl rfl rfl rfl rfl; (· first | exact at_c hI hl om | exact SerialOf_k g1 at_ at_ w1 hc1 om | exact SpecOk_k g5 at_ at_ w5 om); rintro _ _ ⟨rfl, rfl⟩) | (apply gL; first | refine L_nil ?_ | refine yS ?_ | refine yA fun _ => ?_ | (apply gSt; first | refine sR ?_ | refine sB ?_ | refine s1 ?_ | refine sW ?_ | refine sN ?_) | (apply gBs; first | (refine L_bs0 rfl rfl rfl rfl (fun _ => ?_)) | (refine L_bs1 rfl rfl rfl rfl rfl rfl rfl (fun _ => ?_))) | refine kV ?_ | ((fail_if_success (refine L_known rfl ?_)); refine yW (fun h => ?_) fun h => ?_)) | (apply gW; first | refine W_seq ?_ | refine W_region ?_ | refine W_ret ?_ | refine W_skip ?_ | refine W_block ?_ | refine W_exit ?_ | refine W_cond1 rfl ?_ | refine W_cond0 rfl ?_ | refine cW (fun h => ?_) fun h => ?_) | (first | refine seqR.normal ?_ | refine seqR.ret ?_ | refine seqR.exit ?_ | refine blockR.normal ?_ | refine blockR.ret ?_ | refine blockR.here ?_ | refine blockR.exit rfl ?_ | refine loopR.ret ?_ | refine loopR.exit ?_ | refine midA.ret ?_ | refine midA.exit ?_) | fail)
        apply loopR.mk (i + 1, C1, A1, want)
        · exact sub_
        · exact cvt_
        · exact ⟨⟨by dsimp only; omega, by dsimp only; omega⟩, hc1, hB1⟩
        · dsimp only; omega
      · apply L_call rfl rfl rfl rfl rfl
        · exact (implFlip_c at_ at_ hB.wf hc (by omega) (by omega)).cres (by rw [hB.flipR.ln]; omega) (by rw [hB.flipR.vl]; omega)
        rintro _ _ ⟨C1, rfl, hc1, rfl⟩
        repeat' (first | exact absurd rfl h | first | (apply gCall; apply L_call rfl rfl rfl rfl rfl; (· first | exact at_c hI hl om | exact SerialOf_k g1 at_ at_ w1 hc1 om | exact SpecOk_k g5 at_ at_ w5 om); rintro _ _ ⟨rfl, rfl⟩) | (apply gL; first | refine L_nil ?_ | refine yS ?_ | refine yA fun _ => ?_ | (apply gSt; first | refine sR ?_ | refine sB ?_ | refine s1 ?_ | refine sW ?_ | refine sN ?_) | (apply gBs; first | (refine L_bs0 rfl rfl rfl rfl (fun _ => ?_)) | (refine L_bs1 rfl rfl rfl rfl rfl rfl rfl (fun _ => ?_))) | refine kV ?_ | ((fail_if_success (refine L_known rfl ?_)); refine yW (fun h => ?_) fun h => ?_)) | (apply gW; first | refine W_seq ?_ | refine W_region ?_ | refine W_ret ?_ | refine W_skip ?_ | refine W_block ?_ | refine W_exit ?_ | refine W_cond1 rfl ?_ | refine W_cond0 rfl ?_ | refine cW (fun h => ?_) fun h => ?_) | (first | refine seqR.normal ?_ | refine seqR.ret ?_ | refine seqR.exit ?_ | refine blockR.normal ?_ | refine blockR.ret ?_ | refine blockR.here ?_ | refine blockR.exit rfl ?_ | refine loopR.ret ?_ | refine loopR.exit ?_ | refine midA.ret ?_ | refine midA.exit ?_) | fail)
        apply loopR.mk (i + 1, C1, A.flipR.1, want)
        · exact sub_
        · exact cvt_
        · exact ⟨⟨by dsimp only; omega, by dsimp only; omega⟩, hc1, hB.flipR⟩
        · dsimp only; omega
      · apply L_call rfl rfl rfl rfl rfl
        · exact CopyStep_c at_ at_ hB.wf hc (by omega) (by omega) (hB.ok (by omega)) (by omega) (by omega)
        rintro _ _ ⟨C1, rfl, hc1, rfl⟩
        repeat' (first | exact absurd rfl h | first | (apply gCall; apply L_call rfl rfl rfl rfl rfl; (· first | exact at_c hI hl om | exact SerialOf_k g1 at_ at_ w1 hc1 om | exact SpecOk_k g5 at_ at_ w5 om); rintro _ _ ⟨rfl, rfl⟩) | (apply gL; first | refine L_nil ?_ | refine yS ?_ | refine yA fun _ => ?_ | (apply gSt; first | refine sR ?_ | refine sB ?_ | refine s1 ?_ | refine sW ?_ | refine sN ?_) | (apply gBs; first | (refine L_bs0 rfl rfl rfl rfl (fun _ => ?_)) | (refine L_bs1 rfl rfl rfl rfl rfl rfl rfl (fun _ => ?_))) | refine kV ?_ | ((fail_if_success (refine L_known rfl ?_)); refine yW (fun h => ?_) fun h => ?_)) | (apply gW; first | refine W_seq ?_ | refine W_region ?_ | refine W_ret ?_ | refine W_skip ?_ | refine W_block ?_ | refine W_exit ?_ | refine W_cond1 rfl ?_ | refine W_cond0 rfl ?_ | refine cW (fun h => ?_) fun h => ?_) | (first | refine seqR.normal ?_ | refine seqR.ret ?_ | refine seqR.exit ?_ | refine blockR.normal ?_ | refine blockR.ret ?_ | refine blockR.here ?_ | refine blockR.exit rfl ?_ | refine loopR.ret ?_ | refine loopR.exit ?_ | refine midA.ret ?_ | refine midA.exit ?_) | fail)
        apply loopR.mk (i + 1, C1, (A.stepR 1).1, want)
        · exact sub_
        · exact cvt_
        · exact ⟨⟨by dsimp only; omega, by dsimp only; omega⟩, hc1, hB.stepR 1⟩
        · dsimp only; omega
    · repeat' (first | exact absurd h hlt | first | (apply gCall; apply L_call rfl rfl rfl rfl rfl; (· first | exact at_c hI hl om | exact SerialOf_k g1 at_ at_ w1 hc1 om | exact SpecOk_k g5 at_ at_ w5 om); rintro _ _ ⟨rfl, rfl⟩) | (apply gL; first | refine L_nil ?_ | refine yS ?_ | refine yA fun _ => ?_ | (apply gSt; first | refine sR ?_ | refine sB ?_ | refine s1 ?_ | refine sW ?_ | refine sN ?_) | (apply gBs; first | (refine L_bs0 rfl rfl rfl rfl (fun _ => ?_)) | (refine L_bs1 rfl rfl rfl rfl rfl rfl rfl (fun _ => ?_))) | refine kV ?_ | ((fail_if_success (refine L_known rfl ?_)); refine yW (fun h => ?_) fun h => ?_)) | (apply gW; first | refine W_seq ?_ | refine W_region ?_ | refine W_ret ?_ | refine W_skip ?_ | refine W_block ?_ | refine W_exit ?_ | refine W_cond1 rfl ?_ | refine W_cond0 rfl ?_ | refine cW (fun h => ?_) fun h => ?_) | (first | refine seqR.normal ?_ | refine seqR.ret ?_ | refine seqR.exit ?_ | refine blockR.normal ?_ | refine blockR.ret ?_ | refine blockR.here ?_ | refine blockR.exit rfl ?_ | refine loopR.ret ?_ | refine loopR.exit ?_ | refine midA.ret ?_ | refine midA.exit ?_) | fail)
      have ei : i = 25 := by omega
      subst ei
      apply midA.mk (C, A, want)
      · exact sub_
      · exact cvt_
      · exact ⟨hc, hB⟩
  rintro ⟨C, A, want⟩ ⟨hc, hB⟩
  dsimp only at hc hB ⊢
  have hA6 := hB.ln
  have hA5 := hB.vl
  have hsr := hB.sr
  have g5 := hB.ok (by omega)
  have w5 := hB.wf
  repeat' (first | exact absurd hsr h | first | (apply gCall; apply L_call rfl rfl rfl rfl rfl; (· first | exact at_c hI hl om | exact SerialOf_k g1 at_ at_ w1 hc1 om | exact SpecOk_k g5 at_ at_ w5 om); rintro _ _ ⟨rfl, rfl⟩) | (apply gL; first | refine L_nil ?_ | refine yS ?_ | refine yA fun _ => ?_ | (apply gSt; first | refine sR ?_ | refine sB ?_ | refine s1 ?_ | refine sW ?_ | refine sN ?_) | (apply gBs; first | (refine L_bs0 rfl rfl rfl rfl (fun _ => ?_)) | (refine L_bs1 rfl rfl rfl rfl rfl rfl rfl (fun _ => ?_))) | refine kV ?_ | ((fail_if_success (refine L_known rfl ?_)); refine yW (fun h => ?_) fun h => ?_)) | (apply gW; first | refine W_seq ?_ | refine W_region ?_ | refine W_ret ?_ | refine W_skip ?_ | refine W_block ?_ | refine W_exit ?_ | refine W_cond1 rfl ?_ | refine W_cond0 rfl ?_ | refine cW (fun h => ?_) fun h => ?_) | (first | refine seqR.normal ?_ | refine seqR.ret ?_ | refine seqR.exit ?_ | refine blockR.normal ?_ | refine blockR.ret ?_ | refine blockR.here ?_ | refine blockR.exit rfl ?_ | refine loopR.ret ?_ | refine loopR.exit ?_ | refine midA.ret ?_ | refine midA.exit ?_) | fail)
  exact retR.ret _ _ (ret1 rfl rfl) cvt_ rfl
end Go.Proofs.Ytepddopgmhdllaa.Eng
