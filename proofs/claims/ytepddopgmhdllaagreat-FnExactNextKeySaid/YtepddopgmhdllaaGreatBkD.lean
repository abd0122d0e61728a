/- The implementation's copying: a value is forwarded; a value is set; a cycle is over. -/
import Derived.Test.YtepddopgmhdllaaGreatBkP
import Derived.Test.YtepddopgmhdllaaGreatBkI8
import Derived.Test.YtepddopgmhdllaaGreatBkI
namespace Go.Proofs.YtepddopgmhdllaaGreat.Eng
open Go Go.RowKit Go.Proofs.YtepddopgmhdllaaGreat.Sl Go.Proofs.YtepddopgmhdllaaGreat.Ar Go.Proofs.YtepddopgmhdllaaGreat.Base
set_option linter.unusedVariables false
set_option linter.unusedSimpArgs false
set_option maxRecDepth 10000
section
variable {P : Program} {N : Nat} {w0 w : World} {E : Env} {H H' H1 : HL} {o : Oper} {x y z : Operand} {T T2 e ty : TypeId} {k bytes b : Nat} {ops : Array Oper} {rest : List Oper} {R : Post}
theorem L_copyZ {t : Tmp} {ws : List Int} {sp : List Value} {p q zz : Int} {l l2 c1 c2 : Nat} [TSlice P T e 1] (hw : wantE ops E o = some true) (hd : o.dst = some t) (ht : Nat.blt t N = true) (ho : o.op = .call { callee := .builtin .copy, args := #[x, y], argTypes := #[T, T] })
    (hx : ev E x = some (.slice (some ⟨b, 0 + p.toNat * 1, none⟩) l c1)) (hy : ev E y = some (.slice (some ⟨b, 0 + q.toNat * 1, none⟩) l2 c2)) (hl : (l : Int) = zz) (hl2 : (l2 : Int) = zz) (hp : 0 ≤ p) (hq : 0 ≤ q) (hp2 : p + zz ≤ (ws.length : Int)) (hq2 : q + zz ≤ (ws.length : Int))
    (hU : Up H b (.cells (rowA .u64 ws sp) e (0, 0)) (.cells (rowA .u64 (copyW ws p q zz) sp) e (0, 0)) H') (hK : L P N w0 ops rest ((t, .int .i64 (l : Int)) :: E) H' R) : L P N w0 ops (o :: rest) E H R := by
  subst hl
  exact L_copyA hw hd ht ho hx hy (by omega) hp hq hp2 hq2 hU hK
end
variable {w0 : World} {H : HL} {C : Cn} {A : Ar} {ba rc : Nat} {rp : Option Addr}
theorem implIsRefB_c {t n : Int} {b : Bool} (hb : isRef t = b) : Fn Tryz.prog w0 177 #[.agg #[.int .i64 t, .int .i64 n]] H fun v H' => v = .bool b ∧ H' = H := by
  subst hb; exact implIsRef_c t n
theorem implForwardedB_c {x : Int} {b : Bool} (hb : isFw x = b) (h0 : 0 ≤ x) (h1 : x < 18446744073709551616) : Fn Tryz.prog w0 138 #[.int .u64 x] H fun v H' => v = .tuple #[.int .i64 (fw x), .bool b] ∧ H' = H := by
  subst hb; exact implForwarded_c h0 h1
theorem isOtherB_c {n : Int} {b : Bool} (hb : inB n (A.start (1 - A.to)) ((1 - A.to + 1) * A.semi - 1) = b) (hP : At H ba (aObjG C A rp rc)) (hh : A.to = 0 ∨ A.to = 1) (hs : 256 ≤ A.semi ∧ A.semi ≤ 4000) :
    Fn Tryz.prog w0 178 #[.pointer (some ⟨ba, 0, none⟩), .int .i64 n] H fun v H' => v = .bool b ∧ H' = H := by
  subst hb; exact isOther_c hP hh hs
theorem over_c : Fn Tryz.prog w0 182 #[.pointer (some ⟨ba, 0, none⟩)] ((ba, aObjG C A rp rc) :: H) fun v H' => v = .tuple #[] ∧ H' = (ba, aObjG C A.over rp rc) :: H := by
  refine enter1 Tryz.func182 rfl rfl Tryz.ntmps182 rfl ?_
  repeat' (first | (apply gSt; apply L_stc rfl rfl rfl rfl rfl rfl; (· exact at_); (· simp only [List.set_cons_zero, List.set_cons_succ]; rfl); (· exact up_); (· rfl)) | first | ((first | (apply gCall; apply L_call rfl rfl rfl rfl rfl) | (apply gQC; apply Q_call rfl rfl rfl rfl rfl)); (· first | exact implIsRefB_c hr | exact isOtherB_c hi at_ hto hse | exact implForwardedB_c hf om om | exact head_c at_ at_ hw om om); try rintro _ _ ⟨rfl, rfl⟩) | (apply gL; first | refine L_nil ?_ | refine yS ?_ | refine yX fun _ => ?_ | refine yA fun _ => ?_ | (apply gSt; first | refine sR ?_ | refine sB ?_ | refine s1 ?_ | refine sW ?_ | refine sN ?_) | refine kV ?_ | (apply L_val rfl rfl rfl; (· first | (apply gBin; first | fail | exact v_ort rfl rfl om) | fail | exact v_slice rfl rfl rfl om om om om)) | ((fail_if_success (refine L_known rfl ?_)); refine yW (fun h => ?_) fun h => ?_)) | (apply gW; first | refine W_seq ?_ | refine W_region ?_ | refine W_ret ?_ | refine W_skip ?_ | refine W_cond1 rfl ?_ | refine W_cond0 rfl ?_ | refine cW (fun h => ?_) fun h => ?_ | refine wQ ?_) | (first | refine seqR.normal ?_ | refine seqR.ret ?_ | refine midA.ret ?_ | refine midA.exit ?_) | (apply gQ; first | refine Q_nil ?_ | refine Q_skip rfl rfl rfl ?_ | refine kQ ?_ | (apply Q_val rfl rfl rfl; (· first | (apply gBin; first | fail | exact v_ort rfl rfl om) | fail | exact v_slice rfl rfl rfl om om om om)) | ((fail_if_success (refine Q_known rfl ?_)); refine zW (fun h => ?_) fun h => ?_)) | fail)
  all_goals (refine retR.end_ _ _ (ret0 rfl) cvt_ ⟨rfl, ?_⟩)
  all_goals unfold Ar.over
  · rw [if_pos ⟨by assumption, by assumption⟩]
  · rw [if_neg (fun c => absurd c.2 (by assumption))]
  · rw [if_neg (fun c => by have := c.1; simp_all)]
theorem overT {H1 : HL} (hT : Tk H ba (aObjG C A rp rc) H1) : Fn Tryz.prog w0 182 #[.pointer (some ⟨ba, 0, none⟩)] H fun v H' => v = .tuple #[] ∧ H' = (ba, aObjG C A.over rp rc) :: H1 :=
  Fn.conv (Cv.take hT Cv.refl) over_c
theorem aObj_put {a t n : Int} : aObjG C (A.putV a t n) rp rc = aObjG C A rp rc := by
  have ew : (A.putV a t n).ws.length = A.ws.length := by show (List.set _ _ _).length = _; rw [List.length_set, List.length_set]
  show Obj.cells #[.slice _ (A.putV a t n).ws.length _, _, _, _, _, _, _, _, _, _] _ _ = _
  rw [ew]; rfl
theorem iset_c {a t n : Int} (h0 : 0 ≤ a) (h1 : a + 1 < (A.ws.length : Int)) (hm : A.ws.length ≤ 8000) :
    Fn Tryz.prog w0 62 #[.pointer (some ⟨ba, 0, none⟩), .int .i64 a, .agg #[.int .i64 t, .int .i64 n]] ((ba, aObjG C A rp rc) :: (C.bw, wObj C A) :: H) fun v H' => v = .tuple #[] ∧ H' = (ba, aObjG C (A.putV a t n) rp rc) :: (C.bw, wObj C (A.putV a t n)) :: H := by
  rw [aObj_put]
  refine enter3 Tryz.func62 rfl rfl Tryz.ntmps62 rfl ?_
  have hsl : (A.ws.set a.toNat (IntKind.u64.wrap t)).length = A.ws.length := List.length_set
  repeat' (first | ((first | (apply gCall; apply L_call rfl rfl rfl rfl rfl) | (apply gQC; apply Q_call rfl rfl rfl rfl rfl)); (· first | exact implIsRefB_c hr | exact isOtherB_c hi at_ hto hse | exact implForwardedB_c hf om om | exact head_c at_ at_ hw om om); try rintro _ _ ⟨rfl, rfl⟩) | (apply gL; first | refine L_nil ?_ | refine yS ?_ | refine yX fun _ => ?_ | refine yA fun _ => ?_ | (apply gSt; first | refine sR ?_ | refine sB ?_ | refine s1 ?_ | refine sW ?_ | refine sN ?_) | refine kV ?_ | (apply L_val rfl rfl rfl; (· first | (apply gBin; first | fail | exact v_ort rfl rfl om) | fail | exact v_slice rfl rfl rfl om om om om)) | ((fail_if_success (refine L_known rfl ?_)); refine yW (fun h => ?_) fun h => ?_)) | (apply gW; first | refine W_seq ?_ | refine W_region ?_ | refine W_ret ?_ | refine W_skip ?_ | refine W_cond1 rfl ?_ | refine W_cond0 rfl ?_ | refine cW (fun h => ?_) fun h => ?_ | refine wQ ?_) | (first | refine seqR.normal ?_ | refine seqR.ret ?_ | refine midA.ret ?_ | refine midA.exit ?_) | (apply gQ; first | refine Q_nil ?_ | refine Q_skip rfl rfl rfl ?_ | refine kQ ?_ | (apply Q_val rfl rfl rfl; (· first | (apply gBin; first | fail | exact v_ort rfl rfl om) | fail | exact v_slice rfl rfl rfl om om om om)) | ((fail_if_success (refine Q_known rfl ?_)); refine zW (fun h => ?_) fun h => ?_)) | fail)
  rename_i b5
  apply W_regionA (D := (b5, .cells #[.int .i64 t, .int .i64 n] 47 (0, 0)) :: (ba, aObjG C A rp rc) :: H) (by kernel_rfl)
  refine kAt 0 ?_
  refine kAt 1 ?_
  refine kAt 2 ?_
  refine kAt 3 ?_
  refine kAt 4 ?_
  refine kAt 5 ?_
  refine kAt 6 ?_
  refine kAt 7 ?_
  refine kAt 8 ?_
  refine A_one (i := 9) (by kernel_rfl) cvt_ rfl (O_of_L fun S hS => ?_)
  first | (apply gCall; apply L_call rfl rfl rfl rfl rfl; (· first | exact implIsRefB_c hr | exact isOtherB_c hi at_ hto hse | exact implForwardedB_c hf om om | exact head_c at_ at_ hw om om); rintro _ _ ⟨rfl, rfl⟩) | (apply gL; first | refine L_nil ?_ | refine yS ?_ | refine yX fun _ => ?_ | refine yA fun _ => ?_ | (apply gSt; first | refine sR ?_ | refine sB ?_ | refine s1 ?_ | refine sW ?_ | refine sN ?_) | refine kV ?_ | (apply L_val rfl rfl rfl; (· first | (apply gBin; first | fail | exact v_ort rfl rfl om) | fail | exact v_slice rfl rfl rfl om om om om)) | ((fail_if_success (refine L_known rfl ?_)); refine yW (fun h => ?_) fun h => ?_))
  refine L_nil (hS _ _ ?_)
  clear hS
  refine A_nil (by kernel_rfl) cvt_ ?_
  repeat' (first | ((first | (apply gCall; apply L_call rfl rfl rfl rfl rfl) | (apply gQC; apply Q_call rfl rfl rfl rfl rfl)); (· first | exact implIsRefB_c hr | exact isOtherB_c hi at_ hto hse | exact implForwardedB_c hf om om | exact head_c at_ at_ hw om om); try rintro _ _ ⟨rfl, rfl⟩) | (apply gL; first | refine L_nil ?_ | refine yS ?_ | refine yX fun _ => ?_ | refine yA fun _ => ?_ | (apply gSt; first | refine sR ?_ | refine sB ?_ | refine s1 ?_ | refine sW ?_ | refine sN ?_) | refine kV ?_ | (apply L_val rfl rfl rfl; (· first | (apply gBin; first | fail | exact v_ort rfl rfl om) | fail | exact v_slice rfl rfl rfl om om om om)) | ((fail_if_success (refine L_known rfl ?_)); refine yW (fun h => ?_) fun h => ?_)) | (apply gW; first | refine W_seq ?_ | refine W_region ?_ | refine W_ret ?_ | refine W_skip ?_ | refine W_cond1 rfl ?_ | refine W_cond0 rfl ?_ | refine cW (fun h => ?_) fun h => ?_ | refine wQ ?_) | (first | refine seqR.normal ?_ | refine seqR.ret ?_ | refine midA.ret ?_ | refine midA.exit ?_) | (apply gQ; first | refine Q_nil ?_ | refine Q_skip rfl rfl rfl ?_ | refine kQ ?_ | (apply Q_val rfl rfl rfl; (· first | (apply gBin; first | fail | exact v_ort rfl rfl om) | fail | exact v_slice rfl rfl rfl om om om om)) | ((fail_if_success (refine Q_known rfl ?_)); refine zW (fun h => ?_) fun h => ?_)) | fail)
  apply W_regionA (D := (b5, .cells #[.int .i64 t, .int .i64 n] 47 (0, 0)) :: (ba, aObjG C A rp rc) :: H) (by kernel_rfl)
  refine kAt 0 ?_
  refine kAt 1 ?_
  refine kAt 2 ?_
  refine kAt 3 ?_
  refine kAt 4 ?_
  refine kAt 5 ?_
  refine kAt 6 ?_
  refine kAt 7 ?_
  refine kAt 8 ?_
  refine kAt 9 ?_
  refine A_one (i := 10) (by kernel_rfl) cvt_ rfl (O_of_L fun S hS => ?_)
  first | (apply gCall; apply L_call rfl rfl rfl rfl rfl; (· first | exact implIsRefB_c hr | exact isOtherB_c hi at_ hto hse | exact implForwardedB_c hf om om | exact head_c at_ at_ hw om om); rintro _ _ ⟨rfl, rfl⟩) | (apply gL; first | refine L_nil ?_ | refine yS ?_ | refine yX fun _ => ?_ | refine yA fun _ => ?_ | (apply gSt; first | refine sR ?_ | refine sB ?_ | refine s1 ?_ | refine sW ?_ | refine sN ?_) | refine kV ?_ | (apply L_val rfl rfl rfl; (· first | (apply gBin; first | fail | exact v_ort rfl rfl om) | fail | exact v_slice rfl rfl rfl om om om om)) | ((fail_if_success (refine L_known rfl ?_)); refine yW (fun h => ?_) fun h => ?_))
  refine L_nil (hS _ _ ?_)
  clear hS
  refine A_nil (by kernel_rfl) cvt_ ?_
  repeat' (first | ((first | (apply gCall; apply L_call rfl rfl rfl rfl rfl) | (apply gQC; apply Q_call rfl rfl rfl rfl rfl)); (· first | exact implIsRefB_c hr | exact isOtherB_c hi at_ hto hse | exact implForwardedB_c hf om om | exact head_c at_ at_ hw om om); try rintro _ _ ⟨rfl, rfl⟩) | (apply gL; first | refine L_nil ?_ | refine yS ?_ | refine yX fun _ => ?_ | refine yA fun _ => ?_ | (apply gSt; first | refine sR ?_ | refine sB ?_ | refine s1 ?_ | refine sW ?_ | refine sN ?_) | refine kV ?_ | (apply L_val rfl rfl rfl; (· first | (apply gBin; first | fail | exact v_ort rfl rfl om) | fail | exact v_slice rfl rfl rfl om om om om)) | ((fail_if_success (refine L_known rfl ?_)); refine yW (fun h => ?_) fun h => ?_)) | (apply gW; first | refine W_seq ?_ | refine W_region ?_ | refine W_ret ?_ | refine W_skip ?_ | refine W_cond1 rfl ?_ | refine W_cond0 rfl ?_ | refine cW (fun h => ?_) fun h => ?_ | refine wQ ?_) | (first | refine seqR.normal ?_ | refine seqR.ret ?_ | refine midA.ret ?_ | refine midA.exit ?_) | (apply gQ; first | refine Q_nil ?_ | refine Q_skip rfl rfl rfl ?_ | refine kQ ?_ | (apply Q_val rfl rfl rfl; (· first | (apply gBin; first | fail | exact v_ort rfl rfl om) | fail | exact v_slice rfl rfl rfl om om om om)) | ((fail_if_success (refine Q_known rfl ?_)); refine zW (fun h => ?_) fun h => ?_)) | fail)
  simp only [wrap_w64]
  exact retR.end_ _ _ (ret0 rfl) cvt_ ⟨rfl, rfl⟩
theorem isetT {a t n : Int} {H1 H2 : HL} (hT : Tk H ba (aObjG C A rp rc) H1) (hT2 : Tk H1 C.bw (wObj C A) H2) (h0 : 0 ≤ a) (h1 : a + 1 < (A.ws.length : Int)) (hm : A.ws.length ≤ 8000) :
    Fn Tryz.prog w0 62 #[.pointer (some ⟨ba, 0, none⟩), .int .i64 a, .agg #[.int .i64 t, .int .i64 n]] H fun v H' => v = .tuple #[] ∧ H' = (ba, aObjG C (A.putV a t n) rp rc) :: (C.bw, wObj C (A.putV a t n)) :: H2 :=
  Fn.conv (Cv.take hT (Cv.take hT2 Cv.refl)) (iset_c h0 h1 hm)
set_option maxHeartbeats 4000000 in
theorem forwarded_c {t n : Int} (hc : A.cyc = true) (hP : FP A t n) (hwc : A.ws.length ≤ C.wc) :
    Fn Tryz.prog w0 146 #[.pointer (some ⟨ba, 0, none⟩), .agg #[.int .i64 t, .int .i64 n]] ((ba, aObjG C A rp rc) :: (C.bw, wObj C A) :: H) fun v H' => v = .agg #[.int .i64 t, .int .i64 (A.fwd t n).2] ∧ H' = (ba, aObjG C (A.fwd t n).1 rp rc) :: (C.bw, wObj C (A.fwd t n).1) :: H := by
  have hw := hP.wf
  have hlen := hP.len
  have hse := hP.se
  have hto := hP.to
  have htp := hP.tp
  have hcp := hP.cp
  by_cases hr : isRef t = true
  · obtain ⟨⟨hn, hn2⟩, hio, hcpy⟩ := hP.rf hr
    have hwn := hw n
    cases hi0 : A.inTo n with
    | true =>
      have hi : inB n (A.start (1 - A.to)) ((1 - A.to + 1) * A.semi - 1) = false := by rw [hio, hi0]; rfl
      have e : A.fwd t n = (A, n) := by unfold Ar.fwd; rw [if_neg (by rw [hi0]; simp)]
      rw [e]
      refine enter2 Tryz.func146 rfl rfl Tryz.ntmps146 rfl ?_
      repeat' (first | exact absurd h (by rw [hc]; decide) | first | ((first | (apply gCall; apply L_call rfl rfl rfl rfl rfl) | (apply gQC; apply Q_call rfl rfl rfl rfl rfl)); (· first | exact implIsRefB_c hr | exact isOtherB_c hi at_ hto hse | exact implForwardedB_c hf om om | exact head_c at_ at_ hw om om); try rintro _ _ ⟨rfl, rfl⟩) | (apply gL; first | refine L_nil ?_ | refine yS ?_ | refine yX fun _ => ?_ | refine yA fun _ => ?_ | (apply gSt; first | refine sR ?_ | refine sB ?_ | refine s1 ?_ | refine sW ?_ | refine sN ?_) | refine kV ?_ | (apply L_val rfl rfl rfl; (· first | (apply gBin; first | fail | exact v_ort rfl rfl om) | fail | exact v_slice rfl rfl rfl om om om om)) | ((fail_if_success (refine L_known rfl ?_)); refine yW (fun h => ?_) fun h => ?_)) | (apply gW; first | refine W_seq ?_ | refine W_region ?_ | refine W_ret ?_ | refine W_skip ?_ | refine W_cond1 rfl ?_ | refine W_cond0 rfl ?_ | refine cW (fun h => ?_) fun h => ?_ | refine wQ ?_) | (first | refine seqR.normal ?_ | refine seqR.ret ?_ | refine midA.ret ?_ | refine midA.exit ?_) | (apply gQ; first | refine Q_nil ?_ | refine Q_skip rfl rfl rfl ?_ | refine kQ ?_ | (apply Q_val rfl rfl rfl; (· first | (apply gBin; first | fail | exact v_ort rfl rfl om) | fail | exact v_slice rfl rfl rfl om om om om)) | ((fail_if_success (refine Q_known rfl ?_)); refine zW (fun h => ?_) fun h => ?_)) | fail)
      exact retR.ret _ _ (retC rfl rfl at_ (by rfl)) cvt_ ⟨rfl, rfl⟩
    | false =>
      have hi : inB n (A.start (1 - A.to)) ((1 - A.to + 1) * A.semi - 1) = true := by rw [hio, hi0]; rfl
      cases hf : isFw (g A.ws n) with
      | true =>
        have e : A.fwd t n = (A, fw (g A.ws n)) := by unfold Ar.fwd; rw [if_pos ⟨hr, hi0⟩, if_pos hf]
        rw [e]
        refine enter2 Tryz.func146 rfl rfl Tryz.ntmps146 rfl ?_
        repeat' (first | exact absurd h (by rw [hc]; decide) | (apply gSt; apply L_stc rfl rfl rfl rfl rfl rfl; (· exact at_); (· simp only [List.set_cons_zero, List.set_cons_succ]; rfl); (· exact up_); (· rfl)) | first | ((first | (apply gCall; apply L_call rfl rfl rfl rfl rfl) | (apply gQC; apply Q_call rfl rfl rfl rfl rfl)); (· first | exact implIsRefB_c hr | exact isOtherB_c hi at_ hto hse | exact implForwardedB_c hf om om | exact head_c at_ at_ hw om om); try rintro _ _ ⟨rfl, rfl⟩) | (apply gL; first | refine L_nil ?_ | refine yS ?_ | refine yX fun _ => ?_ | refine yA fun _ => ?_ | (apply gSt; first | refine sR ?_ | refine sB ?_ | refine s1 ?_ | refine sW ?_ | refine sN ?_) | refine kV ?_ | (apply L_val rfl rfl rfl; (· first | (apply gBin; first | fail | exact v_ort rfl rfl om) | fail | exact v_slice rfl rfl rfl om om om om)) | ((fail_if_success (refine L_known rfl ?_)); refine yW (fun h => ?_) fun h => ?_)) | (apply gW; first | refine W_seq ?_ | refine W_region ?_ | refine W_ret ?_ | refine W_skip ?_ | refine W_cond1 rfl ?_ | refine W_cond0 rfl ?_ | refine cW (fun h => ?_) fun h => ?_ | refine wQ ?_) | (first | refine seqR.normal ?_ | refine seqR.ret ?_ | refine midA.ret ?_ | refine midA.exit ?_) | (apply gQ; first | refine Q_nil ?_ | refine Q_skip rfl rfl rfl ?_ | refine kQ ?_ | (apply Q_val rfl rfl rfl; (· first | (apply gBin; first | fail | exact v_ort rfl rfl om) | fail | exact v_slice rfl rfl rfl om om om om)) | ((fail_if_success (refine Q_known rfl ?_)); refine zW (fun h => ?_) fun h => ?_)) | fail)
        exact retR.ret _ _ (retC rfl rfl at_ (by rfl)) cvt_ ⟨rfl, rfl⟩
      | false =>
        obtain ⟨c1, c2, c3, c4, c5⟩ := hcpy hi0 hf
        have hrs := rsR' c1
        have e : A.fwd t n = (A.cpy n, A.top) := by unfold Ar.fwd; rw [if_pos ⟨hr, hi0⟩, if_neg (by rw [hf]; decide)]
        rw [e]
        refine enter2 Tryz.func146 rfl rfl Tryz.ntmps146 rfl ?_
        repeat' (first | exact absurd h (by rw [hc]; decide) | ((fail_if_success apply gAtR 8); (first | ((first | (apply gCall; apply L_call rfl rfl rfl rfl rfl) | (apply gQC; apply Q_call rfl rfl rfl rfl rfl)); (· first | exact implIsRefB_c hr | exact isOtherB_c hi at_ hto hse | exact implForwardedB_c hf om om | exact head_c at_ at_ hw om om); try rintro _ _ ⟨rfl, rfl⟩) | (apply gL; first | refine L_nil ?_ | refine yS ?_ | refine yX fun _ => ?_ | refine yA fun _ => ?_ | (apply gSt; first | refine sR ?_ | refine sB ?_ | refine s1 ?_ | refine sW ?_ | refine sN ?_) | refine kV ?_ | (apply L_val rfl rfl rfl; (· first | (apply gBin; first | fail | exact v_ort rfl rfl om) | fail | exact v_slice rfl rfl rfl om om om om)) | ((fail_if_success (refine L_known rfl ?_)); refine yW (fun h => ?_) fun h => ?_)) | (apply gW; first | refine W_seq ?_ | refine W_region ?_ | refine W_ret ?_ | refine W_skip ?_ | refine W_cond1 rfl ?_ | refine W_cond0 rfl ?_ | refine cW (fun h => ?_) fun h => ?_ | refine wQ ?_) | (first | refine seqR.normal ?_ | refine seqR.ret ?_ | refine midA.ret ?_ | refine midA.exit ?_) | (apply gQ; first | refine Q_nil ?_ | refine Q_skip rfl rfl rfl ?_ | refine kQ ?_ | (apply Q_val rfl rfl rfl; (· first | (apply gBin; first | fail | exact v_ort rfl rfl om) | fail | exact v_slice rfl rfl rfl om om om om)) | ((fail_if_success (refine Q_known rfl ?_)); refine zW (fun h => ?_) fun h => ?_)) | fail)))
        rename_i b3 b4
        have hcl : (copyW A.ws A.top n (rs (g A.ws n) + 1)).length = A.ws.length := length_copyW
        refine W_midA (α := Unit) (fun _ => [(0, .pointer (some ⟨ba, 0, none⟩)), (3, .pointer (some ⟨b3, 0, none⟩)), (4, .pointer (some ⟨b4, 0, none⟩)), (7, .int .i64 (rs (g A.ws n) + 1))])
          (fun _ => (C.bw, .cells (rowA .u64 (copyW A.ws A.top n (rs (g A.ws n) + 1)) C.ws) 92 (0, 0)) :: (b4, .cells #[.int .i64 0, .int .i64 0] 47 (0, 0)) :: (b3, .cells #[.int .i64 t, .int .i64 n] 47 (0, 0)) :: (ba, aObjG C A rp rc) :: H) (fun _ => True) ?_ ?_
        · apply W_regionA (D := (b3, .cells #[.int .i64 t, .int .i64 n] 47 (0, 0)) :: (ba, aObjG C A rp rc) :: H) (by kernel_rfl)
          refine kAt 0 ?_
          refine kAt 1 ?_
          refine kAt 2 ?_
          refine kAt 3 ?_
          refine kAt 4 ?_
          refine kAt 5 ?_
          refine kAt 6 ?_
          refine kAt 7 ?_
          refine kAt 8 ?_
          refine kAt 9 ?_
          refine kAt 10 ?_
          refine kAt 11 ?_
          refine kAt 12 ?_
          refine kAt 13 ?_
          refine A_val 14 rfl (by kernel_rfl) rfl rfl rfl cvt_ (v_slice rfl rfl rfl (by omega) (by omega) (by omega) (by omega)) ?_
          refine kAt 15 ?_
          refine kAt 16 ?_
          refine kAt 17 ?_
          refine kAt 18 ?_
          refine kAt 19 ?_
          refine kAt 20 ?_
          refine kAt 21 ?_
          refine kAt 22 ?_
          refine kAt 23 ?_
          refine kAt 24 ?_
          refine A_val 25 rfl (by kernel_rfl) rfl rfl rfl cvt_ (v_slice rfl rfl rfl (by omega) (by omega) (by omega) (by omega)) ?_
          refine A_one (i := 26) (by kernel_rfl) cvt_ rfl (O_of_L fun S hS => ?_)
          apply L_copyZ (ws := A.ws) (zz := rs (g A.ws n) + 1) rfl rfl rfl rfl rfl rfl
          · omega
          · omega
          · omega
          · omega
          · omega
          · omega
          · exact up_
          refine L_nil (hS _ _ ?_)
          clear hS
          refine A_nil (by kernel_rfl) cvt_ ?_
          apply midA.mk ()
          · exact sub_
          · exact cvt_
          · trivial
        rintro _ _
        repeat' ((fail_if_success apply gAtR 9); (first | ((first | (apply gCall; apply L_call rfl rfl rfl rfl rfl) | (apply gQC; apply Q_call rfl rfl rfl rfl rfl)); (· first | exact implIsRefB_c hr | exact isOtherB_c hi at_ hto hse | exact implForwardedB_c hf om om | exact head_c at_ at_ hw om om); try rintro _ _ ⟨rfl, rfl⟩) | (apply gL; first | refine L_nil ?_ | refine yS ?_ | refine yX fun _ => ?_ | refine yA fun _ => ?_ | (apply gSt; first | refine sR ?_ | refine sB ?_ | refine s1 ?_ | refine sW ?_ | refine sN ?_) | refine kV ?_ | (apply L_val rfl rfl rfl; (· first | (apply gBin; first | fail | exact v_ort rfl rfl om) | fail | exact v_slice rfl rfl rfl om om om om)) | ((fail_if_success (refine L_known rfl ?_)); refine yW (fun h => ?_) fun h => ?_)) | (apply gW; first | refine W_seq ?_ | refine W_region ?_ | refine W_ret ?_ | refine W_skip ?_ | refine W_cond1 rfl ?_ | refine W_cond0 rfl ?_ | refine cW (fun h => ?_) fun h => ?_ | refine wQ ?_) | (first | refine seqR.normal ?_ | refine seqR.ret ?_ | refine midA.ret ?_ | refine midA.exit ?_) | (apply gQ; first | refine Q_nil ?_ | refine Q_skip rfl rfl rfl ?_ | refine kQ ?_ | (apply Q_val rfl rfl rfl; (· first | (apply gBin; first | fail | exact v_ort rfl rfl om) | fail | exact v_slice rfl rfl rfl om om om om)) | ((fail_if_success (refine Q_known rfl ?_)); refine zW (fun h => ?_) fun h => ?_)) | fail))
        refine W_seq ?_
        apply W_regionA (D := (b3, .cells #[.int .i64 t, .int .i64 n] 47 (0, 0)) :: (ba, aObjG C A rp rc) :: H) (by kernel_rfl)
        refine kAt 0 ?_
        refine kAt 1 ?_
        refine kAt 2 ?_
        refine kAt 3 ?_
        refine kAt 4 ?_
        refine kAt 5 ?_
        refine kAt 6 ?_
        refine kAt 7 ?_
        refine kAt 8 ?_
        refine kAt 9 ?_
        refine kAt 10 ?_
        refine A_val 11 rfl (by kernel_rfl) rfl rfl rfl cvt_ (v_ort rfl rfl (by omega)) ?_
        refine kAt 12 ?_
        refine A_one (i := 13) (by kernel_rfl) cvt_ rfl (O_of_L fun S hS => ?_)
        first | (apply gCall; apply L_call rfl rfl rfl rfl rfl; (· first | exact implIsRefB_c hr | exact isOtherB_c hi at_ hto hse | exact implForwardedB_c hf om om | exact head_c at_ at_ hw om om); rintro _ _ ⟨rfl, rfl⟩) | (apply gL; first | refine L_nil ?_ | refine yS ?_ | refine yX fun _ => ?_ | refine yA fun _ => ?_ | (apply gSt; first | refine sR ?_ | refine sB ?_ | refine s1 ?_ | refine sW ?_ | refine sN ?_) | refine kV ?_ | (apply L_val rfl rfl rfl; (· first | (apply gBin; first | fail | exact v_ort rfl rfl om) | fail | exact v_slice rfl rfl rfl om om om om)) | ((fail_if_success (refine L_known rfl ?_)); refine yW (fun h => ?_) fun h => ?_))
        refine L_nil (hS _ _ ?_)
        clear hS
        refine A_nil (by kernel_rfl) cvt_ ?_
        repeat' (first | (apply gSt; apply L_stc rfl rfl rfl rfl rfl rfl; (· exact at_); (· simp only [List.set_cons_zero, List.set_cons_succ]; rfl); (· exact up_); (· rfl)) | first | ((first | (apply gCall; apply L_call rfl rfl rfl rfl rfl) | (apply gQC; apply Q_call rfl rfl rfl rfl rfl)); (· first | exact implIsRefB_c hr | exact isOtherB_c hi at_ hto hse | exact implForwardedB_c hf om om | exact head_c at_ at_ hw om om); try rintro _ _ ⟨rfl, rfl⟩) | (apply gL; first | refine L_nil ?_ | refine yS ?_ | refine yX fun _ => ?_ | refine yA fun _ => ?_ | (apply gSt; first | refine sR ?_ | refine sB ?_ | refine s1 ?_ | refine sW ?_ | refine sN ?_) | refine kV ?_ | (apply L_val rfl rfl rfl; (· first | (apply gBin; first | fail | exact v_ort rfl rfl om) | fail | exact v_slice rfl rfl rfl om om om om)) | ((fail_if_success (refine L_known rfl ?_)); refine yW (fun h => ?_) fun h => ?_)) | (apply gW; first | refine W_seq ?_ | refine W_region ?_ | refine W_ret ?_ | refine W_skip ?_ | refine W_cond1 rfl ?_ | refine W_cond0 rfl ?_ | refine cW (fun h => ?_) fun h => ?_ | refine wQ ?_) | (first | refine seqR.normal ?_ | refine seqR.ret ?_ | refine midA.ret ?_ | refine midA.exit ?_) | (apply gQ; first | refine Q_nil ?_ | refine Q_skip rfl rfl rfl ?_ | refine kQ ?_ | (apply Q_val rfl rfl rfl; (· first | (apply gBin; first | fail | exact v_ort rfl rfl om) | fail | exact v_slice rfl rfl rfl om om om om)) | ((fail_if_success (refine Q_known rfl ?_)); refine zW (fun h => ?_) fun h => ?_)) | fail)
        have ew : (A.cpy n).ws.length = A.ws.length := by show (List.set _ _ _).length = _; rw [List.length_set, length_copyW]
        have ea : aObjG C (A.cpy n) rp rc = aObjG C { A with top := A.top + (rs (g A.ws n) + 1), copied := A.copied + (rs (g A.ws n) + 1) } rp rc := by
          show Obj.cells #[.slice _ (A.cpy n).ws.length _, _, _, _, _, _, _, _, _, _] _ _ = _
          rw [ew]; rfl
        rw [ea]
        exact retR.ret _ _ (retC rfl rfl at_ (by rfl)) cvt_ ⟨rfl, rfl⟩
  · have hr' : isRef t = false := by simpa using hr
    clear hr
    have hr := hr'
    have e : A.fwd t n = (A, n) := by unfold Ar.fwd; rw [if_neg (by rw [hr]; simp)]
    rw [e]
    refine enter2 Tryz.func146 rfl rfl Tryz.ntmps146 rfl ?_
    repeat' (first | exact absurd h (by rw [hc]; decide) | first | ((first | (apply gCall; apply L_call rfl rfl rfl rfl rfl) | (apply gQC; apply Q_call rfl rfl rfl rfl rfl)); (· first | exact implIsRefB_c hr | exact isOtherB_c hi at_ hto hse | exact implForwardedB_c hf om om | exact head_c at_ at_ hw om om); try rintro _ _ ⟨rfl, rfl⟩) | (apply gL; first | refine L_nil ?_ | refine yS ?_ | refine yX fun _ => ?_ | refine yA fun _ => ?_ | (apply gSt; first | refine sR ?_ | refine sB ?_ | refine s1 ?_ | refine sW ?_ | refine sN ?_) | refine kV ?_ | (apply L_val rfl rfl rfl; (· first | (apply gBin; first | fail | exact v_ort rfl rfl om) | fail | exact v_slice rfl rfl rfl om om om om)) | ((fail_if_success (refine L_known rfl ?_)); refine yW (fun h => ?_) fun h => ?_)) | (apply gW; first | refine W_seq ?_ | refine W_region ?_ | refine W_ret ?_ | refine W_skip ?_ | refine W_cond1 rfl ?_ | refine W_cond0 rfl ?_ | refine cW (fun h => ?_) fun h => ?_ | refine wQ ?_) | (first | refine seqR.normal ?_ | refine seqR.ret ?_ | refine midA.ret ?_ | refine midA.exit ?_) | (apply gQ; first | refine Q_nil ?_ | refine Q_skip rfl rfl rfl ?_ | refine kQ ?_ | (apply Q_val rfl rfl rfl; (· first | (apply gBin; first | fail | exact v_ort rfl rfl om) | fail | exact v_slice rfl rfl rfl om om om om)) | ((fail_if_success (refine Q_known rfl ?_)); refine zW (fun h => ?_) fun h => ?_)) | fail)
    exact retR.ret _ _ (retC rfl rfl at_ (by rfl)) cvt_ ⟨rfl, rfl⟩
theorem forwardedT {t n : Int} {H1 H2 : HL} (hT : Tk H ba (aObjG C A rp rc) H1) (hT2 : Tk H1 C.bw (wObj C A) H2) (hc : A.cyc = true) (hP : FP A t n) (hwc : A.ws.length ≤ C.wc) :
    Fn Tryz.prog w0 146 #[.pointer (some ⟨ba, 0, none⟩), .agg #[.int .i64 t, .int .i64 n]] H fun v H' => v = .agg #[.int .i64 t, .int .i64 (A.fwd t n).2] ∧ H' = (ba, aObjG C (A.fwd t n).1 rp rc) :: (C.bw, wObj C (A.fwd t n).1) :: H2 :=
  Fn.conv (Cv.take hT (Cv.take hT2 Cv.refl)) (forwarded_c hc hP hwc)
theorem forwarded0_c {t n : Int} (hc : A.cyc = false) (hP : At H ba (aObjG C A rp rc)) :
    Fn Tryz.prog w0 146 #[.pointer (some ⟨ba, 0, none⟩), .agg #[.int .i64 t, .int .i64 n]] H fun v H' => v = .agg #[.int .i64 t, .int .i64 n] ∧ H' = H := by
  refine enter2 Tryz.func146 rfl rfl Tryz.ntmps146 rfl ?_
  repeat' (first | exact absurd h (by rw [hc]; decide) | first | ((first | (apply gCall; apply L_call rfl rfl rfl rfl rfl) | (apply gQC; apply Q_call rfl rfl rfl rfl rfl)); (· first | exact implIsRefB_c hr | exact isOtherB_c hi at_ hto hse | exact implForwardedB_c hf om om | exact head_c at_ at_ hw om om); try rintro _ _ ⟨rfl, rfl⟩) | (apply gL; first | refine L_nil ?_ | refine yS ?_ | refine yX fun _ => ?_ | refine yA fun _ => ?_ | (apply gSt; first | refine sR ?_ | refine sB ?_ | refine s1 ?_ | refine sW ?_ | refine sN ?_) | refine kV ?_ | (apply L_val rfl rfl rfl; (· first | (apply gBin; first | fail | exact v_ort rfl rfl om) | fail | exact v_slice rfl rfl rfl om om om om)) | ((fail_if_success (refine L_known rfl ?_)); refine yW (fun h => ?_) fun h => ?_)) | (apply gW; first | refine W_seq ?_ | refine W_region ?_ | refine W_ret ?_ | refine W_skip ?_ | refine W_cond1 rfl ?_ | refine W_cond0 rfl ?_ | refine cW (fun h => ?_) fun h => ?_ | refine wQ ?_) | (first | refine seqR.normal ?_ | refine seqR.ret ?_ | refine midA.ret ?_ | refine midA.exit ?_) | (apply gQ; first | refine Q_nil ?_ | refine Q_skip rfl rfl rfl ?_ | refine kQ ?_ | (apply Q_val rfl rfl rfl; (· first | (apply gBin; first | fail | exact v_ort rfl rfl om) | fail | exact v_slice rfl rfl rfl om om om om)) | ((fail_if_success (refine Q_known rfl ?_)); refine zW (fun h => ?_) fun h => ?_)) | fail)
  exact retR.ret _ _ (retC rfl rfl at_ (by rfl)) cvt_ ⟨rfl, rfl⟩
end Go.Proofs.YtepddopgmhdllaaGreat.Eng
namespace Go.Proofs.YtepddopgmhdllaaGreat.Eng
open Go Go.RowKit Go.Proofs.YtepddopgmhdllaaGreat.Sl Go.Proofs.YtepddopgmhdllaaGreat.Ar Go.Proofs.YtepddopgmhdllaaGreat.Base
set_option linter.unusedVariables false
set_option linter.unusedSimpArgs false
set_option maxRecDepth 10000
/-- an arena that is turned but for its Scan and the lengths of its rows; and what stays besides -/
def KF (C : Cn) (A : Ar) (rp : Option Addr) (rc ba : Nat) (D0 : HL) (D : HL) : Prop := ∃ A' : Ar, (A'.scan = A.scan ∧ A'.vs.length = A.vs.length) ∧ D = (ba, aObjG C A' rp rc) :: D0
section
variable {P : Program} {N : Nat} {w0 : World} {E : Env} {H D D0 : HL} {x : Operand} {T T2 : TypeId} {d_ : Option Tmp} {ty_ : TypeId} {pos_ : String} {af_ : Array Edge} {gd_ : Option (Nat × Bool)} {C : Cn} {A A' : Ar} {rp : Option Addr} {rc ba : Nat}
theorem kf_mk (h : A'.scan = A.scan ∧ A'.vs.length = A.vs.length) (cv : Cv H ((ba, aObjG C A' rp rc) :: D0)) : KC (KF C A rp rc ba D0) H := ⟨_, ⟨A', h, rfl⟩, cv⟩
theorem kf_scan [TOne P T] (hx : ev E x = some (.pointer (some ⟨ba, 0 + 5, none⟩))) (hD : KF C A rp rc ba D0 D) : OpV P N w0 ⟨d_, .load T x, ty_, pos_, af_, gd_⟩ E D (.int .i64 A.scan) := by
  obtain ⟨A', h, rfl⟩ := hD
  rw [← h.1]
  exact v_ld hx At.here rfl
theorem kf_vs [TOne P T] (hx : ev E x = some (.pointer (some ⟨ba, 0 + 9, none⟩))) (hD : KF C A rp rc ba D0 D) : OpV P N w0 ⟨d_, .load T x, ty_, pos_, af_, gd_⟩ E D (.slice rp A.vs.length rc) := by
  obtain ⟨A', h, rfl⟩ := hD
  rw [← h.2]
  exact v_ld hx At.here rfl
end
variable {w0 : World} {H : HL} {C : Cn} {A : Ar} {ba rc : Nat} {m : List Int}
def oI : Option Nat → List Int → List Value → HL
  | none, _, _ => []
  | some b, xs, sp => [(b, .cells (rowA .i64 xs sp) 3 (0, 0))]
theorem Cv.app {X H : HL} : Cv (X ++ H) H := by
  induction X with
  | nil => exact Cv.refl
  | cons p X ih => exact Cv.skip ih
theorem Tk.app {X H R : HL} {b : Nat} {o : Obj} (h : Tk H b o R) : Tk (X ++ H) b o (X ++ R) := by
  induction X with
  | nil => exact h
  | cons p X ih => exact Tk.there ih
theorem At.app {X H : HL} {b : Nat} {o : Obj} (h : At H b o) : At (X ++ H) b o := by
  induction X with
  | nil => exact h
  | cons p X ih => exact At.there ih
theorem cvSwap {X H : HL} {p q r : Nat × Obj} : Cv (X ++ (r :: p :: q :: H)) (p :: q :: r :: (X ++ H)) :=
  Cv.take (b := p.1) (o := p.2) (Tk.app (.there .here)) (Cv.take (b := q.1) (o := q.2) (Tk.app (.there .here)) (Cv.take (b := r.1) (o := r.2) (Tk.app .here) Cv.refl))
theorem gAt1 {P : Program} {N : Nat} {w0 : World} {E : Env} {R : Post} (n : Nat) {l_ : Array Oper} {d : Bool} {H : HL} (h : W P N w0 (.region n l_ d) E H R) : W P N w0 (.region n l_ d) E H R := h
theorem cvDrop {X H : HL} {p q r : Nat × Obj} : Cv (p :: q :: r :: (X ++ H)) (p :: q :: r :: H) :=
  Cv.take (b := p.1) (o := p.2) Tk.here (Cv.take (b := q.1) (o := q.2) Tk.here (Cv.take (b := r.1) (o := r.2) Tk.here Cv.app))
theorem islotsG_c {k s : Int} (hz : SizeP k s) : Fn Tryz.prog w0 170 #[.int .i64 k, .int .i64 s] H fun v H' => ∃ bo c sp, v = .slice (ad bo) (slots k s).length c ∧ (bo = none → slots k s = []) ∧ H' = oI bo (slots k s) sp ++ H := by
  by_cases hk : k = 1
  · subst hk
    have e : slots 1 s = [] := by
      have : from_ 1 s = s + 1 := by simp [from_]
      unfold slots; rw [this, slotsFrom, if_neg (by omega)]
    refine (islots0_c (w0 := w0) (H := H)).mono ?_
    rintro v H' ⟨rfl, rfl⟩
    exact ⟨none, 0, [], by rw [e]; rfl, fun _ => e, rfl⟩
  · refine (islots_c (w0 := w0) (H := H) hz hk).mono ?_
    rintro v H' ⟨b, sp, rfl, rfl⟩
    exact ⟨some b, _, sp, rfl, fun c => (by cases c), rfl⟩
set_option maxHeartbeats 8000000 in
theorem iflip_c {br : Option Nat} {rsp : List Value} (h : SI A m) (hc : A.cyc = false) (hx : A.vs.length ≤ 1048576) (hwc : A.ws.length ≤ C.wc) (hbr : br = none → A.vs = []) :
    Fn Tryz.prog w0 159 #[.pointer (some ⟨ba, 0, none⟩)] ((ba, aObjG C A (ad br) rc) :: (C.bw, wObj C A) :: (oV br A.vs rsp ++ H)) fun v H' => v = .tuple #[] ∧ H' = (ba, aObjG C A.flip (ad br) rc) :: (C.bw, wObj C A.flip) :: (oV br A.flip.vs rsp ++ H) := by
  have hto := h.to
  have hse := h.se
  refine enter1 Tryz.func159 rfl rfl Tryz.ntmps159 rfl ?_
  repeat' (first | (apply gSt; apply L_stc rfl rfl rfl rfl rfl rfl; (· exact at_); (· simp only [List.set_cons_zero, List.set_cons_succ]; rfl); (· exact up_); (· rfl)) | first | (apply gCall; apply L_call rfl rfl rfl rfl rfl; (· first | exact overT tk_ | exact head_c at_ at_ hBw om om | exact val2_c at_ at_ hBw q1 om om om | exact forwardedT tk_ tk_ hBc hFP hwc1 | exact isetT tk_ tk_ om om om); rintro _ _ ⟨rfl, rfl⟩) | (apply gL; first | refine L_nil ?_ | refine yA fun _ => ?_ | (apply gSt; first | refine sR ?_ | refine sB ?_ | refine s1 ?_ | refine sW ?_ | refine sN ?_) | refine kV ?_) | (apply gW; first | refine W_seq ?_ | refine W_region ?_ | refine W_ret ?_ | refine W_skip ?_ | refine W_block ?_ | refine W_exit ?_ | refine W_cond1 rfl ?_ | refine W_cond0 rfl ?_ | refine cW (fun h => ?_) fun h => ?_) | (first | refine seqR.normal ?_ | refine seqR.ret ?_ | refine seqR.exit ?_ | refine blockR.normal ?_ | refine blockR.ret ?_ | refine blockR.here ?_ | refine blockR.exit rfl ?_ | refine loopR.ret ?_ | refine loopR.exit ?_) | fail)
  apply L_call rfl rfl rfl rfl rfl
  · exact begin_c (C := C) (A := { A with old := A.top, to := 1 - A.to }) at_ (by omega) hse
  rintro _ _ ⟨rfl, rfl⟩
  repeat' (first | (apply gSt; apply L_stc rfl rfl rfl rfl rfl rfl; (· exact at_); (· simp only [List.set_cons_zero, List.set_cons_succ]; rfl); (· exact up_); (· rfl)) | first | (apply gCall; apply L_call rfl rfl rfl rfl rfl; (· first | exact overT tk_ | exact head_c at_ at_ hBw om om | exact val2_c at_ at_ hBw q1 om om om | exact forwardedT tk_ tk_ hBc hFP hwc1 | exact isetT tk_ tk_ om om om); rintro _ _ ⟨rfl, rfl⟩) | (apply gL; first | refine L_nil ?_ | refine yA fun _ => ?_ | (apply gSt; first | refine sR ?_ | refine sB ?_ | refine s1 ?_ | refine sW ?_ | refine sN ?_) | refine kV ?_) | (apply gW; first | refine W_seq ?_ | refine W_region ?_ | refine W_ret ?_ | refine W_skip ?_ | refine W_block ?_ | refine W_exit ?_ | refine W_cond1 rfl ?_ | refine W_cond0 rfl ?_ | refine cW (fun h => ?_) fun h => ?_) | (first | refine seqR.normal ?_ | refine seqR.ret ?_ | refine seqR.exit ?_ | refine blockR.normal ?_ | refine blockR.ret ?_ | refine blockR.here ?_ | refine blockR.exit rfl ?_ | refine loopR.ret ?_ | refine loopR.exit ?_) | fail)
  apply W_loopX (α := Int × Ar × List Int) (fun y => [(0, .pointer (some ⟨ba, 0, none⟩)), (44, .slice (ad br) A.vs.length rc), (45, .int .i64 (A.vs.length : Int)), (46, .int .i64 y.1)])
    (fun y => (ba, aObjG C y.2.1 (ad br) rc) :: (C.bw, wObj C y.2.1) :: (oV br y.2.1.vs rsp ++ H))
    (fun y => (0 ≤ y.1 ∧ y.1 ≤ A.vs.length) ∧ RL A.fl0 y.2.1 y.2.2 y.1 ∧ ∃ f, Ar.flR f y.1 y.2.1 = Ar.flR (A.vs.length + 1) 0 A.fl0 ∧ (A.vs.length : Int) - y.1 < (f : Int)) (fun y => (A.vs.length - y.1).toNat) (0, A.fl0, flM m)
  · exact sub_
  · exact cvt_
  · exact ⟨⟨by dsimp only; omega, by dsimp only; omega⟩, RL.zero h hc, _, rfl, by dsimp only; omega⟩
  rintro ⟨i, B, m1⟩ ⟨⟨hi, hi2⟩, hR, f, hf, hf2⟩
  dsimp only at hi hi2 hR hf hf2 ⊢
  have hvl : B.vs.length = A.vs.length := hR.vl
  by_cases hlt : i < (A.vs.length : Int)
  · rcases br with _ | br
    · have := hbr rfl
      rw [this] at hlt; simp at hlt; omega
    simp only [oV, ad, List.cons_append, List.nil_append]
    obtain ⟨f', rfl, e⟩ := flR_step (B := B) (by omega) hf2 (by omega)
    rw [e] at hf
    obtain ⟨m2, hR2⟩ := hR.step hi hlt
    have hFP : FP B (rT B i) (rN B i) := hR.gi.fp (fun hr => by have := hR.gi.rts i hi (by omega) hr; exact ⟨this.1, this.2.1⟩)
    have hfs := fwd_same (A := B) (rT B i) (rN B i)
    have hvF := congrArg List.length hfs.2.2.2.2.2.2
    have hBc : B.cyc = true := hR.cy
    have hwc1 : B.ws.length ≤ C.wc := by have : B.ws.length = A.ws.length := hR.ln; omega
    repeat' (first | exact absurd hlt h | ((fail_if_success apply gAtR 9); (first | (apply gCall; apply L_call rfl rfl rfl rfl rfl; (· first | exact overT tk_ | exact head_c at_ at_ hBw om om | exact val2_c at_ at_ hBw q1 om om om | exact forwardedT tk_ tk_ hBc hFP hwc1 | exact isetT tk_ tk_ om om om); rintro _ _ ⟨rfl, rfl⟩) | (apply gL; first | refine L_nil ?_ | refine yA fun _ => ?_ | (apply gSt; first | refine sR ?_ | refine sB ?_ | refine s1 ?_ | refine sW ?_ | refine sN ?_) | refine kV ?_) | (apply gW; first | refine W_seq ?_ | refine W_region ?_ | refine W_ret ?_ | refine W_skip ?_ | refine W_block ?_ | refine W_exit ?_ | refine W_cond1 rfl ?_ | refine W_cond0 rfl ?_ | refine cW (fun h => ?_) fun h => ?_) | (first | refine seqR.normal ?_ | refine seqR.ret ?_ | refine seqR.exit ?_ | refine blockR.normal ?_ | refine blockR.ret ?_ | refine blockR.here ?_ | refine blockR.exit rfl ?_ | refine loopR.ret ?_ | refine loopR.exit ?_) | fail)))
    rename_i b3
    have hkk : B.scan = B.scan ∧ B.vs.length = B.vs.length := ⟨rfl, rfl⟩
    have hk1 : (B.fwd (rT B i) (rN B i)).1.scan = B.scan ∧ (B.fwd (rT B i) (rN B i)).1.vs.length = B.vs.length := ⟨hfs.2.2.2.1, hvF⟩
    apply W_regionK (KF C B (some ⟨br, 0, none⟩) rc ba ((b3, .cells #[.int .i64 (rT B i), .int .i64 (rN B i)] 47 (0, 0)) :: H)) (by kernel_rfl)
    apply K_val 0 rfl (by kernel_rfl) rfl rfl rfl (by exact kf_mk hkk cvt_)
    · intro D hD; first | (first | exact v_move rfl | exact v_fieldAddr rfl | (apply gLd; first | (apply v_ld rfl; (· exact at_); (· first | rfl | exact ld_row om om | exact ld_rowB om om); done) | (apply v_ldV rfl; (· exact at_); (· omega); (· omega); done) | (apply v_ldW rfl; (· exact at_); (· rfl); done) | (apply v_ldN rfl; (· exact at_); (· first | exact Nat.le_refl _ | exact ldN_row om om); done)) | (apply gBin; first | exact v_eq rfl rfl | exact v_add rfl rfl om | exact v_lt rfl rfl | exact v_ne rfl rfl | exact v_ge rfl rfl | exact v_sub rfl rfl om | exact v_le rfl rfl | exact v_gt rfl rfl | exact v_mul rfl rfl om | exact v_rem rfl rfl om om | exact v_quo rfl rfl om om ) | exact v_assign rfl | (apply gPk; first | exact v_pick1 rfl rfl | exact v_pick0 rfl rfl) | exact v_extract rfl rfl | exact v_idx rfl rfl om | exact v_not rfl | exact v_field rfl rfl | exact v_nil rfl | (apply v_lookup rfl rfl; (· exact at_); done) | (apply gCv; first | exact v_convi rfl om | exact v_sg rfl om | exact v_convu rfl om | exact v_conv rfl) | exact v_len rfl | (apply gBd; first | exact v_build0 | exact v_build2' rfl rfl rfl rfl rfl | exact v_build3' rfl rfl rfl rfl rfl rfl rfl | exact v_build2 rfl rfl rfl rfl rfl rfl (by simp only [setParts, List.set_cons_zero, List.set_cons_succ]; rfl) | exact v_build3 rfl rfl rfl rfl rfl rfl rfl rfl rfl (by simp only [setParts, List.set_cons_zero, List.set_cons_succ]; rfl) | exact v_build1 rfl rfl rfl (by simp only [setParts, List.set_cons_zero, List.set_cons_succ]; rfl)) ) | exact kf_scan rfl hD | exact kf_vs rfl hD | (obtain ⟨_, _, rfl⟩ := hD; (first | exact v_move rfl | exact v_fieldAddr rfl | (apply gLd; first | (apply v_ld rfl; (· exact at_); (· first | rfl | exact ld_row om om | exact ld_rowB om om); done) | (apply v_ldV rfl; (· exact at_); (· omega); (· omega); done) | (apply v_ldW rfl; (· exact at_); (· rfl); done) | (apply v_ldN rfl; (· exact at_); (· first | exact Nat.le_refl _ | exact ldN_row om om); done)) | (apply gBin; first | exact v_eq rfl rfl | exact v_add rfl rfl om | exact v_lt rfl rfl | exact v_ne rfl rfl | exact v_ge rfl rfl | exact v_sub rfl rfl om | exact v_le rfl rfl | exact v_gt rfl rfl | exact v_mul rfl rfl om | exact v_rem rfl rfl om om | exact v_quo rfl rfl om om ) | exact v_assign rfl | (apply gPk; first | exact v_pick1 rfl rfl | exact v_pick0 rfl rfl) | exact v_extract rfl rfl | exact v_idx rfl rfl om | exact v_not rfl | exact v_field rfl rfl | exact v_nil rfl | (apply v_lookup rfl rfl; (· exact at_); done) | (apply gCv; first | exact v_convi rfl om | exact v_sg rfl om | exact v_convu rfl om | exact v_conv rfl) | exact v_len rfl | (apply gBd; first | exact v_build0 | exact v_build2' rfl rfl rfl rfl rfl | exact v_build3' rfl rfl rfl rfl rfl rfl rfl | exact v_build2 rfl rfl rfl rfl rfl rfl (by simp only [setParts, List.set_cons_zero, List.set_cons_succ]; rfl) | exact v_build3 rfl rfl rfl rfl rfl rfl rfl rfl rfl (by simp only [setParts, List.set_cons_zero, List.set_cons_succ]; rfl) | exact v_build1 rfl rfl rfl (by simp only [setParts, List.set_cons_zero, List.set_cons_succ]; rfl)) ))
    apply K_val 1 rfl (by kernel_rfl) rfl rfl rfl (by exact kf_mk hkk cvt_)
    · intro D hD; first | (first | exact v_move rfl | exact v_fieldAddr rfl | (apply gLd; first | (apply v_ld rfl; (· exact at_); (· first | rfl | exact ld_row om om | exact ld_rowB om om); done) | (apply v_ldV rfl; (· exact at_); (· omega); (· omega); done) | (apply v_ldW rfl; (· exact at_); (· rfl); done) | (apply v_ldN rfl; (· exact at_); (· first | exact Nat.le_refl _ | exact ldN_row om om); done)) | (apply gBin; first | exact v_eq rfl rfl | exact v_add rfl rfl om | exact v_lt rfl rfl | exact v_ne rfl rfl | exact v_ge rfl rfl | exact v_sub rfl rfl om | exact v_le rfl rfl | exact v_gt rfl rfl | exact v_mul rfl rfl om | exact v_rem rfl rfl om om | exact v_quo rfl rfl om om ) | exact v_assign rfl | (apply gPk; first | exact v_pick1 rfl rfl | exact v_pick0 rfl rfl) | exact v_extract rfl rfl | exact v_idx rfl rfl om | exact v_not rfl | exact v_field rfl rfl | exact v_nil rfl | (apply v_lookup rfl rfl; (· exact at_); done) | (apply gCv; first | exact v_convi rfl om | exact v_sg rfl om | exact v_convu rfl om | exact v_conv rfl) | exact v_len rfl | (apply gBd; first | exact v_build0 | exact v_build2' rfl rfl rfl rfl rfl | exact v_build3' rfl rfl rfl rfl rfl rfl rfl | exact v_build2 rfl rfl rfl rfl rfl rfl (by simp only [setParts, List.set_cons_zero, List.set_cons_succ]; rfl) | exact v_build3 rfl rfl rfl rfl rfl rfl rfl rfl rfl (by simp only [setParts, List.set_cons_zero, List.set_cons_succ]; rfl) | exact v_build1 rfl rfl rfl (by simp only [setParts, List.set_cons_zero, List.set_cons_succ]; rfl)) ) | exact kf_scan rfl hD | exact kf_vs rfl hD | (obtain ⟨_, _, rfl⟩ := hD; (first | exact v_move rfl | exact v_fieldAddr rfl | (apply gLd; first | (apply v_ld rfl; (· exact at_); (· first | rfl | exact ld_row om om | exact ld_rowB om om); done) | (apply v_ldV rfl; (· exact at_); (· omega); (· omega); done) | (apply v_ldW rfl; (· exact at_); (· rfl); done) | (apply v_ldN rfl; (· exact at_); (· first | exact Nat.le_refl _ | exact ldN_row om om); done)) | (apply gBin; first | exact v_eq rfl rfl | exact v_add rfl rfl om | exact v_lt rfl rfl | exact v_ne rfl rfl | exact v_ge rfl rfl | exact v_sub rfl rfl om | exact v_le rfl rfl | exact v_gt rfl rfl | exact v_mul rfl rfl om | exact v_rem rfl rfl om om | exact v_quo rfl rfl om om ) | exact v_assign rfl | (apply gPk; first | exact v_pick1 rfl rfl | exact v_pick0 rfl rfl) | exact v_extract rfl rfl | exact v_idx rfl rfl om | exact v_not rfl | exact v_field rfl rfl | exact v_nil rfl | (apply v_lookup rfl rfl; (· exact at_); done) | (apply gCv; first | exact v_convi rfl om | exact v_sg rfl om | exact v_convu rfl om | exact v_conv rfl) | exact v_len rfl | (apply gBd; first | exact v_build0 | exact v_build2' rfl rfl rfl rfl rfl | exact v_build3' rfl rfl rfl rfl rfl rfl rfl | exact v_build2 rfl rfl rfl rfl rfl rfl (by simp only [setParts, List.set_cons_zero, List.set_cons_succ]; rfl) | exact v_build3 rfl rfl rfl rfl rfl rfl rfl rfl rfl (by simp only [setParts, List.set_cons_zero, List.set_cons_succ]; rfl) | exact v_build1 rfl rfl rfl (by simp only [setParts, List.set_cons_zero, List.set_cons_succ]; rfl)) ))
    apply K_val 2 rfl (by kernel_rfl) rfl rfl rfl (by exact kf_mk hkk cvt_)
    · intro D hD; first | (first | exact v_move rfl | exact v_fieldAddr rfl | (apply gLd; first | (apply v_ld rfl; (· exact at_); (· first | rfl | exact ld_row om om | exact ld_rowB om om); done) | (apply v_ldV rfl; (· exact at_); (· omega); (· omega); done) | (apply v_ldW rfl; (· exact at_); (· rfl); done) | (apply v_ldN rfl; (· exact at_); (· first | exact Nat.le_refl _ | exact ldN_row om om); done)) | (apply gBin; first | exact v_eq rfl rfl | exact v_add rfl rfl om | exact v_lt rfl rfl | exact v_ne rfl rfl | exact v_ge rfl rfl | exact v_sub rfl rfl om | exact v_le rfl rfl | exact v_gt rfl rfl | exact v_mul rfl rfl om | exact v_rem rfl rfl om om | exact v_quo rfl rfl om om ) | exact v_assign rfl | (apply gPk; first | exact v_pick1 rfl rfl | exact v_pick0 rfl rfl) | exact v_extract rfl rfl | exact v_idx rfl rfl om | exact v_not rfl | exact v_field rfl rfl | exact v_nil rfl | (apply v_lookup rfl rfl; (· exact at_); done) | (apply gCv; first | exact v_convi rfl om | exact v_sg rfl om | exact v_convu rfl om | exact v_conv rfl) | exact v_len rfl | (apply gBd; first | exact v_build0 | exact v_build2' rfl rfl rfl rfl rfl | exact v_build3' rfl rfl rfl rfl rfl rfl rfl | exact v_build2 rfl rfl rfl rfl rfl rfl (by simp only [setParts, List.set_cons_zero, List.set_cons_succ]; rfl) | exact v_build3 rfl rfl rfl rfl rfl rfl rfl rfl rfl (by simp only [setParts, List.set_cons_zero, List.set_cons_succ]; rfl) | exact v_build1 rfl rfl rfl (by simp only [setParts, List.set_cons_zero, List.set_cons_succ]; rfl)) ) | exact kf_scan rfl hD | exact kf_vs rfl hD | (obtain ⟨_, _, rfl⟩ := hD; (first | exact v_move rfl | exact v_fieldAddr rfl | (apply gLd; first | (apply v_ld rfl; (· exact at_); (· first | rfl | exact ld_row om om | exact ld_rowB om om); done) | (apply v_ldV rfl; (· exact at_); (· omega); (· omega); done) | (apply v_ldW rfl; (· exact at_); (· rfl); done) | (apply v_ldN rfl; (· exact at_); (· first | exact Nat.le_refl _ | exact ldN_row om om); done)) | (apply gBin; first | exact v_eq rfl rfl | exact v_add rfl rfl om | exact v_lt rfl rfl | exact v_ne rfl rfl | exact v_ge rfl rfl | exact v_sub rfl rfl om | exact v_le rfl rfl | exact v_gt rfl rfl | exact v_mul rfl rfl om | exact v_rem rfl rfl om om | exact v_quo rfl rfl om om ) | exact v_assign rfl | (apply gPk; first | exact v_pick1 rfl rfl | exact v_pick0 rfl rfl) | exact v_extract rfl rfl | exact v_idx rfl rfl om | exact v_not rfl | exact v_field rfl rfl | exact v_nil rfl | (apply v_lookup rfl rfl; (· exact at_); done) | (apply gCv; first | exact v_convi rfl om | exact v_sg rfl om | exact v_convu rfl om | exact v_conv rfl) | exact v_len rfl | (apply gBd; first | exact v_build0 | exact v_build2' rfl rfl rfl rfl rfl | exact v_build3' rfl rfl rfl rfl rfl rfl rfl | exact v_build2 rfl rfl rfl rfl rfl rfl (by simp only [setParts, List.set_cons_zero, List.set_cons_succ]; rfl) | exact v_build3 rfl rfl rfl rfl rfl rfl rfl rfl rfl (by simp only [setParts, List.set_cons_zero, List.set_cons_succ]; rfl) | exact v_build1 rfl rfl rfl (by simp only [setParts, List.set_cons_zero, List.set_cons_succ]; rfl)) ))
    apply K_val 3 rfl (by kernel_rfl) rfl rfl rfl (by exact kf_mk hkk cvt_)
    · intro D hD; first | (first | exact v_move rfl | exact v_fieldAddr rfl | (apply gLd; first | (apply v_ld rfl; (· exact at_); (· first | rfl | exact ld_row om om | exact ld_rowB om om); done) | (apply v_ldV rfl; (· exact at_); (· omega); (· omega); done) | (apply v_ldW rfl; (· exact at_); (· rfl); done) | (apply v_ldN rfl; (· exact at_); (· first | exact Nat.le_refl _ | exact ldN_row om om); done)) | (apply gBin; first | exact v_eq rfl rfl | exact v_add rfl rfl om | exact v_lt rfl rfl | exact v_ne rfl rfl | exact v_ge rfl rfl | exact v_sub rfl rfl om | exact v_le rfl rfl | exact v_gt rfl rfl | exact v_mul rfl rfl om | exact v_rem rfl rfl om om | exact v_quo rfl rfl om om ) | exact v_assign rfl | (apply gPk; first | exact v_pick1 rfl rfl | exact v_pick0 rfl rfl) | exact v_extract rfl rfl | exact v_idx rfl rfl om | exact v_not rfl | exact v_field rfl rfl | exact v_nil rfl | (apply v_lookup rfl rfl; (· exact at_); done) | (apply gCv; first | exact v_convi rfl om | exact v_sg rfl om | exact v_convu rfl om | exact v_conv rfl) | exact v_len rfl | (apply gBd; first | exact v_build0 | exact v_build2' rfl rfl rfl rfl rfl | exact v_build3' rfl rfl rfl rfl rfl rfl rfl | exact v_build2 rfl rfl rfl rfl rfl rfl (by simp only [setParts, List.set_cons_zero, List.set_cons_succ]; rfl) | exact v_build3 rfl rfl rfl rfl rfl rfl rfl rfl rfl (by simp only [setParts, List.set_cons_zero, List.set_cons_succ]; rfl) | exact v_build1 rfl rfl rfl (by simp only [setParts, List.set_cons_zero, List.set_cons_succ]; rfl)) ) | exact kf_scan rfl hD | exact kf_vs rfl hD | (obtain ⟨_, _, rfl⟩ := hD; (first | exact v_move rfl | exact v_fieldAddr rfl | (apply gLd; first | (apply v_ld rfl; (· exact at_); (· first | rfl | exact ld_row om om | exact ld_rowB om om); done) | (apply v_ldV rfl; (· exact at_); (· omega); (· omega); done) | (apply v_ldW rfl; (· exact at_); (· rfl); done) | (apply v_ldN rfl; (· exact at_); (· first | exact Nat.le_refl _ | exact ldN_row om om); done)) | (apply gBin; first | exact v_eq rfl rfl | exact v_add rfl rfl om | exact v_lt rfl rfl | exact v_ne rfl rfl | exact v_ge rfl rfl | exact v_sub rfl rfl om | exact v_le rfl rfl | exact v_gt rfl rfl | exact v_mul rfl rfl om | exact v_rem rfl rfl om om | exact v_quo rfl rfl om om ) | exact v_assign rfl | (apply gPk; first | exact v_pick1 rfl rfl | exact v_pick0 rfl rfl) | exact v_extract rfl rfl | exact v_idx rfl rfl om | exact v_not rfl | exact v_field rfl rfl | exact v_nil rfl | (apply v_lookup rfl rfl; (· exact at_); done) | (apply gCv; first | exact v_convi rfl om | exact v_sg rfl om | exact v_convu rfl om | exact v_conv rfl) | exact v_len rfl | (apply gBd; first | exact v_build0 | exact v_build2' rfl rfl rfl rfl rfl | exact v_build3' rfl rfl rfl rfl rfl rfl rfl | exact v_build2 rfl rfl rfl rfl rfl rfl (by simp only [setParts, List.set_cons_zero, List.set_cons_succ]; rfl) | exact v_build3 rfl rfl rfl rfl rfl rfl rfl rfl rfl (by simp only [setParts, List.set_cons_zero, List.set_cons_succ]; rfl) | exact v_build1 rfl rfl rfl (by simp only [setParts, List.set_cons_zero, List.set_cons_succ]; rfl)) ))
    apply K_val 4 rfl (by kernel_rfl) rfl rfl rfl (by exact kf_mk hkk cvt_)
    · intro D hD; first | (first | exact v_move rfl | exact v_fieldAddr rfl | (apply gLd; first | (apply v_ld rfl; (· exact at_); (· first | rfl | exact ld_row om om | exact ld_rowB om om); done) | (apply v_ldV rfl; (· exact at_); (· omega); (· omega); done) | (apply v_ldW rfl; (· exact at_); (· rfl); done) | (apply v_ldN rfl; (· exact at_); (· first | exact Nat.le_refl _ | exact ldN_row om om); done)) | (apply gBin; first | exact v_eq rfl rfl | exact v_add rfl rfl om | exact v_lt rfl rfl | exact v_ne rfl rfl | exact v_ge rfl rfl | exact v_sub rfl rfl om | exact v_le rfl rfl | exact v_gt rfl rfl | exact v_mul rfl rfl om | exact v_rem rfl rfl om om | exact v_quo rfl rfl om om ) | exact v_assign rfl | (apply gPk; first | exact v_pick1 rfl rfl | exact v_pick0 rfl rfl) | exact v_extract rfl rfl | exact v_idx rfl rfl om | exact v_not rfl | exact v_field rfl rfl | exact v_nil rfl | (apply v_lookup rfl rfl; (· exact at_); done) | (apply gCv; first | exact v_convi rfl om | exact v_sg rfl om | exact v_convu rfl om | exact v_conv rfl) | exact v_len rfl | (apply gBd; first | exact v_build0 | exact v_build2' rfl rfl rfl rfl rfl | exact v_build3' rfl rfl rfl rfl rfl rfl rfl | exact v_build2 rfl rfl rfl rfl rfl rfl (by simp only [setParts, List.set_cons_zero, List.set_cons_succ]; rfl) | exact v_build3 rfl rfl rfl rfl rfl rfl rfl rfl rfl (by simp only [setParts, List.set_cons_zero, List.set_cons_succ]; rfl) | exact v_build1 rfl rfl rfl (by simp only [setParts, List.set_cons_zero, List.set_cons_succ]; rfl)) ) | exact kf_scan rfl hD | exact kf_vs rfl hD | (obtain ⟨_, _, rfl⟩ := hD; (first | exact v_move rfl | exact v_fieldAddr rfl | (apply gLd; first | (apply v_ld rfl; (· exact at_); (· first | rfl | exact ld_row om om | exact ld_rowB om om); done) | (apply v_ldV rfl; (· exact at_); (· omega); (· omega); done) | (apply v_ldW rfl; (· exact at_); (· rfl); done) | (apply v_ldN rfl; (· exact at_); (· first | exact Nat.le_refl _ | exact ldN_row om om); done)) | (apply gBin; first | exact v_eq rfl rfl | exact v_add rfl rfl om | exact v_lt rfl rfl | exact v_ne rfl rfl | exact v_ge rfl rfl | exact v_sub rfl rfl om | exact v_le rfl rfl | exact v_gt rfl rfl | exact v_mul rfl rfl om | exact v_rem rfl rfl om om | exact v_quo rfl rfl om om ) | exact v_assign rfl | (apply gPk; first | exact v_pick1 rfl rfl | exact v_pick0 rfl rfl) | exact v_extract rfl rfl | exact v_idx rfl rfl om | exact v_not rfl | exact v_field rfl rfl | exact v_nil rfl | (apply v_lookup rfl rfl; (· exact at_); done) | (apply gCv; first | exact v_convi rfl om | exact v_sg rfl om | exact v_convu rfl om | exact v_conv rfl) | exact v_len rfl | (apply gBd; first | exact v_build0 | exact v_build2' rfl rfl rfl rfl rfl | exact v_build3' rfl rfl rfl rfl rfl rfl rfl | exact v_build2 rfl rfl rfl rfl rfl rfl (by simp only [setParts, List.set_cons_zero, List.set_cons_succ]; rfl) | exact v_build3 rfl rfl rfl rfl rfl rfl rfl rfl rfl (by simp only [setParts, List.set_cons_zero, List.set_cons_succ]; rfl) | exact v_build1 rfl rfl rfl (by simp only [setParts, List.set_cons_zero, List.set_cons_succ]; rfl)) ))
    apply K_val 5 rfl (by kernel_rfl) rfl rfl rfl (by exact kf_mk hkk cvt_)
    · intro D hD; first | (first | exact v_move rfl | exact v_fieldAddr rfl | (apply gLd; first | (apply v_ld rfl; (· exact at_); (· first | rfl | exact ld_row om om | exact ld_rowB om om); done) | (apply v_ldV rfl; (· exact at_); (· omega); (· omega); done) | (apply v_ldW rfl; (· exact at_); (· rfl); done) | (apply v_ldN rfl; (· exact at_); (· first | exact Nat.le_refl _ | exact ldN_row om om); done)) | (apply gBin; first | exact v_eq rfl rfl | exact v_add rfl rfl om | exact v_lt rfl rfl | exact v_ne rfl rfl | exact v_ge rfl rfl | exact v_sub rfl rfl om | exact v_le rfl rfl | exact v_gt rfl rfl | exact v_mul rfl rfl om | exact v_rem rfl rfl om om | exact v_quo rfl rfl om om ) | exact v_assign rfl | (apply gPk; first | exact v_pick1 rfl rfl | exact v_pick0 rfl rfl) | exact v_extract rfl rfl | exact v_idx rfl rfl om | exact v_not rfl | exact v_field rfl rfl | exact v_nil rfl | (apply v_lookup rfl rfl; (· exact at_); done) | (apply gCv; first | exact v_convi rfl om | exact v_sg rfl om | exact v_convu rfl om | exact v_conv rfl) | exact v_len rfl | (apply gBd; first | exact v_build0 | exact v_build2' rfl rfl rfl rfl rfl | exact v_build3' rfl rfl rfl rfl rfl rfl rfl | exact v_build2 rfl rfl rfl rfl rfl rfl (by simp only [setParts, List.set_cons_zero, List.set_cons_succ]; rfl) | exact v_build3 rfl rfl rfl rfl rfl rfl rfl rfl rfl (by simp only [setParts, List.set_cons_zero, List.set_cons_succ]; rfl) | exact v_build1 rfl rfl rfl (by simp only [setParts, List.set_cons_zero, List.set_cons_succ]; rfl)) ) | exact kf_scan rfl hD | exact kf_vs rfl hD | (obtain ⟨_, _, rfl⟩ := hD; (first | exact v_move rfl | exact v_fieldAddr rfl | (apply gLd; first | (apply v_ld rfl; (· exact at_); (· first | rfl | exact ld_row om om | exact ld_rowB om om); done) | (apply v_ldV rfl; (· exact at_); (· omega); (· omega); done) | (apply v_ldW rfl; (· exact at_); (· rfl); done) | (apply v_ldN rfl; (· exact at_); (· first | exact Nat.le_refl _ | exact ldN_row om om); done)) | (apply gBin; first | exact v_eq rfl rfl | exact v_add rfl rfl om | exact v_lt rfl rfl | exact v_ne rfl rfl | exact v_ge rfl rfl | exact v_sub rfl rfl om | exact v_le rfl rfl | exact v_gt rfl rfl | exact v_mul rfl rfl om | exact v_rem rfl rfl om om | exact v_quo rfl rfl om om ) | exact v_assign rfl | (apply gPk; first | exact v_pick1 rfl rfl | exact v_pick0 rfl rfl) | exact v_extract rfl rfl | exact v_idx rfl rfl om | exact v_not rfl | exact v_field rfl rfl | exact v_nil rfl | (apply v_lookup rfl rfl; (· exact at_); done) | (apply gCv; first | exact v_convi rfl om | exact v_sg rfl om | exact v_convu rfl om | exact v_conv rfl) | exact v_len rfl | (apply gBd; first | exact v_build0 | exact v_build2' rfl rfl rfl rfl rfl | exact v_build3' rfl rfl rfl rfl rfl rfl rfl | exact v_build2 rfl rfl rfl rfl rfl rfl (by simp only [setParts, List.set_cons_zero, List.set_cons_succ]; rfl) | exact v_build3 rfl rfl rfl rfl rfl rfl rfl rfl rfl (by simp only [setParts, List.set_cons_zero, List.set_cons_succ]; rfl) | exact v_build1 rfl rfl rfl (by simp only [setParts, List.set_cons_zero, List.set_cons_succ]; rfl)) ))
    apply K_val 6 rfl (by kernel_rfl) rfl rfl rfl (by exact kf_mk hkk cvt_)
    · intro D hD; first | (first | exact v_move rfl | exact v_fieldAddr rfl | (apply gLd; first | (apply v_ld rfl; (· exact at_); (· first | rfl | exact ld_row om om | exact ld_rowB om om); done) | (apply v_ldV rfl; (· exact at_); (· omega); (· omega); done) | (apply v_ldW rfl; (· exact at_); (· rfl); done) | (apply v_ldN rfl; (· exact at_); (· first | exact Nat.le_refl _ | exact ldN_row om om); done)) | (apply gBin; first | exact v_eq rfl rfl | exact v_add rfl rfl om | exact v_lt rfl rfl | exact v_ne rfl rfl | exact v_ge rfl rfl | exact v_sub rfl rfl om | exact v_le rfl rfl | exact v_gt rfl rfl | exact v_mul rfl rfl om | exact v_rem rfl rfl om om | exact v_quo rfl rfl om om ) | exact v_assign rfl | (apply gPk; first | exact v_pick1 rfl rfl | exact v_pick0 rfl rfl) | exact v_extract rfl rfl | exact v_idx rfl rfl om | exact v_not rfl | exact v_field rfl rfl | exact v_nil rfl | (apply v_lookup rfl rfl; (· exact at_); done) | (apply gCv; first | exact v_convi rfl om | exact v_sg rfl om | exact v_convu rfl om | exact v_conv rfl) | exact v_len rfl | (apply gBd; first | exact v_build0 | exact v_build2' rfl rfl rfl rfl rfl | exact v_build3' rfl rfl rfl rfl rfl rfl rfl | exact v_build2 rfl rfl rfl rfl rfl rfl (by simp only [setParts, List.set_cons_zero, List.set_cons_succ]; rfl) | exact v_build3 rfl rfl rfl rfl rfl rfl rfl rfl rfl (by simp only [setParts, List.set_cons_zero, List.set_cons_succ]; rfl) | exact v_build1 rfl rfl rfl (by simp only [setParts, List.set_cons_zero, List.set_cons_succ]; rfl)) ) | exact kf_scan rfl hD | exact kf_vs rfl hD | (obtain ⟨_, _, rfl⟩ := hD; (first | exact v_move rfl | exact v_fieldAddr rfl | (apply gLd; first | (apply v_ld rfl; (· exact at_); (· first | rfl | exact ld_row om om | exact ld_rowB om om); done) | (apply v_ldV rfl; (· exact at_); (· omega); (· omega); done) | (apply v_ldW rfl; (· exact at_); (· rfl); done) | (apply v_ldN rfl; (· exact at_); (· first | exact Nat.le_refl _ | exact ldN_row om om); done)) | (apply gBin; first | exact v_eq rfl rfl | exact v_add rfl rfl om | exact v_lt rfl rfl | exact v_ne rfl rfl | exact v_ge rfl rfl | exact v_sub rfl rfl om | exact v_le rfl rfl | exact v_gt rfl rfl | exact v_mul rfl rfl om | exact v_rem rfl rfl om om | exact v_quo rfl rfl om om ) | exact v_assign rfl | (apply gPk; first | exact v_pick1 rfl rfl | exact v_pick0 rfl rfl) | exact v_extract rfl rfl | exact v_idx rfl rfl om | exact v_not rfl | exact v_field rfl rfl | exact v_nil rfl | (apply v_lookup rfl rfl; (· exact at_); done) | (apply gCv; first | exact v_convi rfl om | exact v_sg rfl om | exact v_convu rfl om | exact v_conv rfl) | exact v_len rfl | (apply gBd; first | exact v_build0 | exact v_build2' rfl rfl rfl rfl rfl | exact v_build3' rfl rfl rfl rfl rfl rfl rfl | exact v_build2 rfl rfl rfl rfl rfl rfl (by simp only [setParts, List.set_cons_zero, List.set_cons_succ]; rfl) | exact v_build3 rfl rfl rfl rfl rfl rfl rfl rfl rfl (by simp only [setParts, List.set_cons_zero, List.set_cons_succ]; rfl) | exact v_build1 rfl rfl rfl (by simp only [setParts, List.set_cons_zero, List.set_cons_succ]; rfl)) ))
    refine K_one (i := 7) (by kernel_rfl) (by exact kf_mk hkk cvt_) rfl (OK_of_L fun S hS => ?_)
    first | (apply gCall; apply L_call rfl rfl rfl rfl rfl; (· first | exact overT tk_ | exact head_c at_ at_ hBw om om | exact val2_c at_ at_ hBw q1 om om om | exact forwardedT tk_ tk_ hBc hFP hwc1 | exact isetT tk_ tk_ om om om); rintro _ _ ⟨rfl, rfl⟩) | (apply gL; first | refine L_nil ?_ | refine yA fun _ => ?_ | (apply gSt; first | refine sR ?_ | refine sB ?_ | refine s1 ?_ | refine sW ?_ | refine sN ?_) | refine kV ?_)
    refine L_nil (hS _ _ ?_)
    clear hS
    have hkk := hk1
    apply K_val 8 rfl (by kernel_rfl) rfl rfl rfl (by exact kf_mk hkk cvt_)
    · intro D hD; first | (first | exact v_move rfl | exact v_fieldAddr rfl | (apply gLd; first | (apply v_ld rfl; (· exact at_); (· first | rfl | exact ld_row om om | exact ld_rowB om om); done) | (apply v_ldV rfl; (· exact at_); (· omega); (· omega); done) | (apply v_ldW rfl; (· exact at_); (· rfl); done) | (apply v_ldN rfl; (· exact at_); (· first | exact Nat.le_refl _ | exact ldN_row om om); done)) | (apply gBin; first | exact v_eq rfl rfl | exact v_add rfl rfl om | exact v_lt rfl rfl | exact v_ne rfl rfl | exact v_ge rfl rfl | exact v_sub rfl rfl om | exact v_le rfl rfl | exact v_gt rfl rfl | exact v_mul rfl rfl om | exact v_rem rfl rfl om om | exact v_quo rfl rfl om om ) | exact v_assign rfl | (apply gPk; first | exact v_pick1 rfl rfl | exact v_pick0 rfl rfl) | exact v_extract rfl rfl | exact v_idx rfl rfl om | exact v_not rfl | exact v_field rfl rfl | exact v_nil rfl | (apply v_lookup rfl rfl; (· exact at_); done) | (apply gCv; first | exact v_convi rfl om | exact v_sg rfl om | exact v_convu rfl om | exact v_conv rfl) | exact v_len rfl | (apply gBd; first | exact v_build0 | exact v_build2' rfl rfl rfl rfl rfl | exact v_build3' rfl rfl rfl rfl rfl rfl rfl | exact v_build2 rfl rfl rfl rfl rfl rfl (by simp only [setParts, List.set_cons_zero, List.set_cons_succ]; rfl) | exact v_build3 rfl rfl rfl rfl rfl rfl rfl rfl rfl (by simp only [setParts, List.set_cons_zero, List.set_cons_succ]; rfl) | exact v_build1 rfl rfl rfl (by simp only [setParts, List.set_cons_zero, List.set_cons_succ]; rfl)) ) | exact kf_scan rfl hD | exact kf_vs rfl hD | (obtain ⟨_, _, rfl⟩ := hD; (first | exact v_move rfl | exact v_fieldAddr rfl | (apply gLd; first | (apply v_ld rfl; (· exact at_); (· first | rfl | exact ld_row om om | exact ld_rowB om om); done) | (apply v_ldV rfl; (· exact at_); (· omega); (· omega); done) | (apply v_ldW rfl; (· exact at_); (· rfl); done) | (apply v_ldN rfl; (· exact at_); (· first | exact Nat.le_refl _ | exact ldN_row om om); done)) | (apply gBin; first | exact v_eq rfl rfl | exact v_add rfl rfl om | exact v_lt rfl rfl | exact v_ne rfl rfl | exact v_ge rfl rfl | exact v_sub rfl rfl om | exact v_le rfl rfl | exact v_gt rfl rfl | exact v_mul rfl rfl om | exact v_rem rfl rfl om om | exact v_quo rfl rfl om om ) | exact v_assign rfl | (apply gPk; first | exact v_pick1 rfl rfl | exact v_pick0 rfl rfl) | exact v_extract rfl rfl | exact v_idx rfl rfl om | exact v_not rfl | exact v_field rfl rfl | exact v_nil rfl | (apply v_lookup rfl rfl; (· exact at_); done) | (apply gCv; first | exact v_convi rfl om | exact v_sg rfl om | exact v_convu rfl om | exact v_conv rfl) | exact v_len rfl | (apply gBd; first | exact v_build0 | exact v_build2' rfl rfl rfl rfl rfl | exact v_build3' rfl rfl rfl rfl rfl rfl rfl | exact v_build2 rfl rfl rfl rfl rfl rfl (by simp only [setParts, List.set_cons_zero, List.set_cons_succ]; rfl) | exact v_build3 rfl rfl rfl rfl rfl rfl rfl rfl rfl (by simp only [setParts, List.set_cons_zero, List.set_cons_succ]; rfl) | exact v_build1 rfl rfl rfl (by simp only [setParts, List.set_cons_zero, List.set_cons_succ]; rfl)) ))
    refine K_one (i := 9) (by kernel_rfl) (by exact kf_mk hkk cvt_) rfl (OK_of_L fun S hS => ?_)
    (apply L_stV rfl rfl rfl rfl rfl; (· exact up_); (· omega); (· omega))
    refine L_nil (hS _ _ ?_)
    clear hS
    refine K_nil (by kernel_rfl) (by exact kf_mk hkk cvt_) ?_
    repeat' (first | (apply gCall; apply L_call rfl rfl rfl rfl rfl; (· first | exact overT tk_ | exact head_c at_ at_ hBw om om | exact val2_c at_ at_ hBw q1 om om om | exact forwardedT tk_ tk_ hBc hFP hwc1 | exact isetT tk_ tk_ om om om); rintro _ _ ⟨rfl, rfl⟩) | (apply gL; first | refine L_nil ?_ | refine yA fun _ => ?_ | (apply gSt; first | refine sR ?_ | refine sB ?_ | refine s1 ?_ | refine sW ?_ | refine sN ?_) | refine kV ?_) | (apply gW; first | refine W_seq ?_ | refine W_region ?_ | refine W_ret ?_ | refine W_skip ?_ | refine W_block ?_ | refine W_exit ?_ | refine W_cond1 rfl ?_ | refine W_cond0 rfl ?_ | refine cW (fun h => ?_) fun h => ?_) | (first | refine seqR.normal ?_ | refine seqR.ret ?_ | refine seqR.exit ?_ | refine blockR.normal ?_ | refine blockR.ret ?_ | refine blockR.here ?_ | refine blockR.exit rfl ?_ | refine loopR.ret ?_ | refine loopR.exit ?_) | fail)
    apply loopR.mk (i + 1, B.fwR i, m2)
    · exact sub_
    · dsimp only
      rw [aObj_fwR]
      exact cvt_
    · exact ⟨⟨by dsimp only; omega, by dsimp only; omega⟩, hR2, f', hf, by dsimp only; omega⟩
    · dsimp only; omega
  · have e : Ar.flR f i B = B := flR_end (by omega)
    rw [e] at hf
    have e2 : A.flip = B.over := by unfold Ar.flip; rw [hf]
    repeat' (first | exact absurd (show i < (A.vs.length : Int) by omega) hlt | first | (apply gCall; apply L_call rfl rfl rfl rfl rfl; (· first | exact overT tk_ | exact head_c at_ at_ hBw om om | exact val2_c at_ at_ hBw q1 om om om | exact forwardedT tk_ tk_ hBc hFP hwc1 | exact isetT tk_ tk_ om om om); rintro _ _ ⟨rfl, rfl⟩) | (apply gL; first | refine L_nil ?_ | refine yA fun _ => ?_ | (apply gSt; first | refine sR ?_ | refine sB ?_ | refine s1 ?_ | refine sW ?_ | refine sN ?_) | refine kV ?_) | (apply gW; first | refine W_seq ?_ | refine W_region ?_ | refine W_ret ?_ | refine W_skip ?_ | refine W_block ?_ | refine W_exit ?_ | refine W_cond1 rfl ?_ | refine W_cond0 rfl ?_ | refine cW (fun h => ?_) fun h => ?_) | (first | refine seqR.normal ?_ | refine seqR.ret ?_ | refine seqR.exit ?_ | refine blockR.normal ?_ | refine blockR.ret ?_ | refine blockR.here ?_ | refine blockR.exit rfl ?_ | refine loopR.ret ?_ | refine loopR.exit ?_) | fail)
    rw [e2, (aObj_over (C := C) (B := B) (rp := none) (rc := 0)).2, (over_same (A := B)).2.2.2.1]
    exact retR.end_ _ _ (ret0 rfl) cvt_ ⟨rfl, rfl⟩
end Go.Proofs.YtepddopgmhdllaaGreat.Eng
