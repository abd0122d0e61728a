/- Copies of an arena: the reference's. -/
import Derived.Test.YtepddopgmhdllaaGreatBkP
namespace Go.Proofs.YtepddopgmhdllaaGreat.Eng
open Go Go.RowKit Go.Proofs.YtepddopgmhdllaaGreat.Sl Go.Proofs.YtepddopgmhdllaaGreat.Ar Go.Proofs.YtepddopgmhdllaaGreat.Base
set_option linter.unusedVariables false
set_option linter.unusedSimpArgs false
set_option maxRecDepth 10000
section
variable {P : Program} {N : Nat} {w0 w : World} {E : Env} {H H' H1 : HL} {o : Oper} {x y z : Operand} {T T2 e ty : TypeId} {v u zv : Value} {k bytes b b1 c : Nat} {ops : Array Oper} {rest : List Oper} {R : Post} {sp : List Value} {xs : List Int} {vs : List (Int × Int)}
theorem L_appEU {t : Tmp} [TSlice P T e 1] [TInfo P e zv 1 bytes] (hw : wantE ops E o = some true) (hd : o.dst = some t) (ht : Nat.blt t N = true) (ho : o.op = .call { callee := .builtin .append, args := #[x, y], argTypes := #[T, T] })
    (hx : ev E x = some (.slice (some ⟨b, 0, none⟩) 0 0)) (hy : ev E y = some (.slice (some ⟨b1, 0, none⟩) xs.length c)) (hA : At H b1 (.cells (rowA .u64 xs sp) e (0, 0))) (hT : Tk H b (.cells #[] e (0, 0)) H1) (hm : xs.length ≤ 1048576) (hb : Nat.ble bytes 1000 = true)
    (hK : ∀ b' c' sp', xs.length ≤ c' → L P N w0 ops rest ((t, .slice (some ⟨b', 0, none⟩) xs.length c') :: E) ((b', .cells (rowA .u64 xs sp') e (0, 0)) :: H1) R) : L P N w0 ops (o :: rest) E H R :=
  L_appE (news := xs.map (Value.int .u64)) (k := 1) hw hd ht ho hx hy hA (by simp) hT rfl hm hb hK
theorem L_appEV {t : Tmp} [TSlice P T e 2] [TInfo P e zv 2 bytes] (hw : wantE ops E o = some true) (hd : o.dst = some t) (ht : Nat.blt t N = true) (ho : o.op = .call { callee := .builtin .append, args := #[x, y], argTypes := #[T, T] })
    (hx : ev E x = some (.slice (some ⟨b, 0, none⟩) 0 0)) (hy : ev E y = some (.slice (some ⟨b1, 0, none⟩) vs.length c)) (hA : At H b1 (.cells (rowV vs sp) e (0, 0))) (hT : Tk H b (.cells #[] e (0, 0)) H1) (hm : vs.length ≤ 1048576) (hb : Nat.ble bytes 1000 = true)
    (hK : ∀ b' c' sp', vs.length ≤ c' → L P N w0 ops rest ((t, .slice (some ⟨b', 0, none⟩) vs.length c') :: E) ((b', .cells (rowV vs sp') e (0, 0)) :: H1) R) : L P N w0 ops (o :: rest) E H R :=
  L_appE (news := flat vs) (k := 2) hw hd ht ho hx hy hA (by rw [length_flat, Nat.mul_comm]) hT rfl hm hb hK
end
variable {w0 : World} {H : HL} {C : Cn} {A : Ar}
theorem l1Words_c {b c : Nat} {xs : List Int} {sp : List Value} (hA : At H b (.cells (rowA .u64 xs sp) 92 (0, 0))) (hl : xs.length ≤ 1048576) :
    Fn Tryz.prog w0 74 #[.slice (some ⟨b, 0, none⟩) xs.length c] H fun v H' => ∃ b' c' sp', v = .slice (some ⟨b', 0, none⟩) xs.length c' ∧ xs.length ≤ c' ∧ H' = (b', .cells (rowA .u64 xs sp') 92 (0, 0)) :: H := by
  refine enter1 Tryz.func74 rfl rfl Tryz.ntmps74 rfl ?_
  repeat' (first | (apply gCall; apply L_call rfl rfl rfl rfl rfl; (· fail); rintro _ _ ⟨rfl, rfl⟩) | (apply gL; first | refine L_nil ?_ | refine yX fun _ => ?_ | refine yA fun _ => ?_ | (apply gSt; first | refine sR ?_ | refine sB ?_ | refine s1 ?_ | refine sW ?_ | refine sN ?_) | (apply gBs; first | (refine L_bs0 rfl rfl rfl rfl (fun _ => ?_)) | (refine L_bs1 rfl rfl rfl rfl rfl rfl rfl (fun _ => ?_))) | (apply gApp; apply L_appI rfl rfl rfl rfl rfl rfl; (· exact at_); (· exact tk_); (· rfl); (· omega); intro _ _) | refine kV ?_) | (apply gW; first | refine W_seq ?_ | refine W_region ?_ | refine W_ret ?_ | refine W_skip ?_) | (first | refine seqR.normal ?_ | refine seqR.ret ?_) | fail)
  apply L_appEU rfl rfl rfl rfl rfl rfl at_ tk_ hl rfl
  intro b' c' sp' hc
  repeat' (first | (apply gCall; apply L_call rfl rfl rfl rfl rfl; (· fail); rintro _ _ ⟨rfl, rfl⟩) | (apply gL; first | refine L_nil ?_ | refine yX fun _ => ?_ | refine yA fun _ => ?_ | (apply gSt; first | refine sR ?_ | refine sB ?_ | refine s1 ?_ | refine sW ?_ | refine sN ?_) | (apply gBs; first | (refine L_bs0 rfl rfl rfl rfl (fun _ => ?_)) | (refine L_bs1 rfl rfl rfl rfl rfl rfl rfl (fun _ => ?_))) | (apply gApp; apply L_appI rfl rfl rfl rfl rfl rfl; (· exact at_); (· exact tk_); (· rfl); (· omega); intro _ _) | refine kV ?_) | (apply gW; first | refine W_seq ?_ | refine W_region ?_ | refine W_ret ?_ | refine W_skip ?_) | (first | refine seqR.normal ?_ | refine seqR.ret ?_) | fail)
  exact retR.ret _ _ (ret1 rfl rfl) cvt_ ⟨_, _, _, rfl, hc, rfl⟩
set_option maxHeartbeats 2000000 in
theorem l2Copy_c (hA : At H C.bw (wObj C A)) (hR : At H C.br (rObj C A)) (hl : A.ws.length ≤ 1048576) (hl2 : A.vs.length ≤ 1048576) :
    Fn Tryz.prog w0 29 #[arV C A] H fun v H' => ∃ C' : Cn, v = arV C' A ∧ A.ws.length ≤ C'.wc ∧ H' = (C'.br, rObj C' A) :: (C'.bw, wObj C' A) :: H := by
  refine enter1 Tryz.func29 rfl rfl Tryz.ntmps29 rfl ?_
  repeat' (first | (apply gSt; apply L_stc rfl rfl rfl rfl rfl rfl; (· exact at_); (· simp only [List.set_cons_zero, List.set_cons_succ]; rfl); (· exact up_); (· rfl)) | first | (apply gCall; apply L_call rfl rfl rfl rfl rfl; (· fail); rintro _ _ ⟨rfl, rfl⟩) | (apply gL; first | refine L_nil ?_ | refine yX fun _ => ?_ | refine yA fun _ => ?_ | (apply gSt; first | refine sR ?_ | refine sB ?_ | refine s1 ?_ | refine sW ?_ | refine sN ?_) | (apply gBs; first | (refine L_bs0 rfl rfl rfl rfl (fun _ => ?_)) | (refine L_bs1 rfl rfl rfl rfl rfl rfl rfl (fun _ => ?_))) | (apply gApp; apply L_appI rfl rfl rfl rfl rfl rfl; (· exact at_); (· exact tk_); (· rfl); (· omega); intro _ _) | refine kV ?_) | (apply gW; first | refine W_seq ?_ | refine W_region ?_ | refine W_ret ?_ | refine W_skip ?_) | (first | refine seqR.normal ?_ | refine seqR.ret ?_) | fail)
  apply L_call rfl rfl rfl rfl rfl
  · exact l1Words_c at_ hl
  rintro _ _ ⟨bw, cw, sw, rfl, hcw, rfl⟩
  repeat' (first | (apply gSt; apply L_stc rfl rfl rfl rfl rfl rfl; (· exact at_); (· simp only [List.set_cons_zero, List.set_cons_succ]; rfl); (· exact up_); (· rfl)) | first | (apply gCall; apply L_call rfl rfl rfl rfl rfl; (· fail); rintro _ _ ⟨rfl, rfl⟩) | (apply gL; first | refine L_nil ?_ | refine yX fun _ => ?_ | refine yA fun _ => ?_ | (apply gSt; first | refine sR ?_ | refine sB ?_ | refine s1 ?_ | refine sW ?_ | refine sN ?_) | (apply gBs; first | (refine L_bs0 rfl rfl rfl rfl (fun _ => ?_)) | (refine L_bs1 rfl rfl rfl rfl rfl rfl rfl (fun _ => ?_))) | (apply gApp; apply L_appI rfl rfl rfl rfl rfl rfl; (· exact at_); (· exact tk_); (· rfl); (· omega); intro _ _) | refine kV ?_) | (apply gW; first | refine W_seq ?_ | refine W_region ?_ | refine W_ret ?_ | refine W_skip ?_) | (first | refine seqR.normal ?_ | refine seqR.ret ?_) | fail)
  apply L_appEV rfl rfl rfl rfl rfl rfl at_ tk_ hl2 rfl
  intro br cr sr hcr
  repeat' (first | (apply gSt; apply L_stc rfl rfl rfl rfl rfl rfl; (· exact at_); (· simp only [List.set_cons_zero, List.set_cons_succ]; rfl); (· exact up_); (· rfl)) | first | (apply gCall; apply L_call rfl rfl rfl rfl rfl; (· fail); rintro _ _ ⟨rfl, rfl⟩) | (apply gL; first | refine L_nil ?_ | refine yX fun _ => ?_ | refine yA fun _ => ?_ | (apply gSt; first | refine sR ?_ | refine sB ?_ | refine s1 ?_ | refine sW ?_ | refine sN ?_) | (apply gBs; first | (refine L_bs0 rfl rfl rfl rfl (fun _ => ?_)) | (refine L_bs1 rfl rfl rfl rfl rfl rfl rfl (fun _ => ?_))) | (apply gApp; apply L_appI rfl rfl rfl rfl rfl rfl; (· exact at_); (· exact tk_); (· rfl); (· omega); intro _ _) | refine kV ?_) | (apply gW; first | refine W_seq ?_ | refine W_region ?_ | refine W_ret ?_ | refine W_skip ?_) | (first | refine seqR.normal ?_ | refine seqR.ret ?_) | fail)
  refine retR.ret _ _ (retC rfl rfl at_ (by rfl)) cvt_ ⟨⟨bw, cw, sw, br, cr, sr⟩, ?_, hcw, rfl⟩
  rfl
end Go.Proofs.YtepddopgmhdllaaGreat.Eng
namespace Go.Proofs.YtepddopgmhdllaaGreat.Eng
open Go Go.RowKit Go.Proofs.YtepddopgmhdllaaGreat.Sl Go.Proofs.YtepddopgmhdllaaGreat.Ar Go.Proofs.YtepddopgmhdllaaGreat.Base
set_option linter.unusedVariables false
set_option linter.unusedSimpArgs false
set_option maxRecDepth 10000
section
variable {P : Program} {N : Nat} {w0 w : World} {E : Env} {H H' H1 : HL} {x y : Operand} {T T2 T' : TypeId} {v : Value} {d_ : Option Tmp} {ty_ : TypeId} {pos_ : String} {af_ : Array Edge} {gd_ : Option (Nat × Bool)}
theorem retCC {fn : Func} {t u n n' bk bk' : Nat} {cs cs' : Array Value} {ty ty' : TypeId} {fr fr' : Nat × Nat} [TAgg P T n] [TAgg P T' n'] (h : fn.results = #[.cell t T, .cell u T']) (hv : look E t = some (.pointer (some ⟨bk, 0, none⟩))) (hA : At H bk (.cells cs ty fr)) (hn : cs.size = n)
    (hu : look E u = some (.pointer (some ⟨bk', 0, none⟩))) (hA' : At H bk' (.cells cs' ty' fr')) (hn' : cs'.size = n') : RetV P N w0 fn E H (.tuple #[.agg cs, .agg cs']) := by
  refine ⟨fun a w ha hs => ?_⟩
  obtain ⟨d, h1, h2⟩ := TAgg.agg (P := P) (T := T)
  obtain ⟨d', h1', h2'⟩ := TAgg.agg (P := P) (T := T')
  have hl := run_loadCells_ext (P := P) (i := 0) (n := n) hs hA (by omega)
  have he : cs.extract 0 (0 + n) = cs := by rw [Nat.zero_add, ← hn]; simp
  rw [he] at hl
  have hl' := run_loadCells_ext (P := P) (i := 0) (n := n') hs hA' (by omega)
  have he' : cs'.extract 0 (0 + n') = cs' := by rw [Nat.zero_add, ← hn']; simp
  rw [he'] at hl'
  simp [results, h, Array.getD_eq_getD_getElem?, ha.at_ t _ hv, ha.at_ u _ hu, asAddr, loadVar, run_isAgg h1 h2, run_sizeOf (TAgg.size (P := P) (T := T)), hl, run_isAgg h1' h2', run_sizeOf (TAgg.size (P := P) (T := T')), hl']
end
variable {w0 : World} {H : HL} {C : Cn} {A : Ar}
theorem specIsRefB_c {t n : Int} {b : Bool} (hb : isRef t = b) : Fn Tryz.prog w0 132 #[.agg #[.int .i64 t, .int .i64 n]] H fun v H' => v = .bool b ∧ H' = H := by
  subst hb; exact specIsRef_c t n
theorem specForwardedB_c {x : Int} {b : Bool} (hb : isFw x = b) (h0 : 0 ≤ x) (h1 : x < 18446744073709551616) : Fn Tryz.prog w0 124 #[.int .u64 x] H fun v H' => v = .tuple #[.int .i64 (fw x), .bool b] ∧ H' = H := by
  subst hb; exact specForwarded_c h0 h1
set_option maxHeartbeats 2000000 in
theorem l3Over_c : Fn Tryz.prog w0 108 #[arV C A] H fun v H' => v = arV C A.over ∧ H' = H := by
  refine enter1 Tryz.func108 rfl rfl Tryz.ntmps108 rfl ?_
  repeat' (first | (apply gSt; apply L_stc rfl rfl rfl rfl rfl rfl; (· exact at_); (· simp only [List.set_cons_zero, List.set_cons_succ]; rfl); (· exact up_); (· rfl)) | first | ((first | (apply gCall; apply L_call rfl rfl rfl rfl rfl) | (apply gQC; apply Q_call rfl rfl rfl rfl rfl)); (· first | exact specIsRefB_c hr | exact specForwardedB_c hf om om | exact l2Look_c at_ hw om om); try rintro _ _ ⟨rfl, rfl⟩) | (apply gL; first | refine L_nil ?_ | refine yS ?_ | refine yX fun _ => ?_ | refine yA fun _ => ?_ | (apply gSt; first | refine sR ?_ | refine sB ?_ | refine s1 ?_ | refine sW ?_ | refine sN ?_) | refine kV ?_ | (apply L_val rfl rfl rfl; (· first | (apply gBin; first | fail | exact v_ort rfl rfl om) | fail )) | ((fail_if_success (refine L_known rfl ?_)); refine yW (fun h => ?_) fun h => ?_)) | (apply gW; first | refine W_seq ?_ | refine W_region ?_ | refine W_ret ?_ | refine W_skip ?_ | refine W_block ?_ | refine W_exit ?_ | refine W_cond1 rfl ?_ | refine W_cond0 rfl ?_ | refine cW (fun h => ?_) fun h => ?_ | refine wQ ?_) | (first | refine seqR.normal ?_ | refine seqR.ret ?_ | refine seqR.exit ?_ | refine blockR.normal ?_ | refine blockR.ret ?_ | refine blockR.here ?_ | refine blockR.exit rfl ?_ | refine loopR.ret ?_ | refine loopR.exit ?_) | (apply gQ; first | refine Q_nil ?_ | refine Q_skip rfl rfl rfl ?_ | refine kQ ?_ | (apply Q_val rfl rfl rfl; (· first | (apply gBin; first | fail | exact v_ort rfl rfl om) | fail )) | ((fail_if_success (refine Q_known rfl ?_)); refine zW (fun h => ?_) fun h => ?_)) | fail)
  all_goals (refine retR.ret _ _ (retC rfl rfl at_ (by rfl)) cv_ ⟨?_, rfl⟩)
  all_goals unfold Ar.over
  · rw [if_pos ⟨by assumption, by assumption⟩]
  · rw [if_neg (fun c => absurd c.2 (by assumption))]; rfl
  · rw [if_neg (fun c => by have := c.1; simp_all)]; rfl
set_option maxHeartbeats 4000000 in
theorem l3Forward_c {t n : Int} (hP : FP A t n) :
    Fn Tryz.prog w0 137 #[arV C A, .agg #[.int .i64 t, .int .i64 n]] ((C.bw, wObj C A) :: H) fun v H' => v = .tuple #[arV C (A.fwd t n).1, .agg #[.int .i64 t, .int .i64 (A.fwd t n).2]] ∧ H' = (C.bw, wObj C (A.fwd t n).1) :: H := by
  have hw := hP.wf
  have hlen := hP.len
  have hse := hP.se
  have hto := hP.to
  have htp := hP.tp
  have hcp := hP.cp
  by_cases hr : isRef t = true
  · obtain ⟨⟨hn, hn2⟩, -, hcpy⟩ := hP.rf hr
    have hwn := hw n
    cases hi : A.inTo n with
    | true =>
      have hi' : n / A.semi = A.to := of_decide_eq_true hi
      have e : A.fwd t n = (A, n) := by unfold Ar.fwd; rw [if_neg (by rw [hi]; simp)]
      rw [e]
      refine enter2 Tryz.func137 rfl rfl Tryz.ntmps137 rfl ?_
      repeat' (first | exact absurd hi' h | first | ((first | (apply gCall; apply L_call rfl rfl rfl rfl rfl) | (apply gQC; apply Q_call rfl rfl rfl rfl rfl)); (· first | exact specIsRefB_c hr | exact specForwardedB_c hf om om | exact l2Look_c at_ hw om om); try rintro _ _ ⟨rfl, rfl⟩) | (apply gL; first | refine L_nil ?_ | refine yS ?_ | refine yX fun _ => ?_ | refine yA fun _ => ?_ | (apply gSt; first | refine sR ?_ | refine sB ?_ | refine s1 ?_ | refine sW ?_ | refine sN ?_) | refine kV ?_ | (apply L_val rfl rfl rfl; (· first | (apply gBin; first | fail | exact v_ort rfl rfl om) | fail )) | ((fail_if_success (refine L_known rfl ?_)); refine yW (fun h => ?_) fun h => ?_)) | (apply gW; first | refine W_seq ?_ | refine W_region ?_ | refine W_ret ?_ | refine W_skip ?_ | refine W_block ?_ | refine W_exit ?_ | refine W_cond1 rfl ?_ | refine W_cond0 rfl ?_ | refine cW (fun h => ?_) fun h => ?_ | refine wQ ?_) | (first | refine seqR.normal ?_ | refine seqR.ret ?_ | refine seqR.exit ?_ | refine blockR.normal ?_ | refine blockR.ret ?_ | refine blockR.here ?_ | refine blockR.exit rfl ?_ | refine loopR.ret ?_ | refine loopR.exit ?_) | (apply gQ; first | refine Q_nil ?_ | refine Q_skip rfl rfl rfl ?_ | refine kQ ?_ | (apply Q_val rfl rfl rfl; (· first | (apply gBin; first | fail | exact v_ort rfl rfl om) | fail )) | ((fail_if_success (refine Q_known rfl ?_)); refine zW (fun h => ?_) fun h => ?_)) | fail)
      rename_i b2 b3 b4 b5
      apply W_regionA (D := (b3, .cells #[.int .i64 t, .int .i64 n] 47 (0, 0)) :: (b2, aObj C A) :: H) (by kernel_rfl)
      refine kAt 0 ?_
      refine kAt 1 ?_
      refine A_one (i := 2) (by kernel_rfl) cvt_ rfl (O_of_L fun S hS => ?_)
      first | (apply gCall; apply L_call rfl rfl rfl rfl rfl; (· first | exact specIsRefB_c hr | exact specForwardedB_c hf om om | exact l2Look_c at_ hw om om); rintro _ _ ⟨rfl, rfl⟩) | (apply gL; first | refine L_nil ?_ | refine yS ?_ | refine yX fun _ => ?_ | refine yA fun _ => ?_ | (apply gSt; first | refine sR ?_ | refine sB ?_ | refine s1 ?_ | refine sW ?_ | refine sN ?_) | refine kV ?_ | (apply L_val rfl rfl rfl; (· first | (apply gBin; first | fail | exact v_ort rfl rfl om) | fail )) | ((fail_if_success (refine L_known rfl ?_)); refine yW (fun h => ?_) fun h => ?_))
      refine L_nil (hS _ _ ?_)
      clear hS
      refine A_one (i := 3) (by kernel_rfl) cvt_ rfl (O_of_L fun S hS => ?_)
      first | (apply gCall; apply L_call rfl rfl rfl rfl rfl; (· first | exact specIsRefB_c hr | exact specForwardedB_c hf om om | exact l2Look_c at_ hw om om); rintro _ _ ⟨rfl, rfl⟩) | (apply gL; first | refine L_nil ?_ | refine yS ?_ | refine yX fun _ => ?_ | refine yA fun _ => ?_ | (apply gSt; first | refine sR ?_ | refine sB ?_ | refine s1 ?_ | refine sW ?_ | refine sN ?_) | refine kV ?_ | (apply L_val rfl rfl rfl; (· first | (apply gBin; first | fail | exact v_ort rfl rfl om) | fail )) | ((fail_if_success (refine L_known rfl ?_)); refine yW (fun h => ?_) fun h => ?_))
      refine L_nil (hS _ _ ?_)
      clear hS
      refine A_nil (by kernel_rfl) cvt_ ?_
      repeat' (first | ((first | (apply gCall; apply L_call rfl rfl rfl rfl rfl) | (apply gQC; apply Q_call rfl rfl rfl rfl rfl)); (· first | exact specIsRefB_c hr | exact specForwardedB_c hf om om | exact l2Look_c at_ hw om om); try rintro _ _ ⟨rfl, rfl⟩) | (apply gL; first | refine L_nil ?_ | refine yS ?_ | refine yX fun _ => ?_ | refine yA fun _ => ?_ | (apply gSt; first | refine sR ?_ | refine sB ?_ | refine s1 ?_ | refine sW ?_ | refine sN ?_) | refine kV ?_ | (apply L_val rfl rfl rfl; (· first | (apply gBin; first | fail | exact v_ort rfl rfl om) | fail )) | ((fail_if_success (refine L_known rfl ?_)); refine yW (fun h => ?_) fun h => ?_)) | (apply gW; first | refine W_seq ?_ | refine W_region ?_ | refine W_ret ?_ | refine W_skip ?_ | refine W_block ?_ | refine W_exit ?_ | refine W_cond1 rfl ?_ | refine W_cond0 rfl ?_ | refine cW (fun h => ?_) fun h => ?_ | refine wQ ?_) | (first | refine seqR.normal ?_ | refine seqR.ret ?_ | refine seqR.exit ?_ | refine blockR.normal ?_ | refine blockR.ret ?_ | refine blockR.here ?_ | refine blockR.exit rfl ?_ | refine loopR.ret ?_ | refine loopR.exit ?_) | (apply gQ; first | refine Q_nil ?_ | refine Q_skip rfl rfl rfl ?_ | refine kQ ?_ | (apply Q_val rfl rfl rfl; (· first | (apply gBin; first | fail | exact v_ort rfl rfl om) | fail )) | ((fail_if_success (refine Q_known rfl ?_)); refine zW (fun h => ?_) fun h => ?_)) | fail)
      exact retR.ret _ _ (retCC rfl rfl at_ (by rfl) rfl at_ (by rfl)) cvt_ ⟨rfl, rfl⟩
    | false =>
      have hi' : ¬ n / A.semi = A.to := of_decide_eq_false hi
      cases hf : isFw (g A.ws n) with
      | true =>
        have e : A.fwd t n = (A, fw (g A.ws n)) := by unfold Ar.fwd; rw [if_pos ⟨hr, hi⟩, if_pos hf]
        rw [e]
        refine enter2 Tryz.func137 rfl rfl Tryz.ntmps137 rfl ?_
        repeat' (first | exact absurd h hi' | (apply gSt; apply L_stc rfl rfl rfl rfl rfl rfl; (· exact at_); (· simp only [List.set_cons_zero, List.set_cons_succ]; rfl); (· exact up_); (· rfl)) | first | ((first | (apply gCall; apply L_call rfl rfl rfl rfl rfl) | (apply gQC; apply Q_call rfl rfl rfl rfl rfl)); (· first | exact specIsRefB_c hr | exact specForwardedB_c hf om om | exact l2Look_c at_ hw om om); try rintro _ _ ⟨rfl, rfl⟩) | (apply gL; first | refine L_nil ?_ | refine yS ?_ | refine yX fun _ => ?_ | refine yA fun _ => ?_ | (apply gSt; first | refine sR ?_ | refine sB ?_ | refine s1 ?_ | refine sW ?_ | refine sN ?_) | refine kV ?_ | (apply L_val rfl rfl rfl; (· first | (apply gBin; first | fail | exact v_ort rfl rfl om) | fail )) | ((fail_if_success (refine L_known rfl ?_)); refine yW (fun h => ?_) fun h => ?_)) | (apply gW; first | refine W_seq ?_ | refine W_region ?_ | refine W_ret ?_ | refine W_skip ?_ | refine W_block ?_ | refine W_exit ?_ | refine W_cond1 rfl ?_ | refine W_cond0 rfl ?_ | refine cW (fun h => ?_) fun h => ?_ | refine wQ ?_) | (first | refine seqR.normal ?_ | refine seqR.ret ?_ | refine seqR.exit ?_ | refine blockR.normal ?_ | refine blockR.ret ?_ | refine blockR.here ?_ | refine blockR.exit rfl ?_ | refine loopR.ret ?_ | refine loopR.exit ?_) | (apply gQ; first | refine Q_nil ?_ | refine Q_skip rfl rfl rfl ?_ | refine kQ ?_ | (apply Q_val rfl rfl rfl; (· first | (apply gBin; first | fail | exact v_ort rfl rfl om) | fail )) | ((fail_if_success (refine Q_known rfl ?_)); refine zW (fun h => ?_) fun h => ?_)) | fail)
        rename_i b2 b3 b4 b5
        apply W_regionA (D := (b3, .cells #[.int .i64 t, .int .i64 (fw (g A.ws n))] 47 (0, 0)) :: (b2, aObj C A) :: H) (by kernel_rfl)
        refine kAt 0 ?_
        refine kAt 1 ?_
        refine A_one (i := 2) (by kernel_rfl) cvt_ rfl (O_of_L fun S hS => ?_)
        first | (apply gCall; apply L_call rfl rfl rfl rfl rfl; (· first | exact specIsRefB_c hr | exact specForwardedB_c hf om om | exact l2Look_c at_ hw om om); rintro _ _ ⟨rfl, rfl⟩) | (apply gL; first | refine L_nil ?_ | refine yS ?_ | refine yX fun _ => ?_ | refine yA fun _ => ?_ | (apply gSt; first | refine sR ?_ | refine sB ?_ | refine s1 ?_ | refine sW ?_ | refine sN ?_) | refine kV ?_ | (apply L_val rfl rfl rfl; (· first | (apply gBin; first | fail | exact v_ort rfl rfl om) | fail )) | ((fail_if_success (refine L_known rfl ?_)); refine yW (fun h => ?_) fun h => ?_))
        refine L_nil (hS _ _ ?_)
        clear hS
        refine A_one (i := 3) (by kernel_rfl) cvt_ rfl (O_of_L fun S hS => ?_)
        first | (apply gCall; apply L_call rfl rfl rfl rfl rfl; (· first | exact specIsRefB_c hr | exact specForwardedB_c hf om om | exact l2Look_c at_ hw om om); rintro _ _ ⟨rfl, rfl⟩) | (apply gL; first | refine L_nil ?_ | refine yS ?_ | refine yX fun _ => ?_ | refine yA fun _ => ?_ | (apply gSt; first | refine sR ?_ | refine sB ?_ | refine s1 ?_ | refine sW ?_ | refine sN ?_) | refine kV ?_ | (apply L_val rfl rfl rfl; (· first | (apply gBin; first | fail | exact v_ort rfl rfl om) | fail )) | ((fail_if_success (refine L_known rfl ?_)); refine yW (fun h => ?_) fun h => ?_))
        refine L_nil (hS _ _ ?_)
        clear hS
        refine A_nil (by kernel_rfl) cvt_ ?_
        repeat' (first | ((first | (apply gCall; apply L_call rfl rfl rfl rfl rfl) | (apply gQC; apply Q_call rfl rfl rfl rfl rfl)); (· first | exact specIsRefB_c hr | exact specForwardedB_c hf om om | exact l2Look_c at_ hw om om); try rintro _ _ ⟨rfl, rfl⟩) | (apply gL; first | refine L_nil ?_ | refine yS ?_ | refine yX fun _ => ?_ | refine yA fun _ => ?_ | (apply gSt; first | refine sR ?_ | refine sB ?_ | refine s1 ?_ | refine sW ?_ | refine sN ?_) | refine kV ?_ | (apply L_val rfl rfl rfl; (· first | (apply gBin; first | fail | exact v_ort rfl rfl om) | fail )) | ((fail_if_success (refine L_known rfl ?_)); refine yW (fun h => ?_) fun h => ?_)) | (apply gW; first | refine W_seq ?_ | refine W_region ?_ | refine W_ret ?_ | refine W_skip ?_ | refine W_block ?_ | refine W_exit ?_ | refine W_cond1 rfl ?_ | refine W_cond0 rfl ?_ | refine cW (fun h => ?_) fun h => ?_ | refine wQ ?_) | (first | refine seqR.normal ?_ | refine seqR.ret ?_ | refine seqR.exit ?_ | refine blockR.normal ?_ | refine blockR.ret ?_ | refine blockR.here ?_ | refine blockR.exit rfl ?_ | refine loopR.ret ?_ | refine loopR.exit ?_) | (apply gQ; first | refine Q_nil ?_ | refine Q_skip rfl rfl rfl ?_ | refine kQ ?_ | (apply Q_val rfl rfl rfl; (· first | (apply gBin; first | fail | exact v_ort rfl rfl om) | fail )) | ((fail_if_success (refine Q_known rfl ?_)); refine zW (fun h => ?_) fun h => ?_)) | fail)
        exact retR.ret _ _ (retCC rfl rfl at_ (by rfl) rfl at_ (by rfl)) cvt_ ⟨rfl, rfl⟩
      | false =>
        obtain ⟨c1, c2, c3, c4, c5⟩ := hcpy hi hf
        have hrs := rsR' c1
        have e : A.fwd t n = (A.cpy n, A.top) := by unfold Ar.fwd; rw [if_pos ⟨hr, hi⟩, if_neg (by rw [hf]; decide)]
        rw [e]
        refine enter2 Tryz.func137 rfl rfl Tryz.ntmps137 rfl ?_
        repeat' (first | exact absurd h hi' | (apply gSt; apply L_stc rfl rfl rfl rfl rfl rfl; (· exact at_); (· simp only [List.set_cons_zero, List.set_cons_succ]; rfl); (· exact up_); (· rfl)) | first | ((first | (apply gCall; apply L_call rfl rfl rfl rfl rfl) | (apply gQC; apply Q_call rfl rfl rfl rfl rfl)); (· first | exact specIsRefB_c hr | exact specForwardedB_c hf om om | exact l2Look_c at_ hw om om); try rintro _ _ ⟨rfl, rfl⟩) | (apply gL; first | refine L_nil ?_ | refine yS ?_ | refine yX fun _ => ?_ | refine yA fun _ => ?_ | (apply gSt; first | refine sR ?_ | refine sB ?_ | refine s1 ?_ | refine sW ?_ | refine sN ?_) | refine kV ?_ | (apply L_val rfl rfl rfl; (· first | (apply gBin; first | fail | exact v_ort rfl rfl om) | fail )) | ((fail_if_success (refine L_known rfl ?_)); refine yW (fun h => ?_) fun h => ?_)) | (apply gW; first | refine W_seq ?_ | refine W_region ?_ | refine W_ret ?_ | refine W_skip ?_ | refine W_block ?_ | refine W_exit ?_ | refine W_cond1 rfl ?_ | refine W_cond0 rfl ?_ | refine cW (fun h => ?_) fun h => ?_ | refine wQ ?_) | (first | refine seqR.normal ?_ | refine seqR.ret ?_ | refine seqR.exit ?_ | refine blockR.normal ?_ | refine blockR.ret ?_ | refine blockR.here ?_ | refine blockR.exit rfl ?_ | refine loopR.ret ?_ | refine loopR.exit ?_) | (apply gQ; first | refine Q_nil ?_ | refine Q_skip rfl rfl rfl ?_ | refine kQ ?_ | (apply Q_val rfl rfl rfl; (· first | (apply gBin; first | fail | exact v_ort rfl rfl om) | fail )) | ((fail_if_success (refine Q_known rfl ?_)); refine zW (fun h => ?_) fun h => ?_)) | fail)
        rename_i b2 b3 b4 b5
        apply W_loopX (α := Int) (fun i => [(2, .pointer (some ⟨b2, 0, none⟩)), (3, .pointer (some ⟨b3, 0, none⟩)), (4, .pointer (some ⟨b4, 0, none⟩)), (5, .pointer (some ⟨b5, 0, none⟩)), (6, .int .i64 A.top), (8, .int .i64 (rs (g A.ws n) + 1)), (9, .int .i64 i)])
          (fun i => (C.bw, .cells (rowA .u64 (copyW A.ws A.top n i) C.ws) 92 (0, 0)) :: (b5, .cells #[.int .i64 0, .int .i64 0] 47 (0, 0)) :: (b4, .cells #[.slice none 0 0, .int .i64 0, .int .i64 0, .int .i64 0, .bool false, .int .i64 0, .int .i64 0, .int .i64 0, .int .i64 0, .slice none 0 0] 29 (0, 0)) :: (b3, .cells #[.int .i64 t, .int .i64 n] 47 (0, 0)) :: (b2, aObj C A) :: H)
          (fun i => 0 ≤ i ∧ i ≤ rs (g A.ws n) + 1) (fun i => (rs (g A.ws n) + 1 - i).toNat) 0
        · exact sub_
        · simp only [copyW_0]
          exact cvt_
        · exact ⟨by omega, by omega⟩
        rintro i ⟨h0, h1⟩
        have hcl : (copyW A.ws A.top n i).length = A.ws.length := length_copyW
        repeat' (first | ((first | (apply gCall; apply L_call rfl rfl rfl rfl rfl) | (apply gQC; apply Q_call rfl rfl rfl rfl rfl)); (· first | exact specIsRefB_c hr | exact specForwardedB_c hf om om | exact l2Look_c at_ hw om om); try rintro _ _ ⟨rfl, rfl⟩) | (apply gL; first | refine L_nil ?_ | refine yS ?_ | refine yX fun _ => ?_ | refine yA fun _ => ?_ | (apply gSt; first | refine sR ?_ | refine sB ?_ | refine s1 ?_ | refine sW ?_ | refine sN ?_) | refine kV ?_ | (apply L_val rfl rfl rfl; (· first | (apply gBin; first | fail | exact v_ort rfl rfl om) | fail )) | ((fail_if_success (refine L_known rfl ?_)); refine yW (fun h => ?_) fun h => ?_)) | (apply gW; first | refine W_seq ?_ | refine W_region ?_ | refine W_ret ?_ | refine W_skip ?_ | refine W_block ?_ | refine W_exit ?_ | refine W_cond1 rfl ?_ | refine W_cond0 rfl ?_ | refine cW (fun h => ?_) fun h => ?_ | refine wQ ?_) | (first | refine seqR.normal ?_ | refine seqR.ret ?_ | refine seqR.exit ?_ | refine blockR.normal ?_ | refine blockR.ret ?_ | refine blockR.here ?_ | refine blockR.exit rfl ?_ | refine loopR.ret ?_ | refine loopR.exit ?_) | (apply gQ; first | refine Q_nil ?_ | refine Q_skip rfl rfl rfl ?_ | refine kQ ?_ | (apply Q_val rfl rfl rfl; (· first | (apply gBin; first | fail | exact v_ort rfl rfl om) | fail )) | ((fail_if_success (refine Q_known rfl ?_)); refine zW (fun h => ?_) fun h => ?_)) | fail)
        · apply W_regionA (D := (b3, .cells #[.int .i64 t, .int .i64 n] 47 (0, 0)) :: (b2, aObj C A) :: H) (by kernel_rfl)
          refine kAt 0 ?_
          refine kAt 1 ?_
          refine kAt 2 ?_
          refine kAt 3 ?_
          refine kAt 4 ?_
          refine kAt 5 ?_
          refine kAt 6 ?_
          refine kAt 7 ?_
          refine kAt 8 ?_
          refine kAt 9 ?_
          refine kAt 10 ?_
          refine kAt 11 ?_
          refine A_one (i := 12) (by kernel_rfl) cvt_ rfl (O_of_L fun S hS => ?_)
          first | (apply gCall; apply L_call rfl rfl rfl rfl rfl; (· first | exact specIsRefB_c hr | exact specForwardedB_c hf om om | exact l2Look_c at_ hw om om); rintro _ _ ⟨rfl, rfl⟩) | (apply gL; first | refine L_nil ?_ | refine yS ?_ | refine yX fun _ => ?_ | refine yA fun _ => ?_ | (apply gSt; first | refine sR ?_ | refine sB ?_ | refine s1 ?_ | refine sW ?_ | refine sN ?_) | refine kV ?_ | (apply L_val rfl rfl rfl; (· first | (apply gBin; first | fail | exact v_ort rfl rfl om) | fail )) | ((fail_if_success (refine L_known rfl ?_)); refine yW (fun h => ?_) fun h => ?_))
          refine L_nil (hS _ _ ?_)
          clear hS
          refine kAt 13 ?_
          refine A_one (i := 14) (by kernel_rfl) cvt_ rfl (O_of_L fun S hS => ?_)
          first | (apply gCall; apply L_call rfl rfl rfl rfl rfl; (· first | exact specIsRefB_c hr | exact specForwardedB_c hf om om | exact l2Look_c at_ hw om om); rintro _ _ ⟨rfl, rfl⟩) | (apply gL; first | refine L_nil ?_ | refine yS ?_ | refine yX fun _ => ?_ | refine yA fun _ => ?_ | (apply gSt; first | refine sR ?_ | refine sB ?_ | refine s1 ?_ | refine sW ?_ | refine sN ?_) | refine kV ?_ | (apply L_val rfl rfl rfl; (· first | (apply gBin; first | fail | exact v_ort rfl rfl om) | fail )) | ((fail_if_success (refine L_known rfl ?_)); refine yW (fun h => ?_) fun h => ?_))
          refine L_nil (hS _ _ ?_)
          clear hS
          refine A_nil (by kernel_rfl) cvt_ ?_
          repeat' (first | ((first | (apply gCall; apply L_call rfl rfl rfl rfl rfl) | (apply gQC; apply Q_call rfl rfl rfl rfl rfl)); (· first | exact specIsRefB_c hr | exact specForwardedB_c hf om om | exact l2Look_c at_ hw om om); try rintro _ _ ⟨rfl, rfl⟩) | (apply gL; first | refine L_nil ?_ | refine yS ?_ | refine yX fun _ => ?_ | refine yA fun _ => ?_ | (apply gSt; first | refine sR ?_ | refine sB ?_ | refine s1 ?_ | refine sW ?_ | refine sN ?_) | refine kV ?_ | (apply L_val rfl rfl rfl; (· first | (apply gBin; first | fail | exact v_ort rfl rfl om) | fail )) | ((fail_if_success (refine L_known rfl ?_)); refine yW (fun h => ?_) fun h => ?_)) | (apply gW; first | refine W_seq ?_ | refine W_region ?_ | refine W_ret ?_ | refine W_skip ?_ | refine W_block ?_ | refine W_exit ?_ | refine W_cond1 rfl ?_ | refine W_cond0 rfl ?_ | refine cW (fun h => ?_) fun h => ?_ | refine wQ ?_) | (first | refine seqR.normal ?_ | refine seqR.ret ?_ | refine seqR.exit ?_ | refine blockR.normal ?_ | refine blockR.ret ?_ | refine blockR.here ?_ | refine blockR.exit rfl ?_ | refine loopR.ret ?_ | refine loopR.exit ?_) | (apply gQ; first | refine Q_nil ?_ | refine Q_skip rfl rfl rfl ?_ | refine kQ ?_ | (apply Q_val rfl rfl rfl; (· first | (apply gBin; first | fail | exact v_ort rfl rfl om) | fail )) | ((fail_if_success (refine Q_known rfl ?_)); refine zW (fun h => ?_) fun h => ?_)) | fail)
          rw [copyW_succ htp.1 hn h0 (z := rs (g A.ws n) + 1) (by omega) (by omega) (by omega) (by omega)]
          apply loopR.mk (i + 1)
          · exact sub_
          · exact cvt_
          · exact ⟨by omega, by omega⟩
          · (try dsimp only); omega
        · have hi3 : i = rs (g A.ws n) + 1 := by omega
          subst hi3
          repeat' (first | (apply gSt; apply L_stc rfl rfl rfl rfl rfl rfl; (· exact at_); (· simp only [List.set_cons_zero, List.set_cons_succ]; rfl); (· exact up_); (· rfl)) | first | ((first | (apply gCall; apply L_call rfl rfl rfl rfl rfl) | (apply gQC; apply Q_call rfl rfl rfl rfl rfl)); (· first | exact specIsRefB_c hr | exact specForwardedB_c hf om om | exact l2Look_c at_ hw om om); try rintro _ _ ⟨rfl, rfl⟩) | (apply gL; first | refine L_nil ?_ | refine yS ?_ | refine yX fun _ => ?_ | refine yA fun _ => ?_ | (apply gSt; first | refine sR ?_ | refine sB ?_ | refine s1 ?_ | refine sW ?_ | refine sN ?_) | refine kV ?_ | (apply L_val rfl rfl rfl; (· first | (apply gBin; first | fail | exact v_ort rfl rfl om) | fail )) | ((fail_if_success (refine L_known rfl ?_)); refine yW (fun h => ?_) fun h => ?_)) | (apply gW; first | refine W_seq ?_ | refine W_region ?_ | refine W_ret ?_ | refine W_skip ?_ | refine W_block ?_ | refine W_exit ?_ | refine W_cond1 rfl ?_ | refine W_cond0 rfl ?_ | refine cW (fun h => ?_) fun h => ?_ | refine wQ ?_) | (first | refine seqR.normal ?_ | refine seqR.ret ?_ | refine seqR.exit ?_ | refine blockR.normal ?_ | refine blockR.ret ?_ | refine blockR.here ?_ | refine blockR.exit rfl ?_ | refine loopR.ret ?_ | refine loopR.exit ?_) | (apply gQ; first | refine Q_nil ?_ | refine Q_skip rfl rfl rfl ?_ | refine kQ ?_ | (apply Q_val rfl rfl rfl; (· first | (apply gBin; first | fail | exact v_ort rfl rfl om) | fail )) | ((fail_if_success (refine Q_known rfl ?_)); refine zW (fun h => ?_) fun h => ?_)) | fail)
          apply W_regionA (D := (b3, .cells #[.int .i64 t, .int .i64 A.top] 47 (0, 0)) :: (b2, aObj C { A with top := A.top + (rs (g A.ws n) + 1), copied := A.copied + (rs (g A.ws n) + 1) }) :: H) (by kernel_rfl)
          refine kAt 0 ?_
          refine kAt 1 ?_
          refine A_one (i := 2) (by kernel_rfl) cvt_ rfl (O_of_L fun S hS => ?_)
          first | (apply gCall; apply L_call rfl rfl rfl rfl rfl; (· first | exact specIsRefB_c hr | exact specForwardedB_c hf om om | exact l2Look_c at_ hw om om); rintro _ _ ⟨rfl, rfl⟩) | (apply gL; first | refine L_nil ?_ | refine yS ?_ | refine yX fun _ => ?_ | refine yA fun _ => ?_ | (apply gSt; first | refine sR ?_ | refine sB ?_ | refine s1 ?_ | refine sW ?_ | refine sN ?_) | refine kV ?_ | (apply L_val rfl rfl rfl; (· first | (apply gBin; first | fail | exact v_ort rfl rfl om) | fail )) | ((fail_if_success (refine L_known rfl ?_)); refine yW (fun h => ?_) fun h => ?_))
          refine L_nil (hS _ _ ?_)
          clear hS
          refine A_one (i := 3) (by kernel_rfl) cvt_ rfl (O_of_L fun S hS => ?_)
          first | (apply gCall; apply L_call rfl rfl rfl rfl rfl; (· first | exact specIsRefB_c hr | exact specForwardedB_c hf om om | exact l2Look_c at_ hw om om); rintro _ _ ⟨rfl, rfl⟩) | (apply gL; first | refine L_nil ?_ | refine yS ?_ | refine yX fun _ => ?_ | refine yA fun _ => ?_ | (apply gSt; first | refine sR ?_ | refine sB ?_ | refine s1 ?_ | refine sW ?_ | refine sN ?_) | refine kV ?_ | (apply L_val rfl rfl rfl; (· first | (apply gBin; first | fail | exact v_ort rfl rfl om) | fail )) | ((fail_if_success (refine L_known rfl ?_)); refine yW (fun h => ?_) fun h => ?_))
          refine L_nil (hS _ _ ?_)
          clear hS
          refine A_nil (by kernel_rfl) cvt_ ?_
          repeat' (first | ((first | (apply gCall; apply L_call rfl rfl rfl rfl rfl) | (apply gQC; apply Q_call rfl rfl rfl rfl rfl)); (· first | exact specIsRefB_c hr | exact specForwardedB_c hf om om | exact l2Look_c at_ hw om om); try rintro _ _ ⟨rfl, rfl⟩) | (apply gL; first | refine L_nil ?_ | refine yS ?_ | refine yX fun _ => ?_ | refine yA fun _ => ?_ | (apply gSt; first | refine sR ?_ | refine sB ?_ | refine s1 ?_ | refine sW ?_ | refine sN ?_) | refine kV ?_ | (apply L_val rfl rfl rfl; (· first | (apply gBin; first | fail | exact v_ort rfl rfl om) | fail )) | ((fail_if_success (refine L_known rfl ?_)); refine yW (fun h => ?_) fun h => ?_)) | (apply gW; first | refine W_seq ?_ | refine W_region ?_ | refine W_ret ?_ | refine W_skip ?_ | refine W_block ?_ | refine W_exit ?_ | refine W_cond1 rfl ?_ | refine W_cond0 rfl ?_ | refine cW (fun h => ?_) fun h => ?_ | refine wQ ?_) | (first | refine seqR.normal ?_ | refine seqR.ret ?_ | refine seqR.exit ?_ | refine blockR.normal ?_ | refine blockR.ret ?_ | refine blockR.here ?_ | refine blockR.exit rfl ?_ | refine loopR.ret ?_ | refine loopR.exit ?_) | (apply gQ; first | refine Q_nil ?_ | refine Q_skip rfl rfl rfl ?_ | refine kQ ?_ | (apply Q_val rfl rfl rfl; (· first | (apply gBin; first | fail | exact v_ort rfl rfl om) | fail )) | ((fail_if_success (refine Q_known rfl ?_)); refine zW (fun h => ?_) fun h => ?_)) | fail)
          have ew : (A.cpy n).ws.length = A.ws.length := by show (List.set _ _ _).length = _; rw [List.length_set, length_copyW]
          refine retR.ret _ _ (retCC rfl rfl at_ (by rfl) rfl at_ (by rfl)) cvt_ ⟨?_, rfl⟩
          show _ = Value.tuple #[.agg #[.slice _ (A.cpy n).ws.length _, _, _, _, _, _, _, _, _, _], _]
          rw [ew]
          rfl
  · have hr' : isRef t = false := by simpa using hr
    clear hr
    have hr := hr'
    have e : A.fwd t n = (A, n) := by unfold Ar.fwd; rw [if_neg (by rw [hr]; simp)]
    rw [e]
    refine enter2 Tryz.func137 rfl rfl Tryz.ntmps137 rfl ?_
    repeat' (first | ((first | (apply gCall; apply L_call rfl rfl rfl rfl rfl) | (apply gQC; apply Q_call rfl rfl rfl rfl rfl)); (· first | exact specIsRefB_c hr | exact specForwardedB_c hf om om | exact l2Look_c at_ hw om om); try rintro _ _ ⟨rfl, rfl⟩) | (apply gL; first | refine L_nil ?_ | refine yS ?_ | refine yX fun _ => ?_ | refine yA fun _ => ?_ | (apply gSt; first | refine sR ?_ | refine sB ?_ | refine s1 ?_ | refine sW ?_ | refine sN ?_) | refine kV ?_ | (apply L_val rfl rfl rfl; (· first | (apply gBin; first | fail | exact v_ort rfl rfl om) | fail )) | ((fail_if_success (refine L_known rfl ?_)); refine yW (fun h => ?_) fun h => ?_)) | (apply gW; first | refine W_seq ?_ | refine W_region ?_ | refine W_ret ?_ | refine W_skip ?_ | refine W_block ?_ | refine W_exit ?_ | refine W_cond1 rfl ?_ | refine W_cond0 rfl ?_ | refine cW (fun h => ?_) fun h => ?_ | refine wQ ?_) | (first | refine seqR.normal ?_ | refine seqR.ret ?_ | refine seqR.exit ?_ | refine blockR.normal ?_ | refine blockR.ret ?_ | refine blockR.here ?_ | refine blockR.exit rfl ?_ | refine loopR.ret ?_ | refine loopR.exit ?_) | (apply gQ; first | refine Q_nil ?_ | refine Q_skip rfl rfl rfl ?_ | refine kQ ?_ | (apply Q_val rfl rfl rfl; (· first | (apply gBin; first | fail | exact v_ort rfl rfl om) | fail )) | ((fail_if_success (refine Q_known rfl ?_)); refine zW (fun h => ?_) fun h => ?_)) | fail)
    rename_i b2 b3 b4 b5
    apply W_regionA (D := (b3, .cells #[.int .i64 t, .int .i64 n] 47 (0, 0)) :: (b2, aObj C A) :: H) (by kernel_rfl)
    refine kAt 0 ?_
    refine kAt 1 ?_
    refine A_one (i := 2) (by kernel_rfl) cvt_ rfl (O_of_L fun S hS => ?_)
    first | (apply gCall; apply L_call rfl rfl rfl rfl rfl; (· first | exact specIsRefB_c hr | exact specForwardedB_c hf om om | exact l2Look_c at_ hw om om); rintro _ _ ⟨rfl, rfl⟩) | (apply gL; first | refine L_nil ?_ | refine yS ?_ | refine yX fun _ => ?_ | refine yA fun _ => ?_ | (apply gSt; first | refine sR ?_ | refine sB ?_ | refine s1 ?_ | refine sW ?_ | refine sN ?_) | refine kV ?_ | (apply L_val rfl rfl rfl; (· first | (apply gBin; first | fail | exact v_ort rfl rfl om) | fail )) | ((fail_if_success (refine L_known rfl ?_)); refine yW (fun h => ?_) fun h => ?_))
    refine L_nil (hS _ _ ?_)
    clear hS
    refine A_one (i := 3) (by kernel_rfl) cvt_ rfl (O_of_L fun S hS => ?_)
    first | (apply gCall; apply L_call rfl rfl rfl rfl rfl; (· first | exact specIsRefB_c hr | exact specForwardedB_c hf om om | exact l2Look_c at_ hw om om); rintro _ _ ⟨rfl, rfl⟩) | (apply gL; first | refine L_nil ?_ | refine yS ?_ | refine yX fun _ => ?_ | refine yA fun _ => ?_ | (apply gSt; first | refine sR ?_ | refine sB ?_ | refine s1 ?_ | refine sW ?_ | refine sN ?_) | refine kV ?_ | (apply L_val rfl rfl rfl; (· first | (apply gBin; first | fail | exact v_ort rfl rfl om) | fail )) | ((fail_if_success (refine L_known rfl ?_)); refine yW (fun h => ?_) fun h => ?_))
    refine L_nil (hS _ _ ?_)
    clear hS
    refine A_nil (by kernel_rfl) cvt_ ?_
    repeat' (first | ((first | (apply gCall; apply L_call rfl rfl rfl rfl rfl) | (apply gQC; apply Q_call rfl rfl rfl rfl rfl)); (· first | exact specIsRefB_c hr | exact specForwardedB_c hf om om | exact l2Look_c at_ hw om om); try rintro _ _ ⟨rfl, rfl⟩) | (apply gL; first | refine L_nil ?_ | refine yS ?_ | refine yX fun _ => ?_ | refine yA fun _ => ?_ | (apply gSt; first | refine sR ?_ | refine sB ?_ | refine s1 ?_ | refine sW ?_ | refine sN ?_) | refine kV ?_ | (apply L_val rfl rfl rfl; (· first | (apply gBin; first | fail | exact v_ort rfl rfl om) | fail )) | ((fail_if_success (refine L_known rfl ?_)); refine yW (fun h => ?_) fun h => ?_)) | (apply gW; first | refine W_seq ?_ | refine W_region ?_ | refine W_ret ?_ | refine W_skip ?_ | refine W_block ?_ | refine W_exit ?_ | refine W_cond1 rfl ?_ | refine W_cond0 rfl ?_ | refine cW (fun h => ?_) fun h => ?_ | refine wQ ?_) | (first | refine seqR.normal ?_ | refine seqR.ret ?_ | refine seqR.exit ?_ | refine blockR.normal ?_ | refine blockR.ret ?_ | refine blockR.here ?_ | refine blockR.exit rfl ?_ | refine loopR.ret ?_ | refine loopR.exit ?_) | (apply gQ; first | refine Q_nil ?_ | refine Q_skip rfl rfl rfl ?_ | refine kQ ?_ | (apply Q_val rfl rfl rfl; (· first | (apply gBin; first | fail | exact v_ort rfl rfl om) | fail )) | ((fail_if_success (refine Q_known rfl ?_)); refine zW (fun h => ?_) fun h => ?_)) | fail)
    exact retR.ret _ _ (retCC rfl rfl at_ (by rfl) rfl at_ (by rfl)) cvt_ ⟨rfl, rfl⟩
theorem l3ForwardT {t n : Int} {H1 : HL} (hT : Tk H C.bw (wObj C A) H1) (hP : FP A t n) :
    Fn Tryz.prog w0 137 #[arV C A, .agg #[.int .i64 t, .int .i64 n]] H fun v H' => v = .tuple #[arV C (A.fwd t n).1, .agg #[.int .i64 t, .int .i64 (A.fwd t n).2]] ∧ H' = (C.bw, wObj C (A.fwd t n).1) :: H1 :=
  Fn.conv (Cv.take hT Cv.refl) (l3Forward_c hP)
set_option maxHeartbeats 2000000 in
theorem l4Put_c {a t n : Int} (h0 : 0 ≤ a) (h1 : a + 1 < (A.ws.length : Int)) (hm : A.ws.length ≤ 8000) :
    Fn Tryz.prog w0 112 #[arV C A, .int .i64 a, .agg #[.int .i64 t, .int .i64 n]] ((C.bw, wObj C A) :: H) fun v H' => v = arV C (A.putV a t n) ∧ H' = (C.bw, wObj C (A.putV a t n)) :: H := by
  refine enter3 Tryz.func112 rfl rfl Tryz.ntmps112 rfl ?_
  have hsl : (A.ws.set a.toNat (IntKind.u64.wrap t)).length = A.ws.length := List.length_set
  repeat' (first | ((first | (apply gCall; apply L_call rfl rfl rfl rfl rfl) | (apply gQC; apply Q_call rfl rfl rfl rfl rfl)); (· first | exact specIsRefB_c hr | exact specForwardedB_c hf om om | exact l2Look_c at_ hw om om); try rintro _ _ ⟨rfl, rfl⟩) | (apply gL; first | refine L_nil ?_ | refine yS ?_ | refine yX fun _ => ?_ | refine yA fun _ => ?_ | (apply gSt; first | refine sR ?_ | refine sB ?_ | refine s1 ?_ | refine sW ?_ | refine sN ?_) | refine kV ?_ | (apply L_val rfl rfl rfl; (· first | (apply gBin; first | fail | exact v_ort rfl rfl om) | fail )) | ((fail_if_success (refine L_known rfl ?_)); refine yW (fun h => ?_) fun h => ?_)) | (apply gW; first | refine W_seq ?_ | refine W_region ?_ | refine W_ret ?_ | refine W_skip ?_ | refine W_block ?_ | refine W_exit ?_ | refine W_cond1 rfl ?_ | refine W_cond0 rfl ?_ | refine cW (fun h => ?_) fun h => ?_ | refine wQ ?_) | (first | refine seqR.normal ?_ | refine seqR.ret ?_ | refine seqR.exit ?_ | refine blockR.normal ?_ | refine blockR.ret ?_ | refine blockR.here ?_ | refine blockR.exit rfl ?_ | refine loopR.ret ?_ | refine loopR.exit ?_) | (apply gQ; first | refine Q_nil ?_ | refine Q_skip rfl rfl rfl ?_ | refine kQ ?_ | (apply Q_val rfl rfl rfl; (· first | (apply gBin; first | fail | exact v_ort rfl rfl om) | fail )) | ((fail_if_success (refine Q_known rfl ?_)); refine zW (fun h => ?_) fun h => ?_)) | fail)
  simp only [wrap_w64]
  have ew : (A.putV a t n).ws.length = A.ws.length := by show (List.set _ _ _).length = _; rw [List.length_set, List.length_set]
  refine retR.ret _ _ (retC rfl rfl at_ (by rfl)) cvt_ ⟨?_, rfl⟩
  show _ = Value.agg #[.slice _ (A.putV a t n).ws.length _, _, _, _, _, _, _, _, _, _]
  rw [ew]; rfl
theorem l4PutT {a t n : Int} {H1 : HL} (hT : Tk H C.bw (wObj C A) H1) (h0 : 0 ≤ a) (h1 : a + 1 < (A.ws.length : Int)) (hm : A.ws.length ≤ 8000) :
    Fn Tryz.prog w0 112 #[arV C A, .int .i64 a, .agg #[.int .i64 t, .int .i64 n]] H fun v H' => v = arV C (A.putV a t n) ∧ H' = (C.bw, wObj C (A.putV a t n)) :: H1 :=
  Fn.conv (Cv.take hT Cv.refl) (l4Put_c h0 h1 hm)
end Go.Proofs.YtepddopgmhdllaaGreat.Eng
namespace Go.Proofs.YtepddopgmhdllaaGreat.Eng
open Go Go.RowKit Go.Proofs.YtepddopgmhdllaaGreat.Sl Go.Proofs.YtepddopgmhdllaaGreat.Ar Go.Proofs.YtepddopgmhdllaaGreat.Base
set_option linter.unusedVariables false
set_option linter.unusedSimpArgs false
set_option maxRecDepth 10000
variable {w0 : World} {H : HL} {C : Cn} {A : Ar}
set_option maxHeartbeats 8000000 in
theorem l3Flip_c {m : List Int} (h : SI A m) (hc : A.cyc = false) (hx : A.vs.length ≤ 1048576) :
    Fn Tryz.prog w0 106 #[arV C A] ((C.br, rObj C A) :: (C.bw, wObj C A) :: H) fun v H' => v = arV C A.flip ∧ H' = (C.br, rObj C A.flip) :: (C.bw, wObj C A.flip) :: H := by
  have hto := h.to
  have hse := h.se
  refine enter1 Tryz.func106 rfl rfl Tryz.ntmps106 rfl ?_
  repeat' (first | (apply gSt; apply L_stc rfl rfl rfl rfl rfl rfl; (· exact at_); (· simp only [List.set_cons_zero, List.set_cons_succ]; rfl); (· exact up_); (· rfl)) | first | (apply gCall; apply L_call rfl rfl rfl rfl rfl; (· first | exact l3ForwardT tk_ hFP | exact l1Read_c at_ hBw om om om | exact l2Look_c at_ hBw om om); rintro _ _ ⟨rfl, rfl⟩) | (apply gL; first | refine L_nil ?_ | refine yX fun _ => ?_ | refine yA fun _ => ?_ | (apply gSt; first | refine sR ?_ | refine sB ?_ | refine s1 ?_ | refine sW ?_ | refine sN ?_) | refine kV ?_) | (apply gW; first | refine W_seq ?_ | refine W_region ?_ | refine W_ret ?_ | refine W_skip ?_ | refine W_block ?_ | refine W_exit ?_ | refine W_cond1 rfl ?_ | refine W_cond0 rfl ?_ | refine cW (fun h => ?_) fun h => ?_) | (first | refine seqR.normal ?_ | refine seqR.ret ?_ | refine seqR.exit ?_ | refine blockR.normal ?_ | refine blockR.ret ?_ | refine blockR.here ?_ | refine blockR.exit rfl ?_ | refine loopR.ret ?_ | refine loopR.exit ?_ | refine midA.ret ?_ | refine midA.exit ?_) | fail)
  apply L_call rfl rfl rfl rfl rfl
  · exact l2Start_c (C := C) (A := { A with old := A.top, to := 1 - A.to }) (by omega) hse
  rintro _ _ ⟨rfl, rfl⟩
  repeat' (first | (apply gSt; apply L_stc rfl rfl rfl rfl rfl rfl; (· exact at_); (· simp only [List.set_cons_zero, List.set_cons_succ]; rfl); (· exact up_); (· rfl)) | first | (apply gCall; apply L_call rfl rfl rfl rfl rfl; (· first | exact l3ForwardT tk_ hFP | exact l1Read_c at_ hBw om om om | exact l2Look_c at_ hBw om om); rintro _ _ ⟨rfl, rfl⟩) | (apply gL; first | refine L_nil ?_ | refine yX fun _ => ?_ | refine yA fun _ => ?_ | (apply gSt; first | refine sR ?_ | refine sB ?_ | refine s1 ?_ | refine sW ?_ | refine sN ?_) | refine kV ?_) | (apply gW; first | refine W_seq ?_ | refine W_region ?_ | refine W_ret ?_ | refine W_skip ?_ | refine W_block ?_ | refine W_exit ?_ | refine W_cond1 rfl ?_ | refine W_cond0 rfl ?_ | refine cW (fun h => ?_) fun h => ?_) | (first | refine seqR.normal ?_ | refine seqR.ret ?_ | refine seqR.exit ?_ | refine blockR.normal ?_ | refine blockR.ret ?_ | refine blockR.here ?_ | refine blockR.exit rfl ?_ | refine loopR.ret ?_ | refine loopR.exit ?_ | refine midA.ret ?_ | refine midA.exit ?_) | fail)
  rename_i b1 b2
  apply W_loopX (α := Int × Ar × List Int) (fun y => [(1, .pointer (some ⟨b1, 0, none⟩)), (2, .pointer (some ⟨b2, 0, none⟩)), (3, .int .i64 y.1)])
    (fun y => (C.br, rObj C y.2.1) :: (C.bw, wObj C y.2.1) :: (b2, .cells #[.slice none 0 0, .int .i64 0, .int .i64 0, .int .i64 0, .bool false, .int .i64 0, .int .i64 0, .int .i64 0, .int .i64 0, .slice none 0 0] 29 (0, 0)) :: (b1, aObj C y.2.1) :: H)
    (fun y => (0 ≤ y.1 ∧ y.1 ≤ A.vs.length) ∧ RL A.fl0 y.2.1 y.2.2 y.1 ∧ ∃ f, Ar.flR f y.1 y.2.1 = Ar.flR (A.vs.length + 1) 0 A.fl0 ∧ (A.vs.length : Int) - y.1 < (f : Int)) (fun y => (A.vs.length - y.1).toNat) (0, A.fl0, flM m)
  · exact sub_
  · exact cvt_
  · exact ⟨⟨by dsimp only; omega, by dsimp only; omega⟩, RL.zero h hc, _, rfl, by dsimp only; omega⟩
  rintro ⟨i, B, m1⟩ ⟨⟨hi, hi2⟩, hR, f, hf, hf2⟩
  dsimp only at hi hi2 hR hf hf2 ⊢
  have hvl : B.vs.length = A.vs.length := hR.vl
  by_cases hlt : i < (A.vs.length : Int)
  · repeat' (first | exact absurd hlt (by omega) | ((fail_if_success apply gAtR 10); (first | (apply gCall; apply L_call rfl rfl rfl rfl rfl; (· first | exact l3ForwardT tk_ hFP | exact l1Read_c at_ hBw om om om | exact l2Look_c at_ hBw om om); rintro _ _ ⟨rfl, rfl⟩) | (apply gL; first | refine L_nil ?_ | refine yX fun _ => ?_ | refine yA fun _ => ?_ | (apply gSt; first | refine sR ?_ | refine sB ?_ | refine s1 ?_ | refine sW ?_ | refine sN ?_) | refine kV ?_) | (apply gW; first | refine W_seq ?_ | refine W_region ?_ | refine W_ret ?_ | refine W_skip ?_ | refine W_block ?_ | refine W_exit ?_ | refine W_cond1 rfl ?_ | refine W_cond0 rfl ?_ | refine cW (fun h => ?_) fun h => ?_) | (first | refine seqR.normal ?_ | refine seqR.ret ?_ | refine seqR.exit ?_ | refine blockR.normal ?_ | refine blockR.ret ?_ | refine blockR.here ?_ | refine blockR.exit rfl ?_ | refine loopR.ret ?_ | refine loopR.exit ?_ | refine midA.ret ?_ | refine midA.exit ?_) | fail)))
    obtain ⟨f', rfl, e⟩ := flR_step (B := B) (by omega) hf2 (by omega)
    rw [e] at hf
    obtain ⟨m2, hR2⟩ := hR.step hi hlt
    have hFP : FP B (rT B i) (rN B i) := hR.gi.fp (fun hr => by have := hR.gi.rts i hi (by omega) hr; exact ⟨this.1, this.2.1⟩)
    have hfs := fwd_same (A := B) (rT B i) (rN B i)
    refine W_midA (α := Nat × Nat) (fun y => [(1, .pointer (some ⟨b1, 0, none⟩)), (2, .pointer (some ⟨b2, 0, none⟩)), (3, .int .i64 i), (4, .pointer (some ⟨y.1, 0, none⟩)), (5, .pointer (some ⟨y.2, 0, none⟩))])
      (fun y => (y.1, aObj C (B.fwd (rT B i) (rN B i)).1) :: (y.2, .cells #[.int .i64 (rT B i), .int .i64 (B.fwd (rT B i) (rN B i)).2] 47 (0, 0)) :: (C.br, rObj C B) :: (C.bw, wObj C (B.fwd (rT B i) (rN B i)).1) :: (b2, .cells #[.slice none 0 0, .int .i64 0, .int .i64 0, .int .i64 0, .bool false, .int .i64 0, .int .i64 0, .int .i64 0, .int .i64 0, .slice none 0 0] 29 (0, 0)) :: (b1, aObj C B) :: H) (fun _ => True) ?_ ?_
    · apply W_regionA (D := (C.br, rObj C B) :: (b1, aObj C B) :: H) (by kernel_rfl)
      refine kAt 0 ?_
      refine kAt 1 ?_
      refine kAt 2 ?_
      refine kAt 3 ?_
      refine kAt 4 ?_
      refine kAt 5 ?_
      refine A_three (i := 6) (j := 10) (k := 11) (by kernel_rfl) cvt_ rfl rfl rfl ?_ ?_ ?_
      · refine O_of_L fun S hS => ?_
        first | (apply gCall; apply L_call rfl rfl rfl rfl rfl; (· first | exact l3ForwardT tk_ hFP | exact l1Read_c at_ hBw om om om | exact l2Look_c at_ hBw om om); rintro _ _ ⟨rfl, rfl⟩) | (apply gL; first | refine L_nil ?_ | refine yX fun _ => ?_ | refine yA fun _ => ?_ | (apply gSt; first | refine sR ?_ | refine sB ?_ | refine s1 ?_ | refine sW ?_ | refine sN ?_) | refine kV ?_)
        refine L_nil (hS _ _ ?_)
        clear hS
        refine kAt 7 ?_
        refine kAt 8 ?_
        refine kAt 9 ?_
        refine A_two (i := 10) (j := 11) (by kernel_rfl) cvt_ rfl rfl ?_ ?_
        · refine O_of_L fun S hS => ?_
          first | (apply gCall; apply L_call rfl rfl rfl rfl rfl; (· first | exact l3ForwardT tk_ hFP | exact l1Read_c at_ hBw om om om | exact l2Look_c at_ hBw om om); rintro _ _ ⟨rfl, rfl⟩) | (apply gL; first | refine L_nil ?_ | refine yX fun _ => ?_ | refine yA fun _ => ?_ | (apply gSt; first | refine sR ?_ | refine sB ?_ | refine s1 ?_ | refine sW ?_ | refine sN ?_) | refine kV ?_)
          refine L_nil (hS _ _ ?_)
          clear hS
          refine A_one (i := 11) (by kernel_rfl) cvt_ rfl ?_
          refine O_of_L fun S hS => ?_
          first | (apply gCall; apply L_call rfl rfl rfl rfl rfl; (· first | exact l3ForwardT tk_ hFP | exact l1Read_c at_ hBw om om om | exact l2Look_c at_ hBw om om); rintro _ _ ⟨rfl, rfl⟩) | (apply gL; first | refine L_nil ?_ | refine yX fun _ => ?_ | refine yA fun _ => ?_ | (apply gSt; first | refine sR ?_ | refine sB ?_ | refine s1 ?_ | refine sW ?_ | refine sN ?_) | refine kV ?_)
          refine L_nil (hS _ _ ?_)
          clear hS
          refine A_one (i := 12) (by kernel_rfl) cvt_ rfl (O_of_L fun S hS => ?_)
          first | (apply gCall; apply L_call rfl rfl rfl rfl rfl; (· first | exact l3ForwardT tk_ hFP | exact l1Read_c at_ hBw om om om | exact l2Look_c at_ hBw om om); rintro _ _ ⟨rfl, rfl⟩) | (apply gL; first | refine L_nil ?_ | refine yX fun _ => ?_ | refine yA fun _ => ?_ | (apply gSt; first | refine sR ?_ | refine sB ?_ | refine s1 ?_ | refine sW ?_ | refine sN ?_) | refine kV ?_)
          refine L_nil (hS _ _ ?_)
          clear hS
          refine A_one (i := 13) (by kernel_rfl) cvt_ rfl (O_of_L fun S hS => ?_)
          first | (apply gCall; apply L_call rfl rfl rfl rfl rfl; (· first | exact l3ForwardT tk_ hFP | exact l1Read_c at_ hBw om om om | exact l2Look_c at_ hBw om om); rintro _ _ ⟨rfl, rfl⟩) | (apply gL; first | refine L_nil ?_ | refine yX fun _ => ?_ | refine yA fun _ => ?_ | (apply gSt; first | refine sR ?_ | refine sB ?_ | refine s1 ?_ | refine sW ?_ | refine sN ?_) | refine kV ?_)
          refine L_nil (hS _ _ ?_)
          clear hS
          refine A_nil (by kernel_rfl) cvt_ ?_
          apply midA.mk (_, _)
          · exact sub_
          · exact cvt_
          · trivial
        · refine O_of_L fun S hS => ?_
          first | (apply gCall; apply L_call rfl rfl rfl rfl rfl; (· first | exact l3ForwardT tk_ hFP | exact l1Read_c at_ hBw om om om | exact l2Look_c at_ hBw om om); rintro _ _ ⟨rfl, rfl⟩) | (apply gL; first | refine L_nil ?_ | refine yX fun _ => ?_ | refine yA fun _ => ?_ | (apply gSt; first | refine sR ?_ | refine sB ?_ | refine s1 ?_ | refine sW ?_ | refine sN ?_) | refine kV ?_)
          refine L_nil (hS _ _ ?_)
          clear hS
          refine A_one (i := 10) (by kernel_rfl) cvt_ rfl ?_
          refine O_of_L fun S hS => ?_
          first | (apply gCall; apply L_call rfl rfl rfl rfl rfl; (· first | exact l3ForwardT tk_ hFP | exact l1Read_c at_ hBw om om om | exact l2Look_c at_ hBw om om); rintro _ _ ⟨rfl, rfl⟩) | (apply gL; first | refine L_nil ?_ | refine yX fun _ => ?_ | refine yA fun _ => ?_ | (apply gSt; first | refine sR ?_ | refine sB ?_ | refine s1 ?_ | refine sW ?_ | refine sN ?_) | refine kV ?_)
          refine L_nil (hS _ _ ?_)
          clear hS
          refine A_one (i := 12) (by kernel_rfl) cvt_ rfl (O_of_L fun S hS => ?_)
          first | (apply gCall; apply L_call rfl rfl rfl rfl rfl; (· first | exact l3ForwardT tk_ hFP | exact l1Read_c at_ hBw om om om | exact l2Look_c at_ hBw om om); rintro _ _ ⟨rfl, rfl⟩) | (apply gL; first | refine L_nil ?_ | refine yX fun _ => ?_ | refine yA fun _ => ?_ | (apply gSt; first | refine sR ?_ | refine sB ?_ | refine s1 ?_ | refine sW ?_ | refine sN ?_) | refine kV ?_)
          refine L_nil (hS _ _ ?_)
          clear hS
          refine A_one (i := 13) (by kernel_rfl) cvt_ rfl (O_of_L fun S hS => ?_)
          first | (apply gCall; apply L_call rfl rfl rfl rfl rfl; (· first | exact l3ForwardT tk_ hFP | exact l1Read_c at_ hBw om om om | exact l2Look_c at_ hBw om om); rintro _ _ ⟨rfl, rfl⟩) | (apply gL; first | refine L_nil ?_ | refine yX fun _ => ?_ | refine yA fun _ => ?_ | (apply gSt; first | refine sR ?_ | refine sB ?_ | refine s1 ?_ | refine sW ?_ | refine sN ?_) | refine kV ?_)
          refine L_nil (hS _ _ ?_)
          clear hS
          refine A_nil (by kernel_rfl) cvt_ ?_
          apply midA.mk (_, _)
          · exact sub_
          · exact cvt_
          · trivial
      · refine O_of_L fun S hS => ?_
        first | (apply gCall; apply L_call rfl rfl rfl rfl rfl; (· first | exact l3ForwardT tk_ hFP | exact l1Read_c at_ hBw om om om | exact l2Look_c at_ hBw om om); rintro _ _ ⟨rfl, rfl⟩) | (apply gL; first | refine L_nil ?_ | refine yX fun _ => ?_ | refine yA fun _ => ?_ | (apply gSt; first | refine sR ?_ | refine sB ?_ | refine s1 ?_ | refine sW ?_ | refine sN ?_) | refine kV ?_)
        refine L_nil (hS _ _ ?_)
        clear hS
        refine A_two (i := 6) (j := 11) (by kernel_rfl) cvt_ rfl rfl ?_ ?_
        · refine O_of_L fun S hS => ?_
          first | (apply gCall; apply L_call rfl rfl rfl rfl rfl; (· first | exact l3ForwardT tk_ hFP | exact l1Read_c at_ hBw om om om | exact l2Look_c at_ hBw om om); rintro _ _ ⟨rfl, rfl⟩) | (apply gL; first | refine L_nil ?_ | refine yX fun _ => ?_ | refine yA fun _ => ?_ | (apply gSt; first | refine sR ?_ | refine sB ?_ | refine s1 ?_ | refine sW ?_ | refine sN ?_) | refine kV ?_)
          refine L_nil (hS _ _ ?_)
          clear hS
          refine kAt 7 ?_
          refine kAt 8 ?_
          refine kAt 9 ?_
          refine A_one (i := 11) (by kernel_rfl) cvt_ rfl ?_
          refine O_of_L fun S hS => ?_
          first | (apply gCall; apply L_call rfl rfl rfl rfl rfl; (· first | exact l3ForwardT tk_ hFP | exact l1Read_c at_ hBw om om om | exact l2Look_c at_ hBw om om); rintro _ _ ⟨rfl, rfl⟩) | (apply gL; first | refine L_nil ?_ | refine yX fun _ => ?_ | refine yA fun _ => ?_ | (apply gSt; first | refine sR ?_ | refine sB ?_ | refine s1 ?_ | refine sW ?_ | refine sN ?_) | refine kV ?_)
          refine L_nil (hS _ _ ?_)
          clear hS
          refine A_one (i := 12) (by kernel_rfl) cvt_ rfl (O_of_L fun S hS => ?_)
          first | (apply gCall; apply L_call rfl rfl rfl rfl rfl; (· first | exact l3ForwardT tk_ hFP | exact l1Read_c at_ hBw om om om | exact l2Look_c at_ hBw om om); rintro _ _ ⟨rfl, rfl⟩) | (apply gL; first | refine L_nil ?_ | refine yX fun _ => ?_ | refine yA fun _ => ?_ | (apply gSt; first | refine sR ?_ | refine sB ?_ | refine s1 ?_ | refine sW ?_ | refine sN ?_) | refine kV ?_)
          refine L_nil (hS _ _ ?_)
          clear hS
          refine A_one (i := 13) (by kernel_rfl) cvt_ rfl (O_of_L fun S hS => ?_)
          first | (apply gCall; apply L_call rfl rfl rfl rfl rfl; (· first | exact l3ForwardT tk_ hFP | exact l1Read_c at_ hBw om om om | exact l2Look_c at_ hBw om om); rintro _ _ ⟨rfl, rfl⟩) | (apply gL; first | refine L_nil ?_ | refine yX fun _ => ?_ | refine yA fun _ => ?_ | (apply gSt; first | refine sR ?_ | refine sB ?_ | refine s1 ?_ | refine sW ?_ | refine sN ?_) | refine kV ?_)
          refine L_nil (hS _ _ ?_)
          clear hS
          refine A_nil (by kernel_rfl) cvt_ ?_
          apply midA.mk (_, _)
          · exact sub_
          · exact cvt_
          · trivial
        · refine O_of_L fun S hS => ?_
          first | (apply gCall; apply L_call rfl rfl rfl rfl rfl; (· first | exact l3ForwardT tk_ hFP | exact l1Read_c at_ hBw om om om | exact l2Look_c at_ hBw om om); rintro _ _ ⟨rfl, rfl⟩) | (apply gL; first | refine L_nil ?_ | refine yX fun _ => ?_ | refine yA fun _ => ?_ | (apply gSt; first | refine sR ?_ | refine sB ?_ | refine s1 ?_ | refine sW ?_ | refine sN ?_) | refine kV ?_)
          refine L_nil (hS _ _ ?_)
          clear hS
          refine A_one (i := 6) (by kernel_rfl) cvt_ rfl ?_
          refine O_of_L fun S hS => ?_
          first | (apply gCall; apply L_call rfl rfl rfl rfl rfl; (· first | exact l3ForwardT tk_ hFP | exact l1Read_c at_ hBw om om om | exact l2Look_c at_ hBw om om); rintro _ _ ⟨rfl, rfl⟩) | (apply gL; first | refine L_nil ?_ | refine yX fun _ => ?_ | refine yA fun _ => ?_ | (apply gSt; first | refine sR ?_ | refine sB ?_ | refine s1 ?_ | refine sW ?_ | refine sN ?_) | refine kV ?_)
          refine L_nil (hS _ _ ?_)
          clear hS
          refine kAt 7 ?_
          refine kAt 8 ?_
          refine kAt 9 ?_
          refine A_one (i := 12) (by kernel_rfl) cvt_ rfl (O_of_L fun S hS => ?_)
          first | (apply gCall; apply L_call rfl rfl rfl rfl rfl; (· first | exact l3ForwardT tk_ hFP | exact l1Read_c at_ hBw om om om | exact l2Look_c at_ hBw om om); rintro _ _ ⟨rfl, rfl⟩) | (apply gL; first | refine L_nil ?_ | refine yX fun _ => ?_ | refine yA fun _ => ?_ | (apply gSt; first | refine sR ?_ | refine sB ?_ | refine s1 ?_ | refine sW ?_ | refine sN ?_) | refine kV ?_)
          refine L_nil (hS _ _ ?_)
          clear hS
          refine A_one (i := 13) (by kernel_rfl) cvt_ rfl (O_of_L fun S hS => ?_)
          first | (apply gCall; apply L_call rfl rfl rfl rfl rfl; (· first | exact l3ForwardT tk_ hFP | exact l1Read_c at_ hBw om om om | exact l2Look_c at_ hBw om om); rintro _ _ ⟨rfl, rfl⟩) | (apply gL; first | refine L_nil ?_ | refine yX fun _ => ?_ | refine yA fun _ => ?_ | (apply gSt; first | refine sR ?_ | refine sB ?_ | refine s1 ?_ | refine sW ?_ | refine sN ?_) | refine kV ?_)
          refine L_nil (hS _ _ ?_)
          clear hS
          refine A_nil (by kernel_rfl) cvt_ ?_
          apply midA.mk (_, _)
          · exact sub_
          · exact cvt_
          · trivial
      · refine O_of_L fun S hS => ?_
        first | (apply gCall; apply L_call rfl rfl rfl rfl rfl; (· first | exact l3ForwardT tk_ hFP | exact l1Read_c at_ hBw om om om | exact l2Look_c at_ hBw om om); rintro _ _ ⟨rfl, rfl⟩) | (apply gL; first | refine L_nil ?_ | refine yX fun _ => ?_ | refine yA fun _ => ?_ | (apply gSt; first | refine sR ?_ | refine sB ?_ | refine s1 ?_ | refine sW ?_ | refine sN ?_) | refine kV ?_)
        refine L_nil (hS _ _ ?_)
        clear hS
        refine A_two (i := 6) (j := 10) (by kernel_rfl) cvt_ rfl rfl ?_ ?_
        · refine O_of_L fun S hS => ?_
          first | (apply gCall; apply L_call rfl rfl rfl rfl rfl; (· first | exact l3ForwardT tk_ hFP | exact l1Read_c at_ hBw om om om | exact l2Look_c at_ hBw om om); rintro _ _ ⟨rfl, rfl⟩) | (apply gL; first | refine L_nil ?_ | refine yX fun _ => ?_ | refine yA fun _ => ?_ | (apply gSt; first | refine sR ?_ | refine sB ?_ | refine s1 ?_ | refine sW ?_ | refine sN ?_) | refine kV ?_)
          refine L_nil (hS _ _ ?_)
          clear hS
          refine kAt 7 ?_
          refine kAt 8 ?_
          refine kAt 9 ?_
          refine A_one (i := 10) (by kernel_rfl) cvt_ rfl ?_
          refine O_of_L fun S hS => ?_
          first | (apply gCall; apply L_call rfl rfl rfl rfl rfl; (· first | exact l3ForwardT tk_ hFP | exact l1Read_c at_ hBw om om om | exact l2Look_c at_ hBw om om); rintro _ _ ⟨rfl, rfl⟩) | (apply gL; first | refine L_nil ?_ | refine yX fun _ => ?_ | refine yA fun _ => ?_ | (apply gSt; first | refine sR ?_ | refine sB ?_ | refine s1 ?_ | refine sW ?_ | refine sN ?_) | refine kV ?_)
          refine L_nil (hS _ _ ?_)
          clear hS
          refine A_one (i := 12) (by kernel_rfl) cvt_ rfl (O_of_L fun S hS => ?_)
          first | (apply gCall; apply L_call rfl rfl rfl rfl rfl; (· first | exact l3ForwardT tk_ hFP | exact l1Read_c at_ hBw om om om | exact l2Look_c at_ hBw om om); rintro _ _ ⟨rfl, rfl⟩) | (apply gL; first | refine L_nil ?_ | refine yX fun _ => ?_ | refine yA fun _ => ?_ | (apply gSt; first | refine sR ?_ | refine sB ?_ | refine s1 ?_ | refine sW ?_ | refine sN ?_) | refine kV ?_)
          refine L_nil (hS _ _ ?_)
          clear hS
          refine A_one (i := 13) (by kernel_rfl) cvt_ rfl (O_of_L fun S hS => ?_)
          first | (apply gCall; apply L_call rfl rfl rfl rfl rfl; (· first | exact l3ForwardT tk_ hFP | exact l1Read_c at_ hBw om om om | exact l2Look_c at_ hBw om om); rintro _ _ ⟨rfl, rfl⟩) | (apply gL; first | refine L_nil ?_ | refine yX fun _ => ?_ | refine yA fun _ => ?_ | (apply gSt; first | refine sR ?_ | refine sB ?_ | refine s1 ?_ | refine sW ?_ | refine sN ?_) | refine kV ?_)
          refine L_nil (hS _ _ ?_)
          clear hS
          refine A_nil (by kernel_rfl) cvt_ ?_
          apply midA.mk (_, _)
          · exact sub_
          · exact cvt_
          · trivial
        · refine O_of_L fun S hS => ?_
          first | (apply gCall; apply L_call rfl rfl rfl rfl rfl; (· first | exact l3ForwardT tk_ hFP | exact l1Read_c at_ hBw om om om | exact l2Look_c at_ hBw om om); rintro _ _ ⟨rfl, rfl⟩) | (apply gL; first | refine L_nil ?_ | refine yX fun _ => ?_ | refine yA fun _ => ?_ | (apply gSt; first | refine sR ?_ | refine sB ?_ | refine s1 ?_ | refine sW ?_ | refine sN ?_) | refine kV ?_)
          refine L_nil (hS _ _ ?_)
          clear hS
          refine A_one (i := 6) (by kernel_rfl) cvt_ rfl ?_
          refine O_of_L fun S hS => ?_
          first | (apply gCall; apply L_call rfl rfl rfl rfl rfl; (· first | exact l3ForwardT tk_ hFP | exact l1Read_c at_ hBw om om om | exact l2Look_c at_ hBw om om); rintro _ _ ⟨rfl, rfl⟩) | (apply gL; first | refine L_nil ?_ | refine yX fun _ => ?_ | refine yA fun _ => ?_ | (apply gSt; first | refine sR ?_ | refine sB ?_ | refine s1 ?_ | refine sW ?_ | refine sN ?_) | refine kV ?_)
          refine L_nil (hS _ _ ?_)
          clear hS
          refine kAt 7 ?_
          refine kAt 8 ?_
          refine kAt 9 ?_
          refine A_one (i := 12) (by kernel_rfl) cvt_ rfl (O_of_L fun S hS => ?_)
          first | (apply gCall; apply L_call rfl rfl rfl rfl rfl; (· first | exact l3ForwardT tk_ hFP | exact l1Read_c at_ hBw om om om | exact l2Look_c at_ hBw om om); rintro _ _ ⟨rfl, rfl⟩) | (apply gL; first | refine L_nil ?_ | refine yX fun _ => ?_ | refine yA fun _ => ?_ | (apply gSt; first | refine sR ?_ | refine sB ?_ | refine s1 ?_ | refine sW ?_ | refine sN ?_) | refine kV ?_)
          refine L_nil (hS _ _ ?_)
          clear hS
          refine A_one (i := 13) (by kernel_rfl) cvt_ rfl (O_of_L fun S hS => ?_)
          first | (apply gCall; apply L_call rfl rfl rfl rfl rfl; (· first | exact l3ForwardT tk_ hFP | exact l1Read_c at_ hBw om om om | exact l2Look_c at_ hBw om om); rintro _ _ ⟨rfl, rfl⟩) | (apply gL; first | refine L_nil ?_ | refine yX fun _ => ?_ | refine yA fun _ => ?_ | (apply gSt; first | refine sR ?_ | refine sB ?_ | refine s1 ?_ | refine sW ?_ | refine sN ?_) | refine kV ?_)
          refine L_nil (hS _ _ ?_)
          clear hS
          refine A_nil (by kernel_rfl) cvt_ ?_
          apply midA.mk (_, _)
          · exact sub_
          · exact cvt_
          · trivial
    rintro ⟨b4, b5⟩ _
    dsimp only
    have hvF := congrArg List.length hfs.2.2.2.2.2.2
    repeat' (first | (apply gSt; apply L_stV rfl rfl rfl rfl rfl; (· exact up_); (· omega); (· omega)) | first | (apply gCall; apply L_call rfl rfl rfl rfl rfl; (· first | exact l3ForwardT tk_ hFP | exact l1Read_c at_ hBw om om om | exact l2Look_c at_ hBw om om); rintro _ _ ⟨rfl, rfl⟩) | (apply gL; first | refine L_nil ?_ | refine yX fun _ => ?_ | refine yA fun _ => ?_ | (apply gSt; first | refine sR ?_ | refine sB ?_ | refine s1 ?_ | refine sW ?_ | refine sN ?_) | refine kV ?_) | (apply gW; first | refine W_seq ?_ | refine W_region ?_ | refine W_ret ?_ | refine W_skip ?_ | refine W_block ?_ | refine W_exit ?_ | refine W_cond1 rfl ?_ | refine W_cond0 rfl ?_ | refine cW (fun h => ?_) fun h => ?_) | (first | refine seqR.normal ?_ | refine seqR.ret ?_ | refine seqR.exit ?_ | refine blockR.normal ?_ | refine blockR.ret ?_ | refine blockR.here ?_ | refine blockR.exit rfl ?_ | refine loopR.ret ?_ | refine loopR.exit ?_ | refine midA.ret ?_ | refine midA.exit ?_) | fail)
    apply loopR.mk (i + 1, B.fwR i, m2)
    · exact sub_
    · dsimp only
      rw [aObj_fwR']
      exact cvt_
    · exact ⟨⟨by dsimp only; omega, by dsimp only; omega⟩, hR2, f', hf, by dsimp only; omega⟩
    · dsimp only; omega
  · have e : Ar.flR f i B = B := flR_end (by omega)
    rw [e] at hf
    have e2 : A.flip = B.over := by unfold Ar.flip; rw [hf]
    repeat' (first | exact absurd (show i < (A.vs.length : Int) by omega) hlt | first | (apply gCall; apply L_call rfl rfl rfl rfl rfl; (· first | exact l3ForwardT tk_ hFP | exact l1Read_c at_ hBw om om om | exact l2Look_c at_ hBw om om); rintro _ _ ⟨rfl, rfl⟩) | (apply gL; first | refine L_nil ?_ | refine yX fun _ => ?_ | refine yA fun _ => ?_ | (apply gSt; first | refine sR ?_ | refine sB ?_ | refine s1 ?_ | refine sW ?_ | refine sN ?_) | refine kV ?_) | (apply gW; first | refine W_seq ?_ | refine W_region ?_ | refine W_ret ?_ | refine W_skip ?_ | refine W_block ?_ | refine W_exit ?_ | refine W_cond1 rfl ?_ | refine W_cond0 rfl ?_ | refine cW (fun h => ?_) fun h => ?_) | (first | refine seqR.normal ?_ | refine seqR.ret ?_ | refine seqR.exit ?_ | refine blockR.normal ?_ | refine blockR.ret ?_ | refine blockR.here ?_ | refine blockR.exit rfl ?_ | refine loopR.ret ?_ | refine loopR.exit ?_ | refine midA.ret ?_ | refine midA.exit ?_) | fail)
    apply L_call rfl rfl rfl rfl rfl
    · exact l3Over_c (C := C) (A := B)
    rintro _ _ ⟨rfl, rfl⟩
    repeat' (first | (apply gCall; apply L_call rfl rfl rfl rfl rfl; (· first | exact l3ForwardT tk_ hFP | exact l1Read_c at_ hBw om om om | exact l2Look_c at_ hBw om om); rintro _ _ ⟨rfl, rfl⟩) | (apply gL; first | refine L_nil ?_ | refine yX fun _ => ?_ | refine yA fun _ => ?_ | (apply gSt; first | refine sR ?_ | refine sB ?_ | refine s1 ?_ | refine sW ?_ | refine sN ?_) | refine kV ?_) | (apply gW; first | refine W_seq ?_ | refine W_region ?_ | refine W_ret ?_ | refine W_skip ?_ | refine W_block ?_ | refine W_exit ?_ | refine W_cond1 rfl ?_ | refine W_cond0 rfl ?_ | refine cW (fun h => ?_) fun h => ?_) | (first | refine seqR.normal ?_ | refine seqR.ret ?_ | refine seqR.exit ?_ | refine blockR.normal ?_ | refine blockR.ret ?_ | refine blockR.here ?_ | refine blockR.exit rfl ?_ | refine loopR.ret ?_ | refine loopR.exit ?_ | refine midA.ret ?_ | refine midA.exit ?_) | fail)
    rw [e2, (aObj_over (C := C) (B := B) (rp := none) (rc := 0)).1, (aObj_over (C := C) (B := B) (rp := none) (rc := 0)).2]
    exact retR.ret _ _ (retC rfl rfl at_ (by rfl)) cvt_ ⟨rfl, rfl⟩
end Go.Proofs.YtepddopgmhdllaaGreat.Eng
namespace Go.Proofs.YtepddopgmhdllaaGreat.Eng
open Go Go.RowKit Go.Proofs.YtepddopgmhdllaaGreat.Sl Go.Proofs.YtepddopgmhdllaaGreat.Ar Go.Proofs.YtepddopgmhdllaaGreat.Base
set_option linter.unusedVariables false
set_option linter.unusedSimpArgs false
set_option maxRecDepth 10000
variable {w0 : World} {H : HL} {C : Cn} {A B : Ar} {m : List Int}
set_option maxHeartbeats 16000000 in
theorem l3Step_c {m : List Int} {n : Int} (h : SI A m) (hne : A.cyc = true → A.scan ≠ A.top) (hn : -1000000 ≤ n ∧ n ≤ 1000000) (hx : A.vs.length ≤ 1048576) :
    Fn Tryz.prog w0 107 #[arV C A, .int .i64 n] ((C.bw, wObj C A) :: H) fun v H' => v = .tuple #[arV C (Ar.stp 8001 A 0 n).1, .int .i64 (Ar.stp 8001 A 0 n).2] ∧ H' = (C.bw, wObj C (Ar.stp 8001 A 0 n).1) :: H := by
  have hSt : StI A A m 0 := by
    refine ⟨h, hne, rfl, rfl, by omega, fun c => ?_, rfl⟩
    have := SI.lt h c
    have := h.hv
    have := h.se
    omega
  refine enter2 Tryz.func107 rfl rfl Tryz.ntmps107 rfl ?_
  repeat' (first | (apply gCall; apply L_call rfl rfl rfl rfl rfl; (· first | exact l3ForwardT tk_ hFP | exact l1Read_c at_ hBw om om om | exact l2Look_c at_ hBw om om); rintro _ _ ⟨rfl, rfl⟩) | (apply gL; first | refine L_nil ?_ | refine yS ?_ | refine yX fun _ => ?_ | refine yA fun _ => ?_ | (apply gSt; first | refine sR ?_ | refine sB ?_ | refine s1 ?_ | refine sW ?_ | refine sN ?_) | refine kV ?_ | ((fail_if_success (refine L_known rfl ?_)); refine yW (fun h => ?_) fun h => ?_)) | (apply gW; first | refine W_seq ?_ | refine W_region ?_ | refine W_ret ?_ | refine W_skip ?_ | refine W_block ?_ | refine W_exit ?_ | refine W_cond1 rfl ?_ | refine W_cond0 rfl ?_ | refine cW (fun h => ?_) fun h => ?_) | (first | refine seqR.normal ?_ | refine seqR.ret ?_ | refine seqR.exit ?_ | refine blockR.normal ?_ | refine blockR.ret ?_ | refine blockR.here ?_ | refine blockR.exit rfl ?_ | refine loopR.ret ?_ | refine loopR.exit ?_ | refine midA.ret ?_ | refine midA.exit ?_) | fail)
  rename_i b2 b4
  apply W_loopX (α := Int × Ar × List Int) (fun y => [(1, .int .i64 n), (2, .pointer (some ⟨b2, 0, none⟩)), (4, .pointer (some ⟨b4, 0, none⟩)), (6, .int .i64 y.1)])
    (fun y => (C.bw, wObj C y.2.1) :: (b4, .cells #[.slice none 0 0, .int .i64 0, .int .i64 0, .int .i64 0, .bool false, .int .i64 0, .int .i64 0, .int .i64 0, .int .i64 0, .slice none 0 0] 29 (0, 0)) :: (b2, aObj C y.2.1) :: H)
    (fun y => StI A y.2.1 y.2.2 y.1 ∧ ∃ f, Ar.stp f y.2.1 y.1 n = Ar.stp 8001 A 0 n ∧ 8001 ≤ (f : Int) + y.1) (fun y => stpM y.2.1) (0, A, m)
  · exact sub_
  · exact cvt_
  · exact ⟨hSt, _, rfl, by dsimp only; omega⟩
  rintro ⟨d, B, m1⟩ ⟨hS, f, hf, hf2⟩
  dsimp only at hS hf hf2 ⊢
  have hd0 := hS.d0
  by_cases hcd : B.cyc = true ∧ d < n
  · obtain ⟨hc, hdn⟩ := hcd
    have hBw := hS.si.wf
    have hBl := hS.si.ln
    have hBs := hS.si.se
    have hs1 := SI.at_ hS.si hc (hS.ne hc)
    have hs0' := hS.si.s0
    have hlt := GI.lt hS.si hs0' (by omega)
    obtain ⟨o1, o2, o3, -⟩ := hS.si.one _ hs0' hs1
    have hrs := rsR' o2
    have htl := SI.lt hS.si hc
    have hv := hS.si.hv
    have hz : SizeP (rk (g B.ws B.scan)) (rs (g B.ws B.scan)) := by rw [hrs.2.2.1, hrs.2.2.2.1]; exact (of_decide_eq_true (show decide (HeadP _ _ _) = true from o2)).1
    have hdd := hS.dd hc
    obtain ⟨f', rfl, e⟩ := stp_step (f := f) hc hdn (by omega)
    rw [e] at hf
    obtain ⟨m2, hS2, hsc2, -⟩ := hS.step hc
    have hmeas := hS.meas hc
    repeat' (first | exact absurd h (by rw [hc]; decide) | exact absurd hdn h | exact absurd hdn (by omega) | first | (apply gCall; apply L_call rfl rfl rfl rfl rfl; (· first | exact l3ForwardT tk_ hFP | exact l1Read_c at_ hBw om om om | exact l2Look_c at_ hBw om om); rintro _ _ ⟨rfl, rfl⟩) | (apply gL; first | refine L_nil ?_ | refine yS ?_ | refine yX fun _ => ?_ | refine yA fun _ => ?_ | (apply gSt; first | refine sR ?_ | refine sB ?_ | refine s1 ?_ | refine sW ?_ | refine sN ?_) | refine kV ?_ | ((fail_if_success (refine L_known rfl ?_)); refine yW (fun h => ?_) fun h => ?_)) | (apply gW; first | refine W_seq ?_ | refine W_region ?_ | refine W_ret ?_ | refine W_skip ?_ | refine W_block ?_ | refine W_exit ?_ | refine W_cond1 rfl ?_ | refine W_cond0 rfl ?_ | refine cW (fun h => ?_) fun h => ?_) | (first | refine seqR.normal ?_ | refine seqR.ret ?_ | refine seqR.exit ?_ | refine blockR.normal ?_ | refine blockR.ret ?_ | refine blockR.here ?_ | refine blockR.exit rfl ?_ | refine loopR.ret ?_ | refine loopR.exit ?_ | refine midA.ret ?_ | refine midA.exit ?_) | fail)
    apply L_call rfl rfl rfl rfl rfl
    · exact Slots_c hz
    rintro _ _ ⟨b8, sp8, rfl, rfl⟩
    have hsl : B.sls = slots (rk (g B.ws B.scan)) (rs (g B.ws B.scan)) := rfl
    rw [← hsl]
    have hsl2 : B.sls.length ≤ 130 := by rw [hsl]; exact slotsLen
    repeat' ((fail_if_success apply gAt 5); (first | (apply gCall; apply L_call rfl rfl rfl rfl rfl; (· first | exact l3ForwardT tk_ hFP | exact l1Read_c at_ hBw om om om | exact l2Look_c at_ hBw om om); rintro _ _ ⟨rfl, rfl⟩) | (apply gL; first | refine L_nil ?_ | refine yS ?_ | refine yX fun _ => ?_ | refine yA fun _ => ?_ | (apply gSt; first | refine sR ?_ | refine sB ?_ | refine s1 ?_ | refine sW ?_ | refine sN ?_) | refine kV ?_ | ((fail_if_success (refine L_known rfl ?_)); refine yW (fun h => ?_) fun h => ?_)) | (apply gW; first | refine W_seq ?_ | refine W_region ?_ | refine W_ret ?_ | refine W_skip ?_ | refine W_block ?_ | refine W_exit ?_ | refine W_cond1 rfl ?_ | refine W_cond0 rfl ?_ | refine cW (fun h => ?_) fun h => ?_) | (first | refine seqR.normal ?_ | refine seqR.ret ?_ | refine seqR.exit ?_ | refine blockR.normal ?_ | refine blockR.ret ?_ | refine blockR.here ?_ | refine blockR.exit rfl ?_ | refine loopR.ret ?_ | refine loopR.exit ?_ | refine midA.ret ?_ | refine midA.exit ?_) | fail))
    rename_i b7
    refine W_midA (α := Ar × List Int) (fun y => [(1, .int .i64 n), (2, .pointer (some ⟨b2, 0, none⟩)), (4, .pointer (some ⟨b4, 0, none⟩)), (6, .int .i64 d), (7, .pointer (some ⟨b7, 0, none⟩))])
      (fun y => (C.bw, wObj C y.1) :: (b7, .cells #[.int .i64 (rk (g B.ws B.scan)), .int .i64 (rs (g B.ws B.scan)), .int .i64 (rn (g B.ws B.scan))] 105 (0, 0)) :: (b4, .cells #[.slice none 0 0, .int .i64 0, .int .i64 0, .int .i64 0, .bool false, .int .i64 0, .int .i64 0, .int .i64 0, .int .i64 0, .slice none 0 0] 29 (0, 0)) :: (b2, aObj C y.1) :: H)
      (fun y => y.1 = Ar.fwI B.scan B.sls (B.sls.length + 1) 0 B ∧ SL B y.1 y.2 B.sls.length) ?_ ?_
    · repeat' (first | (apply gCall; apply L_call rfl rfl rfl rfl rfl; (· first | exact l3ForwardT tk_ hFP | exact l1Read_c at_ hBw om om om | exact l2Look_c at_ hBw om om); rintro _ _ ⟨rfl, rfl⟩) | (apply gL; first | refine L_nil ?_ | refine yS ?_ | refine yX fun _ => ?_ | refine yA fun _ => ?_ | (apply gSt; first | refine sR ?_ | refine sB ?_ | refine s1 ?_ | refine sW ?_ | refine sN ?_) | refine kV ?_ | ((fail_if_success (refine L_known rfl ?_)); refine yW (fun h => ?_) fun h => ?_)) | (apply gW; first | refine W_seq ?_ | refine W_region ?_ | refine W_ret ?_ | refine W_skip ?_ | refine W_block ?_ | refine W_exit ?_ | refine W_cond1 rfl ?_ | refine W_cond0 rfl ?_ | refine cW (fun h => ?_) fun h => ?_) | (first | refine seqR.normal ?_ | refine seqR.ret ?_ | refine seqR.exit ?_ | refine blockR.normal ?_ | refine blockR.ret ?_ | refine blockR.here ?_ | refine blockR.exit rfl ?_ | refine loopR.ret ?_ | refine loopR.exit ?_ | refine midA.ret ?_ | refine midA.exit ?_) | fail)
      apply W_loopX (α := Int × Ar × List Int) (fun y => [(1, .int .i64 n), (2, .pointer (some ⟨b2, 0, none⟩)), (4, .pointer (some ⟨b4, 0, none⟩)), (6, .int .i64 d), (7, .pointer (some ⟨b7, 0, none⟩)), (8, .slice (some ⟨b8, 0, none⟩) B.sls.length (B.sls.length + List.length sp8)), (9, .int .i64 y.1)])
        (fun y => (C.bw, wObj C y.2.1) :: (b8, .cells (rowA .i64 B.sls sp8) 3 (0, 0)) :: (b7, .cells #[.int .i64 (rk (g B.ws B.scan)), .int .i64 (rs (g B.ws B.scan)), .int .i64 (rn (g B.ws B.scan))] 105 (0, 0)) :: (b4, .cells #[.slice none 0 0, .int .i64 0, .int .i64 0, .int .i64 0, .bool false, .int .i64 0, .int .i64 0, .int .i64 0, .int .i64 0, .slice none 0 0] 29 (0, 0)) :: (b2, aObj C y.2.1) :: H)
        (fun y => (0 ≤ y.1 ∧ y.1 ≤ B.sls.length) ∧ SL B y.2.1 y.2.2 y.1 ∧ ∃ f, Ar.fwI B.scan B.sls f y.1 y.2.1 = Ar.fwI B.scan B.sls (B.sls.length + 1) 0 B ∧ (B.sls.length : Int) - y.1 < (f : Int)) (fun y => (B.sls.length - y.1).toNat) (0, B, m1)
      · exact sub_
      · exact cvt_
      · exact ⟨⟨by dsimp only; omega, by dsimp only; omega⟩, SL.zero hS.si hc (hS.ne hc), _, rfl, by dsimp only; omega⟩
      rintro ⟨i, B1, m4⟩ ⟨⟨hi, hi2⟩, hL, f2, hg, hg2⟩
      dsimp only at hi hi2 hL hg hg2 ⊢
      by_cases hlt2 : i < (B.sls.length : Int)
      · have hBw1 := hBw
        have hBw := hL.gi.wf
        have hBl1 := hL.ln
        have hB1s := hL.sc
        obtain ⟨q1, q2, q3⟩ := hL.slot hi hlt2
        obtain ⟨f3, rfl, e2⟩ := fwI_step (p := B.scan) (B := B1) hlt2 hg2
        rw [e2] at hg
        obtain ⟨m5, hL2⟩ := hL.step hi hlt2
        have hFP : FP B1 (rvT B1.ws (B.scan + g B.sls i)) (rvN B1.ws (B.scan + g B.sls i)) := hL.gi.fp q3
        have hone := hL.gi.one _ hs0' hL.k1
        rw [hL.hw] at hone
        have hlt3 := GI.lt hL.gi hs0' (by rw [hL.k1]; omega)
        have hrm := hL.gi.rm
        have hv1 := hL.gi.hv
        have hse1 := hL.gi.se
        have hln1 := hL.gi.ln
        have hS0 := S2_0 B1.ws m4 B1.ws.length
        rw [← hB1s] at q1 q3 hFP
        have eS : B1.fwS (B.scan + g B.sls i) = B1.fwS (B1.scan + g B.sls i) := by rw [hB1s]
        have hfs := fwd_same (A := B1) (rvT B1.ws (B1.scan + g B.sls i)) (rvN B1.ws (B1.scan + g B.sls i))
        have hFs := hfs.2.2.2.1
        have hFl := fwd_len (A := B1) (rvT B1.ws (B1.scan + g B.sls i)) (rvN B1.ws (B1.scan + g B.sls i))
        repeat' (first | exact absurd hlt2 h | ((fail_if_success apply gAtR 8); (first | (apply gCall; apply L_call rfl rfl rfl rfl rfl; (· first | exact l3ForwardT tk_ hFP | exact l1Read_c at_ hBw om om om | exact l2Look_c at_ hBw om om); rintro _ _ ⟨rfl, rfl⟩) | (apply gL; first | refine L_nil ?_ | refine yS ?_ | refine yX fun _ => ?_ | refine yA fun _ => ?_ | (apply gSt; first | refine sR ?_ | refine sB ?_ | refine s1 ?_ | refine sW ?_ | refine sN ?_) | refine kV ?_ | ((fail_if_success (refine L_known rfl ?_)); refine yW (fun h => ?_) fun h => ?_)) | (apply gW; first | refine W_seq ?_ | refine W_region ?_ | refine W_ret ?_ | refine W_skip ?_ | refine W_block ?_ | refine W_exit ?_ | refine W_cond1 rfl ?_ | refine W_cond0 rfl ?_ | refine cW (fun h => ?_) fun h => ?_) | (first | refine seqR.normal ?_ | refine seqR.ret ?_ | refine seqR.exit ?_ | refine blockR.normal ?_ | refine blockR.ret ?_ | refine blockR.here ?_ | refine blockR.exit rfl ?_ | refine loopR.ret ?_ | refine loopR.exit ?_ | refine midA.ret ?_ | refine midA.exit ?_) | fail)))
        refine W_midA (α := Nat) (fun y => [(1, .int .i64 n), (2, .pointer (some ⟨b2, 0, none⟩)), (4, .pointer (some ⟨b4, 0, none⟩)), (6, .int .i64 d), (7, .pointer (some ⟨b7, 0, none⟩)), (8, .slice (some ⟨b8, 0, none⟩) B.sls.length (B.sls.length + List.length sp8)), (9, .int .i64 i), (10, .pointer (some ⟨y, 0, none⟩))])
          (fun y => (y, .cells #[.int .i64 (rvT B1.ws (B1.scan + g B.sls i)), .int .i64 (rvN B1.ws (B1.scan + g B.sls i))] 47 (0, 0)) :: (C.bw, wObj C B1) :: (b8, .cells (rowA .i64 B.sls sp8) 3 (0, 0)) :: (b7, .cells #[.int .i64 (rk (g B.ws B.scan)), .int .i64 (rs (g B.ws B.scan)), .int .i64 (rn (g B.ws B.scan))] 105 (0, 0)) :: (b4, .cells #[.slice none 0 0, .int .i64 0, .int .i64 0, .int .i64 0, .bool false, .int .i64 0, .int .i64 0, .int .i64 0, .int .i64 0, .slice none 0 0] 29 (0, 0)) :: (b2, aObj C B1) :: H) (fun _ => True) ?_ ?_
        · apply W_regionA (by kernel_rfl)
          refine kA 0 ?_
          refine kA 1 ?_
          refine kA 2 ?_
          refine kA 3 ?_
          refine kA 4 ?_
          refine kA 5 ?_
          refine kA 6 ?_
          refine kA 7 ?_
          refine kA 8 ?_
          refine A_two (i := 9) (j := 13) (by kernel_rfl) cvt_ rfl rfl ?_ ?_
          · refine O_of_L fun S hS => ?_
            first | (apply gCall; apply L_call rfl rfl rfl rfl rfl; (· first | exact l3ForwardT tk_ hFP | exact l1Read_c at_ hBw om om om | exact l2Look_c at_ hBw om om); rintro _ _ ⟨rfl, rfl⟩) | (apply gL; first | refine L_nil ?_ | refine yS ?_ | refine yX fun _ => ?_ | refine yA fun _ => ?_ | (apply gSt; first | refine sR ?_ | refine sB ?_ | refine s1 ?_ | refine sW ?_ | refine sN ?_) | refine kV ?_ | ((fail_if_success (refine L_known rfl ?_)); refine yW (fun h => ?_) fun h => ?_))
            refine L_nil (hS _ _ ?_)
            clear hS
            refine kAt 10 ?_
            refine kAt 11 ?_
            refine kAt 12 ?_
            refine A_one (i := 13) (by kernel_rfl) cvt_ rfl ?_
            refine O_of_L fun S hS => ?_
            first | (apply gCall; apply L_call rfl rfl rfl rfl rfl; (· first | exact l3ForwardT tk_ hFP | exact l1Read_c at_ hBw om om om | exact l2Look_c at_ hBw om om); rintro _ _ ⟨rfl, rfl⟩) | (apply gL; first | refine L_nil ?_ | refine yS ?_ | refine yX fun _ => ?_ | refine yA fun _ => ?_ | (apply gSt; first | refine sR ?_ | refine sB ?_ | refine s1 ?_ | refine sW ?_ | refine sN ?_) | refine kV ?_ | ((fail_if_success (refine L_known rfl ?_)); refine yW (fun h => ?_) fun h => ?_))
            refine L_nil (hS _ _ ?_)
            clear hS
            refine A_one (i := 14) (by kernel_rfl) cvt_ rfl (O_of_L fun S hS => ?_)
            first | (apply gCall; apply L_call rfl rfl rfl rfl rfl; (· first | exact l3ForwardT tk_ hFP | exact l1Read_c at_ hBw om om om | exact l2Look_c at_ hBw om om); rintro _ _ ⟨rfl, rfl⟩) | (apply gL; first | refine L_nil ?_ | refine yS ?_ | refine yX fun _ => ?_ | refine yA fun _ => ?_ | (apply gSt; first | refine sR ?_ | refine sB ?_ | refine s1 ?_ | refine sW ?_ | refine sN ?_) | refine kV ?_ | ((fail_if_success (refine L_known rfl ?_)); refine yW (fun h => ?_) fun h => ?_))
            refine L_nil (hS _ _ ?_)
            clear hS
            refine kAt 15 ?_
            refine A_nil (by kernel_rfl) cvt_ ?_
            apply midA.mk _
            · exact sub_
            · exact cvt_
            · trivial
          · refine O_of_L fun S hS => ?_
            first | (apply gCall; apply L_call rfl rfl rfl rfl rfl; (· first | exact l3ForwardT tk_ hFP | exact l1Read_c at_ hBw om om om | exact l2Look_c at_ hBw om om); rintro _ _ ⟨rfl, rfl⟩) | (apply gL; first | refine L_nil ?_ | refine yS ?_ | refine yX fun _ => ?_ | refine yA fun _ => ?_ | (apply gSt; first | refine sR ?_ | refine sB ?_ | refine s1 ?_ | refine sW ?_ | refine sN ?_) | refine kV ?_ | ((fail_if_success (refine L_known rfl ?_)); refine yW (fun h => ?_) fun h => ?_))
            refine L_nil (hS _ _ ?_)
            clear hS
            refine A_one (i := 9) (by kernel_rfl) cvt_ rfl ?_
            refine O_of_L fun S hS => ?_
            first | (apply gCall; apply L_call rfl rfl rfl rfl rfl; (· first | exact l3ForwardT tk_ hFP | exact l1Read_c at_ hBw om om om | exact l2Look_c at_ hBw om om); rintro _ _ ⟨rfl, rfl⟩) | (apply gL; first | refine L_nil ?_ | refine yS ?_ | refine yX fun _ => ?_ | refine yA fun _ => ?_ | (apply gSt; first | refine sR ?_ | refine sB ?_ | refine s1 ?_ | refine sW ?_ | refine sN ?_) | refine kV ?_ | ((fail_if_success (refine L_known rfl ?_)); refine yW (fun h => ?_) fun h => ?_))
            refine L_nil (hS _ _ ?_)
            clear hS
            refine kAt 10 ?_
            refine kAt 11 ?_
            refine kAt 12 ?_
            refine A_one (i := 14) (by kernel_rfl) cvt_ rfl (O_of_L fun S hS => ?_)
            first | (apply gCall; apply L_call rfl rfl rfl rfl rfl; (· first | exact l3ForwardT tk_ hFP | exact l1Read_c at_ hBw om om om | exact l2Look_c at_ hBw om om); rintro _ _ ⟨rfl, rfl⟩) | (apply gL; first | refine L_nil ?_ | refine yS ?_ | refine yX fun _ => ?_ | refine yA fun _ => ?_ | (apply gSt; first | refine sR ?_ | refine sB ?_ | refine s1 ?_ | refine sW ?_ | refine sN ?_) | refine kV ?_ | ((fail_if_success (refine L_known rfl ?_)); refine yW (fun h => ?_) fun h => ?_))
            refine L_nil (hS _ _ ?_)
            clear hS
            refine kAt 15 ?_
            refine A_nil (by kernel_rfl) cvt_ ?_
            apply midA.mk _
            · exact sub_
            · exact cvt_
            · trivial
        rintro b10 _
        repeat' ((fail_if_success apply gAtR 11); (first | (apply gCall; apply L_call rfl rfl rfl rfl rfl; (· first | exact l3ForwardT tk_ hFP | exact l1Read_c at_ hBw om om om | exact l2Look_c at_ hBw om om); rintro _ _ ⟨rfl, rfl⟩) | (apply gL; first | refine L_nil ?_ | refine yS ?_ | refine yX fun _ => ?_ | refine yA fun _ => ?_ | (apply gSt; first | refine sR ?_ | refine sB ?_ | refine s1 ?_ | refine sW ?_ | refine sN ?_) | refine kV ?_ | ((fail_if_success (refine L_known rfl ?_)); refine yW (fun h => ?_) fun h => ?_)) | (apply gW; first | refine W_seq ?_ | refine W_region ?_ | refine W_ret ?_ | refine W_skip ?_ | refine W_block ?_ | refine W_exit ?_ | refine W_cond1 rfl ?_ | refine W_cond0 rfl ?_ | refine cW (fun h => ?_) fun h => ?_) | (first | refine seqR.normal ?_ | refine seqR.ret ?_ | refine seqR.exit ?_ | refine blockR.normal ?_ | refine blockR.ret ?_ | refine blockR.here ?_ | refine blockR.exit rfl ?_ | refine loopR.ret ?_ | refine loopR.exit ?_ | refine midA.ret ?_ | refine midA.exit ?_) | fail))
        rename_i b12 b13
        apply W_regionA (D := (b13, .cells #[.int .i64 (rvT B1.ws (B1.scan + g B.sls i)), .int .i64 (B1.fwd (rvT B1.ws (B1.scan + g B.sls i)) (rvN B1.ws (B1.scan + g B.sls i))).2] 47 (0, 0)) :: (b8, .cells (rowA .i64 B.sls sp8) 3 (0, 0)) :: (b2, aObj C (B1.fwd (rvT B1.ws (B1.scan + g B.sls i)) (rvN B1.ws (B1.scan + g B.sls i))).1) :: H) (by kernel_rfl)
        refine kAt 0 ?_
        refine kAt 1 ?_
        refine kAt 2 ?_
        refine kAt 3 ?_
        refine kAt 4 ?_
        refine kAt 5 ?_
        refine kAt 6 ?_
        refine kAt 7 ?_
        refine kAt 8 ?_
        refine kAt 9 ?_
        refine kAt 10 ?_
        refine kAt 11 ?_
        refine kAt 12 ?_
        refine kAt 13 ?_
        refine A_one (i := 14) (by kernel_rfl) cvt_ rfl (O_of_L fun S hS => ?_)
        first | (apply gCall; apply L_call rfl rfl rfl rfl rfl; (· first | exact l3ForwardT tk_ hFP | exact l1Read_c at_ hBw om om om | exact l2Look_c at_ hBw om om); rintro _ _ ⟨rfl, rfl⟩) | (apply gL; first | refine L_nil ?_ | refine yS ?_ | refine yX fun _ => ?_ | refine yA fun _ => ?_ | (apply gSt; first | refine sR ?_ | refine sB ?_ | refine s1 ?_ | refine sW ?_ | refine sN ?_) | refine kV ?_ | ((fail_if_success (refine L_known rfl ?_)); refine yW (fun h => ?_) fun h => ?_))
        refine L_nil (hS _ _ ?_)
        clear hS
        refine A_nil (by kernel_rfl) cvt_ ?_
        repeat' (first | (apply gCall; apply L_call rfl rfl rfl rfl rfl; (· first | exact l3ForwardT tk_ hFP | exact l1Read_c at_ hBw om om om | exact l2Look_c at_ hBw om om); rintro _ _ ⟨rfl, rfl⟩) | (apply gL; first | refine L_nil ?_ | refine yS ?_ | refine yX fun _ => ?_ | refine yA fun _ => ?_ | (apply gSt; first | refine sR ?_ | refine sB ?_ | refine s1 ?_ | refine sW ?_ | refine sN ?_) | refine kV ?_ | ((fail_if_success (refine L_known rfl ?_)); refine yW (fun h => ?_) fun h => ?_)) | (apply gW; first | refine W_seq ?_ | refine W_region ?_ | refine W_ret ?_ | refine W_skip ?_ | refine W_block ?_ | refine W_exit ?_ | refine W_cond1 rfl ?_ | refine W_cond0 rfl ?_ | refine cW (fun h => ?_) fun h => ?_) | (first | refine seqR.normal ?_ | refine seqR.ret ?_ | refine seqR.exit ?_ | refine blockR.normal ?_ | refine blockR.ret ?_ | refine blockR.here ?_ | refine blockR.exit rfl ?_ | refine loopR.ret ?_ | refine loopR.exit ?_ | refine midA.ret ?_ | refine midA.exit ?_) | fail)
        simp only [wrap_w64]
        rw [show (B1.fwd (rvT B1.ws (B1.scan + g B.sls i)) (rvN B1.ws (B1.scan + g B.sls i))).1.scan + g B.sls i + 1 = B1.scan + g B.sls i + 1 by rw [hFs]]
        apply loopR.mk (i + 1, B1.fwS (B1.scan + g B.sls i), m5)
        · exact sub_
        · dsimp only
          rw [aObj_fwS']
          exact cvt_
        · refine ⟨⟨by dsimp only; omega, by dsimp only; omega⟩, ?_, f3, ?_, by dsimp only; omega⟩
          · rw [← eS]; exact hL2
          · rw [← eS]; exact hg
        · dsimp only; omega
      · have hil : i = (B.sls.length : Int) := by omega
        rw [fwI_end hlt2] at hg
        repeat' (first | exact absurd h hlt2 | first | (apply gCall; apply L_call rfl rfl rfl rfl rfl; (· first | exact l3ForwardT tk_ hFP | exact l1Read_c at_ hBw om om om | exact l2Look_c at_ hBw om om); rintro _ _ ⟨rfl, rfl⟩) | (apply gL; first | refine L_nil ?_ | refine yS ?_ | refine yX fun _ => ?_ | refine yA fun _ => ?_ | (apply gSt; first | refine sR ?_ | refine sB ?_ | refine s1 ?_ | refine sW ?_ | refine sN ?_) | refine kV ?_ | ((fail_if_success (refine L_known rfl ?_)); refine yW (fun h => ?_) fun h => ?_)) | (apply gW; first | refine W_seq ?_ | refine W_region ?_ | refine W_ret ?_ | refine W_skip ?_ | refine W_block ?_ | refine W_exit ?_ | refine W_cond1 rfl ?_ | refine W_cond0 rfl ?_ | refine cW (fun h => ?_) fun h => ?_) | (first | refine seqR.normal ?_ | refine seqR.ret ?_ | refine seqR.exit ?_ | refine blockR.normal ?_ | refine blockR.ret ?_ | refine blockR.here ?_ | refine blockR.exit rfl ?_ | refine loopR.ret ?_ | refine loopR.exit ?_ | refine midA.ret ?_ | refine midA.exit ?_) | fail)
        apply midA.mk (B1, m4)
        · exact sub_
        · exact cvt_
        · exact ⟨hg, by rw [← hil]; exact hL⟩
    rintro ⟨B', m3⟩ ⟨hB', hL⟩
    dsimp only at hB' hL ⊢
    have hscB := hL.sc
    repeat' (first | (apply gSt; apply L_stc rfl rfl rfl rfl rfl rfl; (· exact at_); (· simp only [List.set_cons_zero, List.set_cons_succ]; rfl); (· exact up_); (· rfl)) | first | (apply gCall; apply L_call rfl rfl rfl rfl rfl; (· first | exact l3ForwardT tk_ hFP | exact l1Read_c at_ hBw om om om | exact l2Look_c at_ hBw om om); rintro _ _ ⟨rfl, rfl⟩) | (apply gL; first | refine L_nil ?_ | refine yS ?_ | refine yX fun _ => ?_ | refine yA fun _ => ?_ | (apply gSt; first | refine sR ?_ | refine sB ?_ | refine s1 ?_ | refine sW ?_ | refine sN ?_) | refine kV ?_ | ((fail_if_success (refine L_known rfl ?_)); refine yW (fun h => ?_) fun h => ?_)) | (apply gW; first | refine W_seq ?_ | refine W_region ?_ | refine W_ret ?_ | refine W_skip ?_ | refine W_block ?_ | refine W_exit ?_ | refine W_cond1 rfl ?_ | refine W_cond0 rfl ?_ | refine cW (fun h => ?_) fun h => ?_) | (first | refine seqR.normal ?_ | refine seqR.ret ?_ | refine seqR.exit ?_ | refine blockR.normal ?_ | refine blockR.ret ?_ | refine blockR.here ?_ | refine blockR.exit rfl ?_ | refine loopR.ret ?_ | refine loopR.exit ?_ | refine midA.ret ?_ | refine midA.exit ?_) | fail)
    apply L_call rfl rfl rfl rfl rfl
    · exact l3Over_c (C := C) (A := { B' with scan := B'.scan + rs (g B.ws B.scan) + 1 })
    rintro _ _ ⟨rfl, rfl⟩
    have eO : ({ B' with scan := B'.scan + rs (g B.ws B.scan) + 1 } : Ar) = B.fwO := by rw [hscB, hB']; rfl
    repeat' (first | (apply gCall; apply L_call rfl rfl rfl rfl rfl; (· first | exact l3ForwardT tk_ hFP | exact l1Read_c at_ hBw om om om | exact l2Look_c at_ hBw om om); rintro _ _ ⟨rfl, rfl⟩) | (apply gL; first | refine L_nil ?_ | refine yS ?_ | refine yX fun _ => ?_ | refine yA fun _ => ?_ | (apply gSt; first | refine sR ?_ | refine sB ?_ | refine s1 ?_ | refine sW ?_ | refine sN ?_) | refine kV ?_ | ((fail_if_success (refine L_known rfl ?_)); refine yW (fun h => ?_) fun h => ?_)) | (apply gW; first | refine W_seq ?_ | refine W_region ?_ | refine W_ret ?_ | refine W_skip ?_ | refine W_block ?_ | refine W_exit ?_ | refine W_cond1 rfl ?_ | refine W_cond0 rfl ?_ | refine cW (fun h => ?_) fun h => ?_) | (first | refine seqR.normal ?_ | refine seqR.ret ?_ | refine seqR.exit ?_ | refine blockR.normal ?_ | refine blockR.ret ?_ | refine blockR.here ?_ | refine blockR.exit rfl ?_ | refine loopR.ret ?_ | refine loopR.exit ?_ | refine midA.ret ?_ | refine midA.exit ?_) | fail)
    apply loopR.mk (d + 1, B.fwO.over, m2)
    · exact sub_
    · dsimp only
      rw [(aObj_over (C := C) (B := B.fwO) (rp := none) (rc := 0)).2, ← eO]
      exact cvt_
    · exact ⟨hS2, f', hf, by dsimp only; omega⟩
    · exact hmeas
  · have e := stp_end (f := f) hcd
    rw [e] at hf
    repeat' (first | exact absurd ⟨by assumption, by assumption⟩ hcd | first | (apply gCall; apply L_call rfl rfl rfl rfl rfl; (· first | exact l3ForwardT tk_ hFP | exact l1Read_c at_ hBw om om om | exact l2Look_c at_ hBw om om); rintro _ _ ⟨rfl, rfl⟩) | (apply gL; first | refine L_nil ?_ | refine yS ?_ | refine yX fun _ => ?_ | refine yA fun _ => ?_ | (apply gSt; first | refine sR ?_ | refine sB ?_ | refine s1 ?_ | refine sW ?_ | refine sN ?_) | refine kV ?_ | ((fail_if_success (refine L_known rfl ?_)); refine yW (fun h => ?_) fun h => ?_)) | (apply gW; first | refine W_seq ?_ | refine W_region ?_ | refine W_ret ?_ | refine W_skip ?_ | refine W_block ?_ | refine W_exit ?_ | refine W_cond1 rfl ?_ | refine W_cond0 rfl ?_ | refine cW (fun h => ?_) fun h => ?_) | (first | refine seqR.normal ?_ | refine seqR.ret ?_ | refine seqR.exit ?_ | refine blockR.normal ?_ | refine blockR.ret ?_ | refine blockR.here ?_ | refine blockR.exit rfl ?_ | refine loopR.ret ?_ | refine loopR.exit ?_ | refine midA.ret ?_ | refine midA.exit ?_) | fail)
    all_goals (
      rw [← hf]
      exact retR.ret _ _ (retCT rfl rfl at_ (by rfl) rfl) cvt_ ⟨rfl, rfl⟩)
theorem l3StepO {m : List Int} {n : Int} {H1 : HL} (hT : Tk H C.bw (wObj C A) H1) (h : SI A m) (hn : -1000000 ≤ n ∧ n ≤ 1000000) (hx : A.vs.length ≤ 1048576) :
    Fn Tryz.prog w0 107 #[arV C A.over, .int .i64 n] H fun v H' => v = .tuple #[arV C (Ar.stp 8001 A.over 0 n).1, .int .i64 (Ar.stp 8001 A.over 0 n).2] ∧ H' = (C.bw, wObj C (Ar.stp 8001 A.over 0 n).1) :: H1 := by
  have hT' := hT
  rw [← (aObj_over (C := C) (B := A) (rp := none) (rc := 0)).2] at hT'
  exact Fn.conv (Cv.take hT' Cv.refl) (l3Step_c h.over (fun c => by obtain ⟨a, b⟩ := over_ne c; rw [a]; exact b) hn (by rw [(over_same (A := A)).2.2.2.1]; exact hx))
end Go.Proofs.YtepddopgmhdllaaGreat.Eng
