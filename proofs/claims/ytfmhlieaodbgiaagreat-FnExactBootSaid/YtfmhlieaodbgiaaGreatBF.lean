/- Words, values of a coroutine that is made: the reference's l11Put, l11Set, the implementation's set, ask0. -/
import Derived.Test.YtfmhlieaodbgiaaGreatBE
namespace Go.Proofs.YtfmhlieaodbgiaaGreat.Eng
open Go Go.RowKit Go.Proofs.YtfmhlieaodbgiaaGreat.Sl Go.Proofs.YtfmhlieaodbgiaaGreat.Ar Go.Proofs.YtfmhlieaodbgiaaGreat.Base
set_option linter.unusedVariables false
set_option linter.unusedSimpArgs false
set_option maxRecDepth 10000
variable {w0 : World} {H : HL} {C : Cn} {A : Ar} {ba rc : Nat} {rp : Option Addr} {X : MA} {M : Md}
set_option maxHeartbeats 2000000 in
theorem l4Put_c {a t n : Int} (h0 : 0 ≤ a) (h1 : a + 1 < (A.ws.length : Int)) (hm : A.ws.length ≤ 8000) :
    Fn Tryz.prog w0 50 #[arV C A, .int .i64 a, .agg #[.int .i64 t, .int .i64 n]] ((C.bw, wObj C A) :: H) fun v H' => v = arV C (A.putV a t n) ∧ H' = (C.bw, wObj C (A.putV a t n)) :: H := by
  refine enter3 Tryz.func50 rfl rfl Tryz.ntmps50 rfl ?_
  have hsl : (A.ws.set a.toNat (IntKind.u64.wrap t)).length = A.ws.length := List.length_set
  repeat' (first | (apply gCall; apply L_call rfl rfl rfl rfl rfl; (· exact biAsk_c hF hwc); rintro _ _ ⟨rfl, rfl⟩) | (apply gL; first | refine L_nil ?_ | refine yX fun _ => ?_ | refine yA fun _ => ?_ | (apply gSt; first | refine sR ?_ | refine sB ?_ | refine s1 ?_ | refine sW ?_ | refine sN ?_) | refine kV ?_ | (apply L_val rfl rfl rfl; (· first | (apply gBin; first | fail ) | fail | (apply v_ld rfl; (· exact at_); (· exact ld_v0 om hv0); done) | exact v_fieldAddrN rfl))) | (apply gW; first | refine W_seq ?_ | refine W_region ?_ | refine W_ret ?_ | refine W_skip ?_ | refine W_cond1 rfl ?_ | refine W_cond0 rfl ?_ | refine cW (fun h => ?_) fun h => ?_) | (first | refine seqR.normal ?_ | refine seqR.ret ?_) | fail)
  simp only [wrap_w64]
  have ew : (A.putV a t n).ws.length = A.ws.length := by show (List.set _ _ _).length = _; rw [List.length_set, List.length_set]
  refine retR.ret _ _ (retC rfl rfl at_ (by rfl)) cvt_ ⟨?_, rfl⟩
  show _ = Value.agg #[.slice _ (A.putV a t n).ws.length _, _, _, _, _, _, _, _, _, _]
  rw [ew]; rfl
theorem l4PutT {a t n : Int} {H1 : HL} (hT : Tk H C.bw (wObj C A) H1) (h0 : 0 ≤ a) (h1 : a + 1 < (A.ws.length : Int)) (hm : A.ws.length ≤ 8000) :
    Fn Tryz.prog w0 50 #[arV C A, .int .i64 a, .agg #[.int .i64 t, .int .i64 n]] H fun v H' => v = arV C (A.putV a t n) ∧ H' = (C.bw, wObj C (A.putV a t n)) :: H1 :=
  Fn.conv (Cv.take hT Cv.refl) (l4Put_c h0 h1 hm)
theorem iset_c {a t n : Int} (h0 : 0 ≤ a) (h1 : a + 1 < (A.ws.length : Int)) (hm : A.ws.length ≤ 8000) :
    Fn Tryz.prog w0 27 #[.pointer (some ⟨ba, 0, none⟩), .int .i64 a, .agg #[.int .i64 t, .int .i64 n]] ((ba, aObjG C A rp rc) :: (C.bw, wObj C A) :: H) fun v H' => v = .tuple #[] ∧ H' = (ba, aObjG C (A.putV a t n) rp rc) :: (C.bw, wObj C (A.putV a t n)) :: H := by
  rw [aObj_put]
  refine enter3 Tryz.func27 rfl rfl Tryz.ntmps27 rfl ?_
  have hsl : (A.ws.set a.toNat (IntKind.u64.wrap t)).length = A.ws.length := List.length_set
  repeat' (first | (apply gCall; apply L_call rfl rfl rfl rfl rfl; (· exact biAsk_c hF hwc); rintro _ _ ⟨rfl, rfl⟩) | (apply gL; first | refine L_nil ?_ | refine yX fun _ => ?_ | refine yA fun _ => ?_ | (apply gSt; first | refine sR ?_ | refine sB ?_ | refine s1 ?_ | refine sW ?_ | refine sN ?_) | refine kV ?_ | (apply L_val rfl rfl rfl; (· first | (apply gBin; first | fail ) | fail | (apply v_ld rfl; (· exact at_); (· exact ld_v0 om hv0); done) | exact v_fieldAddrN rfl))) | (apply gW; first | refine W_seq ?_ | refine W_region ?_ | refine W_ret ?_ | refine W_skip ?_ | refine W_cond1 rfl ?_ | refine W_cond0 rfl ?_ | refine cW (fun h => ?_) fun h => ?_) | (first | refine seqR.normal ?_ | refine seqR.ret ?_) | fail)
  rename_i b5
  apply W_regionA (D := (b5, .cells #[.int .i64 t, .int .i64 n] 35 (0, 0)) :: (ba, aObjG C A rp rc) :: H) (by kernel_rfl)
  refine kAt 0 ?_
  refine kAt 1 ?_
  refine kAt 2 ?_
  refine kAt 3 ?_
  refine kAt 4 ?_
  refine kAt 5 ?_
  refine kAt 6 ?_
  refine kAt 7 ?_
  refine kAt 8 ?_
  refine A_one (i := 9) (by kernel_rfl) cvt_ rfl (O_of_L fun S hS => ?_)
  first | (apply gCall; apply L_call rfl rfl rfl rfl rfl; (· exact biAsk_c hF hwc); rintro _ _ ⟨rfl, rfl⟩) | (apply gL; first | refine L_nil ?_ | refine yX fun _ => ?_ | refine yA fun _ => ?_ | (apply gSt; first | refine sR ?_ | refine sB ?_ | refine s1 ?_ | refine sW ?_ | refine sN ?_) | refine kV ?_ | (apply L_val rfl rfl rfl; (· first | (apply gBin; first | fail ) | fail | (apply v_ld rfl; (· exact at_); (· exact ld_v0 om hv0); done) | exact v_fieldAddrN rfl)))
  refine L_nil (hS _ _ ?_)
  clear hS
  refine A_nil (by kernel_rfl) cvt_ ?_
  repeat' (first | (apply gCall; apply L_call rfl rfl rfl rfl rfl; (· exact biAsk_c hF hwc); rintro _ _ ⟨rfl, rfl⟩) | (apply gL; first | refine L_nil ?_ | refine yX fun _ => ?_ | refine yA fun _ => ?_ | (apply gSt; first | refine sR ?_ | refine sB ?_ | refine s1 ?_ | refine sW ?_ | refine sN ?_) | refine kV ?_ | (apply L_val rfl rfl rfl; (· first | (apply gBin; first | fail ) | fail | (apply v_ld rfl; (· exact at_); (· exact ld_v0 om hv0); done) | exact v_fieldAddrN rfl))) | (apply gW; first | refine W_seq ?_ | refine W_region ?_ | refine W_ret ?_ | refine W_skip ?_ | refine W_cond1 rfl ?_ | refine W_cond0 rfl ?_ | refine cW (fun h => ?_) fun h => ?_) | (first | refine seqR.normal ?_ | refine seqR.ret ?_) | fail)
  apply W_regionA (D := (b5, .cells #[.int .i64 t, .int .i64 n] 35 (0, 0)) :: (ba, aObjG C A rp rc) :: H) (by kernel_rfl)
  refine kAt 0 ?_
  refine kAt 1 ?_
  refine kAt 2 ?_
  refine kAt 3 ?_
  refine kAt 4 ?_
  refine kAt 5 ?_
  refine kAt 6 ?_
  refine kAt 7 ?_
  refine kAt 8 ?_
  refine kAt 9 ?_
  refine A_one (i := 10) (by kernel_rfl) cvt_ rfl (O_of_L fun S hS => ?_)
  first | (apply gCall; apply L_call rfl rfl rfl rfl rfl; (· exact biAsk_c hF hwc); rintro _ _ ⟨rfl, rfl⟩) | (apply gL; first | refine L_nil ?_ | refine yX fun _ => ?_ | refine yA fun _ => ?_ | (apply gSt; first | refine sR ?_ | refine sB ?_ | refine s1 ?_ | refine sW ?_ | refine sN ?_) | refine kV ?_ | (apply L_val rfl rfl rfl; (· first | (apply gBin; first | fail ) | fail | (apply v_ld rfl; (· exact at_); (· exact ld_v0 om hv0); done) | exact v_fieldAddrN rfl)))
  refine L_nil (hS _ _ ?_)
  clear hS
  refine A_nil (by kernel_rfl) cvt_ ?_
  repeat' (first | (apply gCall; apply L_call rfl rfl rfl rfl rfl; (· exact biAsk_c hF hwc); rintro _ _ ⟨rfl, rfl⟩) | (apply gL; first | refine L_nil ?_ | refine yX fun _ => ?_ | refine yA fun _ => ?_ | (apply gSt; first | refine sR ?_ | refine sB ?_ | refine s1 ?_ | refine sW ?_ | refine sN ?_) | refine kV ?_ | (apply L_val rfl rfl rfl; (· first | (apply gBin; first | fail ) | fail | (apply v_ld rfl; (· exact at_); (· exact ld_v0 om hv0); done) | exact v_fieldAddrN rfl))) | (apply gW; first | refine W_seq ?_ | refine W_region ?_ | refine W_ret ?_ | refine W_skip ?_ | refine W_cond1 rfl ?_ | refine W_cond0 rfl ?_ | refine cW (fun h => ?_) fun h => ?_) | (first | refine seqR.normal ?_ | refine seqR.ret ?_) | fail)
  simp only [wrap_w64]
  exact retR.end_ _ _ (ret0 rfl) cvt_ ⟨rfl, rfl⟩
theorem isetT {a t n : Int} {H1 H2 : HL} (hT : Tk H ba (aObjG C A rp rc) H1) (hT2 : Tk H1 C.bw (wObj C A) H2) (h0 : 0 ≤ a) (h1 : a + 1 < (A.ws.length : Int)) (hm : A.ws.length ≤ 8000) :
    Fn Tryz.prog w0 27 #[.pointer (some ⟨ba, 0, none⟩), .int .i64 a, .agg #[.int .i64 t, .int .i64 n]] H fun v H' => v = .tuple #[] ∧ H' = (ba, aObjG C (A.putV a t n) rp rc) :: (C.bw, wObj C (A.putV a t n)) :: H2 :=
  Fn.conv (Cv.take hT (Cv.take hT2 Cv.refl)) (iset_c h0 h1 hm)
abbrev mcX (M : Md) (X : MA) (C : Cn) (A : Ar) : Value := mcV (.slice (ad X.pb) M.pr.length X.pc) (.slice (ad X.tb) M.tx.length X.tc) C A
theorem mc_same : putAt (mcX M X C A).cells (0 + 2) (#[.slice (some ⟨C.bw, 0, none⟩) A.ws.length C.wc, .int .i64 A.semi, .int .i64 A.to, .int .i64 A.top, .bool A.cyc, .int .i64 A.scan, .int .i64 A.old, .int .i64 A.copied, .int .i64 A.serial, .slice (some ⟨C.br, 0, none⟩) A.vs.length C.rc] : Array Value).toList = (mcX M X C A).cells := by
  apply Array.toList_inj.1
  simp only [putAt, Array.toList_setIfInBounds, Value.cells, Nat.zero_add, Nat.reduceAdd, List.set_cons_succ, List.set_cons_zero]
theorem arV_putV {a t n : Int} : arV C (A.putV a t n) = arV C A := by
  show Value.agg #[.slice _ (List.set (List.set _ _ _) _ _).length _, _, _, _, _, _, _, _, _, _] = _
  rw [List.length_set, List.length_set]; rfl
theorem up_same {H : HL} {b : Nat} {o : Obj} (h : At H b o) : Up H b o o H := by
  induction h with
  | here => exact .here
  | there _ ih => exact .there ih
section
variable {P : Program} {N : Nat} {E : Env} {o : Oper} {x y : Operand} {T : TypeId} {ops : Array Oper} {rest : List Oper} {R : Post}
theorem L_stSame {bk i n : Nat} {cs us : Array Value} {t : TypeId} [TAgg P T n] (hw : wantE ops E o = some true) (hd : o.dst = none) (ho : o.op = .store T x y) (hx : ev E x = some (.pointer (some ⟨bk, i, none⟩))) (hy : ev E y = some (.agg us)) (hn : us.toList.length = n) (h1 : us.toList.all (·.oneCell') = true)
    (hA : At H bk (.cells cs t (0, 0))) (he : putAt cs i us.toList = cs) (hi : i + n ≤ cs.size) (hk : L P N w0 ops rest E H R) : L P N w0 ops (o :: rest) E H R :=
  L_stN hw hd ho hx hy hn h1 (by rw [he]; exact up_same hA) hi hk
end
set_option maxHeartbeats 4000000 in
theorem l11Put_c {k x : Int} (hC : CoA A) (hk : 1 ≤ k ∧ k ≤ 3) (hx : 0 ≤ x ∧ x ≤ 1000) :
    Fn Tryz.prog w0 19 #[mcX M X C A, .int .i64 k, .int .i64 x] ((C.br, rObj C A) :: (C.bw, wObj C A) :: H) fun v H' => v = mcX M X C A ∧ H' = (C.br, rObj C A) :: (C.bw, wObj C (putW A (3 + k) x)) :: H := by
  have hl0 := hC.l0
  have hvl := hC.vl
  have hv0 := hC.v0
  refine enter3 Tryz.func19 rfl rfl Tryz.ntmps19 rfl ?_
  repeat' ((fail_if_success apply gAtR 1); (first | (apply gCall; apply L_call rfl rfl rfl rfl rfl; (· exact biAsk_c hF hwc); rintro _ _ ⟨rfl, rfl⟩) | (apply gL; first | refine L_nil ?_ | refine yX fun _ => ?_ | refine yA fun _ => ?_ | (apply gSt; first | refine sR ?_ | refine sB ?_ | refine s1 ?_ | refine sW ?_ | refine sN ?_) | refine kV ?_ | (apply L_val rfl rfl rfl; (· first | (apply gBin; first | fail ) | fail | (apply v_ld rfl; (· exact at_); (· exact ld_v0 om hv0); done) | exact v_fieldAddrN rfl))) | (apply gW; first | refine W_seq ?_ | refine W_region ?_ | refine W_ret ?_ | refine W_skip ?_ | refine W_cond1 rfl ?_ | refine W_cond0 rfl ?_ | refine cW (fun h => ?_) fun h => ?_) | (first | refine seqR.normal ?_ | refine seqR.ret ?_) | fail))
  rename_i b3 b6
  refine W_seq ?_
  apply W_regionA (D := (b3, .cells (mcX M X C A).cells 37 (0, 0)) :: (C.br, rObj C A) :: H) (by kernel_rfl)
  refine A_val 0 rfl (by kernel_rfl) rfl rfl rfl cvt_ (v_fieldAddrN rfl) ?_
  refine kAt 1 ?_
  refine kAt 2 ?_
  refine A_val 3 rfl (by kernel_rfl) rfl rfl rfl cvt_ (v_fieldAddrN rfl) ?_
  refine kAt 4 ?_
  refine kAt 5 ?_
  refine kAt 6 ?_
  refine kAt 7 ?_
  refine A_val 8 rfl (by kernel_rfl) rfl rfl rfl cvt_ (v_ld rfl at_ (ld_v0 (by omega) hv0)) ?_
  refine kAt 9 ?_
  refine kAt 10 ?_
  refine kAt 11 ?_
  refine kAt 12 ?_
  refine kAt 13 ?_
  refine A_one (i := 14) (by kernel_rfl) cvt_ rfl (O_of_L fun S hS => ?_)
  first | (apply gCall; apply L_call rfl rfl rfl rfl rfl; (· exact biAsk_c hF hwc); rintro _ _ ⟨rfl, rfl⟩) | (apply gL; first | refine L_nil ?_ | refine yX fun _ => ?_ | refine yA fun _ => ?_ | (apply gSt; first | refine sR ?_ | refine sB ?_ | refine s1 ?_ | refine sW ?_ | refine sN ?_) | refine kV ?_ | (apply L_val rfl rfl rfl; (· first | (apply gBin; first | fail ) | fail | (apply v_ld rfl; (· exact at_); (· exact ld_v0 om hv0); done) | exact v_fieldAddrN rfl)))
  refine L_nil (hS _ _ ?_)
  clear hS
  refine A_nil (by kernel_rfl) cvt_ ?_
  repeat' (first | (apply gCall; apply L_call rfl rfl rfl rfl rfl; (· exact biAsk_c hF hwc); rintro _ _ ⟨rfl, rfl⟩) | (apply gL; first | refine L_nil ?_ | refine yX fun _ => ?_ | refine yA fun _ => ?_ | (apply gSt; first | refine sR ?_ | refine sB ?_ | refine s1 ?_ | refine sW ?_ | refine sN ?_) | refine kV ?_ | (apply L_val rfl rfl rfl; (· first | (apply gBin; first | fail ) | fail | (apply v_ld rfl; (· exact at_); (· exact ld_v0 om hv0); done) | exact v_fieldAddrN rfl))) | (apply gW; first | refine W_seq ?_ | refine W_region ?_ | refine W_ret ?_ | refine W_skip ?_ | refine W_cond1 rfl ?_ | refine W_cond0 rfl ?_ | refine cW (fun h => ?_) fun h => ?_) | (first | refine seqR.normal ?_ | refine seqR.ret ?_) | fail)
  have ew : w64 x = x := by unfold w64; omega
  have e : wObj C (putW A (3 + k) x) = .cells (rowA .u64 (A.ws.set (3 + k).toNat x) C.ws) 64 (0, 0) := by
    show Obj.cells (rowA .u64 (A.ws.set (3 + k).toNat (w64 x)) C.ws) _ _ = _
    rw [ew]
  rw [e]
  exact retR.ret _ _ (retC rfl rfl at_ (by rfl)) cvt_ ⟨rfl, rfl⟩
theorem l11Slot_c {i : Int} (hC : CoA A) (hi : 0 ≤ i ∧ i ≤ 2) (hA : At H C.br (rObj C A)) :
    Fn Tryz.prog w0 51 #[mcX M X C A, .int .i64 i] H fun v H' => v = .int .i64 (10 + 2 * i) ∧ H' = H := by
  have hvl := hC.vl
  have hv0 := hC.v0
  refine enter2 Tryz.func51 rfl rfl Tryz.ntmps51 rfl ?_
  repeat' (first | (apply gCall; apply L_call rfl rfl rfl rfl rfl; (· exact biAsk_c hF hwc); rintro _ _ ⟨rfl, rfl⟩) | (apply gL; first | refine L_nil ?_ | refine yX fun _ => ?_ | refine yA fun _ => ?_ | (apply gSt; first | refine sR ?_ | refine sB ?_ | refine s1 ?_ | refine sW ?_ | refine sN ?_) | refine kV ?_ | (apply L_val rfl rfl rfl; (· first | (apply gBin; first | fail ) | fail | (apply v_ld rfl; (· exact at_); (· exact ld_v0 om hv0); done) | exact v_fieldAddrN rfl))) | (apply gW; first | refine W_seq ?_ | refine W_region ?_ | refine W_ret ?_ | refine W_skip ?_ | refine W_cond1 rfl ?_ | refine W_cond0 rfl ?_ | refine cW (fun h => ?_) fun h => ?_) | (first | refine seqR.normal ?_ | refine seqR.ret ?_) | fail)
  refine retR.ret _ _ (ret1 rfl rfl) cv_ ⟨?_, rfl⟩
  congr 1
theorem l11Int_c {n : Int} : Fn Tryz.prog w0 21 #[.int .i64 n] H fun v H' => v = .agg #[.int .i64 2, .int .i64 n] ∧ H' = H := by
  refine enter1 Tryz.func21 rfl rfl Tryz.ntmps21 rfl ?_
  repeat' (first | (apply gCall; apply L_call rfl rfl rfl rfl rfl; (· exact biAsk_c hF hwc); rintro _ _ ⟨rfl, rfl⟩) | (apply gL; first | refine L_nil ?_ | refine yX fun _ => ?_ | refine yA fun _ => ?_ | (apply gSt; first | refine sR ?_ | refine sB ?_ | refine s1 ?_ | refine sW ?_ | refine sN ?_) | refine kV ?_ | (apply L_val rfl rfl rfl; (· first | (apply gBin; first | fail ) | fail | (apply v_ld rfl; (· exact at_); (· exact ld_v0 om hv0); done) | exact v_fieldAddrN rfl))) | (apply gW; first | refine W_seq ?_ | refine W_region ?_ | refine W_ret ?_ | refine W_skip ?_ | refine W_cond1 rfl ?_ | refine W_cond0 rfl ?_ | refine cW (fun h => ?_) fun h => ?_) | (first | refine seqR.normal ?_ | refine seqR.ret ?_) | fail)
  exact retR.ret _ _ (retC rfl rfl at_ (by rfl)) cvt_ ⟨rfl, rfl⟩
set_option maxHeartbeats 4000000 in
theorem l11Set_c {i t n : Int} (hC : CoA A) (hi : 0 ≤ i ∧ i ≤ 2) :
    Fn Tryz.prog w0 20 #[mcX M X C A, .int .i64 i, .agg #[.int .i64 t, .int .i64 n]] ((C.br, rObj C A) :: (C.bw, wObj C A) :: H) fun v H' => v = mcX M X C A ∧ H' = (C.br, rObj C A) :: (C.bw, wObj C (A.putV (10 + 2 * i) t n)) :: H := by
  have hl0 := hC.l0
  have hl1 := hC.l1
  refine enter3 Tryz.func20 rfl rfl Tryz.ntmps20 rfl ?_
  repeat' ((fail_if_success apply gAtR 1); (first | (apply gCall; apply L_call rfl rfl rfl rfl rfl; (· exact biAsk_c hF hwc); rintro _ _ ⟨rfl, rfl⟩) | (apply gL; first | refine L_nil ?_ | refine yX fun _ => ?_ | refine yA fun _ => ?_ | (apply gSt; first | refine sR ?_ | refine sB ?_ | refine s1 ?_ | refine sW ?_ | refine sN ?_) | refine kV ?_ | (apply L_val rfl rfl rfl; (· first | (apply gBin; first | fail ) | fail | (apply v_ld rfl; (· exact at_); (· exact ld_v0 om hv0); done) | exact v_fieldAddrN rfl))) | (apply gW; first | refine W_seq ?_ | refine W_region ?_ | refine W_ret ?_ | refine W_skip ?_ | refine W_cond1 rfl ?_ | refine W_cond0 rfl ?_ | refine cW (fun h => ?_) fun h => ?_) | (first | refine seqR.normal ?_ | refine seqR.ret ?_) | fail))
  rename_i b3 b5 b6
  refine W_seq ?_
  apply W_regionA (D := (b5, .cells #[.int .i64 t, .int .i64 n] 35 (0, 0)) :: (b3, .cells (mcX M X C A).cells 37 (0, 0)) :: (C.br, rObj C A) :: H) (by kernel_rfl)
  refine A_val 0 rfl (by kernel_rfl) rfl rfl rfl cvt_ (v_fieldAddrN rfl) ?_
  refine A_val 1 rfl (by kernel_rfl) rfl rfl rfl cvt_ (show OpV _ _ _ _ _ _ (arV C A) from v_ldN (n := 10) (bk := b3) (i := 0 + 2) (cs := (mcX M X C A).cells) (t := 37) (fr := (0, 0)) rfl at_ (by show 0 + 2 + 10 ≤ 20; decide)) ?_
  refine kAt 2 ?_
  refine kAt 3 ?_
  refine kAt 5 ?_
  refine A_one (i := 4) (by kernel_rfl) cvt_ rfl (O_of_L fun S hS => ?_)
  apply L_call rfl rfl rfl rfl rfl
  · exact l11Slot_c hC hi at_
  rintro _ _ ⟨rfl, rfl⟩
  refine L_nil (hS _ _ ?_)
  clear hS
  refine A_one (i := 6) (by kernel_rfl) cvt_ rfl (O_of_L fun S hS => ?_)
  apply L_call rfl rfl rfl rfl rfl
  · exact l4PutT (C := C) (A := A) tk_ (by omega) (by omega) hl1
  rintro _ _ ⟨rfl, rfl⟩
  rw [arV_putV]
  refine L_nil (hS _ _ ?_)
  clear hS
  refine A_val 7 rfl (by kernel_rfl) rfl rfl rfl cvt_ (v_fieldAddrN rfl) ?_
  refine A_one (i := 8) (by kernel_rfl) cvt_ rfl (O_of_L fun S hS => ?_)
  apply L_stSame (n := 10) (cs := (mcX M X C A).cells) (t := 37) rfl rfl rfl rfl rfl rfl rfl at_ mc_same (by show 0 + 2 + 10 ≤ 20; decide)
  refine L_nil (hS _ _ ?_)
  clear hS
  refine A_nil (by kernel_rfl) cvt_ ?_
  repeat' (first | (apply gCall; apply L_call rfl rfl rfl rfl rfl; (· exact biAsk_c hF hwc); rintro _ _ ⟨rfl, rfl⟩) | (apply gL; first | refine L_nil ?_ | refine yX fun _ => ?_ | refine yA fun _ => ?_ | (apply gSt; first | refine sR ?_ | refine sB ?_ | refine s1 ?_ | refine sW ?_ | refine sN ?_) | refine kV ?_ | (apply L_val rfl rfl rfl; (· first | (apply gBin; first | fail ) | fail | (apply v_ld rfl; (· exact at_); (· exact ld_v0 om hv0); done) | exact v_fieldAddrN rfl))) | (apply gW; first | refine W_seq ?_ | refine W_region ?_ | refine W_ret ?_ | refine W_skip ?_ | refine W_cond1 rfl ?_ | refine W_cond0 rfl ?_ | refine cW (fun h => ?_) fun h => ?_) | (first | refine seqR.normal ?_ | refine seqR.ret ?_) | fail)
  exact retR.ret _ _ (retC rfl rfl at_ (by rfl)) cvt_ ⟨rfl, rfl⟩
theorem stackAt_c {p i : Int} (hp : 0 ≤ p ∧ p ≤ 100) (hi : 0 ≤ i ∧ i ≤ 2) :
    Fn Tryz.prog w0 28 #[.int .i64 p, .int .i64 i] H fun v H' => v = .int .i64 (p + 7 + 2 * i) ∧ H' = H := by
  refine enter2 Tryz.func28 rfl rfl Tryz.ntmps28 rfl ?_
  repeat' (first | (apply gCall; apply L_call rfl rfl rfl rfl rfl; (· exact biAsk_c hF hwc); rintro _ _ ⟨rfl, rfl⟩) | (apply gL; first | refine L_nil ?_ | refine yX fun _ => ?_ | refine yA fun _ => ?_ | (apply gSt; first | refine sR ?_ | refine sB ?_ | refine s1 ?_ | refine sW ?_ | refine sN ?_) | refine kV ?_ | (apply L_val rfl rfl rfl; (· first | (apply gBin; first | fail ) | fail | (apply v_ld rfl; (· exact at_); (· exact ld_v0 om hv0); done) | exact v_fieldAddrN rfl))) | (apply gW; first | refine W_seq ?_ | refine W_region ?_ | refine W_ret ?_ | refine W_skip ?_ | refine W_cond1 rfl ?_ | refine W_cond0 rfl ?_ | refine cW (fun h => ?_) fun h => ?_) | (first | refine seqR.normal ?_ | refine seqR.ret ?_) | fail)
  refine retR.ret _ _ (ret1 rfl rfl) cv_ ⟨?_, rfl⟩
  congr 1
set_option maxHeartbeats 4000000 in
theorem ask0_c {k s t r : Int} (hF : FA A k s) (hwc : A.ws.length ≤ C.wc) (hr : 0 ≤ r ∧ r < (A.vs.length : Int)) (hx : A.vs.length ≤ 24) :
    Fn Tryz.prog w0 26 #[.pointer (some ⟨ba, 0, none⟩), .int .i64 k, .int .i64 s, .int .i64 t, .int .i64 r] ((ba, aObj C A) :: (C.bw, wObj C A) :: (C.br, rObj C A) :: H) fun v H' => v = .int .i64 0 ∧ H' = (ba, aObj C { A.mkO k s with vs := A.vs.set r.toNat (t, A.top) }) :: (C.bw, wObj C (A.mkO k s)) :: (C.br, rObj C { A.mkO k s with vs := A.vs.set r.toNat (t, A.top) }) :: H := by
  have hml : (A.mkO k s).vs.length = A.vs.length := rfl
  refine enter5 Tryz.func26 rfl rfl Tryz.ntmps26 rfl ?_
  repeat' (first | exact absurd rfl h | (apply gSt; apply L_stV rfl rfl rfl rfl rfl; (· exact up_); (· omega); (· omega)) | first | (apply gCall; apply L_call rfl rfl rfl rfl rfl; (· exact biAsk_c hF hwc); rintro _ _ ⟨rfl, rfl⟩) | (apply gL; first | refine L_nil ?_ | refine yX fun _ => ?_ | refine yA fun _ => ?_ | (apply gSt; first | refine sR ?_ | refine sB ?_ | refine s1 ?_ | refine sW ?_ | refine sN ?_) | refine kV ?_ | (apply L_val rfl rfl rfl; (· first | (apply gBin; first | fail ) | fail | (apply v_ld rfl; (· exact at_); (· exact ld_v0 om hv0); done) | exact v_fieldAddrN rfl))) | (apply gW; first | refine W_seq ?_ | refine W_region ?_ | refine W_ret ?_ | refine W_skip ?_ | refine W_cond1 rfl ?_ | refine W_cond0 rfl ?_ | refine cW (fun h => ?_) fun h => ?_) | (first | refine seqR.normal ?_ | refine seqR.ret ?_) | fail)
  have e : aObj C { A.mkO k s with vs := A.vs.set r.toNat (t, A.top) } = aObjG C (A.mkO k s) (some ⟨C.br, 0, none⟩) C.rc := by
    show Obj.cells #[_, _, _, _, _, _, _, _, _, .slice _ (List.set _ _ _).length _] _ _ = _
    rw [List.length_set]; rfl
  rw [e]
  exact retR.ret _ _ (ret1 rfl rfl) cvt_ ⟨rfl, rfl⟩
end Go.Proofs.YtfmhlieaodbgiaaGreat.Eng
