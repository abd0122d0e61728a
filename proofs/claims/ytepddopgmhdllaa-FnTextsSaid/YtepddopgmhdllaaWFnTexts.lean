/- The law of FnTexts returns true. -/
import Derived.Test.YtepddopgmhdllaaX6
import Derived.Test.YtepddopgmhdllaaE2
import Derived.Test.YtepddopgmhdllaaUS
import Derived.Test.YtepddopgmhdllaaPT
import Derived.Test.YtepddopgmhdllaaN1
namespace Go.Proofs.Ytepddopgmhdllaa.Eng
open Go Go.RowKit Go.Proofs.Ytepddopgmhdllaa.Sl Go.Proofs.Ytepddopgmhdllaa.Ar Go.Proofs.Ytepddopgmhdllaa.Base
set_option linter.unusedVariables false
set_option linter.unusedSimpArgs false
set_option maxRecDepth 10000
section
variable {P : Program} {N : Nat} {w0 : World} {E : Env} {H : HL} {o : Oper} {x y z : Operand} {T T2 : TypeId} {d_ : Option Tmp} {ty_ : TypeId} {pos_ : String} {af_ : Array Edge} {gd_ : Option (Nat × Bool)}
theorem v_eqbs [TBool P T] {a : Bool} (hx : ev E x = some (.bool a)) (hy : ev E y = some (.bool a)) : OpV P N w0 ⟨d_, .binOp .eql T x y T2, ty_, pos_, af_, gd_⟩ E H (.bool true) := by
  have := v_eqb (P := P) (N := N) (w0 := w0) (E := E) (H := H) (T := T) (T2 := T2) (d_ := d_) (ty_ := ty_) (pos_ := pos_) (af_ := af_) (gd_ := gd_) hx hy
  rwa [show (a == a) = true by simp] at this
end
variable {w0 : World} {H : HL} {C : Cn} {A A' : Ar} {xs : List Int}
/-- n bytes of the law's, from k on -/
def lB (xs : List Int) (k : Int) (n : Nat) : List Int := (List.range n).map fun (j : Nat) => atR xs ((j : Int) + k)
theorem lB_len (xs : List Int) (k : Int) (n : Nat) : (lB xs k n).length = n := by simp [lB]
theorem lB_succ (xs : List Int) (k : Int) (n : Nat) : lB xs k n ++ [atR xs ((n : Int) + k)] = lB xs k (n + 1) := by simp [lB, List.range_succ]
theorem lB_byt {a : Option Addr} {c : Nat} (hI : InB w0 a c xs) (k : Int) (n : Nat) : Byt (lB xs k n) := by
  intro x hx
  simp only [lB, List.mem_map] at hx
  obtain ⟨j, -, rfl⟩ := hx
  have := atR_r hI ((j : Int) + k)
  omega
theorem byt_app {xs ys : List Int} (h1 : Byt xs) (h2 : Byt ys) : Byt (xs ++ ys) := by
  intro x hx
  rcases List.mem_append.1 hx with h | h
  · exact h1 x h
  · exact h2 x h
theorem wrap8 {v : Int} (h : 0 ≤ v ∧ v ≤ 255) : IntKind.u8.wrap v = v := by simp [IntKind.wrap, IntKind.bits, IntKind.signed]; omega
theorem cmpZ_eq (x y : List Int) : cmpZ x y = if Op.bytesLess (strOfNums x).toList (strOfNums y).toList = true then -1 else if (Op.bytesLess (strOfNums x).toList (strOfNums y).toList || (strOfNums x).toList == (strOfNums y).toList) = true then 0 else 1 := cmp_less _ _
theorem PutText_k {s k : Int} {bs : List Int} (e : A.putR bs s = (A', k)) (hby : Byt bs) (hn : (bs.length : Int) ≤ 160) (hA : At H C.bw (wObj C A)) (hR : At H C.br (rObj C A)) (hw : Wf A.ws) (hc : A.ws.length ≤ C.wc) (hl : A.ws.length ≤ 1048576) (hx : A.vs.length ≤ 1048576) (hok : A.ok = true) (hs : 0 ≤ s ∧ s < (A.vs.length : Int)) :
    Fn Try.prog w0 46 #[arV C A, .string (strOfNums bs), .int .i64 s] H (CRes A' (.int .i64 k) H) := by
  have := PutText_c (w0 := w0) hby hn hA hR hw hc hl hx hok hs
  rw [e] at this; exact this
theorem CopyStepA_c {n : Int} (hA : At H C.bw (wObj C A)) (hR : At H C.br (rObj C A)) (hw : Wf A.ws) (hc : A.ws.length ≤ C.wc) (hl : A.ws.length ≤ 1048576) (hx : A.vs.length ≤ 1048576) (hok : A.ok = true) (hv0 : 0 < A.vs.length) (hn : 0 ≤ n ∧ n ≤ 1000000) :
    Fn Try.prog w0 38 #[arV C A, .int .i64 n] H (CRes (A.stepR n).1 (.int .i64 (A.stepR n).2) H) := by
  by_cases h : n = 0
  · subst h; exact CopyStep0_c hA hR hw hc hl hx hok hv0
  · exact CopyStep_c hA hR hw hc hl hx hok hv0 (by omega)
theorem JoinText_k {r q t k : Int} {x y : List Int} (e : A.putR (x ++ y) t = (A', k)) (hq1 : A.inR r = true ∧ rT A r = 3) (hq2 : A.inR q = true ∧ rT A q = 3) (e1 : A.text (rN A r) = x) (e2 : A.text (rN A q) = y) (hby : Byt (x ++ y)) (hn : (x.length : Int) + (y.length : Int) ≤ 160)
    (hA : At H C.bw (wObj C A)) (hR : At H C.br (rObj C A)) (hw : Wf A.ws) (hc : A.ws.length ≤ C.wc) (hl : A.ws.length ≤ 1048576) (hx : A.vs.length ≤ 1048576) (hok : A.ok = true) (ht : 0 ≤ t ∧ t < (A.vs.length : Int)) :
    Fn Try.prog w0 47 #[arV C A, .int .i64 r, .int .i64 q, .int .i64 t] H (CRes A' (.int .i64 k) H) := by
  have := JoinText_c (w0 := w0) hq1 hq2 e1 e2 hby hn hA hR hw hc hl hx hok ht
  rw [e] at this; exact this
theorem TextOf_k {r : Int} {z : List Int} (e : A.textR r = (z, true)) (hA : At H C.bw (wObj C A)) (hR : At H C.br (rObj C A)) (hw : Wf A.ws) (hc : A.ws.length ≤ C.wc) (hx : A.vs.length ≤ 1048576) :
    Fn Try.prog w0 48 #[arV C A, .int .i64 r] H fun v H' => v = .tuple #[.string (strOfNums z), .bool true] ∧ H' = H := by
  have := implTextOf_c (w0 := w0) (r := r) hA hR hw hc hx
  rw [e] at this; exact this
theorem Compare_k {r s k : Int} (e : Ar.cmpR A r s = (k, true)) (hA : At H C.bw (wObj C A)) (hR : At H C.br (rObj C A)) (hw : Wf A.ws) (hc : A.ws.length ≤ C.wc) (hx : A.vs.length ≤ 1048576) :
    Fn Try.prog w0 49 #[arV C A, .int .i64 r, .int .i64 s] H fun v H' => v = .tuple #[.int .i64 k, .bool true] ∧ H' = H := by
  have := implCompareText_c (w0 := w0) (r := r) (s := s) hA hR hw hc hx
  rw [e] at this; exact this
theorem SameRoots_k {r s : Int} {b : Bool} (e : A.sameR r s = b) (hA : At H C.bw (wObj C A)) (hR : At H C.br (rObj C A)) (hw : Wf A.ws) (hc : A.ws.length ≤ C.wc) (hx : A.vs.length ≤ 1048576) :
    Fn Try.prog w0 39 #[arV C A, .int .i64 r, .int .i64 s] H fun v H' => v = .bool b ∧ H' = H := by
  subst e; exact implSameRoots_c hA hR hw hc hx
set_option maxHeartbeats 4000000 in
theorem texts_t3 {b3 : Nat} {s t : List Int} {C6 : Cn} {A6 : Ar} (hbs : Byt s) (hbt : Byt t) (hbst : Byt (s ++ t)) (hls : (s.length : Int) ≤ 19) (hlt : (t.length : Int) ≤ 19) (g3 : A6.sameR 0 1 = decide (s = t)) (w6 : Wf A6.ws) (hc6 : A6.ws.length ≤ C6.wc) (v6 : A6.vs.length = 4) :
    W Try.prog Try.f12.ntmps w0 (tl Try.f12 15) [(3, .pointer (some ⟨b3, 0, none⟩)), (5, .string (strOfNums s)), (6, .string (strOfNums t)), (9, .int .i64 0), (10, .int .i64 0), (11, .int .i64 0), (12, .string (strOfNums (s ++ t))), (14, .int .i64 (cmpZ s t)), (15, .bool true), (16, .int .i64 0)]
      ((b3, aObj C6 A6) :: (C6.bw, wObj C6 A6) :: (C6.br, rObj C6 A6) :: [])
      (retR Try.prog Try.f12.ntmps w0 Try.f12 (fun v H' => v = .bool true)) := by
  refine W_tl rfl ?_
  refine W_midA (α := Unit) (fun y => [(3, .pointer (some ⟨b3, 0, none⟩)), (5, .string (strOfNums s)), (6, .string (strOfNums t)), (9, .int .i64 0), (10, .int .i64 0), (11, .int .i64 0), (12, .string (strOfNums (s ++ t))), (14, .int .i64 (cmpZ s t)), (15, .bool true), (16, .int .i64 (if Op.bytesLess (strOfNums s).toList (strOfNums t).toList = true then -1 else 0))])
    (fun y => (b3, aObj C6 A6) :: (C6.bw, wObj C6 A6) :: (C6.br, rObj C6 A6) :: []) (fun _ => True) ?_ ?_
  · repeat' (first | (apply gCall; apply L_call rfl rfl rfl rfl rfl; (· first | exact at_c hI hl om | exact SameRoots_k g3 at_ at_ w6 hc6 om); rintro _ _ ⟨rfl, rfl⟩) | (apply gL; first | refine L_nil ?_ | refine yS ?_ | refine yA fun _ => ?_ | (apply gSt; first | refine sR ?_ | refine sB ?_ | refine s1 ?_ | refine sW ?_ | refine sN ?_) | (apply gBs; first | (refine L_bs0 rfl rfl rfl rfl (fun _ => ?_)) | (refine L_bs1 rfl rfl rfl rfl rfl rfl rfl (fun _ => ?_))) | refine kV ?_ | (apply L_val rfl rfl rfl; (· first | (apply gBin; first | fail | exact v_adds rfl rfl (by first | exact hsum _ | omega) | exact v_lts rfl rfl | exact v_gts rfl rfl | exact v_eqz rfl rfl hbst hbst | exact v_eqz rfl rfl hbs hbt | exact v_eqbs rfl rfl) | fail | exact v_bts (xs := [_]) (sp := []) rfl at_)) | ((fail_if_success (refine L_known rfl ?_)); refine yW (fun h => ?_) fun h => ?_)) | (apply gW; first | refine W_seq ?_ | refine W_region ?_ | refine W_ret ?_ | refine W_skip ?_ | refine W_block ?_ | refine W_exit ?_ | refine W_cond1 rfl ?_ | refine W_cond0 rfl ?_ | refine cW (fun h => ?_) fun h => ?_) | (first | refine seqR.normal ?_ | refine seqR.ret ?_ | refine seqR.exit ?_ | refine blockR.normal ?_ | refine blockR.ret ?_ | refine blockR.here ?_ | refine blockR.exit rfl ?_ | refine loopR.ret ?_ | refine loopR.exit ?_ | refine midA.ret ?_ | refine midA.exit ?_) | fail)
    · rw [if_pos (by assumption)]
      apply midA.mk ()
      · exact sub_
      · exact cvt_
      · trivial
    · rw [if_neg (by rw [h]; decide)]
      apply midA.mk ()
      · exact sub_
      · exact cvt_
      · trivial
  rintro - -
  refine W_midA (α := Unit) (fun y => [(3, .pointer (some ⟨b3, 0, none⟩)), (5, .string (strOfNums s)), (6, .string (strOfNums t)), (9, .int .i64 0), (10, .int .i64 0), (11, .int .i64 0), (12, .string (strOfNums (s ++ t))), (14, .int .i64 (cmpZ s t)), (15, .bool true), (16, .int .i64 (cmpZ s t))])
    (fun y => (b3, aObj C6 A6) :: (C6.bw, wObj C6 A6) :: (C6.br, rObj C6 A6) :: []) (fun _ => True) ?_ ?_
  · rw [cmpZ_eq]
    repeat' (first | (apply gCall; apply L_call rfl rfl rfl rfl rfl; (· first | exact at_c hI hl om | exact SameRoots_k g3 at_ at_ w6 hc6 om); rintro _ _ ⟨rfl, rfl⟩) | (apply gL; first | refine L_nil ?_ | refine yS ?_ | refine yA fun _ => ?_ | (apply gSt; first | refine sR ?_ | refine sB ?_ | refine s1 ?_ | refine sW ?_ | refine sN ?_) | (apply gBs; first | (refine L_bs0 rfl rfl rfl rfl (fun _ => ?_)) | (refine L_bs1 rfl rfl rfl rfl rfl rfl rfl (fun _ => ?_))) | refine kV ?_ | (apply L_val rfl rfl rfl; (· first | (apply gBin; first | fail | exact v_adds rfl rfl (by first | exact hsum _ | omega) | exact v_lts rfl rfl | exact v_gts rfl rfl | exact v_eqz rfl rfl hbst hbst | exact v_eqz rfl rfl hbs hbt | exact v_eqbs rfl rfl) | fail | exact v_bts (xs := [_]) (sp := []) rfl at_)) | ((fail_if_success (refine L_known rfl ?_)); refine yW (fun h => ?_) fun h => ?_)) | (apply gW; first | refine W_seq ?_ | refine W_region ?_ | refine W_ret ?_ | refine W_skip ?_ | refine W_block ?_ | refine W_exit ?_ | refine W_cond1 rfl ?_ | refine W_cond0 rfl ?_ | refine cW (fun h => ?_) fun h => ?_) | (first | refine seqR.normal ?_ | refine seqR.ret ?_ | refine seqR.exit ?_ | refine blockR.normal ?_ | refine blockR.ret ?_ | refine blockR.here ?_ | refine blockR.exit rfl ?_ | refine loopR.ret ?_ | refine loopR.exit ?_ | refine midA.ret ?_ | refine midA.exit ?_) | fail)
    · have h1 : ¬ Op.bytesLess (strOfNums s).toList (strOfNums t).toList = true := fun c => by rw [c] at h; cases h
      rw [if_neg h1, if_neg (by rw [h]; decide)]
      apply midA.mk ()
      · exact sub_
      · exact cvt_
      · trivial
    · rw [if_pos h]
      apply midA.mk ()
      · exact sub_
      · exact cvt_
      · trivial
  rintro - -
  repeat' (first | exact absurd rfl h | first | (apply gCall; apply L_call rfl rfl rfl rfl rfl; (· first | exact at_c hI hl om | exact SameRoots_k g3 at_ at_ w6 hc6 om); rintro _ _ ⟨rfl, rfl⟩) | (apply gL; first | refine L_nil ?_ | refine yS ?_ | refine yA fun _ => ?_ | (apply gSt; first | refine sR ?_ | refine sB ?_ | refine s1 ?_ | refine sW ?_ | refine sN ?_) | (apply gBs; first | (refine L_bs0 rfl rfl rfl rfl (fun _ => ?_)) | (refine L_bs1 rfl rfl rfl rfl rfl rfl rfl (fun _ => ?_))) | refine kV ?_ | (apply L_val rfl rfl rfl; (· first | (apply gBin; first | fail | exact v_adds rfl rfl (by first | exact hsum _ | omega) | exact v_lts rfl rfl | exact v_gts rfl rfl | exact v_eqz rfl rfl hbst hbst | exact v_eqz rfl rfl hbs hbt | exact v_eqbs rfl rfl) | fail | exact v_bts (xs := [_]) (sp := []) rfl at_)) | ((fail_if_success (refine L_known rfl ?_)); refine yW (fun h => ?_) fun h => ?_)) | (apply gW; first | refine W_seq ?_ | refine W_region ?_ | refine W_ret ?_ | refine W_skip ?_ | refine W_block ?_ | refine W_exit ?_ | refine W_cond1 rfl ?_ | refine W_cond0 rfl ?_ | refine cW (fun h => ?_) fun h => ?_) | (first | refine seqR.normal ?_ | refine seqR.ret ?_ | refine seqR.exit ?_ | refine blockR.normal ?_ | refine blockR.ret ?_ | refine blockR.here ?_ | refine blockR.exit rfl ?_ | refine loopR.ret ?_ | refine loopR.exit ?_ | refine midA.ret ?_ | refine midA.exit ?_) | fail)
  exact retR.ret _ _ (ret1 rfl rfl) cvt_ rfl
set_option maxHeartbeats 4000000 in
theorem texts_t2 {b3 : Nat} {s t : List Int} {C4 : Cn} {A4 A5 : Ar} {f4 f5 : Int} (hbs : Byt s) (hbt : Byt t) (hls : (s.length : Int) ≤ 19) (hlt : (t.length : Int) ≤ 19) (I4 : TxtI A4 f4) (x40 : TxR A4 0 s) (x41 : TxR A4 1 t) (e5 : A4.putR (s ++ t) 2 = (A5, 0)) (I5 : TxtI A5 f5) (x50 : TxR A5 0 s) (x51 : TxR A5 1 t) (x52 : TxR A5 2 (s ++ t)) (hc4 : A4.ws.length ≤ C4.wc) :
    W Try.prog Try.f12.ntmps w0 (tl Try.f12 10) [(3, .pointer (some ⟨b3, 0, none⟩)), (5, .string (strOfNums s)), (6, .string (strOfNums t)), (9, .int .i64 0), (10, .int .i64 0)]
      ((b3, aObj C4 A4) :: (C4.bw, wObj C4 A4) :: (C4.br, rObj C4 A4) :: [])
      (retR Try.prog Try.f12.ntmps w0 Try.f12 (fun v H' => v = .bool true)) := by
  have hbst := byt_app hbs hbt
  obtain ⟨I6, k6⟩ := I5.colR
  obtain ⟨g1, g2, g3⟩ := I6.told (k6 0 s (by omega) (by omega) x50) (k6 1 t (by omega) (by omega) x51) (k6 2 _ (by omega) (by omega) x52)
  have l4 := I4.ln
  have l5 := I5.ln
  have l6 := I6.ln
  have v4 := I4.vl
  have v5 := I5.vl
  have v6 := I6.vl
  have w6 := I6.wf
  refine W_tl rfl ?_
  repeat' (first | (apply gCall; apply L_call rfl rfl rfl rfl rfl; (· first | exact at_c hI hl om | exact SameRoots_k g3 at_ at_ w6 hc6 om); rintro _ _ ⟨rfl, rfl⟩) | (apply gL; first | refine L_nil ?_ | refine yS ?_ | refine yA fun _ => ?_ | (apply gSt; first | refine sR ?_ | refine sB ?_ | refine s1 ?_ | refine sW ?_ | refine sN ?_) | (apply gBs; first | (refine L_bs0 rfl rfl rfl rfl (fun _ => ?_)) | (refine L_bs1 rfl rfl rfl rfl rfl rfl rfl (fun _ => ?_))) | refine kV ?_ | (apply L_val rfl rfl rfl; (· first | (apply gBin; first | fail | exact v_adds rfl rfl (by first | exact hsum _ | omega) | exact v_lts rfl rfl | exact v_gts rfl rfl | exact v_eqz rfl rfl hbst hbst | exact v_eqz rfl rfl hbs hbt | exact v_eqbs rfl rfl) | fail | exact v_bts (xs := [_]) (sp := []) rfl at_)) | ((fail_if_success (refine L_known rfl ?_)); refine yW (fun h => ?_) fun h => ?_)) | (apply gW; first | refine W_seq ?_ | refine W_region ?_ | refine W_ret ?_ | refine W_skip ?_ | refine W_block ?_ | refine W_exit ?_ | refine W_cond1 rfl ?_ | refine W_cond0 rfl ?_ | refine cW (fun h => ?_) fun h => ?_) | (first | refine seqR.normal ?_ | refine seqR.ret ?_ | refine seqR.exit ?_ | refine blockR.normal ?_ | refine blockR.ret ?_ | refine blockR.here ?_ | refine blockR.exit rfl ?_ | refine loopR.ret ?_ | refine loopR.exit ?_ | refine midA.ret ?_ | refine midA.exit ?_) | fail)
  apply L_call rfl rfl rfl rfl rfl
  · exact JoinText_k e5 ⟨decide_eq_true (by omega), x40.1⟩ ⟨decide_eq_true (by omega), x41.1⟩ x40.2 x41.2 hbst (by omega) at_ at_ I4.wf hc4 (by omega) (by omega) I4.ok (by omega)
  rintro _ _ ⟨C5, rfl, hc5, rfl⟩
  repeat' (first | (apply gCall; apply L_call rfl rfl rfl rfl rfl; (· first | exact at_c hI hl om | exact SameRoots_k g3 at_ at_ w6 hc6 om); rintro _ _ ⟨rfl, rfl⟩) | (apply gL; first | refine L_nil ?_ | refine yS ?_ | refine yA fun _ => ?_ | (apply gSt; first | refine sR ?_ | refine sB ?_ | refine s1 ?_ | refine sW ?_ | refine sN ?_) | (apply gBs; first | (refine L_bs0 rfl rfl rfl rfl (fun _ => ?_)) | (refine L_bs1 rfl rfl rfl rfl rfl rfl rfl (fun _ => ?_))) | refine kV ?_ | (apply L_val rfl rfl rfl; (· first | (apply gBin; first | fail | exact v_adds rfl rfl (by first | exact hsum _ | omega) | exact v_lts rfl rfl | exact v_gts rfl rfl | exact v_eqz rfl rfl hbst hbst | exact v_eqz rfl rfl hbs hbt | exact v_eqbs rfl rfl) | fail | exact v_bts (xs := [_]) (sp := []) rfl at_)) | ((fail_if_success (refine L_known rfl ?_)); refine yW (fun h => ?_) fun h => ?_)) | (apply gW; first | refine W_seq ?_ | refine W_region ?_ | refine W_ret ?_ | refine W_skip ?_ | refine W_block ?_ | refine W_exit ?_ | refine W_cond1 rfl ?_ | refine W_cond0 rfl ?_ | refine cW (fun h => ?_) fun h => ?_) | (first | refine seqR.normal ?_ | refine seqR.ret ?_ | refine seqR.exit ?_ | refine blockR.normal ?_ | refine blockR.ret ?_ | refine blockR.here ?_ | refine blockR.exit rfl ?_ | refine loopR.ret ?_ | refine loopR.exit ?_ | refine midA.ret ?_ | refine midA.exit ?_) | fail)
  apply L_call rfl rfl rfl rfl rfl
  · exact (implCollect_c at_ at_ I5.wf hc5 (by omega) (by omega)).cres (by omega) (by omega)
  rintro _ _ ⟨C6, rfl, hc6, rfl⟩
  repeat' (first | (apply gCall; apply L_call rfl rfl rfl rfl rfl; (· first | exact at_c hI hl om | exact SameRoots_k g3 at_ at_ w6 hc6 om); rintro _ _ ⟨rfl, rfl⟩) | (apply gL; first | refine L_nil ?_ | refine yS ?_ | refine yA fun _ => ?_ | (apply gSt; first | refine sR ?_ | refine sB ?_ | refine s1 ?_ | refine sW ?_ | refine sN ?_) | (apply gBs; first | (refine L_bs0 rfl rfl rfl rfl (fun _ => ?_)) | (refine L_bs1 rfl rfl rfl rfl rfl rfl rfl (fun _ => ?_))) | refine kV ?_ | (apply L_val rfl rfl rfl; (· first | (apply gBin; first | fail | exact v_adds rfl rfl (by first | exact hsum _ | omega) | exact v_lts rfl rfl | exact v_gts rfl rfl | exact v_eqz rfl rfl hbst hbst | exact v_eqz rfl rfl hbs hbt | exact v_eqbs rfl rfl) | fail | exact v_bts (xs := [_]) (sp := []) rfl at_)) | ((fail_if_success (refine L_known rfl ?_)); refine yW (fun h => ?_) fun h => ?_)) | (apply gW; first | refine W_seq ?_ | refine W_region ?_ | refine W_ret ?_ | refine W_skip ?_ | refine W_block ?_ | refine W_exit ?_ | refine W_cond1 rfl ?_ | refine W_cond0 rfl ?_ | refine cW (fun h => ?_) fun h => ?_) | (first | refine seqR.normal ?_ | refine seqR.ret ?_ | refine seqR.exit ?_ | refine blockR.normal ?_ | refine blockR.ret ?_ | refine blockR.here ?_ | refine blockR.exit rfl ?_ | refine loopR.ret ?_ | refine loopR.exit ?_ | refine midA.ret ?_ | refine midA.exit ?_) | fail)
  apply L_call rfl rfl rfl rfl rfl
  · exact TextOf_k g1 at_ at_ w6 hc6 (by omega)
  rintro _ _ ⟨rfl, rfl⟩
  repeat' (first | (apply gCall; apply L_call rfl rfl rfl rfl rfl; (· first | exact at_c hI hl om | exact SameRoots_k g3 at_ at_ w6 hc6 om); rintro _ _ ⟨rfl, rfl⟩) | (apply gL; first | refine L_nil ?_ | refine yS ?_ | refine yA fun _ => ?_ | (apply gSt; first | refine sR ?_ | refine sB ?_ | refine s1 ?_ | refine sW ?_ | refine sN ?_) | (apply gBs; first | (refine L_bs0 rfl rfl rfl rfl (fun _ => ?_)) | (refine L_bs1 rfl rfl rfl rfl rfl rfl rfl (fun _ => ?_))) | refine kV ?_ | (apply L_val rfl rfl rfl; (· first | (apply gBin; first | fail | exact v_adds rfl rfl (by first | exact hsum _ | omega) | exact v_lts rfl rfl | exact v_gts rfl rfl | exact v_eqz rfl rfl hbst hbst | exact v_eqz rfl rfl hbs hbt | exact v_eqbs rfl rfl) | fail | exact v_bts (xs := [_]) (sp := []) rfl at_)) | ((fail_if_success (refine L_known rfl ?_)); refine yW (fun h => ?_) fun h => ?_)) | (apply gW; first | refine W_seq ?_ | refine W_region ?_ | refine W_ret ?_ | refine W_skip ?_ | refine W_block ?_ | refine W_exit ?_ | refine W_cond1 rfl ?_ | refine W_cond0 rfl ?_ | refine cW (fun h => ?_) fun h => ?_) | (first | refine seqR.normal ?_ | refine seqR.ret ?_ | refine seqR.exit ?_ | refine blockR.normal ?_ | refine blockR.ret ?_ | refine blockR.here ?_ | refine blockR.exit rfl ?_ | refine loopR.ret ?_ | refine loopR.exit ?_ | refine midA.ret ?_ | refine midA.exit ?_) | fail)
  apply L_call rfl rfl rfl rfl rfl
  · exact Compare_k g2 at_ at_ w6 hc6 (by omega)
  rintro _ _ ⟨rfl, rfl⟩
  repeat' ((fail_if_success apply gAt 22); (first | (apply gCall; apply L_call rfl rfl rfl rfl rfl; (· first | exact at_c hI hl om | exact SameRoots_k g3 at_ at_ w6 hc6 om); rintro _ _ ⟨rfl, rfl⟩) | (apply gL; first | refine L_nil ?_ | refine yS ?_ | refine yA fun _ => ?_ | (apply gSt; first | refine sR ?_ | refine sB ?_ | refine s1 ?_ | refine sW ?_ | refine sN ?_) | (apply gBs; first | (refine L_bs0 rfl rfl rfl rfl (fun _ => ?_)) | (refine L_bs1 rfl rfl rfl rfl rfl rfl rfl (fun _ => ?_))) | refine kV ?_ | (apply L_val rfl rfl rfl; (· first | (apply gBin; first | fail | exact v_adds rfl rfl (by first | exact hsum _ | omega) | exact v_lts rfl rfl | exact v_gts rfl rfl | exact v_eqz rfl rfl hbst hbst | exact v_eqz rfl rfl hbs hbt | exact v_eqbs rfl rfl) | fail | exact v_bts (xs := [_]) (sp := []) rfl at_)) | ((fail_if_success (refine L_known rfl ?_)); refine yW (fun h => ?_) fun h => ?_)) | (apply gW; first | refine W_seq ?_ | refine W_region ?_ | refine W_ret ?_ | refine W_skip ?_ | refine W_block ?_ | refine W_exit ?_ | refine W_cond1 rfl ?_ | refine W_cond0 rfl ?_ | refine cW (fun h => ?_) fun h => ?_) | (first | refine seqR.normal ?_ | refine seqR.ret ?_ | refine seqR.exit ?_ | refine blockR.normal ?_ | refine blockR.ret ?_ | refine blockR.here ?_ | refine blockR.exit rfl ?_ | refine loopR.ret ?_ | refine loopR.exit ?_ | refine midA.ret ?_ | refine midA.exit ?_) | fail))
  exact W_sub (F := [(3, .pointer (some ⟨b3, 0, none⟩)), (5, .string (strOfNums s)), (6, .string (strOfNums t)), (9, .int .i64 0), (10, .int .i64 0), (11, .int .i64 0), (12, .string (strOfNums (s ++ t))), (14, .int .i64 (cmpZ s t)), (15, .bool true), (16, .int .i64 0)]) sub_ cvt_ (texts_t3 hbs hbt hbst hls hlt g3 w6 hc6 v6)
set_option maxHeartbeats 4000000 in
theorem texts_t1 {a : Option Addr} {c b3 : Nat} {s t : List Int} {C0 : Cn} (hI : InB w0 a c xs) (hl : (xs.length : Int) ≤ 1048576) (hbs : Byt s) (hbt : Byt t) (hls : (s.length : Int) ≤ 19) (hlt : (t.length : Int) ≤ 19) (hc0 : (fresh 400 4).ws.length ≤ C0.wc) :
    W Try.prog Try.f12.ntmps w0 (tl Try.f12 6) [(0, .slice a xs.length c), (3, .pointer (some ⟨b3, 0, none⟩)), (5, .string (strOfNums s)), (6, .string (strOfNums t))]
      ((b3, aObj C0 (fresh 400 4)) :: (C0.bw, wObj C0 (fresh 400 4)) :: (C0.br, rObj C0 (fresh 400 4)) :: [])
      (retR Try.prog Try.f12.ntmps w0 Try.f12 (fun v H' => v = .bool true)) := by
  have hbst := byt_app hbs hbt
  have h0I := TxtI.start
  have hlst : ((s ++ t).length : Int) = (s.length : Int) + (t.length : Int) := by rw [List.length_append]; omega
  obtain ⟨A1, e1, I1, x10, -⟩ := h0I.put (s := 0) (byt_bys hbs) (by omega) (by omega) (by omega)
  obtain ⟨I2, k2⟩ := I1.flipR
  have x20 := k2 0 s (by omega) (by omega) x10
  obtain ⟨A3, e3, I3, x31, k3⟩ := I2.put (s := 1) (byt_bys hbt) (by omega) (by omega) (by omega)
  have x30 := k3 0 s (by omega) (by omega) (by omega) x20
  have hn60 := atR_r hI 60
  obtain ⟨I4, k4⟩ := I3.stepR (atR xs 60 % 3)
  have x40 := k4 0 s (by omega) (by omega) x30
  have x41 := k4 1 t (by omega) (by omega) x31
  obtain ⟨A5, e5, I5, x52, k5⟩ := I4.put (s := 2) (byt_bys hbst) (by omega) (by omega) (by omega)
  have x50 := k5 0 s (by omega) (by omega) (by omega) x40
  have x51 := k5 1 t (by omega) (by omega) (by omega) x41
  have l0 := h0I.ln
  have l1 := I1.ln
  have l2 := I2.ln
  have l3 := I3.ln
  have l4 := I4.ln
  have l5 := I5.ln
  have v0 := h0I.vl
  have v1 := I1.vl
  have v2 := I2.vl
  have v3 := I3.vl
  have v4 := I4.vl
  have v5 := I5.vl
  have ok3 := I3.ok
  have w3 := I3.wf
  refine W_tl rfl ?_
  repeat' (first | (apply gCall; apply L_call rfl rfl rfl rfl rfl; (· first | exact at_c hI hl om | exact SameRoots_k g3 at_ at_ w6 hc6 om); rintro _ _ ⟨rfl, rfl⟩) | (apply gL; first | refine L_nil ?_ | refine yS ?_ | refine yA fun _ => ?_ | (apply gSt; first | refine sR ?_ | refine sB ?_ | refine s1 ?_ | refine sW ?_ | refine sN ?_) | (apply gBs; first | (refine L_bs0 rfl rfl rfl rfl (fun _ => ?_)) | (refine L_bs1 rfl rfl rfl rfl rfl rfl rfl (fun _ => ?_))) | refine kV ?_ | (apply L_val rfl rfl rfl; (· first | (apply gBin; first | fail | exact v_adds rfl rfl (by first | exact hsum _ | omega) | exact v_lts rfl rfl | exact v_gts rfl rfl | exact v_eqz rfl rfl hbst hbst | exact v_eqz rfl rfl hbs hbt | exact v_eqbs rfl rfl) | fail | exact v_bts (xs := [_]) (sp := []) rfl at_)) | ((fail_if_success (refine L_known rfl ?_)); refine yW (fun h => ?_) fun h => ?_)) | (apply gW; first | refine W_seq ?_ | refine W_region ?_ | refine W_ret ?_ | refine W_skip ?_ | refine W_block ?_ | refine W_exit ?_ | refine W_cond1 rfl ?_ | refine W_cond0 rfl ?_ | refine cW (fun h => ?_) fun h => ?_) | (first | refine seqR.normal ?_ | refine seqR.ret ?_ | refine seqR.exit ?_ | refine blockR.normal ?_ | refine blockR.ret ?_ | refine blockR.here ?_ | refine blockR.exit rfl ?_ | refine loopR.ret ?_ | refine loopR.exit ?_ | refine midA.ret ?_ | refine midA.exit ?_) | fail)
  apply L_call rfl rfl rfl rfl rfl
  · exact PutText_k e1 hbs (by omega) at_ at_ h0I.wf hc0 (by omega) (by omega) h0I.ok (by omega)
  rintro _ _ ⟨C1, rfl, hc1, rfl⟩
  repeat' (first | (apply gCall; apply L_call rfl rfl rfl rfl rfl; (· first | exact at_c hI hl om | exact SameRoots_k g3 at_ at_ w6 hc6 om); rintro _ _ ⟨rfl, rfl⟩) | (apply gL; first | refine L_nil ?_ | refine yS ?_ | refine yA fun _ => ?_ | (apply gSt; first | refine sR ?_ | refine sB ?_ | refine s1 ?_ | refine sW ?_ | refine sN ?_) | (apply gBs; first | (refine L_bs0 rfl rfl rfl rfl (fun _ => ?_)) | (refine L_bs1 rfl rfl rfl rfl rfl rfl rfl (fun _ => ?_))) | refine kV ?_ | (apply L_val rfl rfl rfl; (· first | (apply gBin; first | fail | exact v_adds rfl rfl (by first | exact hsum _ | omega) | exact v_lts rfl rfl | exact v_gts rfl rfl | exact v_eqz rfl rfl hbst hbst | exact v_eqz rfl rfl hbs hbt | exact v_eqbs rfl rfl) | fail | exact v_bts (xs := [_]) (sp := []) rfl at_)) | ((fail_if_success (refine L_known rfl ?_)); refine yW (fun h => ?_) fun h => ?_)) | (apply gW; first | refine W_seq ?_ | refine W_region ?_ | refine W_ret ?_ | refine W_skip ?_ | refine W_block ?_ | refine W_exit ?_ | refine W_cond1 rfl ?_ | refine W_cond0 rfl ?_ | refine cW (fun h => ?_) fun h => ?_) | (first | refine seqR.normal ?_ | refine seqR.ret ?_ | refine seqR.exit ?_ | refine blockR.normal ?_ | refine blockR.ret ?_ | refine blockR.here ?_ | refine blockR.exit rfl ?_ | refine loopR.ret ?_ | refine loopR.exit ?_ | refine midA.ret ?_ | refine midA.exit ?_) | fail)
  apply L_call rfl rfl rfl rfl rfl
  · exact (implFlip_c at_ at_ I1.wf hc1 (by omega) (by omega)).cres (by omega) (by omega)
  rintro _ _ ⟨C2, rfl, hc2, rfl⟩
  repeat' (first | (apply gCall; apply L_call rfl rfl rfl rfl rfl; (· first | exact at_c hI hl om | exact SameRoots_k g3 at_ at_ w6 hc6 om); rintro _ _ ⟨rfl, rfl⟩) | (apply gL; first | refine L_nil ?_ | refine yS ?_ | refine yA fun _ => ?_ | (apply gSt; first | refine sR ?_ | refine sB ?_ | refine s1 ?_ | refine sW ?_ | refine sN ?_) | (apply gBs; first | (refine L_bs0 rfl rfl rfl rfl (fun _ => ?_)) | (refine L_bs1 rfl rfl rfl rfl rfl rfl rfl (fun _ => ?_))) | refine kV ?_ | (apply L_val rfl rfl rfl; (· first | (apply gBin; first | fail | exact v_adds rfl rfl (by first | exact hsum _ | omega) | exact v_lts rfl rfl | exact v_gts rfl rfl | exact v_eqz rfl rfl hbst hbst | exact v_eqz rfl rfl hbs hbt | exact v_eqbs rfl rfl) | fail | exact v_bts (xs := [_]) (sp := []) rfl at_)) | ((fail_if_success (refine L_known rfl ?_)); refine yW (fun h => ?_) fun h => ?_)) | (apply gW; first | refine W_seq ?_ | refine W_region ?_ | refine W_ret ?_ | refine W_skip ?_ | refine W_block ?_ | refine W_exit ?_ | refine W_cond1 rfl ?_ | refine W_cond0 rfl ?_ | refine cW (fun h => ?_) fun h => ?_) | (first | refine seqR.normal ?_ | refine seqR.ret ?_ | refine seqR.exit ?_ | refine blockR.normal ?_ | refine blockR.ret ?_ | refine blockR.here ?_ | refine blockR.exit rfl ?_ | refine loopR.ret ?_ | refine loopR.exit ?_ | refine midA.ret ?_ | refine midA.exit ?_) | fail)
  apply L_call rfl rfl rfl rfl rfl
  · exact PutText_k e3 hbt (by omega) at_ at_ I2.wf hc2 (by omega) (by omega) I2.ok (by omega)
  rintro _ _ ⟨C3, rfl, hc3, rfl⟩
  repeat' ((fail_if_success apply gAtR 16); (first | (apply gCall; apply L_call rfl rfl rfl rfl rfl; (· first | exact at_c hI hl om | exact SameRoots_k g3 at_ at_ w6 hc6 om); rintro _ _ ⟨rfl, rfl⟩) | (apply gL; first | refine L_nil ?_ | refine yS ?_ | refine yA fun _ => ?_ | (apply gSt; first | refine sR ?_ | refine sB ?_ | refine s1 ?_ | refine sW ?_ | refine sN ?_) | (apply gBs; first | (refine L_bs0 rfl rfl rfl rfl (fun _ => ?_)) | (refine L_bs1 rfl rfl rfl rfl rfl rfl rfl (fun _ => ?_))) | refine kV ?_ | (apply L_val rfl rfl rfl; (· first | (apply gBin; first | fail | exact v_adds rfl rfl (by first | exact hsum _ | omega) | exact v_lts rfl rfl | exact v_gts rfl rfl | exact v_eqz rfl rfl hbst hbst | exact v_eqz rfl rfl hbs hbt | exact v_eqbs rfl rfl) | fail | exact v_bts (xs := [_]) (sp := []) rfl at_)) | ((fail_if_success (refine L_known rfl ?_)); refine yW (fun h => ?_) fun h => ?_)) | (apply gW; first | refine W_seq ?_ | refine W_region ?_ | refine W_ret ?_ | refine W_skip ?_ | refine W_block ?_ | refine W_exit ?_ | refine W_cond1 rfl ?_ | refine W_cond0 rfl ?_ | refine cW (fun h => ?_) fun h => ?_) | (first | refine seqR.normal ?_ | refine seqR.ret ?_ | refine seqR.exit ?_ | refine blockR.normal ?_ | refine blockR.ret ?_ | refine blockR.here ?_ | refine blockR.exit rfl ?_ | refine loopR.ret ?_ | refine loopR.exit ?_ | refine midA.ret ?_ | refine midA.exit ?_) | fail))
  refine W_midA (α := Cn) (fun y => [(3, .pointer (some ⟨b3, 0, none⟩)), (5, .string (strOfNums s)), (6, .string (strOfNums t)), (9, .int .i64 0), (10, .int .i64 0)]) (fun y => (b3, aObj y (A3.stepR (atR xs 60 % 3)).1) :: (y.bw, wObj y (A3.stepR (atR xs 60 % 3)).1) :: (y.br, rObj y (A3.stepR (atR xs 60 % 3)).1) :: []) (fun y => (A3.stepR (atR xs 60 % 3)).1.ws.length ≤ y.wc) ?_ ?_
  · apply W_regionA (D := []) (by kernel_rfl)
    refine kAt 1 ?_
    refine A_two (i := 0) (j := 2) (by kernel_rfl) cvt_ rfl rfl ?_ ?_
    · refine O_of_L fun S hS => ?_
      first | (apply gCall; apply L_call rfl rfl rfl rfl rfl; (· first | exact at_c hI hl om | exact SameRoots_k g3 at_ at_ w6 hc6 om); rintro _ _ ⟨rfl, rfl⟩) | (apply gL; first | refine L_nil ?_ | refine yS ?_ | refine yA fun _ => ?_ | (apply gSt; first | refine sR ?_ | refine sB ?_ | refine s1 ?_ | refine sW ?_ | refine sN ?_) | (apply gBs; first | (refine L_bs0 rfl rfl rfl rfl (fun _ => ?_)) | (refine L_bs1 rfl rfl rfl rfl rfl rfl rfl (fun _ => ?_))) | refine kV ?_ | (apply L_val rfl rfl rfl; (· first | (apply gBin; first | fail | exact v_adds rfl rfl (by first | exact hsum _ | omega) | exact v_lts rfl rfl | exact v_gts rfl rfl | exact v_eqz rfl rfl hbst hbst | exact v_eqz rfl rfl hbs hbt | exact v_eqbs rfl rfl) | fail | exact v_bts (xs := [_]) (sp := []) rfl at_)) | ((fail_if_success (refine L_known rfl ?_)); refine yW (fun h => ?_) fun h => ?_))
      refine L_nil (hS _ _ ?_)
      clear hS
      refine A_one (i := 2) (by kernel_rfl) cvt_ rfl ?_
      refine O_of_L fun S hS => ?_
      first | (apply gCall; apply L_call rfl rfl rfl rfl rfl; (· first | exact at_c hI hl om | exact SameRoots_k g3 at_ at_ w6 hc6 om); rintro _ _ ⟨rfl, rfl⟩) | (apply gL; first | refine L_nil ?_ | refine yS ?_ | refine yA fun _ => ?_ | (apply gSt; first | refine sR ?_ | refine sB ?_ | refine s1 ?_ | refine sW ?_ | refine sN ?_) | (apply gBs; first | (refine L_bs0 rfl rfl rfl rfl (fun _ => ?_)) | (refine L_bs1 rfl rfl rfl rfl rfl rfl rfl (fun _ => ?_))) | refine kV ?_ | (apply L_val rfl rfl rfl; (· first | (apply gBin; first | fail | exact v_adds rfl rfl (by first | exact hsum _ | omega) | exact v_lts rfl rfl | exact v_gts rfl rfl | exact v_eqz rfl rfl hbst hbst | exact v_eqz rfl rfl hbs hbt | exact v_eqbs rfl rfl) | fail | exact v_bts (xs := [_]) (sp := []) rfl at_)) | ((fail_if_success (refine L_known rfl ?_)); refine yW (fun h => ?_) fun h => ?_))
      refine L_nil (hS _ _ ?_)
      clear hS
      refine kAt 3 ?_
      refine A_one (i := 4) (by kernel_rfl) cvt_ rfl (O_of_L fun S hS => ?_)
      apply L_call rfl rfl rfl rfl rfl
      · exact CopyStepA_c at_ at_ w3 hc3 (by omega) (by omega) ok3 (by omega) (by omega)
      rintro _ _ ⟨C4, rfl, hc4, rfl⟩
      refine L_nil (hS _ _ ?_)
      clear hS
      refine kAt 5 ?_
      refine kAt 6 ?_
      refine kAt 7 ?_
      refine A_one (i := 8) (by kernel_rfl) cvt_ rfl (O_of_L fun S hS => ?_)
      first | (apply gCall; apply L_call rfl rfl rfl rfl rfl; (· first | exact at_c hI hl om | exact SameRoots_k g3 at_ at_ w6 hc6 om); rintro _ _ ⟨rfl, rfl⟩) | (apply gL; first | refine L_nil ?_ | refine yS ?_ | refine yA fun _ => ?_ | (apply gSt; first | refine sR ?_ | refine sB ?_ | refine s1 ?_ | refine sW ?_ | refine sN ?_) | (apply gBs; first | (refine L_bs0 rfl rfl rfl rfl (fun _ => ?_)) | (refine L_bs1 rfl rfl rfl rfl rfl rfl rfl (fun _ => ?_))) | refine kV ?_ | (apply L_val rfl rfl rfl; (· first | (apply gBin; first | fail | exact v_adds rfl rfl (by first | exact hsum _ | omega) | exact v_lts rfl rfl | exact v_gts rfl rfl | exact v_eqz rfl rfl hbst hbst | exact v_eqz rfl rfl hbs hbt | exact v_eqbs rfl rfl) | fail | exact v_bts (xs := [_]) (sp := []) rfl at_)) | ((fail_if_success (refine L_known rfl ?_)); refine yW (fun h => ?_) fun h => ?_))
      refine L_nil (hS _ _ ?_)
      clear hS
      refine A_nil (by kernel_rfl) cvt_ ?_
      apply midA.mk C4
      · exact sub_
      · exact cvt_
      · exact hc4
    · refine O_of_L fun S hS => ?_
      first | (apply gCall; apply L_call rfl rfl rfl rfl rfl; (· first | exact at_c hI hl om | exact SameRoots_k g3 at_ at_ w6 hc6 om); rintro _ _ ⟨rfl, rfl⟩) | (apply gL; first | refine L_nil ?_ | refine yS ?_ | refine yA fun _ => ?_ | (apply gSt; first | refine sR ?_ | refine sB ?_ | refine s1 ?_ | refine sW ?_ | refine sN ?_) | (apply gBs; first | (refine L_bs0 rfl rfl rfl rfl (fun _ => ?_)) | (refine L_bs1 rfl rfl rfl rfl rfl rfl rfl (fun _ => ?_))) | refine kV ?_ | (apply L_val rfl rfl rfl; (· first | (apply gBin; first | fail | exact v_adds rfl rfl (by first | exact hsum _ | omega) | exact v_lts rfl rfl | exact v_gts rfl rfl | exact v_eqz rfl rfl hbst hbst | exact v_eqz rfl rfl hbs hbt | exact v_eqbs rfl rfl) | fail | exact v_bts (xs := [_]) (sp := []) rfl at_)) | ((fail_if_success (refine L_known rfl ?_)); refine yW (fun h => ?_) fun h => ?_))
      refine L_nil (hS _ _ ?_)
      clear hS
      refine kAt 3 ?_
      refine A_one (i := 0) (by kernel_rfl) cvt_ rfl ?_
      refine O_of_L fun S hS => ?_
      first | (apply gCall; apply L_call rfl rfl rfl rfl rfl; (· first | exact at_c hI hl om | exact SameRoots_k g3 at_ at_ w6 hc6 om); rintro _ _ ⟨rfl, rfl⟩) | (apply gL; first | refine L_nil ?_ | refine yS ?_ | refine yA fun _ => ?_ | (apply gSt; first | refine sR ?_ | refine sB ?_ | refine s1 ?_ | refine sW ?_ | refine sN ?_) | (apply gBs; first | (refine L_bs0 rfl rfl rfl rfl (fun _ => ?_)) | (refine L_bs1 rfl rfl rfl rfl rfl rfl rfl (fun _ => ?_))) | refine kV ?_ | (apply L_val rfl rfl rfl; (· first | (apply gBin; first | fail | exact v_adds rfl rfl (by first | exact hsum _ | omega) | exact v_lts rfl rfl | exact v_gts rfl rfl | exact v_eqz rfl rfl hbst hbst | exact v_eqz rfl rfl hbs hbt | exact v_eqbs rfl rfl) | fail | exact v_bts (xs := [_]) (sp := []) rfl at_)) | ((fail_if_success (refine L_known rfl ?_)); refine yW (fun h => ?_) fun h => ?_))
      refine L_nil (hS _ _ ?_)
      clear hS
      refine A_one (i := 4) (by kernel_rfl) cvt_ rfl (O_of_L fun S hS => ?_)
      apply L_call rfl rfl rfl rfl rfl
      · exact CopyStepA_c at_ at_ w3 hc3 (by omega) (by omega) ok3 (by omega) (by omega)
      rintro _ _ ⟨C4, rfl, hc4, rfl⟩
      refine L_nil (hS _ _ ?_)
      clear hS
      refine kAt 5 ?_
      refine kAt 6 ?_
      refine kAt 7 ?_
      refine A_one (i := 8) (by kernel_rfl) cvt_ rfl (O_of_L fun S hS => ?_)
      first | (apply gCall; apply L_call rfl rfl rfl rfl rfl; (· first | exact at_c hI hl om | exact SameRoots_k g3 at_ at_ w6 hc6 om); rintro _ _ ⟨rfl, rfl⟩) | (apply gL; first | refine L_nil ?_ | refine yS ?_ | refine yA fun _ => ?_ | (apply gSt; first | refine sR ?_ | refine sB ?_ | refine s1 ?_ | refine sW ?_ | refine sN ?_) | (apply gBs; first | (refine L_bs0 rfl rfl rfl rfl (fun _ => ?_)) | (refine L_bs1 rfl rfl rfl rfl rfl rfl rfl (fun _ => ?_))) | refine kV ?_ | (apply L_val rfl rfl rfl; (· first | (apply gBin; first | fail | exact v_adds rfl rfl (by first | exact hsum _ | omega) | exact v_lts rfl rfl | exact v_gts rfl rfl | exact v_eqz rfl rfl hbst hbst | exact v_eqz rfl rfl hbs hbt | exact v_eqbs rfl rfl) | fail | exact v_bts (xs := [_]) (sp := []) rfl at_)) | ((fail_if_success (refine L_known rfl ?_)); refine yW (fun h => ?_) fun h => ?_))
      refine L_nil (hS _ _ ?_)
      clear hS
      refine A_nil (by kernel_rfl) cvt_ ?_
      apply midA.mk C4
      · exact sub_
      · exact cvt_
      · exact hc4
  rintro C4 hc4
  exact W_sub (F := [(3, .pointer (some ⟨b3, 0, none⟩)), (5, .string (strOfNums s)), (6, .string (strOfNums t)), (9, .int .i64 0), (10, .int .i64 0)]) sub_ cvt_ (texts_t2 hbs hbt hls hlt I4 x40 x41 e5 I5 x50 x51 x52 hc4)
set_option maxHeartbeats 8000000 in
theorem lawFnTexts_c {a : Option Addr} {c : Nat} {xs : List Int} (hI : InB w0 a c xs) :
    Fn Try.prog w0 12 #[.slice a xs.length c] [] fun v H' => v = .bool true := by
  refine enter1 Try.func12 rfl rfl Try.ntmps12 rfl ?_
  repeat' (first | (apply gCall; apply L_call rfl rfl rfl rfl rfl; (· first | exact at_c hI hl om | exact SameRoots_k g3 at_ at_ w6 hc6 om); rintro _ _ ⟨rfl, rfl⟩) | (apply gL; first | refine L_nil ?_ | refine yS ?_ | refine yA fun _ => ?_ | (apply gSt; first | refine sR ?_ | refine sB ?_ | refine s1 ?_ | refine sW ?_ | refine sN ?_) | (apply gBs; first | (refine L_bs0 rfl rfl rfl rfl (fun _ => ?_)) | (refine L_bs1 rfl rfl rfl rfl rfl rfl rfl (fun _ => ?_))) | refine kV ?_ | (apply L_val rfl rfl rfl; (· first | (apply gBin; first | fail | exact v_adds rfl rfl (by first | exact hsum _ | omega) | exact v_lts rfl rfl | exact v_gts rfl rfl | exact v_eqz rfl rfl hbst hbst | exact v_eqz rfl rfl hbs hbt | exact v_eqbs rfl rfl) | fail | exact v_bts (xs := [_]) (sp := []) rfl at_)) | ((fail_if_success (refine L_known rfl ?_)); refine yW (fun h => ?_) fun h => ?_)) | (apply gW; first | refine W_seq ?_ | refine W_region ?_ | refine W_ret ?_ | refine W_skip ?_ | refine W_block ?_ | refine W_exit ?_ | refine W_cond1 rfl ?_ | refine W_cond0 rfl ?_ | refine cW (fun h => ?_) fun h => ?_) | (first | refine seqR.normal ?_ | refine seqR.ret ?_ | refine seqR.exit ?_ | refine blockR.normal ?_ | refine blockR.ret ?_ | refine blockR.here ?_ | refine blockR.exit rfl ?_ | refine loopR.ret ?_ | refine loopR.exit ?_ | refine midA.ret ?_ | refine midA.exit ?_) | fail)
  apply L_call rfl rfl rfl rfl rfl
  · exact big_c
  rintro _ _ ⟨rfl, rfl⟩
  repeat' ((fail_if_success apply gAtR 3); (first | (apply gCall; apply L_call rfl rfl rfl rfl rfl; (· first | exact at_c hI hl om | exact SameRoots_k g3 at_ at_ w6 hc6 om); rintro _ _ ⟨rfl, rfl⟩) | (apply gL; first | refine L_nil ?_ | refine yS ?_ | refine yA fun _ => ?_ | (apply gSt; first | refine sR ?_ | refine sB ?_ | refine s1 ?_ | refine sW ?_ | refine sN ?_) | (apply gBs; first | (refine L_bs0 rfl rfl rfl rfl (fun _ => ?_)) | (refine L_bs1 rfl rfl rfl rfl rfl rfl rfl (fun _ => ?_))) | refine kV ?_ | (apply L_val rfl rfl rfl; (· first | (apply gBin; first | fail | exact v_adds rfl rfl (by first | exact hsum _ | omega) | exact v_lts rfl rfl | exact v_gts rfl rfl | exact v_eqz rfl rfl hbst hbst | exact v_eqz rfl rfl hbs hbt | exact v_eqbs rfl rfl) | fail | exact v_bts (xs := [_]) (sp := []) rfl at_)) | ((fail_if_success (refine L_known rfl ?_)); refine yW (fun h => ?_) fun h => ?_)) | (apply gW; first | refine W_seq ?_ | refine W_region ?_ | refine W_ret ?_ | refine W_skip ?_ | refine W_block ?_ | refine W_exit ?_ | refine W_cond1 rfl ?_ | refine W_cond0 rfl ?_ | refine cW (fun h => ?_) fun h => ?_) | (first | refine seqR.normal ?_ | refine seqR.ret ?_ | refine seqR.exit ?_ | refine blockR.normal ?_ | refine blockR.ret ?_ | refine blockR.here ?_ | refine blockR.exit rfl ?_ | refine loopR.ret ?_ | refine loopR.exit ?_ | refine midA.ret ?_ | refine midA.exit ?_) | fail))
  · exact retR.ret _ _ (ret1 rfl rfl) cvt_ rfl
  have hl : (xs.length : Int) ≤ 1048576 := by omega
  have h0I := TxtI.start
  repeat' (first | (apply gCall; apply L_call rfl rfl rfl rfl rfl; (· first | exact at_c hI hl om | exact SameRoots_k g3 at_ at_ w6 hc6 om); rintro _ _ ⟨rfl, rfl⟩) | (apply gL; first | refine L_nil ?_ | refine yS ?_ | refine yA fun _ => ?_ | (apply gSt; first | refine sR ?_ | refine sB ?_ | refine s1 ?_ | refine sW ?_ | refine sN ?_) | (apply gBs; first | (refine L_bs0 rfl rfl rfl rfl (fun _ => ?_)) | (refine L_bs1 rfl rfl rfl rfl rfl rfl rfl (fun _ => ?_))) | refine kV ?_ | (apply L_val rfl rfl rfl; (· first | (apply gBin; first | fail | exact v_adds rfl rfl (by first | exact hsum _ | omega) | exact v_lts rfl rfl | exact v_gts rfl rfl | exact v_eqz rfl rfl hbst hbst | exact v_eqz rfl rfl hbs hbt | exact v_eqbs rfl rfl) | fail | exact v_bts (xs := [_]) (sp := []) rfl at_)) | ((fail_if_success (refine L_known rfl ?_)); refine yW (fun h => ?_) fun h => ?_)) | (apply gW; first | refine W_seq ?_ | refine W_region ?_ | refine W_ret ?_ | refine W_skip ?_ | refine W_block ?_ | refine W_exit ?_ | refine W_cond1 rfl ?_ | refine W_cond0 rfl ?_ | refine cW (fun h => ?_) fun h => ?_) | (first | refine seqR.normal ?_ | refine seqR.ret ?_ | refine seqR.exit ?_ | refine blockR.normal ?_ | refine blockR.ret ?_ | refine blockR.here ?_ | refine blockR.exit rfl ?_ | refine loopR.ret ?_ | refine loopR.exit ?_ | refine midA.ret ?_ | refine midA.exit ?_) | fail)
  apply L_call rfl rfl rfl rfl rfl
  · exact NewArena_c (k := 800) (j := 4) rfl rfl (by omega) (by omega)
  rintro _ _ ⟨C0, rfl, hc0, rfl⟩
  repeat' (first | exact absurd rfl h | ((fail_if_success apply gAt 5); (first | (apply gCall; apply L_call rfl rfl rfl rfl rfl; (· first | exact at_c hI hl om | exact SameRoots_k g3 at_ at_ w6 hc6 om); rintro _ _ ⟨rfl, rfl⟩) | (apply gL; first | refine L_nil ?_ | refine yS ?_ | refine yA fun _ => ?_ | (apply gSt; first | refine sR ?_ | refine sB ?_ | refine s1 ?_ | refine sW ?_ | refine sN ?_) | (apply gBs; first | (refine L_bs0 rfl rfl rfl rfl (fun _ => ?_)) | (refine L_bs1 rfl rfl rfl rfl rfl rfl rfl (fun _ => ?_))) | refine kV ?_ | (apply L_val rfl rfl rfl; (· first | (apply gBin; first | fail | exact v_adds rfl rfl (by first | exact hsum _ | omega) | exact v_lts rfl rfl | exact v_gts rfl rfl | exact v_eqz rfl rfl hbst hbst | exact v_eqz rfl rfl hbs hbt | exact v_eqbs rfl rfl) | fail | exact v_bts (xs := [_]) (sp := []) rfl at_)) | ((fail_if_success (refine L_known rfl ?_)); refine yW (fun h => ?_) fun h => ?_)) | (apply gW; first | refine W_seq ?_ | refine W_region ?_ | refine W_ret ?_ | refine W_skip ?_ | refine W_block ?_ | refine W_exit ?_ | refine W_cond1 rfl ?_ | refine W_cond0 rfl ?_ | refine cW (fun h => ?_) fun h => ?_) | (first | refine seqR.normal ?_ | refine seqR.ret ?_ | refine seqR.exit ?_ | refine blockR.normal ?_ | refine blockR.ret ?_ | refine blockR.here ?_ | refine blockR.exit rfl ?_ | refine loopR.ret ?_ | refine loopR.exit ?_ | refine midA.ret ?_ | refine midA.exit ?_) | fail)))
  rename_i b3
  have hat0 := atR_r hI 0
  have hat1 := atR_r hI 1
  refine W_midA (α := Nat) (fun y => [(0, .slice a xs.length c), (3, .pointer (some ⟨b3, 0, none⟩)), (5, .string (strOfNums (lB xs 2 y))), (6, .string (strOfNums (lB xs 30 0)))]) (fun y => (b3, aObj C0 (fresh 400 4)) :: (C0.bw, wObj C0 (fresh 400 4)) :: (C0.br, rObj C0 (fresh 400 4)) :: []) (fun y => y ≤ 19) ?_ ?_
  · repeat' (first | (apply gCall; apply L_call rfl rfl rfl rfl rfl; (· first | exact at_c hI hl om | exact SameRoots_k g3 at_ at_ w6 hc6 om); rintro _ _ ⟨rfl, rfl⟩) | (apply gL; first | refine L_nil ?_ | refine yS ?_ | refine yA fun _ => ?_ | (apply gSt; first | refine sR ?_ | refine sB ?_ | refine s1 ?_ | refine sW ?_ | refine sN ?_) | (apply gBs; first | (refine L_bs0 rfl rfl rfl rfl (fun _ => ?_)) | (refine L_bs1 rfl rfl rfl rfl rfl rfl rfl (fun _ => ?_))) | refine kV ?_ | (apply L_val rfl rfl rfl; (· first | (apply gBin; first | fail | exact v_adds rfl rfl (by first | exact hsum _ | omega) | exact v_lts rfl rfl | exact v_gts rfl rfl | exact v_eqz rfl rfl hbst hbst | exact v_eqz rfl rfl hbs hbt | exact v_eqbs rfl rfl) | fail | exact v_bts (xs := [_]) (sp := []) rfl at_)) | ((fail_if_success (refine L_known rfl ?_)); refine yW (fun h => ?_) fun h => ?_)) | (apply gW; first | refine W_seq ?_ | refine W_region ?_ | refine W_ret ?_ | refine W_skip ?_ | refine W_block ?_ | refine W_exit ?_ | refine W_cond1 rfl ?_ | refine W_cond0 rfl ?_ | refine cW (fun h => ?_) fun h => ?_) | (first | refine seqR.normal ?_ | refine seqR.ret ?_ | refine seqR.exit ?_ | refine blockR.normal ?_ | refine blockR.ret ?_ | refine blockR.here ?_ | refine blockR.exit rfl ?_ | refine loopR.ret ?_ | refine loopR.exit ?_ | refine midA.ret ?_ | refine midA.exit ?_) | fail)
    apply W_loopX (α := Nat) (fun y => [(0, .slice a xs.length c), (3, .pointer (some ⟨b3, 0, none⟩)), (5, .string (strOfNums (lB xs 2 y))), (6, .string (strOfNums (lB xs 30 0))), (7, .int .i64 (y : Int))]) (fun y => (b3, aObj C0 (fresh 400 4)) :: (C0.bw, wObj C0 (fresh 400 4)) :: (C0.br, rObj C0 (fresh 400 4)) :: [])
      (fun y => y ≤ 19) (fun y => 19 - y) 0
    · exact sub_
    · exact cvt_
    · omega
    rintro y hy
    have hat := atR_r hI ((y : Int) + 2)
    have hsl := lB_len xs 2 y
    by_cases hlt : (y : Int) < atR xs 0 % 20
    · have hsum : ∀ v : Int, (((lB xs 2 y).length : Nat) : Int) + (([v] : List Int).length : Int) ≤ 1000000 := fun v => by rw [hsl]; show (y : Int) + 1 ≤ _; omega
      repeat' (first | exact absurd hlt h | first | (apply gCall; apply L_call rfl rfl rfl rfl rfl; (· first | exact at_c hI hl om | exact SameRoots_k g3 at_ at_ w6 hc6 om); rintro _ _ ⟨rfl, rfl⟩) | (apply gL; first | refine L_nil ?_ | refine yS ?_ | refine yA fun _ => ?_ | (apply gSt; first | refine sR ?_ | refine sB ?_ | refine s1 ?_ | refine sW ?_ | refine sN ?_) | (apply gBs; first | (refine L_bs0 rfl rfl rfl rfl (fun _ => ?_)) | (refine L_bs1 rfl rfl rfl rfl rfl rfl rfl (fun _ => ?_))) | refine kV ?_ | (apply L_val rfl rfl rfl; (· first | (apply gBin; first | fail | exact v_adds rfl rfl (by first | exact hsum _ | omega) | exact v_lts rfl rfl | exact v_gts rfl rfl | exact v_eqz rfl rfl hbst hbst | exact v_eqz rfl rfl hbs hbt | exact v_eqbs rfl rfl) | fail | exact v_bts (xs := [_]) (sp := []) rfl at_)) | ((fail_if_success (refine L_known rfl ?_)); refine yW (fun h => ?_) fun h => ?_)) | (apply gW; first | refine W_seq ?_ | refine W_region ?_ | refine W_ret ?_ | refine W_skip ?_ | refine W_block ?_ | refine W_exit ?_ | refine W_cond1 rfl ?_ | refine W_cond0 rfl ?_ | refine cW (fun h => ?_) fun h => ?_) | (first | refine seqR.normal ?_ | refine seqR.ret ?_ | refine seqR.exit ?_ | refine blockR.normal ?_ | refine blockR.ret ?_ | refine blockR.here ?_ | refine blockR.exit rfl ?_ | refine loopR.ret ?_ | refine loopR.exit ?_ | refine midA.ret ?_ | refine midA.exit ?_) | fail)
      rw [wrap8 hat, lB_succ]
      apply loopR.mk (y + 1)
      · exact sub_
      · exact cvt_
      · show y + 1 ≤ 19; omega
      · show 19 - (y + 1) < 19 - y; omega
    · repeat' (first | exact absurd h hlt | first | (apply gCall; apply L_call rfl rfl rfl rfl rfl; (· first | exact at_c hI hl om | exact SameRoots_k g3 at_ at_ w6 hc6 om); rintro _ _ ⟨rfl, rfl⟩) | (apply gL; first | refine L_nil ?_ | refine yS ?_ | refine yA fun _ => ?_ | (apply gSt; first | refine sR ?_ | refine sB ?_ | refine s1 ?_ | refine sW ?_ | refine sN ?_) | (apply gBs; first | (refine L_bs0 rfl rfl rfl rfl (fun _ => ?_)) | (refine L_bs1 rfl rfl rfl rfl rfl rfl rfl (fun _ => ?_))) | refine kV ?_ | (apply L_val rfl rfl rfl; (· first | (apply gBin; first | fail | exact v_adds rfl rfl (by first | exact hsum _ | omega) | exact v_lts rfl rfl | exact v_gts rfl rfl | exact v_eqz rfl rfl hbst hbst | exact v_eqz rfl rfl hbs hbt | exact v_eqbs rfl rfl) | fail | exact v_bts (xs := [_]) (sp := []) rfl at_)) | ((fail_if_success (refine L_known rfl ?_)); refine yW (fun h => ?_) fun h => ?_)) | (apply gW; first | refine W_seq ?_ | refine W_region ?_ | refine W_ret ?_ | refine W_skip ?_ | refine W_block ?_ | refine W_exit ?_ | refine W_cond1 rfl ?_ | refine W_cond0 rfl ?_ | refine cW (fun h => ?_) fun h => ?_) | (first | refine seqR.normal ?_ | refine seqR.ret ?_ | refine seqR.exit ?_ | refine blockR.normal ?_ | refine blockR.ret ?_ | refine blockR.here ?_ | refine blockR.exit rfl ?_ | refine loopR.ret ?_ | refine loopR.exit ?_ | refine midA.ret ?_ | refine midA.exit ?_) | fail)
      apply midA.mk y
      · exact sub_
      · exact cvt_
      · exact hy
  rintro y hy
  repeat' ((fail_if_success apply gAt 9); (first | (apply gCall; apply L_call rfl rfl rfl rfl rfl; (· first | exact at_c hI hl om | exact SameRoots_k g3 at_ at_ w6 hc6 om); rintro _ _ ⟨rfl, rfl⟩) | (apply gL; first | refine L_nil ?_ | refine yS ?_ | refine yA fun _ => ?_ | (apply gSt; first | refine sR ?_ | refine sB ?_ | refine s1 ?_ | refine sW ?_ | refine sN ?_) | (apply gBs; first | (refine L_bs0 rfl rfl rfl rfl (fun _ => ?_)) | (refine L_bs1 rfl rfl rfl rfl rfl rfl rfl (fun _ => ?_))) | refine kV ?_ | (apply L_val rfl rfl rfl; (· first | (apply gBin; first | fail | exact v_adds rfl rfl (by first | exact hsum _ | omega) | exact v_lts rfl rfl | exact v_gts rfl rfl | exact v_eqz rfl rfl hbst hbst | exact v_eqz rfl rfl hbs hbt | exact v_eqbs rfl rfl) | fail | exact v_bts (xs := [_]) (sp := []) rfl at_)) | ((fail_if_success (refine L_known rfl ?_)); refine yW (fun h => ?_) fun h => ?_)) | (apply gW; first | refine W_seq ?_ | refine W_region ?_ | refine W_ret ?_ | refine W_skip ?_ | refine W_block ?_ | refine W_exit ?_ | refine W_cond1 rfl ?_ | refine W_cond0 rfl ?_ | refine cW (fun h => ?_) fun h => ?_) | (first | refine seqR.normal ?_ | refine seqR.ret ?_ | refine seqR.exit ?_ | refine blockR.normal ?_ | refine blockR.ret ?_ | refine blockR.here ?_ | refine blockR.exit rfl ?_ | refine loopR.ret ?_ | refine loopR.exit ?_ | refine midA.ret ?_ | refine midA.exit ?_) | fail))
  refine W_midA (α := Nat) (fun z => [(0, .slice a xs.length c), (3, .pointer (some ⟨b3, 0, none⟩)), (5, .string (strOfNums (lB xs 2 y))), (6, .string (strOfNums (lB xs 30 z)))]) (fun z => (b3, aObj C0 (fresh 400 4)) :: (C0.bw, wObj C0 (fresh 400 4)) :: (C0.br, rObj C0 (fresh 400 4)) :: []) (fun z => z ≤ 19) ?_ ?_
  · repeat' (first | (apply gCall; apply L_call rfl rfl rfl rfl rfl; (· first | exact at_c hI hl om | exact SameRoots_k g3 at_ at_ w6 hc6 om); rintro _ _ ⟨rfl, rfl⟩) | (apply gL; first | refine L_nil ?_ | refine yS ?_ | refine yA fun _ => ?_ | (apply gSt; first | refine sR ?_ | refine sB ?_ | refine s1 ?_ | refine sW ?_ | refine sN ?_) | (apply gBs; first | (refine L_bs0 rfl rfl rfl rfl (fun _ => ?_)) | (refine L_bs1 rfl rfl rfl rfl rfl rfl rfl (fun _ => ?_))) | refine kV ?_ | (apply L_val rfl rfl rfl; (· first | (apply gBin; first | fail | exact v_adds rfl rfl (by first | exact hsum _ | omega) | exact v_lts rfl rfl | exact v_gts rfl rfl | exact v_eqz rfl rfl hbst hbst | exact v_eqz rfl rfl hbs hbt | exact v_eqbs rfl rfl) | fail | exact v_bts (xs := [_]) (sp := []) rfl at_)) | ((fail_if_success (refine L_known rfl ?_)); refine yW (fun h => ?_) fun h => ?_)) | (apply gW; first | refine W_seq ?_ | refine W_region ?_ | refine W_ret ?_ | refine W_skip ?_ | refine W_block ?_ | refine W_exit ?_ | refine W_cond1 rfl ?_ | refine W_cond0 rfl ?_ | refine cW (fun h => ?_) fun h => ?_) | (first | refine seqR.normal ?_ | refine seqR.ret ?_ | refine seqR.exit ?_ | refine blockR.normal ?_ | refine blockR.ret ?_ | refine blockR.here ?_ | refine blockR.exit rfl ?_ | refine loopR.ret ?_ | refine loopR.exit ?_ | refine midA.ret ?_ | refine midA.exit ?_) | fail)
    apply W_loopX (α := Nat) (fun z => [(0, .slice a xs.length c), (3, .pointer (some ⟨b3, 0, none⟩)), (5, .string (strOfNums (lB xs 2 y))), (6, .string (strOfNums (lB xs 30 z))), (8, .int .i64 (z : Int))]) (fun z => (b3, aObj C0 (fresh 400 4)) :: (C0.bw, wObj C0 (fresh 400 4)) :: (C0.br, rObj C0 (fresh 400 4)) :: [])
      (fun z => z ≤ 19) (fun z => 19 - z) 0
    · exact sub_
    · exact cvt_
    · omega
    rintro z hz
    have hat := atR_r hI ((z : Int) + 30)
    have hsl := lB_len xs 30 z
    by_cases hlt : (z : Int) < atR xs 1 % 20
    · have hsum : ∀ v : Int, (((lB xs 30 z).length : Nat) : Int) + (([v] : List Int).length : Int) ≤ 1000000 := fun v => by rw [hsl]; show (z : Int) + 1 ≤ _; omega
      repeat' (first | exact absurd hlt h | first | (apply gCall; apply L_call rfl rfl rfl rfl rfl; (· first | exact at_c hI hl om | exact SameRoots_k g3 at_ at_ w6 hc6 om); rintro _ _ ⟨rfl, rfl⟩) | (apply gL; first | refine L_nil ?_ | refine yS ?_ | refine yA fun _ => ?_ | (apply gSt; first | refine sR ?_ | refine sB ?_ | refine s1 ?_ | refine sW ?_ | refine sN ?_) | (apply gBs; first | (refine L_bs0 rfl rfl rfl rfl (fun _ => ?_)) | (refine L_bs1 rfl rfl rfl rfl rfl rfl rfl (fun _ => ?_))) | refine kV ?_ | (apply L_val rfl rfl rfl; (· first | (apply gBin; first | fail | exact v_adds rfl rfl (by first | exact hsum _ | omega) | exact v_lts rfl rfl | exact v_gts rfl rfl | exact v_eqz rfl rfl hbst hbst | exact v_eqz rfl rfl hbs hbt | exact v_eqbs rfl rfl) | fail | exact v_bts (xs := [_]) (sp := []) rfl at_)) | ((fail_if_success (refine L_known rfl ?_)); refine yW (fun h => ?_) fun h => ?_)) | (apply gW; first | refine W_seq ?_ | refine W_region ?_ | refine W_ret ?_ | refine W_skip ?_ | refine W_block ?_ | refine W_exit ?_ | refine W_cond1 rfl ?_ | refine W_cond0 rfl ?_ | refine cW (fun h => ?_) fun h => ?_) | (first | refine seqR.normal ?_ | refine seqR.ret ?_ | refine seqR.exit ?_ | refine blockR.normal ?_ | refine blockR.ret ?_ | refine blockR.here ?_ | refine blockR.exit rfl ?_ | refine loopR.ret ?_ | refine loopR.exit ?_ | refine midA.ret ?_ | refine midA.exit ?_) | fail)
      rw [wrap8 hat, lB_succ]
      apply loopR.mk (z + 1)
      · exact sub_
      · exact cvt_
      · show z + 1 ≤ 19; omega
      · show 19 - (z + 1) < 19 - z; omega
    · repeat' (first | exact absurd h hlt | first | (apply gCall; apply L_call rfl rfl rfl rfl rfl; (· first | exact at_c hI hl om | exact SameRoots_k g3 at_ at_ w6 hc6 om); rintro _ _ ⟨rfl, rfl⟩) | (apply gL; first | refine L_nil ?_ | refine yS ?_ | refine yA fun _ => ?_ | (apply gSt; first | refine sR ?_ | refine sB ?_ | refine s1 ?_ | refine sW ?_ | refine sN ?_) | (apply gBs; first | (refine L_bs0 rfl rfl rfl rfl (fun _ => ?_)) | (refine L_bs1 rfl rfl rfl rfl rfl rfl rfl (fun _ => ?_))) | refine kV ?_ | (apply L_val rfl rfl rfl; (· first | (apply gBin; first | fail | exact v_adds rfl rfl (by first | exact hsum _ | omega) | exact v_lts rfl rfl | exact v_gts rfl rfl | exact v_eqz rfl rfl hbst hbst | exact v_eqz rfl rfl hbs hbt | exact v_eqbs rfl rfl) | fail | exact v_bts (xs := [_]) (sp := []) rfl at_)) | ((fail_if_success (refine L_known rfl ?_)); refine yW (fun h => ?_) fun h => ?_)) | (apply gW; first | refine W_seq ?_ | refine W_region ?_ | refine W_ret ?_ | refine W_skip ?_ | refine W_block ?_ | refine W_exit ?_ | refine W_cond1 rfl ?_ | refine W_cond0 rfl ?_ | refine cW (fun h => ?_) fun h => ?_) | (first | refine seqR.normal ?_ | refine seqR.ret ?_ | refine seqR.exit ?_ | refine blockR.normal ?_ | refine blockR.ret ?_ | refine blockR.here ?_ | refine blockR.exit rfl ?_ | refine loopR.ret ?_ | refine loopR.exit ?_ | refine midA.ret ?_ | refine midA.exit ?_) | fail)
      apply midA.mk z
      · exact sub_
      · exact cvt_
      · exact hz
  rintro z hz
  have hbs := lB_byt hI 2 y
  have hbt := lB_byt hI 30 z
  have hls := lB_len xs 2 y
  have hlt := lB_len xs 30 z
  generalize lB xs 2 y = s at *
  generalize lB xs 30 z = t at *
  exact W_sub (F := [(0, .slice a xs.length c), (3, .pointer (some ⟨b3, 0, none⟩)), (5, .string (strOfNums s)), (6, .string (strOfNums t))]) sub_ cvt_ (texts_t1 hI hl hbs hbt (by omega) (by omega) hc0)
end Go.Proofs.Ytepddopgmhdllaa.Eng
