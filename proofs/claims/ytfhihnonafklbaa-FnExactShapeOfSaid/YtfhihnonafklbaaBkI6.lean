/- The implementation's heads of a half. -/
import Derived.Test.YtfhihnonafklbaaBkI
namespace Go.Proofs.Ytfhihnonafklbaa.Ar
open Go.Proofs.Ytfhihnonafklbaa.Eng
/-- the heads of the half in use: the marks and the serials -/
def Ar.hd1 (A : Ar) : Nat → Int → List Int → List Int → Option (List Int × List Int)
  | 0, _, _, _ => none
  | f + 1, p, m, ks => if p = A.top then some (m, ks) else
      if hOk (A.w p) = true ∧ p + hs (A.w p) + 1 ≤ A.top ∧ hn (A.w p) < A.serial ∧ ¬ (hn (A.w p) ≠ 0 ∧ hn (A.w p) ∈ ks) then A.hd1 f (p + hs (A.w p) + 1) (m.set p.toNat 1) (putS ks (hn (A.w p))) else none
/-- the heads of the other half: the marks, the serials, the sum of what is copied -/
def Ar.hd2 (A : Ar) : Nat → Int → List Int → List Int → List Int → Int → Option (List Int × List Int × Int)
  | 0, _, _, _, _, _ => none
  | f + 1, p, m, ks, led, sum => if p = A.old then some (m, ks, sum) else
      if isFw (A.w p) = true then
        if fw (A.w p) < A.n ∧ g m (fw (A.w p)) = 1 ∧ ¬ fw (A.w p) ∈ led ∧ p + A.sz (fw (A.w p)) + 1 ≤ A.old then
          A.hd2 f (p + A.sz (fw (A.w p)) + 1) (m.set p.toNat 3) ks (putS led (fw (A.w p))) (sum + A.sz (fw (A.w p)) + 1) else none
      else if hOk (A.w p) = true ∧ p + hs (A.w p) + 1 ≤ A.old ∧ hn (A.w p) < A.serial ∧ ¬ (hn (A.w p) ≠ 0 ∧ hn (A.w p) ∈ ks) then A.hd2 f (p + hs (A.w p) + 1) (m.set p.toNat 2) (putS ks (hn (A.w p))) led sum else none
end Go.Proofs.Ytfhihnonafklbaa.Ar
namespace Go.Proofs.Ytfhihnonafklbaa.Eng
open Go Go.RowKit Go.Proofs.Ytfhihnonafklbaa.Sl Go.Proofs.Ytfhihnonafklbaa.Ar Go.Proofs.Ytfhihnonafklbaa.Base
set_option linter.unusedVariables false
set_option linter.unusedSimpArgs false
set_option maxRecDepth 10000
variable {w0 : World} {H : HL} {C : Cn} {A : Ar} {ba : Nat}
theorem hd1_step {f : Nat} {p : Int} {m ks : List Int} (h1 : A.top - p < (f : Int)) (h2 : p < A.top) : ∃ f', f = f' + 1 ∧ A.hd1 f p m ks = if hOk (g A.ws p) = true ∧ p + hs (g A.ws p) + 1 ≤ A.top ∧ hn (g A.ws p) < A.serial ∧ ¬ (hn (g A.ws p) ≠ 0 ∧ hn (g A.ws p) ∈ ks) then A.hd1 f' (p + hs (g A.ws p) + 1) (m.set p.toNat 1) (putS ks (hn (g A.ws p))) else none := by
  cases f with
  | zero => omega
  | succ f => exact ⟨f, rfl, by rw [Ar.hd1, if_neg (by omega)]⟩
theorem hd1_end {f : Nat} {p : Int} {m ks : List Int} (h1 : A.top - p < (f : Int)) (h2 : p = A.top) : A.hd1 f p m ks = some (m, ks) := by
  cases f with
  | zero => omega
  | succ f => rw [Ar.hd1, if_pos h2]
theorem hd2_step {f : Nat} {p : Int} {m ks led : List Int} {sum : Int} (h1 : A.old - p < (f : Int)) (h2 : p < A.old) : ∃ f', f = f' + 1 ∧ A.hd2 f p m ks led sum = if isFw (g A.ws p) = true then
        if fw (g A.ws p) < (A.ws.length : Int) ∧ g m (fw (g A.ws p)) = 1 ∧ ¬ fw (g A.ws p) ∈ led ∧ p + rs (g A.ws (fw (g A.ws p))) + 1 ≤ A.old then
          A.hd2 f' (p + rs (g A.ws (fw (g A.ws p))) + 1) (m.set p.toNat 3) ks (putS led (fw (g A.ws p))) (sum + rs (g A.ws (fw (g A.ws p))) + 1) else none
      else if hOk (g A.ws p) = true ∧ p + hs (g A.ws p) + 1 ≤ A.old ∧ hn (g A.ws p) < A.serial ∧ ¬ (hn (g A.ws p) ≠ 0 ∧ hn (g A.ws p) ∈ ks) then A.hd2 f' (p + hs (g A.ws p) + 1) (m.set p.toNat 2) (putS ks (hn (g A.ws p))) led sum else none := by
  cases f with
  | zero => omega
  | succ f => exact ⟨f, rfl, by rw [Ar.hd2, if_neg (by omega)]; rfl⟩
theorem hd2_end {f : Nat} {p : Int} {m ks led : List Int} {sum : Int} (h1 : A.old - p < (f : Int)) (h2 : p = A.old) : A.hd2 f p m ks led sum = some (m, ks, sum) := by
  cases f with
  | zero => omega
  | succ f => rw [Ar.hd2, if_pos h2]
abbrev svObj (ba bi n bs bb : Nat) : Obj := .cells #[.pointer (some ⟨ba, 0, none⟩), .slice (some ⟨bi, 0, none⟩) n n, .map (some bs), .map (some bb)] 87 (0, 0)
abbrev uObj (m : List Int) : Obj := .cells (rowA .u8 m []) 5 (0, 0)
theorem hnR {w : Int} (h0 : 0 ≤ w) (h : w < 18446744073709551616) : 0 ≤ hn w ∧ hn w < 17592186044416 := by unfold hn; omega
theorem rnR {w : Int} (h0 : 0 ≤ w) (h : w < 18446744073709551616) : 0 ≤ rn w ∧ rn w < 17592186044416 := by
  unfold rn; split
  · exact hnR h0 h
  · omega
set_option maxHeartbeats 4000000 in
theorem heads1_c {bv bi bs bb : Nat} {m0 ks0 kb : List Int} (hP : At H ba (aObj C A)) (hA : At H C.bw (wObj C A)) (hw : Wf A.ws) (hm : A.ws.length ≤ 8000) (hl0 : m0.length = A.ws.length) (hst : 1 ≤ A.start A.to) (hst2 : A.start A.to ≤ A.top) (htp : A.top ≤ A.ws.length) :
    Fn Try.prog w0 49 #[.pointer (some ⟨bv, 0, none⟩), .int .i64 (A.start A.to), .int .i64 A.top, .int .u8 1] ((bv, svObj ba bi A.ws.length bs bb) :: (bb, sObj kb) :: (bs, sObj ks0) :: (bi, uObj m0) :: H) fun v H' => v = .bool (A.hd1 (A.ws.length + 1) (A.start A.to) m0 ks0).isSome ∧ ∃ m' ks', H' = (bv, svObj ba bi A.ws.length bs bb) :: (bb, sObj kb) :: (bs, sObj ks') :: (bi, uObj m') :: H ∧ m'.length = A.ws.length ∧ ∀ x, A.hd1 (A.ws.length + 1) (A.start A.to) m0 ks0 = some x → x = (m', ks') := by
  refine enter4 Try.func49 rfl rfl Try.ntmps49 rfl ?_
  repeat' (first | ((first | (apply gCall; apply L_call rfl rfl rfl rfl rfl) | (apply gQC; apply Q_call rfl rfl rfl rfl rfl)); (· first | exact head_c at_ at_ hw om om | exact implForwarded_c om om | exact implReadHead_c om om); try rintro _ _ ⟨rfl, rfl⟩) | (apply gL; first | refine L_nil ?_ | refine yS ?_ | refine yA fun _ => ?_ | (apply gSt; first | refine sR ?_ | refine sB ?_ | refine s1 ?_ | refine sW ?_ | refine sN ?_) | (apply gMm; refine L_mkmap rfl rfl rfl rfl (fun _ => ?_)) | (apply gMu; apply L_mapset rfl rfl rfl rfl rfl rfl; (· exact up_)) | refine kV ?_ | ((fail_if_success (refine L_known rfl ?_)); refine yW (fun h => ?_) fun h => ?_)) | (apply gW; first | refine W_seq ?_ | refine W_region ?_ | refine W_ret ?_ | refine W_skip ?_ | refine W_block ?_ | refine W_exit ?_ | refine W_cond1 rfl ?_ | refine W_cond0 rfl ?_ | refine cW (fun h => ?_) fun h => ?_ | refine wQ ?_) | (first | refine seqR.normal ?_ | refine seqR.ret ?_ | refine seqR.exit ?_ | refine blockR.normal ?_ | refine blockR.ret ?_ | refine blockR.here ?_ | refine blockR.exit rfl ?_ | refine loopR.ret ?_ | refine loopR.exit ?_ | refine midA.ret ?_ | refine midA.exit ?_) | (apply gQ; first | refine Q_nil ?_ | refine Q_skip rfl rfl rfl ?_ | refine kQ ?_ | ((fail_if_success (refine Q_known rfl ?_)); refine zW (fun h => ?_) fun h => ?_)) | fail)
  rename_i bq
  apply W_loopX (α := Int × List Int × List Int) (fun y => [(0, .pointer (some ⟨bv, 0, none⟩)), (2, .int .i64 A.top), (3, .int .u8 1), (9, .int .i64 0), (10, .map (some bq)), (11, .int .i64 y.1)]) (fun y => (bq, sObj []) :: (bv, svObj ba bi A.ws.length bs bb) :: (bb, sObj kb) :: (bs, sObj y.2.2) :: (bi, uObj y.2.1) :: H)
    (fun y => (∃ f, A.hd1 f y.1 y.2.1 y.2.2 = A.hd1 (A.ws.length + 1) (A.start A.to) m0 ks0 ∧ A.top - y.1 < (f : Int)) ∧ y.2.1.length = A.ws.length ∧ 1 ≤ y.1 ∧ y.1 ≤ A.top) (fun y => (A.top - y.1).toNat) (A.start A.to, m0, ks0)
  · exact sub_
  · exact cvt_
  · exact ⟨⟨_, rfl, by dsimp only; omega⟩, hl0, by dsimp only; omega, by dsimp only; omega⟩
  rintro ⟨p, m, ks⟩ ⟨⟨f, hf, hf2⟩, hl, hp1, hp2⟩
  dsimp only at hf hf2 hl hp1 hp2 ⊢
  have hp := hw p
  have hr := rsR (g A.ws p)
  have hrn := rnR hp.1 hp.2
  repeat' (fail_if_success apply gAt 15); (first | ((first | (apply gCall; apply L_call rfl rfl rfl rfl rfl) | (apply gQC; apply Q_call rfl rfl rfl rfl rfl)); (· first | exact head_c at_ at_ hw om om | exact implForwarded_c om om | exact implReadHead_c om om); try rintro _ _ ⟨rfl, rfl⟩) | (apply gL; first | refine L_nil ?_ | refine yS ?_ | refine yA fun _ => ?_ | (apply gSt; first | refine sR ?_ | refine sB ?_ | refine s1 ?_ | refine sW ?_ | refine sN ?_) | (apply gMm; refine L_mkmap rfl rfl rfl rfl (fun _ => ?_)) | (apply gMu; apply L_mapset rfl rfl rfl rfl rfl rfl; (· exact up_)) | refine kV ?_ | ((fail_if_success (refine L_known rfl ?_)); refine yW (fun h => ?_) fun h => ?_)) | (apply gW; first | refine W_seq ?_ | refine W_region ?_ | refine W_ret ?_ | refine W_skip ?_ | refine W_block ?_ | refine W_exit ?_ | refine W_cond1 rfl ?_ | refine W_cond0 rfl ?_ | refine cW (fun h => ?_) fun h => ?_ | refine wQ ?_) | (first | refine seqR.normal ?_ | refine seqR.ret ?_ | refine seqR.exit ?_ | refine blockR.normal ?_ | refine blockR.ret ?_ | refine blockR.here ?_ | refine blockR.exit rfl ?_ | refine loopR.ret ?_ | refine loopR.exit ?_ | refine midA.ret ?_ | refine midA.exit ?_) | (apply gQ; first | refine Q_nil ?_ | refine Q_skip rfl rfl rfl ?_ | refine kQ ?_ | ((fail_if_success (refine Q_known rfl ?_)); refine zW (fun h => ?_) fun h => ?_)) | fail)
  all_goals (try (
    rw [hd1_end hf2 (by omega)] at hf
    exact retR.ret _ _ (ret1 rfl rfl) cvt_ ⟨by rw [← hf]; rfl, m, ks, rfl, hl, fun _ h => by rw [← hf] at h; cases h; rfl⟩))
  all_goals (
    rename_i bx
    refine W_midA (α := Unit) (fun y => [(0, .pointer (some ⟨bv, 0, none⟩)), (2, .int .i64 A.top), (3, .int .u8 1), (9, .int .i64 0), (10, .map (some bq)), (11, .int .i64 p), (15, .pointer (some ⟨bx, 0, none⟩))]) (fun _ => (bs, sObj ks) :: (bi, uObj m) :: (bb, sObj kb) :: (bq, sObj []) :: (bx, .cells #[.int .i64 (rk (g A.ws p)), .int .i64 (rs (g A.ws p)), .int .i64 (rn (g A.ws p))] 65 (0, 0)) :: (bv, svObj ba bi A.ws.length bs bb) :: H)
      (fun _ => HeadP (hk (g A.ws p)) (hs (g A.ws p)) (Ar.hn (g A.ws p)) ∧ ¬ A.serial ≤ rn (g A.ws p) ∧ ¬ (rn (g A.ws p) ≠ 0 ∧ rn (g A.ws p) ∈ ks)) ?_ ?_
    · repeat' (first | ((first | (apply gCall; apply L_call rfl rfl rfl rfl rfl) | (apply gQC; apply Q_call rfl rfl rfl rfl rfl)); (· first | exact head_c at_ at_ hw om om | exact implForwarded_c om om | exact implReadHead_c om om); try rintro _ _ ⟨rfl, rfl⟩) | (apply gL; first | refine L_nil ?_ | refine yS ?_ | refine yA fun _ => ?_ | (apply gSt; first | refine sR ?_ | refine sB ?_ | refine s1 ?_ | refine sW ?_ | refine sN ?_) | (apply gMm; refine L_mkmap rfl rfl rfl rfl (fun _ => ?_)) | (apply gMu; apply L_mapset rfl rfl rfl rfl rfl rfl; (· exact up_)) | refine kV ?_ | ((fail_if_success (refine L_known rfl ?_)); refine yW (fun h => ?_) fun h => ?_)) | (apply gW; first | refine W_seq ?_ | refine W_region ?_ | refine W_ret ?_ | refine W_skip ?_ | refine W_block ?_ | refine W_exit ?_ | refine W_cond1 rfl ?_ | refine W_cond0 rfl ?_ | refine cW (fun h => ?_) fun h => ?_ | refine wQ ?_) | (first | refine seqR.normal ?_ | refine seqR.ret ?_ | refine seqR.exit ?_ | refine blockR.normal ?_ | refine blockR.ret ?_ | refine blockR.here ?_ | refine blockR.exit rfl ?_ | refine loopR.ret ?_ | refine loopR.exit ?_ | refine midA.ret ?_ | refine midA.exit ?_) | (apply gQ; first | refine Q_nil ?_ | refine Q_skip rfl rfl rfl ?_ | refine kQ ?_ | ((fail_if_success (refine Q_known rfl ?_)); refine zW (fun h => ?_) fun h => ?_)) | fail)
      all_goals (try (
        obtain ⟨f', rfl, e⟩ := hd1_step (ks := ks) (m := m) hf2 (by omega)
        rw [e, if_neg (fun c => by first | exact h (of_decide_eq_true c.1) | (have := rsR' c.1; omega) | (have := rsR' c.1; exact c.2.2.2 ⟨by omega, by rw [← this.2.2.2.2]; exact h⟩))] at hf
        exact retR.ret _ _ (ret1 rfl rfl) cvt_ ⟨by rw [← hf]; rfl, m, ks, rfl, hl, fun _ h => by rw [← hf] at h; cases h⟩))
      all_goals (apply midA.mk ()
                 · exact sub_
                 · exact cvt_
                 · exact ⟨by assumption, by assumption, fun c => by first | omega | exact h c.2⟩)
    rintro _ ⟨hok, hser, hno⟩
    have h4 := rsR' (decide_eq_true hok)
    obtain ⟨f', rfl, e⟩ := hd1_step (ks := ks) (m := m) hf2 (by omega)
    repeat' (fail_if_success apply gAt 17); (first | ((first | (apply gCall; apply L_call rfl rfl rfl rfl rfl) | (apply gQC; apply Q_call rfl rfl rfl rfl rfl)); (· first | exact head_c at_ at_ hw om om | exact implForwarded_c om om | exact implReadHead_c om om); try rintro _ _ ⟨rfl, rfl⟩) | (apply gL; first | refine L_nil ?_ | refine yS ?_ | refine yA fun _ => ?_ | (apply gSt; first | refine sR ?_ | refine sB ?_ | refine s1 ?_ | refine sW ?_ | refine sN ?_) | (apply gMm; refine L_mkmap rfl rfl rfl rfl (fun _ => ?_)) | (apply gMu; apply L_mapset rfl rfl rfl rfl rfl rfl; (· exact up_)) | refine kV ?_ | ((fail_if_success (refine L_known rfl ?_)); refine yW (fun h => ?_) fun h => ?_)) | (apply gW; first | refine W_seq ?_ | refine W_region ?_ | refine W_ret ?_ | refine W_skip ?_ | refine W_block ?_ | refine W_exit ?_ | refine W_cond1 rfl ?_ | refine W_cond0 rfl ?_ | refine cW (fun h => ?_) fun h => ?_ | refine wQ ?_) | (first | refine seqR.normal ?_ | refine seqR.ret ?_ | refine seqR.exit ?_ | refine blockR.normal ?_ | refine blockR.ret ?_ | refine blockR.here ?_ | refine blockR.exit rfl ?_ | refine loopR.ret ?_ | refine loopR.exit ?_ | refine midA.ret ?_ | refine midA.exit ?_) | (apply gQ; first | refine Q_nil ?_ | refine Q_skip rfl rfl rfl ?_ | refine kQ ?_ | ((fail_if_success (refine Q_known rfl ?_)); refine zW (fun h => ?_) fun h => ?_)) | fail)
    apply W_regionA (D := (bx, .cells #[.int .i64 (rk (g A.ws p)), .int .i64 (rs (g A.ws p)), .int .i64 (rn (g A.ws p))] 65 (0, 0)) :: (bv, svObj ba bi A.ws.length bs bb) :: H) (by kernel_rfl)
    refine kA 0 ?_
    refine kA 1 ?_
    refine kA 2 ?_
    refine kA 3 ?_
    refine kA 4 ?_
    refine kA 5 ?_
    refine A_one (i := 6) (by kernel_rfl) cv_ rfl (O_of_L fun S hS => ?_)
    first | (apply gCall; apply L_call rfl rfl rfl rfl rfl; (· first | exact head_c at_ at_ hw om om | exact implForwarded_c om om | exact implReadHead_c om om); rintro _ _ ⟨rfl, rfl⟩) | (apply gL; first | refine L_nil ?_ | refine yS ?_ | refine yA fun _ => ?_ | (apply gSt; first | refine sR ?_ | refine sB ?_ | refine s1 ?_ | refine sW ?_ | refine sN ?_) | (apply gMm; refine L_mkmap rfl rfl rfl rfl (fun _ => ?_)) | (apply gMu; apply L_mapset rfl rfl rfl rfl rfl rfl; (· exact up_)) | refine kV ?_ | ((fail_if_success (refine L_known rfl ?_)); refine yW (fun h => ?_) fun h => ?_))
    refine L_nil (hS _ _ ?_)
    clear hS
    refine A_nil (by kernel_rfl) cv_ ?_
    repeat' (first | ((first | (apply gCall; apply L_call rfl rfl rfl rfl rfl) | (apply gQC; apply Q_call rfl rfl rfl rfl rfl)); (· first | exact head_c at_ at_ hw om om | exact implForwarded_c om om | exact implReadHead_c om om); try rintro _ _ ⟨rfl, rfl⟩) | (apply gL; first | refine L_nil ?_ | refine yS ?_ | refine yA fun _ => ?_ | (apply gSt; first | refine sR ?_ | refine sB ?_ | refine s1 ?_ | refine sW ?_ | refine sN ?_) | (apply gMm; refine L_mkmap rfl rfl rfl rfl (fun _ => ?_)) | (apply gMu; apply L_mapset rfl rfl rfl rfl rfl rfl; (· exact up_)) | refine kV ?_ | ((fail_if_success (refine L_known rfl ?_)); refine yW (fun h => ?_) fun h => ?_)) | (apply gW; first | refine W_seq ?_ | refine W_region ?_ | refine W_ret ?_ | refine W_skip ?_ | refine W_block ?_ | refine W_exit ?_ | refine W_cond1 rfl ?_ | refine W_cond0 rfl ?_ | refine cW (fun h => ?_) fun h => ?_ | refine wQ ?_) | (first | refine seqR.normal ?_ | refine seqR.ret ?_ | refine seqR.exit ?_ | refine blockR.normal ?_ | refine blockR.ret ?_ | refine blockR.here ?_ | refine blockR.exit rfl ?_ | refine loopR.ret ?_ | refine loopR.exit ?_ | refine midA.ret ?_ | refine midA.exit ?_) | (apply gQ; first | refine Q_nil ?_ | refine Q_skip rfl rfl rfl ?_ | refine kQ ?_ | ((fail_if_success (refine Q_known rfl ?_)); refine zW (fun h => ?_) fun h => ?_)) | fail)
    · rw [e, if_neg (fun c => by omega)] at hf
      exact retR.ret _ _ (ret1 rfl rfl) cvt_ ⟨by rw [← hf]; rfl, _, _, rfl, by simp [hl], fun _ h => by rw [← hf] at h; cases h⟩
    · rw [← h4.2.2.2.2, if_pos ⟨decide_eq_true hok, by omega, by omega, hno⟩, ← h4.2.2.1] at e
      rw [e] at hf
      apply loopR.mk (p + rs (g A.ws p) + 1, _, _)
      · exact sub_
      · exact cvt_
      · exact ⟨⟨f', hf, by dsimp only; omega⟩, by simp [hl], by dsimp only; omega, by dsimp only; omega⟩
      · dsimp only; omega)
end Go.Proofs.Ytfhihnonafklbaa.Eng
namespace Go.Proofs.Ytfhihnonafklbaa.Eng
open Go Go.RowKit Go.Proofs.Ytfhihnonafklbaa.Sl Go.Proofs.Ytfhihnonafklbaa.Ar Go.Proofs.Ytfhihnonafklbaa.Base
set_option linter.unusedVariables false
set_option linter.unusedSimpArgs false
set_option maxRecDepth 10000
variable {w0 : World} {H : HL} {C : Cn} {A : Ar} {ba : Nat}
/-- is the other half tiled, and is as much copied as is told? -/
def sumOk (A : Ar) : Option (List Int × List Int × Int) → Bool
  | none => false
  | some x => decide (x.2.2 = A.copied)
set_option maxHeartbeats 4000000 in
theorem heads2_c {bv bi bs bb : Nat} {m0 ks0 kb : List Int} (hP : At H ba (aObj C A)) (hA : At H C.bw (wObj C A)) (hw : Wf A.ws) (hm : A.ws.length ≤ 8000) (hl0 : m0.length = A.ws.length) (hst : 1 ≤ A.start (1 - A.to)) (hst2 : A.start (1 - A.to) ≤ A.old) (htp : A.old ≤ A.ws.length) :
    Fn Try.prog w0 49 #[.pointer (some ⟨bv, 0, none⟩), .int .i64 (A.start (1 - A.to)), .int .i64 A.old, .int .u8 2] ((bv, svObj ba bi A.ws.length bs bb) :: (bb, sObj kb) :: (bs, sObj ks0) :: (bi, uObj m0) :: H) fun v H' => v = .bool (sumOk A (A.hd2 (A.ws.length + 1) (A.start (1 - A.to)) m0 ks0 [] 0)) ∧ ∃ m' ks', H' = (bv, svObj ba bi A.ws.length bs bb) :: (bb, sObj kb) :: (bs, sObj ks') :: (bi, uObj m') :: H ∧ m'.length = A.ws.length ∧ ∀ x, A.hd2 (A.ws.length + 1) (A.start (1 - A.to)) m0 ks0 [] 0 = some x → x.1 = m' ∧ x.2.1 = ks' := by
  refine enter4 Try.func49 rfl rfl Try.ntmps49 rfl ?_
  repeat' (first | ((first | (apply gCall; apply L_call rfl rfl rfl rfl rfl) | (apply gQC; apply Q_call rfl rfl rfl rfl rfl)); (· first | exact head_c at_ at_ hw om om | exact implForwarded_c om om | exact implReadHead_c om om); try rintro _ _ ⟨rfl, rfl⟩) | (apply gL; first | refine L_nil ?_ | refine yS ?_ | refine yA fun _ => ?_ | (apply gSt; first | refine sR ?_ | refine sB ?_ | refine s1 ?_ | refine sW ?_ | refine sN ?_) | (apply gMm; refine L_mkmap rfl rfl rfl rfl (fun _ => ?_)) | (apply gMu; apply L_mapset rfl rfl rfl rfl rfl rfl; (· exact up_)) | refine kV ?_ | ((fail_if_success (refine L_known rfl ?_)); refine yW (fun h => ?_) fun h => ?_)) | (apply gW; first | refine W_seq ?_ | refine W_region ?_ | refine W_ret ?_ | refine W_skip ?_ | refine W_block ?_ | refine W_exit ?_ | refine W_cond1 rfl ?_ | refine W_cond0 rfl ?_ | refine cW (fun h => ?_) fun h => ?_ | refine wQ ?_) | (first | refine seqR.normal ?_ | refine seqR.ret ?_ | refine seqR.exit ?_ | refine blockR.normal ?_ | refine blockR.ret ?_ | refine blockR.here ?_ | refine blockR.exit rfl ?_ | refine loopR.ret ?_ | refine loopR.exit ?_ | refine midA.ret ?_ | refine midA.exit ?_) | (apply gQ; first | refine Q_nil ?_ | refine Q_skip rfl rfl rfl ?_ | refine kQ ?_ | ((fail_if_success (refine Q_known rfl ?_)); refine zW (fun h => ?_) fun h => ?_)) | fail)
  rename_i bq
  apply W_loopX (α := Int × List Int × List Int × List Int × Int) (fun y => [(0, .pointer (some ⟨bv, 0, none⟩)), (2, .int .i64 A.old), (3, .int .u8 2), (9, .int .i64 y.2.2.2.2), (10, .map (some bq)), (11, .int .i64 y.1)]) (fun y => (bq, sObj y.2.2.2.1) :: (bv, svObj ba bi A.ws.length bs bb) :: (bb, sObj kb) :: (bs, sObj y.2.2.1) :: (bi, uObj y.2.1) :: H)
    (fun y => (∃ f, A.hd2 f y.1 y.2.1 y.2.2.1 y.2.2.2.1 y.2.2.2.2 = A.hd2 (A.ws.length + 1) (A.start (1 - A.to)) m0 ks0 [] 0 ∧ A.old - y.1 < (f : Int)) ∧ y.2.1.length = A.ws.length ∧ 1 ≤ y.1 ∧ y.1 ≤ A.old ∧ 0 ≤ y.2.2.2.2 ∧ y.2.2.2.2 ≤ y.1) (fun y => (A.old - y.1).toNat) (A.start (1 - A.to), m0, ks0, [], 0)
  · exact sub_
  · exact cvt_
  · exact ⟨⟨_, rfl, by dsimp only; omega⟩, hl0, by dsimp only; omega, by dsimp only; omega, by dsimp only; omega, by dsimp only; omega⟩
  rintro ⟨p, m, ks, led, sum⟩ ⟨⟨f, hf, hf2⟩, hl, hp1, hp2, hs1, hs2⟩
  dsimp only at hf hf2 hl hp1 hp2 hs1 hs2 ⊢
  have hp := hw p
  have hr := rsR (g A.ws p)
  have hrn := rnR hp.1 hp.2
  have hq := fwR (g A.ws p)
  have hr2 := rsR (g A.ws (fw (g A.ws p)))
  repeat' (fail_if_success apply gAt 15); (first | ((first | (apply gCall; apply L_call rfl rfl rfl rfl rfl) | (apply gQC; apply Q_call rfl rfl rfl rfl rfl)); (· first | exact head_c at_ at_ hw om om | exact implForwarded_c om om | exact implReadHead_c om om); try rintro _ _ ⟨rfl, rfl⟩) | (apply gL; first | refine L_nil ?_ | refine yS ?_ | refine yA fun _ => ?_ | (apply gSt; first | refine sR ?_ | refine sB ?_ | refine s1 ?_ | refine sW ?_ | refine sN ?_) | (apply gMm; refine L_mkmap rfl rfl rfl rfl (fun _ => ?_)) | (apply gMu; apply L_mapset rfl rfl rfl rfl rfl rfl; (· exact up_)) | refine kV ?_ | ((fail_if_success (refine L_known rfl ?_)); refine yW (fun h => ?_) fun h => ?_)) | (apply gW; first | refine W_seq ?_ | refine W_region ?_ | refine W_ret ?_ | refine W_skip ?_ | refine W_block ?_ | refine W_exit ?_ | refine W_cond1 rfl ?_ | refine W_cond0 rfl ?_ | refine cW (fun h => ?_) fun h => ?_ | refine wQ ?_) | (first | refine seqR.normal ?_ | refine seqR.ret ?_ | refine seqR.exit ?_ | refine blockR.normal ?_ | refine blockR.ret ?_ | refine blockR.here ?_ | refine blockR.exit rfl ?_ | refine loopR.ret ?_ | refine loopR.exit ?_ | refine midA.ret ?_ | refine midA.exit ?_) | (apply gQ; first | refine Q_nil ?_ | refine Q_skip rfl rfl rfl ?_ | refine kQ ?_ | ((fail_if_success (refine Q_known rfl ?_)); refine zW (fun h => ?_) fun h => ?_)) | fail)
  rotate_left 5
  · rename_i bx
    have hnf : ¬ isFw (g A.ws p) = true := fun c => h (of_decide_eq_true c)
    obtain ⟨f', rfl, e⟩ := hd2_step (ks := ks) (m := m) (led := led) (sum := sum) hf2 (by omega)
    rw [if_neg hnf] at e
    refine W_midA (α := Unit) (fun y => [(0, .pointer (some ⟨bv, 0, none⟩)), (2, .int .i64 A.old), (3, .int .u8 2), (9, .int .i64 sum), (10, .map (some bq)), (11, .int .i64 p), (15, .pointer (some ⟨bx, 0, none⟩))]) (fun _ => (bs, sObj ks) :: (bi, uObj m) :: (bb, sObj kb) :: (bq, sObj led) :: (bx, .cells #[.int .i64 (rk (g A.ws p)), .int .i64 (rs (g A.ws p)), .int .i64 (rn (g A.ws p))] 65 (0, 0)) :: (bv, svObj ba bi A.ws.length bs bb) :: H)
      (fun _ => HeadP (hk (g A.ws p)) (hs (g A.ws p)) (Ar.hn (g A.ws p)) ∧ ¬ A.serial ≤ rn (g A.ws p) ∧ ¬ (rn (g A.ws p) ≠ 0 ∧ rn (g A.ws p) ∈ ks)) ?_ ?_
    · repeat' (first | ((first | (apply gCall; apply L_call rfl rfl rfl rfl rfl) | (apply gQC; apply Q_call rfl rfl rfl rfl rfl)); (· first | exact head_c at_ at_ hw om om | exact implForwarded_c om om | exact implReadHead_c om om); try rintro _ _ ⟨rfl, rfl⟩) | (apply gL; first | refine L_nil ?_ | refine yS ?_ | refine yA fun _ => ?_ | (apply gSt; first | refine sR ?_ | refine sB ?_ | refine s1 ?_ | refine sW ?_ | refine sN ?_) | (apply gMm; refine L_mkmap rfl rfl rfl rfl (fun _ => ?_)) | (apply gMu; apply L_mapset rfl rfl rfl rfl rfl rfl; (· exact up_)) | refine kV ?_ | ((fail_if_success (refine L_known rfl ?_)); refine yW (fun h => ?_) fun h => ?_)) | (apply gW; first | refine W_seq ?_ | refine W_region ?_ | refine W_ret ?_ | refine W_skip ?_ | refine W_block ?_ | refine W_exit ?_ | refine W_cond1 rfl ?_ | refine W_cond0 rfl ?_ | refine cW (fun h => ?_) fun h => ?_ | refine wQ ?_) | (first | refine seqR.normal ?_ | refine seqR.ret ?_ | refine seqR.exit ?_ | refine blockR.normal ?_ | refine blockR.ret ?_ | refine blockR.here ?_ | refine blockR.exit rfl ?_ | refine loopR.ret ?_ | refine loopR.exit ?_ | refine midA.ret ?_ | refine midA.exit ?_) | (apply gQ; first | refine Q_nil ?_ | refine Q_skip rfl rfl rfl ?_ | refine kQ ?_ | ((fail_if_success (refine Q_known rfl ?_)); refine zW (fun h => ?_) fun h => ?_)) | fail)
      all_goals (try (
        rw [e, if_neg (fun c => by first | exact h (of_decide_eq_true c.1) | (have := rsR' c.1; omega) | (have := rsR' c.1; exact c.2.2.2 ⟨by omega, by rw [← this.2.2.2.2]; exact h⟩))] at hf
        exact retR.ret _ _ (ret1 rfl rfl) cvt_ ⟨by rw [← hf]; rfl, m, ks, rfl, hl, fun _ h => by rw [← hf] at h; cases h⟩))
      all_goals (apply midA.mk ()
                 · exact sub_
                 · exact cvt_
                 · exact ⟨by assumption, by assumption, fun c => by first | omega | exact h c.2⟩)
    rintro _ ⟨hok, hser, hno⟩
    have h4 := rsR' (decide_eq_true hok)
    repeat' (fail_if_success apply gAt 17); (first | ((first | (apply gCall; apply L_call rfl rfl rfl rfl rfl) | (apply gQC; apply Q_call rfl rfl rfl rfl rfl)); (· first | exact head_c at_ at_ hw om om | exact implForwarded_c om om | exact implReadHead_c om om); try rintro _ _ ⟨rfl, rfl⟩) | (apply gL; first | refine L_nil ?_ | refine yS ?_ | refine yA fun _ => ?_ | (apply gSt; first | refine sR ?_ | refine sB ?_ | refine s1 ?_ | refine sW ?_ | refine sN ?_) | (apply gMm; refine L_mkmap rfl rfl rfl rfl (fun _ => ?_)) | (apply gMu; apply L_mapset rfl rfl rfl rfl rfl rfl; (· exact up_)) | refine kV ?_ | ((fail_if_success (refine L_known rfl ?_)); refine yW (fun h => ?_) fun h => ?_)) | (apply gW; first | refine W_seq ?_ | refine W_region ?_ | refine W_ret ?_ | refine W_skip ?_ | refine W_block ?_ | refine W_exit ?_ | refine W_cond1 rfl ?_ | refine W_cond0 rfl ?_ | refine cW (fun h => ?_) fun h => ?_ | refine wQ ?_) | (first | refine seqR.normal ?_ | refine seqR.ret ?_ | refine seqR.exit ?_ | refine blockR.normal ?_ | refine blockR.ret ?_ | refine blockR.here ?_ | refine blockR.exit rfl ?_ | refine loopR.ret ?_ | refine loopR.exit ?_ | refine midA.ret ?_ | refine midA.exit ?_) | (apply gQ; first | refine Q_nil ?_ | refine Q_skip rfl rfl rfl ?_ | refine kQ ?_ | ((fail_if_success (refine Q_known rfl ?_)); refine zW (fun h => ?_) fun h => ?_)) | fail)
    apply W_regionA (D := (bx, .cells #[.int .i64 (rk (g A.ws p)), .int .i64 (rs (g A.ws p)), .int .i64 (rn (g A.ws p))] 65 (0, 0)) :: (bv, svObj ba bi A.ws.length bs bb) :: H) (by kernel_rfl)
    refine kA 0 ?_
    refine kA 1 ?_
    refine kA 2 ?_
    refine kA 3 ?_
    refine kA 4 ?_
    refine kA 5 ?_
    refine A_one (i := 6) (by kernel_rfl) cv_ rfl (O_of_L fun S hS => ?_)
    first | (apply gCall; apply L_call rfl rfl rfl rfl rfl; (· first | exact head_c at_ at_ hw om om | exact implForwarded_c om om | exact implReadHead_c om om); rintro _ _ ⟨rfl, rfl⟩) | (apply gL; first | refine L_nil ?_ | refine yS ?_ | refine yA fun _ => ?_ | (apply gSt; first | refine sR ?_ | refine sB ?_ | refine s1 ?_ | refine sW ?_ | refine sN ?_) | (apply gMm; refine L_mkmap rfl rfl rfl rfl (fun _ => ?_)) | (apply gMu; apply L_mapset rfl rfl rfl rfl rfl rfl; (· exact up_)) | refine kV ?_ | ((fail_if_success (refine L_known rfl ?_)); refine yW (fun h => ?_) fun h => ?_))
    refine L_nil (hS _ _ ?_)
    clear hS
    refine A_nil (by kernel_rfl) cv_ ?_
    repeat' (first | ((first | (apply gCall; apply L_call rfl rfl rfl rfl rfl) | (apply gQC; apply Q_call rfl rfl rfl rfl rfl)); (· first | exact head_c at_ at_ hw om om | exact implForwarded_c om om | exact implReadHead_c om om); try rintro _ _ ⟨rfl, rfl⟩) | (apply gL; first | refine L_nil ?_ | refine yS ?_ | refine yA fun _ => ?_ | (apply gSt; first | refine sR ?_ | refine sB ?_ | refine s1 ?_ | refine sW ?_ | refine sN ?_) | (apply gMm; refine L_mkmap rfl rfl rfl rfl (fun _ => ?_)) | (apply gMu; apply L_mapset rfl rfl rfl rfl rfl rfl; (· exact up_)) | refine kV ?_ | ((fail_if_success (refine L_known rfl ?_)); refine yW (fun h => ?_) fun h => ?_)) | (apply gW; first | refine W_seq ?_ | refine W_region ?_ | refine W_ret ?_ | refine W_skip ?_ | refine W_block ?_ | refine W_exit ?_ | refine W_cond1 rfl ?_ | refine W_cond0 rfl ?_ | refine cW (fun h => ?_) fun h => ?_ | refine wQ ?_) | (first | refine seqR.normal ?_ | refine seqR.ret ?_ | refine seqR.exit ?_ | refine blockR.normal ?_ | refine blockR.ret ?_ | refine blockR.here ?_ | refine blockR.exit rfl ?_ | refine loopR.ret ?_ | refine loopR.exit ?_ | refine midA.ret ?_ | refine midA.exit ?_) | (apply gQ; first | refine Q_nil ?_ | refine Q_skip rfl rfl rfl ?_ | refine kQ ?_ | ((fail_if_success (refine Q_known rfl ?_)); refine zW (fun h => ?_) fun h => ?_)) | fail)
    · rw [e, if_neg (fun c => by omega)] at hf
      exact retR.ret _ _ (ret1 rfl rfl) cvt_ ⟨by rw [← hf]; rfl, _, _, rfl, by simp [hl], fun _ h => by rw [← hf] at h; cases h⟩
    · rw [← h4.2.2.2.2, if_pos ⟨decide_eq_true hok, by omega, by omega, hno⟩, ← h4.2.2.1] at e
      rw [e] at hf
      apply loopR.mk (p + rs (g A.ws p) + 1, _, _, _, sum)
      · exact sub_
      · exact cvt_
      · exact ⟨⟨f', hf, by dsimp only; omega⟩, by simp [hl], by dsimp only; omega, by dsimp only; omega, by dsimp only; omega, by dsimp only; omega⟩
      · dsimp only; omega
  · rw [hd2_end hf2 (by omega)] at hf
    exact retR.ret _ _ (ret1 rfl rfl) cvt_ ⟨by rw [← hf]; rfl, m, ks, rfl, hl, fun _ h => by rw [← hf] at h; cases h; exact ⟨rfl, rfl⟩⟩
  all_goals (
    have hfw : isFw (g A.ws p) = true := decide_eq_true (by assumption)
    obtain ⟨f', rfl, e⟩ := hd2_step (ks := ks) (m := m) (led := led) (sum := sum) hf2 (by omega)
    rw [if_pos hfw] at e
    first
      | (rw [e, if_neg (fun c => by first | omega | exact h c.2.1 | exact c.2.2.1 h)] at hf
         exact retR.ret _ _ (ret1 rfl rfl) cvt_ ⟨by rw [← hf]; rfl, _, _, rfl, by simp [hl], fun _ h => by rw [← hf] at h; cases h⟩)
      | (rw [if_pos ⟨by omega, by assumption, by assumption, by omega⟩] at e
         rw [e] at hf
         apply loopR.mk (p + rs (g A.ws (fw (g A.ws p))) + 1, _, _, _, sum + rs (g A.ws (fw (g A.ws p))) + 1)
         · exact sub_
         · exact cvt_
         · exact ⟨⟨f', hf, by dsimp only; omega⟩, by simp [hl], by dsimp only; omega, by dsimp only; omega, by dsimp only; omega, by dsimp only; omega⟩
         · dsimp only; omega))
end Go.Proofs.Ytfhihnonafklbaa.Eng
