/- The law's own: the arena that came in, laid anew; arenas compared. -/
import Derived.Test.YtfmhlieaodbgiaaGreatL0
import Derived.Test.YtfmhlieaodbgiaaGreatBkS
namespace Go.Proofs.YtfmhlieaodbgiaaGreat.Eng
open Go Go.RowKit Go.Proofs.YtfmhlieaodbgiaaGreat.Sl Go.Proofs.YtfmhlieaodbgiaaGreat.Ar Go.Proofs.YtfmhlieaodbgiaaGreat.Base
set_option linter.unusedVariables false
set_option linter.unusedSimpArgs false
set_option maxRecDepth 10000
variable {w0 : World} {H : HL} {C : Cn} {A : Ar}
/-- a row of words that came in -/
structure InU (w0 : World) (a : Option Addr) (c : Nat) (xs : List Int) : Prop where
  le : (xs.length : Int) ≤ 9223372036854775807
  row : xs ≠ [] → ∃ x, a = some x ∧ ∀ i : Int, 0 ≤ i → i < (xs.length : Int) → w0.cell? (x.add (i.toNat * 1)) = some (.int .u64 (g xs i))
structure InV (w0 : World) (a : Option Addr) (c : Nat) (vs : List (Int × Int)) : Prop where
  le : (vs.length : Int) ≤ 9223372036854775807
  row : vs ≠ [] → ∃ x, a = some x ∧ ∀ i : Int, 0 ≤ i → i < (vs.length : Int) → w0.cell? ((x.add (i.toNat * 2)).add 0) = some (.int .i64 (vs.getD i.toNat (0, 0)).1) ∧ w0.cell? ((x.add (i.toNat * 2)).add 1) = some (.int .i64 (vs.getD i.toNat (0, 0)).2)
theorem g_ext2 {xs ys : List Int} (hl : xs.length = ys.length) (h : ∀ j : Int, 0 ≤ j → j < (xs.length : Int) → g xs j = g ys j) : xs = ys := by
  apply List.ext_getElem hl
  intro n h1 h2
  have := h (n : Int) (by omega) (by omega)
  unfold g at this
  rw [List.getD_eq_getElem?_getD, List.getD_eq_getElem?_getD, Int.toNat_natCast, List.getElem?_eq_getElem h1, List.getElem?_eq_getElem h2] at this
  exact this
theorem getD_set {vs : List (Int × Int)} {i j : Int} {u : Int × Int} (h0 : 0 ≤ i) (h : i < (vs.length : Int)) (hj : 0 ≤ j) : (vs.set i.toNat u).getD j.toNat (0, 0) = if j = i then u else vs.getD j.toNat (0, 0) := by
  simp only [List.getD_eq_getElem?_getD, List.getElem?_set]
  by_cases e : i.toNat = j.toNat
  · have : j = i := by omega
    subst this
    rw [if_pos rfl, if_pos (by omega), if_pos rfl]; rfl
  · rw [if_neg e, if_neg (fun c => e (by rw [c]))]
theorem getD_ext {xs ys : List (Int × Int)} (hl : xs.length = ys.length) (h : ∀ j : Int, 0 ≤ j → j < (xs.length : Int) → xs.getD j.toNat (0, 0) = ys.getD j.toNat (0, 0)) : xs = ys := by
  apply List.ext_getElem hl
  intro n h1 h2
  have := h (n : Int) (by omega) (by omega)
  rw [List.getD_eq_getElem?_getD, List.getD_eq_getElem?_getD, Int.toNat_natCast, List.getElem?_eq_getElem h1, List.getElem?_eq_getElem h2] at this
  exact this
abbrev laV (aW : Option Addr) (cW : Nat) (aR : Option Addr) (cR : Nat) (A : Ar) : Value := .agg #[.slice aW A.ws.length cW, .int .i64 A.semi, .int .i64 A.to, .int .i64 A.top, .bool A.cyc, .int .i64 A.scan, .int .i64 A.old, .int .i64 A.copied, .int .i64 A.serial, .slice aR A.vs.length cR]
theorem eqUint64S_c {b b' c c' : Nat} {xs : List Int} {sp sp' : List Value} (h1 : At H b (.cells (rowA .u64 xs sp) 64 (0, 0))) (h2 : At H b' (.cells (rowA .u64 xs sp') 64 (0, 0))) (hl : xs.length ≤ 1048576) :
    Fn Tryz.prog w0 56 #[.slice (some ⟨b, 0, none⟩) xs.length c, .slice (some ⟨b', 0, none⟩) xs.length c'] H fun v H' => v = .bool true ∧ H' = H := by
  refine enter2 Tryz.func56 rfl rfl Tryz.ntmps56 rfl ?_
  repeat' (first | ((first | (apply gCall; apply L_call rfl rfl rfl rfl rfl) | (apply gQC; apply Q_call rfl rfl rfl rfl rfl)); (· first | exact eqVal_c); try rintro _ _ ⟨rfl, rfl⟩) | (apply gL; first | refine L_nil ?_ | refine yX fun _ => ?_ | refine kV ?_ | (apply L_val rfl rfl rfl; (· first | (apply gBin; first | fail | exact v_nebs rfl rfl) | fail | (apply v_ldA rfl; (· exact hcell _ om om); done) | (apply v_ldA2 rfl; (· exact (hcell _ om om).1); (· exact (hcell _ om om).2); done) | exact v_idxA rfl rfl om))) | (apply gW; first | refine W_seq ?_ | refine W_region ?_ | refine W_ret ?_ | refine W_skip ?_ | refine W_block ?_ | refine W_exit ?_ | refine W_cond1 rfl ?_ | refine W_cond0 rfl ?_ | refine Eng.cW (fun h => ?_) fun h => ?_ | refine wQ ?_) | (first | refine seqR.normal ?_ | refine seqR.ret ?_ | refine seqR.exit ?_ | refine blockR.normal ?_ | refine blockR.ret ?_ | refine blockR.here ?_ | refine blockR.exit rfl ?_ | refine loopR.ret ?_ | refine loopR.exit ?_) | (apply gQ; first | refine Q_nil ?_ | refine kQ ?_ | (apply Q_val rfl rfl rfl; (· first | (apply gBin; first | fail | exact v_nebs rfl rfl) | fail | (apply v_ldA rfl; (· exact hcell _ om om); done) | (apply v_ldA2 rfl; (· exact (hcell _ om om).1); (· exact (hcell _ om om).2); done) | exact v_idxA rfl rfl om))) | fail)
  · exact absurd rfl h
  apply W_loopX (α := Int) (fun y => [(0, .slice (some ⟨b, 0, none⟩) xs.length c), (1, .slice (some ⟨b', 0, none⟩) xs.length c'), (5, .int .i64 y)]) (fun _ => H) (fun y => 0 ≤ y ∧ y ≤ xs.length) (fun y => (xs.length - y).toNat) 0
  · exact sub_
  · exact cvt_
  · exact ⟨by omega, by omega⟩
  rintro i ⟨hi, hi2⟩
  repeat' (first | ((first | (apply gCall; apply L_call rfl rfl rfl rfl rfl) | (apply gQC; apply Q_call rfl rfl rfl rfl rfl)); (· first | exact eqVal_c); try rintro _ _ ⟨rfl, rfl⟩) | (apply gL; first | refine L_nil ?_ | refine yX fun _ => ?_ | refine kV ?_ | (apply L_val rfl rfl rfl; (· first | (apply gBin; first | fail | exact v_nebs rfl rfl) | fail | (apply v_ldA rfl; (· exact hcell _ om om); done) | (apply v_ldA2 rfl; (· exact (hcell _ om om).1); (· exact (hcell _ om om).2); done) | exact v_idxA rfl rfl om))) | (apply gW; first | refine W_seq ?_ | refine W_region ?_ | refine W_ret ?_ | refine W_skip ?_ | refine W_block ?_ | refine W_exit ?_ | refine W_cond1 rfl ?_ | refine W_cond0 rfl ?_ | refine Eng.cW (fun h => ?_) fun h => ?_ | refine wQ ?_) | (first | refine seqR.normal ?_ | refine seqR.ret ?_ | refine seqR.exit ?_ | refine blockR.normal ?_ | refine blockR.ret ?_ | refine blockR.here ?_ | refine blockR.exit rfl ?_ | refine loopR.ret ?_ | refine loopR.exit ?_) | (apply gQ; first | refine Q_nil ?_ | refine kQ ?_ | (apply Q_val rfl rfl rfl; (· first | (apply gBin; first | fail | exact v_nebs rfl rfl) | fail | (apply v_ldA rfl; (· exact hcell _ om om); done) | (apply v_ldA2 rfl; (· exact (hcell _ om om).1); (· exact (hcell _ om om).2); done) | exact v_idxA rfl rfl om))) | fail)
  · exact absurd rfl h
  · apply loopR.mk (i + 1)
    · exact sub_
    · exact cvt_
    · exact ⟨by omega, by omega⟩
    · (try dsimp only); omega
  · refine retR.ret _ _ (ret1 rfl rfl) cv_ ⟨?_, rfl⟩
    rfl
theorem eqVal_c {t n : Int} : Fn Tryz.prog w0 31 #[.agg #[.int .i64 t, .int .i64 n], .agg #[.int .i64 t, .int .i64 n]] H fun v H' => v = .bool true ∧ H' = H := by
  refine enter2 Tryz.func31 rfl rfl Tryz.ntmps31 rfl ?_
  repeat' (first | ((first | (apply gCall; apply L_call rfl rfl rfl rfl rfl) | (apply gQC; apply Q_call rfl rfl rfl rfl rfl)); (· first | exact eqVal_c); try rintro _ _ ⟨rfl, rfl⟩) | (apply gL; first | refine L_nil ?_ | refine yX fun _ => ?_ | refine kV ?_ | (apply L_val rfl rfl rfl; (· first | (apply gBin; first | fail | exact v_nebs rfl rfl) | fail | (apply v_ldA rfl; (· exact hcell _ om om); done) | (apply v_ldA2 rfl; (· exact (hcell _ om om).1); (· exact (hcell _ om om).2); done) | exact v_idxA rfl rfl om))) | (apply gW; first | refine W_seq ?_ | refine W_region ?_ | refine W_ret ?_ | refine W_skip ?_ | refine W_block ?_ | refine W_exit ?_ | refine W_cond1 rfl ?_ | refine W_cond0 rfl ?_ | refine Eng.cW (fun h => ?_) fun h => ?_ | refine wQ ?_) | (first | refine seqR.normal ?_ | refine seqR.ret ?_ | refine seqR.exit ?_ | refine blockR.normal ?_ | refine blockR.ret ?_ | refine blockR.here ?_ | refine blockR.exit rfl ?_ | refine loopR.ret ?_ | refine loopR.exit ?_) | (apply gQ; first | refine Q_nil ?_ | refine kQ ?_ | (apply Q_val rfl rfl rfl; (· first | (apply gBin; first | fail | exact v_nebs rfl rfl) | fail | (apply v_ldA rfl; (· exact hcell _ om om); done) | (apply v_ldA2 rfl; (· exact (hcell _ om om).1); (· exact (hcell _ om om).2); done) | exact v_idxA rfl rfl om))) | fail)
  all_goals (first | exact absurd rfl h | (refine retR.ret _ _ (ret1 rfl rfl) cv_ ⟨?_, rfl⟩; rfl))
theorem eqValS_c {b b' c c' : Nat} {xs : List (Int × Int)} {sp sp' : List Value} (h1 : At H b (.cells (rowV xs sp) 35 (0, 0))) (h2 : At H b' (.cells (rowV xs sp') 35 (0, 0))) (hl : xs.length ≤ 1048576) :
    Fn Tryz.prog w0 57 #[.slice (some ⟨b, 0, none⟩) xs.length c, .slice (some ⟨b', 0, none⟩) xs.length c'] H fun v H' => v = .bool true ∧ H' = H := by
  refine enter2 Tryz.func57 rfl rfl Tryz.ntmps57 rfl ?_
  repeat' (first | ((first | (apply gCall; apply L_call rfl rfl rfl rfl rfl) | (apply gQC; apply Q_call rfl rfl rfl rfl rfl)); (· first | exact eqVal_c); try rintro _ _ ⟨rfl, rfl⟩) | (apply gL; first | refine L_nil ?_ | refine yX fun _ => ?_ | refine kV ?_ | (apply L_val rfl rfl rfl; (· first | (apply gBin; first | fail | exact v_nebs rfl rfl) | fail | (apply v_ldA rfl; (· exact hcell _ om om); done) | (apply v_ldA2 rfl; (· exact (hcell _ om om).1); (· exact (hcell _ om om).2); done) | exact v_idxA rfl rfl om))) | (apply gW; first | refine W_seq ?_ | refine W_region ?_ | refine W_ret ?_ | refine W_skip ?_ | refine W_block ?_ | refine W_exit ?_ | refine W_cond1 rfl ?_ | refine W_cond0 rfl ?_ | refine Eng.cW (fun h => ?_) fun h => ?_ | refine wQ ?_) | (first | refine seqR.normal ?_ | refine seqR.ret ?_ | refine seqR.exit ?_ | refine blockR.normal ?_ | refine blockR.ret ?_ | refine blockR.here ?_ | refine blockR.exit rfl ?_ | refine loopR.ret ?_ | refine loopR.exit ?_) | (apply gQ; first | refine Q_nil ?_ | refine kQ ?_ | (apply Q_val rfl rfl rfl; (· first | (apply gBin; first | fail | exact v_nebs rfl rfl) | fail | (apply v_ldA rfl; (· exact hcell _ om om); done) | (apply v_ldA2 rfl; (· exact (hcell _ om om).1); (· exact (hcell _ om om).2); done) | exact v_idxA rfl rfl om))) | fail)
  · exact absurd rfl h
  apply W_loopX (α := Int) (fun y => [(0, .slice (some ⟨b, 0, none⟩) xs.length c), (1, .slice (some ⟨b', 0, none⟩) xs.length c'), (5, .int .i64 y)]) (fun _ => H) (fun y => 0 ≤ y ∧ y ≤ xs.length) (fun y => (xs.length - y).toNat) 0
  · exact sub_
  · exact cvt_
  · exact ⟨by omega, by omega⟩
  rintro i ⟨hi, hi2⟩
  repeat' (first | ((first | (apply gCall; apply L_call rfl rfl rfl rfl rfl) | (apply gQC; apply Q_call rfl rfl rfl rfl rfl)); (· first | exact eqVal_c); try rintro _ _ ⟨rfl, rfl⟩) | (apply gL; first | refine L_nil ?_ | refine yX fun _ => ?_ | refine kV ?_ | (apply L_val rfl rfl rfl; (· first | (apply gBin; first | fail | exact v_nebs rfl rfl) | fail | (apply v_ldA rfl; (· exact hcell _ om om); done) | (apply v_ldA2 rfl; (· exact (hcell _ om om).1); (· exact (hcell _ om om).2); done) | exact v_idxA rfl rfl om))) | (apply gW; first | refine W_seq ?_ | refine W_region ?_ | refine W_ret ?_ | refine W_skip ?_ | refine W_block ?_ | refine W_exit ?_ | refine W_cond1 rfl ?_ | refine W_cond0 rfl ?_ | refine Eng.cW (fun h => ?_) fun h => ?_ | refine wQ ?_) | (first | refine seqR.normal ?_ | refine seqR.ret ?_ | refine seqR.exit ?_ | refine blockR.normal ?_ | refine blockR.ret ?_ | refine blockR.here ?_ | refine blockR.exit rfl ?_ | refine loopR.ret ?_ | refine loopR.exit ?_) | (apply gQ; first | refine Q_nil ?_ | refine kQ ?_ | (apply Q_val rfl rfl rfl; (· first | (apply gBin; first | fail | exact v_nebs rfl rfl) | fail | (apply v_ldA rfl; (· exact hcell _ om om); done) | (apply v_ldA2 rfl; (· exact (hcell _ om om).1); (· exact (hcell _ om om).2); done) | exact v_idxA rfl rfl om))) | fail)
  · apply loopR.mk (i + 1)
    · exact sub_
    · exact cvt_
    · exact ⟨by omega, by omega⟩
    · (try dsimp only); omega
  · refine retR.ret _ _ (ret1 rfl rfl) cv_ ⟨?_, rfl⟩
    rfl
set_option maxHeartbeats 2000000 in
theorem eqArena_c {C C' : Cn} (h1 : At H C.bw (wObj C A)) (h2 : At H C'.bw (wObj C' A)) (h3 : At H C.br (rObj C A)) (h4 : At H C'.br (rObj C' A)) (hl : A.ws.length ≤ 1048576) (hl2 : A.vs.length ≤ 1048576) :
    Fn Tryz.prog w0 30 #[arV C A, arV C' A] H fun v H' => v = .bool true ∧ H' = H := by
  refine enter2 Tryz.func30 rfl rfl Tryz.ntmps30 rfl ?_
  repeat' (first | ((first | (apply gCall; apply L_call rfl rfl rfl rfl rfl) | (apply gQC; apply Q_call rfl rfl rfl rfl rfl)); (· first | exact eqVal_c); try rintro _ _ ⟨rfl, rfl⟩) | (apply gL; first | refine L_nil ?_ | refine yX fun _ => ?_ | refine kV ?_ | (apply L_val rfl rfl rfl; (· first | (apply gBin; first | fail | exact v_nebs rfl rfl) | fail | (apply v_ldA rfl; (· exact hcell _ om om); done) | (apply v_ldA2 rfl; (· exact (hcell _ om om).1); (· exact (hcell _ om om).2); done) | exact v_idxA rfl rfl om))) | (apply gW; first | refine W_seq ?_ | refine W_region ?_ | refine W_ret ?_ | refine W_skip ?_ | refine W_block ?_ | refine W_exit ?_ | refine W_cond1 rfl ?_ | refine W_cond0 rfl ?_ | refine Eng.cW (fun h => ?_) fun h => ?_ | refine wQ ?_) | (first | refine seqR.normal ?_ | refine seqR.ret ?_ | refine seqR.exit ?_ | refine blockR.normal ?_ | refine blockR.ret ?_ | refine blockR.here ?_ | refine blockR.exit rfl ?_ | refine loopR.ret ?_ | refine loopR.exit ?_) | (apply gQ; first | refine Q_nil ?_ | refine kQ ?_ | (apply Q_val rfl rfl rfl; (· first | (apply gBin; first | fail | exact v_nebs rfl rfl) | fail | (apply v_ldA rfl; (· exact hcell _ om om); done) | (apply v_ldA2 rfl; (· exact (hcell _ om om).1); (· exact (hcell _ om om).2); done) | exact v_idxA rfl rfl om))) | fail)
  apply L_call rfl rfl rfl rfl rfl
  · exact eqUint64S_c at_ at_ hl
  rintro _ _ ⟨rfl, rfl⟩
  repeat' (first | ((first | (apply gCall; apply L_call rfl rfl rfl rfl rfl) | (apply gQC; apply Q_call rfl rfl rfl rfl rfl)); (· first | exact eqVal_c); try rintro _ _ ⟨rfl, rfl⟩) | (apply gL; first | refine L_nil ?_ | refine yX fun _ => ?_ | refine kV ?_ | (apply L_val rfl rfl rfl; (· first | (apply gBin; first | fail | exact v_nebs rfl rfl) | fail | (apply v_ldA rfl; (· exact hcell _ om om); done) | (apply v_ldA2 rfl; (· exact (hcell _ om om).1); (· exact (hcell _ om om).2); done) | exact v_idxA rfl rfl om))) | (apply gW; first | refine W_seq ?_ | refine W_region ?_ | refine W_ret ?_ | refine W_skip ?_ | refine W_block ?_ | refine W_exit ?_ | refine W_cond1 rfl ?_ | refine W_cond0 rfl ?_ | refine Eng.cW (fun h => ?_) fun h => ?_ | refine wQ ?_) | (first | refine seqR.normal ?_ | refine seqR.ret ?_ | refine seqR.exit ?_ | refine blockR.normal ?_ | refine blockR.ret ?_ | refine blockR.here ?_ | refine blockR.exit rfl ?_ | refine loopR.ret ?_ | refine loopR.exit ?_) | (apply gQ; first | refine Q_nil ?_ | refine kQ ?_ | (apply Q_val rfl rfl rfl; (· first | (apply gBin; first | fail | exact v_nebs rfl rfl) | fail | (apply v_ldA rfl; (· exact hcell _ om om); done) | (apply v_ldA2 rfl; (· exact (hcell _ om om).1); (· exact (hcell _ om om).2); done) | exact v_idxA rfl rfl om))) | fail)
  all_goals (first | exact absurd rfl h | skip)
  apply L_call rfl rfl rfl rfl rfl
  · exact eqValS_c at_ at_ hl2
  rintro _ _ ⟨rfl, rfl⟩
  repeat' (first | ((first | (apply gCall; apply L_call rfl rfl rfl rfl rfl) | (apply gQC; apply Q_call rfl rfl rfl rfl rfl)); (· first | exact eqVal_c); try rintro _ _ ⟨rfl, rfl⟩) | (apply gL; first | refine L_nil ?_ | refine yX fun _ => ?_ | refine kV ?_ | (apply L_val rfl rfl rfl; (· first | (apply gBin; first | fail | exact v_nebs rfl rfl) | fail | (apply v_ldA rfl; (· exact hcell _ om om); done) | (apply v_ldA2 rfl; (· exact (hcell _ om om).1); (· exact (hcell _ om om).2); done) | exact v_idxA rfl rfl om))) | (apply gW; first | refine W_seq ?_ | refine W_region ?_ | refine W_ret ?_ | refine W_skip ?_ | refine W_block ?_ | refine W_exit ?_ | refine W_cond1 rfl ?_ | refine W_cond0 rfl ?_ | refine Eng.cW (fun h => ?_) fun h => ?_ | refine wQ ?_) | (first | refine seqR.normal ?_ | refine seqR.ret ?_ | refine seqR.exit ?_ | refine blockR.normal ?_ | refine blockR.ret ?_ | refine blockR.here ?_ | refine blockR.exit rfl ?_ | refine loopR.ret ?_ | refine loopR.exit ?_) | (apply gQ; first | refine Q_nil ?_ | refine kQ ?_ | (apply Q_val rfl rfl rfl; (· first | (apply gBin; first | fail | exact v_nebs rfl rfl) | fail | (apply v_ldA rfl; (· exact hcell _ om om); done) | (apply v_ldA2 rfl; (· exact (hcell _ om om).1); (· exact (hcell _ om om).2); done) | exact v_idxA rfl rfl om))) | fail)
  all_goals (first | exact absurd rfl h | (refine retR.ret _ _ (ret1 rfl rfl) cv_ ⟨?_, rfl⟩; rfl))
end Go.Proofs.YtfmhlieaodbgiaaGreat.Eng
