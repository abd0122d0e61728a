/- The implementation's leads, textOk, coOk. -/
import Derived.Test.YtfhihnonafklbaaBkI6
import Derived.Test.YtfhihnonafklbaaJ0
import Derived.Laws.Slices
namespace Go.Proofs.Ytfhihnonafklbaa.Eng
open Go Go.RowKit Go.Proofs.Ytfhihnonafklbaa.Sl Go.Proofs.Ytfhihnonafklbaa.Ar Go.Proofs.Ytfhihnonafklbaa.Base
set_option linter.unusedVariables false
set_option linter.unusedSimpArgs false
set_option maxRecDepth 10000
variable {w0 : World} {H : HL} {C : Cn} {A : Ar} {ba : Nat}
set_option maxHeartbeats 1000000 in
theorem leads_c {bv bi bs bb : Nat} {m : List Int} {t n p fr : Int} (hV : At H bv (svObj ba bi A.ws.length bs bb)) (hB : At H bi (uObj m)) (hP : At H ba (aObj C A)) (hA : At H C.bw (wObj C A)) (hw : Wf A.ws) (hm : A.ws.length ≤ 8000) (hl : m.length = A.ws.length) (hh : A.to = 0 ∨ A.to = 1) (hs : 256 ≤ A.semi ∧ A.semi ≤ 4000)
    (h0 : kd t ≠ 0 → 0 ≤ n) (hWh : kd t ≠ 0 → n < A.ws.length → g m n ≠ 0 → PlaceP A n ∧ 0 ≤ A.where_ n ∧ A.where_ n < A.ws.length) (hn : g m n = 0 ∨ g m n = 1 ∨ g m n = 2 ∨ g m n = 3)
    (hfr : (p = -1 ∧ fr = 1) ∨ (0 ≤ p ∧ p < A.ws.length ∧ (g m p = 1 ∨ g m p = 2) ∧ fr = A.fromOf m p)) :
    Fn Try.prog w0 78 #[.pointer (some ⟨bv, 0, none⟩), .agg #[.int .i64 t, .int .i64 n], .int .i64 p] H fun v H' => v = .bool (A.leads m t n fr) ∧ H' = H := by
  have hkd : kd t ≠ 0 → isRef t = true := fun h => by unfold isRef; exact decide_eq_true h
  obtain ⟨cy, k1, k0, hfr2⟩ : ∃ cy : Int, (A.cyc = true → cy = 1) ∧ (A.cyc = false → cy = 0) ∧ ((p = -1 ∧ fr = 1) ∨ (0 ≤ p ∧ p < (A.ws.length : Int) ∧ (g m p = 2 ∧ fr = 3 ∨ g m p = 1 ∧ (cy = 1 ∧ A.scan ≤ p ∧ fr = 2 ∨ ¬ (cy = 1 ∧ A.scan ≤ p) ∧ fr = 1)))) := by
    refine ⟨if A.cyc = true then 1 else 0, fun h => if_pos h, fun h => if_neg (by rw [h]; decide), ?_⟩
    rcases hfr with h | ⟨h1, h2, h3, h4⟩
    · exact .inl h
    · refine .inr ⟨h1, h2, ?_⟩
      rw [h4]; unfold Ar.fromOf
      rcases h3 with h3 | h3
      · refine .inr ⟨h3, ?_⟩
        rw [if_neg (show ¬ g m p = 2 by omega)]
        by_cases h5 : A.cyc = true ∧ A.scan ≤ p
        · left; exact ⟨if_pos h5.1, h5.2, if_pos h5⟩
        · right; refine ⟨fun c => ?_, if_neg h5⟩
          cases h6 : A.cyc with
          | true => exact h5 ⟨h6, c.2⟩
          | false => rw [h6] at c; simp at c
      · exact .inl ⟨h3, if_pos h3⟩
  have hlead : kd t ≠ 0 → n < (A.ws.length : Int) → A.leads m t n fr = decide ((g m n = 1 ∧ fr ≠ 3 ∨ (g m n = 2 ∨ g m n = 3) ∧ fr ≠ 1) ∧ rk (g A.ws (A.where_ n)) = kd t) := fun h1 h2 => by
    unfold Ar.leads; rw [if_pos (hkd h1), if_pos (by omega)]; rfl
  refine enter3 Try.func78 rfl rfl Try.ntmps78 rfl ?_
  repeat' (first | ((first | (apply gCall; apply L_call rfl rfl rfl rfl rfl) | (apply gQC; apply Q_call rfl rfl rfl rfl rfl)); (· first | exact implIsRef_c _ _ | exact place2_c at_ at_ hw hh hs om om (hWh (by assumption) om (by assumption)).1 | exact head_c at_ at_ hw om om | exact kindOf_c _); try rintro _ _ ⟨rfl, rfl⟩) | (apply gL; first | refine L_nil ?_ | refine yS ?_ | refine yX fun _ => ?_ | refine kV ?_ | ((fail_if_success (refine L_known rfl ?_)); refine yW (fun h => ?_) fun h => ?_)) | (apply gW; first | refine W_seq ?_ | refine W_region ?_ | refine W_ret ?_ | refine W_skip ?_ | refine W_block ?_ | refine W_exit ?_ | refine W_cond1 rfl ?_ | refine W_cond0 rfl ?_ | refine cW (fun h => ?_) fun h => ?_ | refine wQ ?_) | (first | refine seqR.normal ?_ | refine seqR.ret ?_ | refine seqR.exit ?_ | refine blockR.normal ?_ | refine blockR.ret ?_ | refine blockR.here ?_ | refine blockR.exit rfl ?_) | (apply gQ; first | refine Q_nil ?_ | refine Q_skip rfl rfl rfl ?_ | refine kQ ?_ | ((fail_if_success (refine Q_known rfl ?_)); refine zW (fun h => ?_) fun h => ?_)) | fail)
  · refine retR.ret _ _ (ret1 rfl rfl) cv_ ⟨?_, rfl⟩
    unfold Ar.leads isRef; rw [if_neg (by simpa using h)]
  · refine retR.ret _ _ (ret1 rfl rfl) cv_ ⟨?_, rfl⟩
    unfold Ar.leads; rw [if_pos (hkd (by assumption)), if_neg (by omega)]
  all_goals (
    (try have := k1 (by assumption)); (try have := k0 (by assumption))
    first
      | (exfalso; omega)
      | (refine retR.ret _ _ (ret1 rfl rfl) cv_ ⟨?_, rfl⟩
         rw [hlead (by assumption) (by omega)]
         (first | rfl | exact bx om | exact b0 om | exact b1 om | exact bn om)))
end Go.Proofs.Ytfhihnonafklbaa.Eng
namespace Go.Proofs.Ytfhihnonafklbaa.Eng
open Go Go.RowKit Go.Proofs.Ytfhihnonafklbaa.Sl Go.Proofs.Ytfhihnonafklbaa.Ar Go.Proofs.Ytfhihnonafklbaa.Base
set_option linter.unusedVariables false
set_option linter.unusedSimpArgs false
set_option maxRecDepth 10000
section
variable {P : Program} {N : Nat} {w0 : World} {E : Env} {H : HL} {o : Oper} {x y z : Operand} {T : TypeId} {k k2 : IntKind} {l h : Int} {d_ : Option Tmp} {ty_ : TypeId} {pos_ : String} {af_ : Array Edge} {gd_ : Option (Nat × Bool)}
theorem ov_slice {e : TypeId} {n : Nat} [TSlice P T e n] {bk of len cap : Nat} (ho : o.op = .slice T x (some y) (some z) none) (hx : ev E x = some (.slice (some ⟨bk, of, none⟩) len cap)) (hy : ev E y = some (.int k l)) (hz : ev E z = some (.int k2 h)) (h0 : 0 ≤ l) (h1 : l ≤ h) (h2 : h ≤ (cap : Int)) (h3 : l < (cap : Int)) :
    OpV P N w0 o E H (.slice (some ⟨bk, of + l.toNat * n, none⟩) (h.toNat - l.toNat) (cap - l.toNat)) := by
  refine ⟨fun A w ha hs => ?_⟩
  have hu := TSlice.out (P := P) (T := T) (e := e) (n := n)
  have hel : P.elem T = e := by simp [Program.elem, hu]
  have hu' : P.underlying T = some (.slice (P.elem T)) := by rw [hel]; exact hu
  unfold execOp; rw [ho]; refine run_v ?_
  simp only [Option.map_some, Option.map_none]
  rw [ha.eval hx, ha.eval hy, ha.eval hz, run_sliceAt_slice _ _ _ _ _ _ hu', run_slice_lh _ _ _ _ _ hu' _ _ _ _ h0 h1 h2, hel, run_sizeOf (TSlice.size (P := P) (T := T))]
  have : cap ≠ l.toNat := by omega
  simp [Result.andThen, sliced, this, add_none]
theorem v_slice {e : TypeId} {n : Nat} [TSlice P T e n] {bk of len cap : Nat} (hx : ev E x = some (.slice (some ⟨bk, of, none⟩) len cap)) (hy : ev E y = some (.int k l)) (hz : ev E z = some (.int k2 h)) (h0 : 0 ≤ l) (h1 : l ≤ h) (h2 : h ≤ (cap : Int)) (h3 : l < (cap : Int)) :
    OpV P N w0 ⟨d_, .slice T x (some y) (some z) none, ty_, pos_, af_, gd_⟩ E H (.slice (some ⟨bk, of + l.toNat * n, none⟩) (h.toNat - l.toNat) (cap - l.toNat)) := ov_slice rfl hx hy hz h0 h1 h2 h3
end
theorem ld_rowS {k : IntKind} {xs : List Int} {sp : List Value} {j i : Int} (h0 : 0 ≤ j) (h1 : 0 ≤ i) (h : j + i < (xs.length : Int)) : (rowA k xs sp).toList[0 + j.toNat * 1 + i.toNat * 1]? = some (.int k (g xs (j + i))) := by
  have := ld_row (k := k) (sp := sp) (xs := xs) (i := j + i) (by omega) h
  rwa [show 0 + (j + i).toNat * 1 = 0 + j.toNat * 1 + i.toNat * 1 by omega] at this
variable {w0 : World} {H : HL} {C : Cn} {A : Ar} {ba : Nat}
theorem textOk_c {bv bi bs bb : Nat} {p size : Int} (hV : At H bv (svObj ba bi A.ws.length bs bb)) (hP : At H ba (aObj C A)) (hA : At H C.bw (wObj C A)) (hw : Wf A.ws) (hm : A.ws.length ≤ 8000) (hp : 0 ≤ p) (hs : 1 ≤ size) (hp2 : p + size < A.ws.length) :
    Fn Try.prog w0 89 #[.pointer (some ⟨bv, 0, none⟩), .int .i64 p, .int .i64 size] H fun v H' => v = .bool (A.strOk p size) ∧ H' = H := by
  have h1 := hw (p + 1)
  have h2 := hw (p + size)
  have hsg : 0 ≤ sg (g A.ws (p + 1)) ∧ sg (g A.ws (p + 1)) = g A.ws (p + 1) ∨ g A.ws (p + 1) > 160 ∧ (sg (g A.ws (p + 1)) < 0 ∨ sg (g A.ws (p + 1)) = g A.ws (p + 1)) := by unfold sg; split <;> omega
  refine enter3 Try.func89 rfl rfl Try.ntmps89 rfl ?_
  repeat' (first | ((first | (apply gCall; apply L_call rfl rfl rfl rfl rfl) | (apply gQC; apply Q_call rfl rfl rfl rfl rfl)); (· first | exact val_c at_ at_ hw om om om); try rintro _ _ ⟨rfl, rfl⟩) | (apply gL; first | refine L_nil ?_ | refine yS ?_ | refine kV ?_ | (apply L_val rfl rfl rfl; (· first | (apply gBin; first | fail | exact v_shr rfl rfl om (by show _ ≤ (64 : Int); omega)) | fail | exact v_slice rfl rfl rfl om om om om | (apply v_ld rfl; (· exact at_); (· exact ld_rowS om om om)))) | ((fail_if_success (refine L_known rfl ?_)); refine yW (fun h => ?_) fun h => ?_)) | (apply gW; first | refine W_seq ?_ | refine W_region ?_ | refine W_ret ?_ | refine W_skip ?_ | refine W_block ?_ | refine W_exit ?_ | refine W_cond1 rfl ?_ | refine W_cond0 rfl ?_ | refine cW (fun h => ?_) fun h => ?_ | refine wQ ?_) | (first | refine seqR.normal ?_ | refine seqR.ret ?_ | refine seqR.exit ?_ | refine blockR.normal ?_ | refine blockR.ret ?_ | refine blockR.here ?_ | refine blockR.exit rfl ?_ | refine loopR.ret ?_ | refine loopR.exit ?_) | (apply gQ; first | refine Q_nil ?_ | refine Q_skip rfl rfl rfl ?_ | refine kQ ?_ | (apply Q_val rfl rfl rfl; (· first | (apply gBin; first | fail | exact v_shr rfl rfl om (by show _ ≤ (64 : Int); omega)) | fail | exact v_slice rfl rfl rfl om om om om | (apply v_ld rfl; (· exact at_); (· exact ld_rowS om om om)))) | ((fail_if_success (refine Q_known rfl ?_)); refine zW (fun h => ?_) fun h => ?_)) | fail)
  all_goals refine retR.ret _ _ (ret1 rfl rfl) cv_ ⟨?_, rfl⟩
  all_goals (unfold Ar.strOk Ar.w)
  all_goals (try rw [show sg (g A.ws (p + 1)) = g A.ws (p + 1) by omega])
  all_goals (first | rfl | exact bx om | exact b0 om | exact b1 om | exact bn om)
theorem ico_f1 {p : Int} (h : A.coOk p = true → False) : false = A.coOk p := by
  cases e : A.coOk p with
  | false => rfl
  | true => exact absurd e h
theorem slotsFrom_g {s : Int} : ∀ (f : Nat) (i j : Int), 0 ≤ j → j < ((slotsFrom f i s).length : Int) → g (slotsFrom f i s) j = i + 2 * j := by
  intro f
  induction f with
  | zero => intro i j h0 h; simp [slotsFrom] at h; omega
  | succ f ih =>
    intro i j h0 h
    rw [slotsFrom] at h ⊢
    split
    · rename_i hc
      rw [if_pos hc] at h
      simp only [List.length_cons] at h
      by_cases e : j = 0
      · subst e; simp [g]
      · have := ih (i + 2) (j - 1) (by omega) (by omega)
        have e2 : g (i :: slotsFrom f (i + 2) s) j = g (slotsFrom f (i + 2) s) (j - 1) := by
          unfold g
          rw [show j.toNat = (j - 1).toNat + 1 by omega]; rfl
        rw [e2, this]; omega
    · rename_i hc
      rw [if_neg hc] at h; simp at h; omega
theorem sg0 {x : Int} (h0 : 0 ≤ x) (h1 : x < 18446744073709551616) : sg x = 0 ↔ x = 0 := by unfold sg; split <;> omega
theorem sgs {x : Int} (h0 : 0 ≤ x) : x ≤ 9000 → sg x = x := by unfold sg; intro h; rw [if_pos (by omega)]
theorem sgs' {x : Int} (h1 : x < 18446744073709551616) : 9000 < x → sg x < 0 ∨ sg x = x := by unfold sg; intro h; split <;> omega
set_option maxHeartbeats 2000000 in
theorem icoOk_c {bv bi bs bb : Nat} {p : Int} (hV : At H bv (svObj ba bi A.ws.length bs bb)) (hP : At H ba (aObj C A)) (hA : At H C.bw (wObj C A)) (hw : Wf A.ws) (hm : A.ws.length ≤ 8000) (hc : A.ws.length ≤ C.wc) (hp : 0 ≤ p) (hp2 : p + 126 < A.ws.length) (hv : rv A.ws (p + 5) = true) :
    Fn Try.prog w0 90 #[.pointer (some ⟨bv, 0, none⟩), .int .i64 p, .int .i64 126] H fun v H' => v = .bool (A.coOk p) ∧ H' = H := by
  have h1 := hw (p + 1)
  have h2 := hw (p + 2)
  have h3 := hw (p + 3)
  have h4 := hw (p + 4)
  have e2 : g A.ws (p + 1 + 1) = g A.ws (p + 2) := by rw [show p + 1 + 1 = p + 2 by omega]
  have e3 : g A.ws (p + 1 + 2) = g A.ws (p + 3) := by rw [show p + 1 + 2 = p + 3 by omega]
  have e4 : g A.ws (p + 1 + 3) = g A.ws (p + 4) := by rw [show p + 1 + 3 = p + 4 by omega]
  have s1 := sgs h1.1
  have s2 := sgs h2.1
  have s3 := sgs h3.1
  have s4 := sgs h4.1
  have z1 := sgs' h1.2
  have z2 := sgs' h2.2
  have z3 := sgs' h3.2
  have z4 := sgs' h4.2
  have hlen : (slots 6 126).length = 61 := by decide
  refine enter3 Try.func90 rfl rfl Try.ntmps90 rfl ?_
  repeat' (first | ((first | (apply gCall; apply L_call rfl rfl rfl rfl rfl) | (apply gQC; apply Q_call rfl rfl rfl rfl rfl)); (· first | exact val_c at_ at_ hw om om om); try rintro _ _ ⟨rfl, rfl⟩) | (apply gL; first | refine L_nil ?_ | refine yS ?_ | refine kV ?_ | (apply L_val rfl rfl rfl; (· first | (apply gBin; first | fail | exact v_shr rfl rfl om (by show _ ≤ (64 : Int); omega)) | fail | exact v_slice rfl rfl rfl om om om om | (apply v_ld rfl; (· exact at_); (· exact ld_rowS om om om)))) | ((fail_if_success (refine L_known rfl ?_)); refine yW (fun h => ?_) fun h => ?_)) | (apply gW; first | refine W_seq ?_ | refine W_region ?_ | refine W_ret ?_ | refine W_skip ?_ | refine W_block ?_ | refine W_exit ?_ | refine W_cond1 rfl ?_ | refine W_cond0 rfl ?_ | refine cW (fun h => ?_) fun h => ?_ | refine wQ ?_) | (first | refine seqR.normal ?_ | refine seqR.ret ?_ | refine seqR.exit ?_ | refine blockR.normal ?_ | refine blockR.ret ?_ | refine blockR.here ?_ | refine blockR.exit rfl ?_ | refine loopR.ret ?_ | refine loopR.exit ?_) | (apply gQ; first | refine Q_nil ?_ | refine Q_skip rfl rfl rfl ?_ | refine kQ ?_ | (apply Q_val rfl rfl rfl; (· first | (apply gBin; first | fail | exact v_shr rfl rfl om (by show _ ≤ (64 : Int); omega)) | fail | exact v_slice rfl rfl rfl om om om om | (apply v_ld rfl; (· exact at_); (· exact ld_rowS om om om)))) | ((fail_if_success (refine Q_known rfl ?_)); refine zW (fun h => ?_) fun h => ?_)) | fail)
  all_goals (try (refine retR.ret _ _ (ret1 rfl rfl) cv_ ⟨?_, rfl⟩; exact congrArg Value.bool (ico_f1 fun c => by have := (coOk_iff.1 c).1; omega)))
  have b1 : sg (g A.ws (p + 1)) = g A.ws (p + 1) ∧ g A.ws (p + 1) ≤ 4 := by omega
  have b2 : sg (g A.ws (p + 2)) = g A.ws (p + 2) ∧ g A.ws (p + 2) ≤ 60 := by omega
  have b3 : sg (g A.ws (p + 3)) = g A.ws (p + 3) ∧ g A.ws (p + 3) ≤ g A.ws (p + 2) := by omega
  have b4 : sg (g A.ws (p + 4)) = g A.ws (p + 4) ∧ g A.ws (p + 4) ≤ 4095 := by omega
  clear s1 s2 s3 s4 z1 z2 z3 z4 e3 e4
  apply L_call rfl rfl rfl rfl rfl
  · exact islots_c (k := 6) (s := 126) (by decide) (by decide)
  rintro _ _ ⟨bl, sp, rfl, rfl⟩
  repeat' (first | ((first | (apply gCall; apply L_call rfl rfl rfl rfl rfl) | (apply gQC; apply Q_call rfl rfl rfl rfl rfl)); (· first | exact val_c at_ at_ hw om om om); try rintro _ _ ⟨rfl, rfl⟩) | (apply gL; first | refine L_nil ?_ | refine yS ?_ | refine kV ?_ | (apply L_val rfl rfl rfl; (· first | (apply gBin; first | fail | exact v_shr rfl rfl om (by show _ ≤ (64 : Int); omega)) | fail | exact v_slice rfl rfl rfl om om om om | (apply v_ld rfl; (· exact at_); (· exact ld_rowS om om om)))) | ((fail_if_success (refine L_known rfl ?_)); refine yW (fun h => ?_) fun h => ?_)) | (apply gW; first | refine W_seq ?_ | refine W_region ?_ | refine W_ret ?_ | refine W_skip ?_ | refine W_block ?_ | refine W_exit ?_ | refine W_cond1 rfl ?_ | refine W_cond0 rfl ?_ | refine cW (fun h => ?_) fun h => ?_ | refine wQ ?_) | (first | refine seqR.normal ?_ | refine seqR.ret ?_ | refine seqR.exit ?_ | refine blockR.normal ?_ | refine blockR.ret ?_ | refine blockR.here ?_ | refine blockR.exit rfl ?_ | refine loopR.ret ?_ | refine loopR.exit ?_) | (apply gQ; first | refine Q_nil ?_ | refine Q_skip rfl rfl rfl ?_ | refine kQ ?_ | (apply Q_val rfl rfl rfl; (· first | (apply gBin; first | fail | exact v_shr rfl rfl om (by show _ ≤ (64 : Int); omega)) | fail | exact v_slice rfl rfl rfl om om om om | (apply v_ld rfl; (· exact at_); (· exact ld_rowS om om om)))) | ((fail_if_success (refine Q_known rfl ?_)); refine zW (fun h => ?_) fun h => ?_)) | fail)
  apply W_loopX (α := Int) (fun y => [(0, .pointer (some ⟨bv, 0, none⟩)), (1, .int .i64 p), (7, .slice (some ⟨C.bw, 0 + (p + 1).toNat * 1, none⟩) ((p + 5).toNat - (p + 1).toNat) (C.wc - (p + 1).toNat)), (49, .slice (some ⟨bl, 0, none⟩) (slots 6 126).length ((slots 6 126).length + List.length sp)), (50, .int .i64 ((slots 6 126).length : Int)), (51, .int .i64 y)]) (fun _ => (bl, .cells (rowA .i64 (slots 6 126) sp) 3 (0, 0)) :: H)
    (fun y => 0 ≤ y ∧ y ≤ 61 ∧ (0 < y → rvT A.ws (p + 5) = 0 ∨ rvT A.ws (p + 5) = 6) ∧ ∀ j : Int, 0 ≤ j → j + 1 < y → j < sg (g A.ws (p + 2)) ∨ g A.ws (p + 7 + 2 * j) = 0) (fun y => (61 - y).toNat) 0
  · exact sub_
  · exact cvt_
  · exact ⟨by omega, by omega, fun h => by omega, fun j a b => by omega⟩
  rintro i ⟨hi, hi2, hi3, hi4⟩
  have eg : i < 61 → g (slots 6 126) i = 5 + 2 * i := fun h => slotsFrom_g 130 5 i hi (by show i < ((slots 6 126).length : Int); omega)
  have et : i < 61 → sg (g A.ws (p + g (slots 6 126) i)) = sg (g A.ws (p + 5 + 2 * i)) := fun h => by rw [eg h, show p + (5 + 2 * i) = p + 5 + 2 * i by omega]
  have e0 : i = 0 → sg (g A.ws (p + 5 + 2 * i)) = rvT A.ws (p + 5) := fun h => by
    subst h
    have h9 : g A.ws (p + 5) ≤ 9 := by unfold rv at hv; rw [Bool.and_eq_true] at hv; exact of_decide_eq_true hv.1
    unfold rvT; rw [if_pos hv, show p + 5 + 2 * 0 = p + 5 by omega]; exact sgs (hw _).1 (by omega)
  have e7 : g A.ws (p + 7 + 2 * (i - 1)) = g A.ws (p + 5 + 2 * i) := by rw [show p + 7 + 2 * (i - 1) = p + 5 + 2 * i by omega]
  have ez := sg0 (hw (p + 5 + 2 * i)).1 (hw (p + 5 + 2 * i)).2
  repeat' (first | ((first | (apply gCall; apply L_call rfl rfl rfl rfl rfl) | (apply gQC; apply Q_call rfl rfl rfl rfl rfl)); (· first | exact val_c at_ at_ hw om om om); try rintro _ _ ⟨rfl, rfl⟩) | (apply gL; first | refine L_nil ?_ | refine yS ?_ | refine kV ?_ | (apply L_val rfl rfl rfl; (· first | (apply gBin; first | fail | exact v_shr rfl rfl om (by show _ ≤ (64 : Int); omega)) | fail | exact v_slice rfl rfl rfl om om om om | (apply v_ld rfl; (· exact at_); (· exact ld_rowS om om om)))) | ((fail_if_success (refine L_known rfl ?_)); refine yW (fun h => ?_) fun h => ?_)) | (apply gW; first | refine W_seq ?_ | refine W_region ?_ | refine W_ret ?_ | refine W_skip ?_ | refine W_block ?_ | refine W_exit ?_ | refine W_cond1 rfl ?_ | refine W_cond0 rfl ?_ | refine cW (fun h => ?_) fun h => ?_ | refine wQ ?_) | (first | refine seqR.normal ?_ | refine seqR.ret ?_ | refine seqR.exit ?_ | refine blockR.normal ?_ | refine blockR.ret ?_ | refine blockR.here ?_ | refine blockR.exit rfl ?_ | refine loopR.ret ?_ | refine loopR.exit ?_) | (apply gQ; first | refine Q_nil ?_ | refine Q_skip rfl rfl rfl ?_ | refine kQ ?_ | (apply Q_val rfl rfl rfl; (· first | (apply gBin; first | fail | exact v_shr rfl rfl om (by show _ ≤ (64 : Int); omega)) | fail | exact v_slice rfl rfl rfl om om om om | (apply v_ld rfl; (· exact at_); (· exact ld_rowS om om om)))) | ((fail_if_success (refine Q_known rfl ?_)); refine zW (fun h => ?_) fun h => ?_)) | fail)
  all_goals (first
    | (exfalso; omega)
    | (refine retR.ret _ _ (ret1 rfl rfl) cv_ ⟨?_, rfl⟩
       exact congrArg Value.bool (ico_f1 fun c => by
         have c1 := (coOk_iff.1 c).1
         by_cases h0 : i = 0
         · omega
         · have c2 := (coOk_iff.1 c).2 (i - 1) (by omega) (by omega)
           rw [e7] at c2; omega))
    | (apply loopR.mk (i + 1)
       · exact sub_
       · exact cvt_
       · exact ⟨by omega, by omega, fun h0 => by
           by_cases h0 : i = 0
           · omega
           · exact hi3 (by omega), fun j a b => by
           by_cases hj : j = i - 1
           · subst hj; rw [e7]; omega
           · exact hi4 j a (by omega)⟩
       · (try dsimp only); omega)
    | (refine retR.ret _ _ (ret1 rfl rfl) cv_ ⟨?_, rfl⟩
       rw [coOk_iff.2 ⟨by have := hi3 (by omega); omega, fun j a b => hi4 j a (by omega)⟩]))
end Go.Proofs.Ytfhihnonafklbaa.Eng
namespace Go.Proofs.Ytfhihnonafklbaa.Ar
/-- a table's block is nothing or a block -/
def Ar.tabTag (A : Ar) (p : Int) : Bool := decide (A.kn p = 2 → rvT A.ws (p + 2) = 0 ∨ rvT A.ws (p + 2) = 8)
end Go.Proofs.Ytfhihnonafklbaa.Ar
namespace Go.Proofs.Ytfhihnonafklbaa.Eng
open Go Go.RowKit Go.Proofs.Ytfhihnonafklbaa.Sl Go.Proofs.Ytfhihnonafklbaa.Ar Go.Proofs.Ytfhihnonafklbaa.Base
set_option linter.unusedVariables false
set_option linter.unusedSimpArgs false
set_option maxRecDepth 10000
variable {w0 : World} {H : HL} {C : Cn} {A : Ar} {ba : Nat}
theorem islots1_c {k s : Int} (hk : k = 1) :
    Fn Try.prog w0 81 #[.int .i64 k, .int .i64 s] H fun v H' => v = .slice none 0 0 ∧ H' = H := by
  subst hk; exact islots0_c
theorem icoOk2_c {bv bi bs bb : Nat} {p s : Int} (hV : At H bv (svObj ba bi A.ws.length bs bb)) (hP : At H ba (aObj C A)) (hA : At H C.bw (wObj C A)) (hw : Wf A.ws) (hm : A.ws.length ≤ 8000) (hc : A.ws.length ≤ C.wc) (hp : 0 ≤ p) (hp2 : p + 126 < A.ws.length) (hv : rv A.ws (p + 5) = true) (hs : s = 126) :
    Fn Try.prog w0 90 #[.pointer (some ⟨bv, 0, none⟩), .int .i64 p, .int .i64 s] H fun v H' => v = .bool (A.coOk p) ∧ H' = H := by
  subst hs; exact icoOk_c hV hP hA hw hm hc hp hp2 hv
set_option maxHeartbeats 4000000 in
theorem objectOk_c {bv bi bs bb : Nat} {m : List Int} {p : Int} (hV : At H bv (svObj ba bi A.ws.length bs bb)) (hB : At H bi (uObj m)) (hP : At H ba (aObj C A)) (hA : At H C.bw (wObj C A)) (hw : Wf A.ws) (hm : A.ws.length ≤ 8000) (hc : A.ws.length ≤ C.wc) (hh : A.to = 0 ∨ A.to = 1) (hs : 256 ≤ A.semi ∧ A.semi ≤ 4000)
    (hM : MarkP A m) (hof : ∀ n : Int, g m n = 0 ∨ g m n = 1 ∨ g m n = 2 ∨ g m n = 3) (hPl : ∀ n : Int, 0 ≤ n → n < A.ws.length → g m n ≠ 0 → PlaceP A n) (hp : 0 ≤ p) (hp2 : p < A.ws.length) (hi : g m p = 1 ∨ g m p = 2) :
    Fn Try.prog w0 73 #[.pointer (some ⟨bv, 0, none⟩), .int .i64 p] H fun v H' => v = .bool (A.object m p && A.tabTag p) ∧ H' = H := by
  have hWh : ∀ n : Int, 0 ≤ n → n < A.ws.length → g m n ≠ 0 → PlaceP A n ∧ 0 ≤ A.where_ n ∧ A.where_ n < A.ws.length := fun n h1 h2 h3 => ⟨hPl n h1 h2 h3, (hM.wh n h1 h2 h3).1, (hM.wh n h1 h2 h3).2.1⟩
  have hfr : (p = -1 ∧ A.fromOf m p = 1) ∨ (0 ≤ p ∧ p < A.ws.length ∧ (g m p = 1 ∨ g m p = 2) ∧ A.fromOf m p = A.fromOf m p) := .inr ⟨hp, hp2, hi, rfl⟩
  obtain ⟨h1, h2, h3⟩ := hM.ok p hp hp2 hi
  have hr := rsR' h2
  have hz : SizeP (rk (g A.ws p)) (rs (g A.ws p)) := by rw [hr.2.2.1, hr.2.2.2.1]; exact (of_decide_eq_true (show decide (HeadP _ _ _) = true from h2)).1
  have h6 : rk (g A.ws p) = 6 → rs (g A.ws p) = 126 := by intro h; unfold SizeP at hz; omega
  have hw1 := hw (p + 1)
  have hk2 : rk (g A.ws p) = 2 → slots (rk (g A.ws p)) (rs (g A.ws p)) = [2] := by
    intro h
    have : rs (g A.ws p) = 3 := by unfold SizeP at hz; omega
    rw [h, this]; decide
  refine enter2 Try.func73 rfl rfl Try.ntmps73 rfl ?_
  repeat' (fail_if_success apply gAt 2); (first | (apply gCall; apply L_call rfl rfl rfl rfl rfl; (· first | exact head_c at_ at_ hw om om | exact implGetVal_c at_ hw om om om | exact leads_c at_ at_ at_ at_ hw hm hM.len hh hs ((rvP A.ws _).2) (fun h1 h2 h3 => hWh _ ((rvP A.ws _).2 h1) h2 h3) (hof _) hfr | exact textOk_c at_ at_ at_ hw hm om om om); rintro _ _ ⟨rfl, rfl⟩) | (apply gL; first | refine L_nil ?_ | refine yS ?_ | refine yA fun _ => ?_ | (apply gSt; first | refine sR ?_ | refine sB ?_ | refine s1 ?_ | refine sW ?_ | refine sN ?_) | refine kV ?_ | ((fail_if_success (refine L_known rfl ?_)); refine yW (fun h => ?_) fun h => ?_)) | (apply gW; first | refine W_seq ?_ | refine W_region ?_ | refine W_ret ?_ | refine W_skip ?_ | refine W_block ?_ | refine W_exit ?_ | refine W_cond1 rfl ?_ | refine W_cond0 rfl ?_ | refine cW (fun h => ?_) fun h => ?_) | (first | refine seqR.normal ?_ | refine seqR.ret ?_ | refine seqR.exit ?_ | refine blockR.normal ?_ | refine blockR.ret ?_ | refine blockR.here ?_ | refine blockR.exit rfl ?_ | refine loopR.ret ?_ | refine loopR.exit ?_ | refine midA.ret ?_ | refine midA.exit ?_) | fail)
  rename_i H bh
  refine W_midA (α := Unit) (fun y => [(0, .pointer (some ⟨bv, 0, none⟩)), (1, .int .i64 p), (5, .pointer (some ⟨bh, 0, none⟩))]) (fun y => (bh, .cells #[.int .i64 (rk (g A.ws p)), .int .i64 (rs (g A.ws p)), .int .i64 (rn (g A.ws p))] 65 (0, 0)) :: H)
    (fun _ => (∀ j : Int, 0 ≤ j → j < ((slots (rk (g A.ws p)) (rs (g A.ws p))).length : Int) → A.slotOk m (rk (g A.ws p)) (A.fromOf m p) (p + g (slots (rk (g A.ws p)) (rs (g A.ws p))) j) = true) ∧ A.tabTag p = true) ?_ ?_
  · repeat' (first | (apply gCall; apply L_call rfl rfl rfl rfl rfl; (· first | exact head_c at_ at_ hw om om | exact implGetVal_c at_ hw om om om | exact leads_c at_ at_ at_ at_ hw hm hM.len hh hs ((rvP A.ws _).2) (fun h1 h2 h3 => hWh _ ((rvP A.ws _).2 h1) h2 h3) (hof _) hfr | exact textOk_c at_ at_ at_ hw hm om om om); rintro _ _ ⟨rfl, rfl⟩) | (apply gL; first | refine L_nil ?_ | refine yS ?_ | refine yA fun _ => ?_ | (apply gSt; first | refine sR ?_ | refine sB ?_ | refine s1 ?_ | refine sW ?_ | refine sN ?_) | refine kV ?_ | ((fail_if_success (refine L_known rfl ?_)); refine yW (fun h => ?_) fun h => ?_)) | (apply gW; first | refine W_seq ?_ | refine W_region ?_ | refine W_ret ?_ | refine W_skip ?_ | refine W_block ?_ | refine W_exit ?_ | refine W_cond1 rfl ?_ | refine W_cond0 rfl ?_ | refine cW (fun h => ?_) fun h => ?_) | (first | refine seqR.normal ?_ | refine seqR.ret ?_ | refine seqR.exit ?_ | refine blockR.normal ?_ | refine blockR.ret ?_ | refine blockR.here ?_ | refine blockR.exit rfl ?_ | refine loopR.ret ?_ | refine loopR.exit ?_ | refine midA.ret ?_ | refine midA.exit ?_) | fail)
    by_cases hk : rk (g A.ws p) = 1
    · apply L_call rfl rfl rfl rfl rfl
      · exact islots1_c hk
      rintro _ _ ⟨rfl, rfl⟩
      repeat' (first | (apply gCall; apply L_call rfl rfl rfl rfl rfl; (· first | exact head_c at_ at_ hw om om | exact implGetVal_c at_ hw om om om | exact leads_c at_ at_ at_ at_ hw hm hM.len hh hs ((rvP A.ws _).2) (fun h1 h2 h3 => hWh _ ((rvP A.ws _).2 h1) h2 h3) (hof _) hfr | exact textOk_c at_ at_ at_ hw hm om om om); rintro _ _ ⟨rfl, rfl⟩) | (apply gL; first | refine L_nil ?_ | refine yS ?_ | refine yA fun _ => ?_ | (apply gSt; first | refine sR ?_ | refine sB ?_ | refine s1 ?_ | refine sW ?_ | refine sN ?_) | refine kV ?_ | ((fail_if_success (refine L_known rfl ?_)); refine yW (fun h => ?_) fun h => ?_)) | (apply gW; first | refine W_seq ?_ | refine W_region ?_ | refine W_ret ?_ | refine W_skip ?_ | refine W_block ?_ | refine W_exit ?_ | refine W_cond1 rfl ?_ | refine W_cond0 rfl ?_ | refine cW (fun h => ?_) fun h => ?_) | (first | refine seqR.normal ?_ | refine seqR.ret ?_ | refine seqR.exit ?_ | refine blockR.normal ?_ | refine blockR.ret ?_ | refine blockR.here ?_ | refine blockR.exit rfl ?_ | refine loopR.ret ?_ | refine loopR.exit ?_ | refine midA.ret ?_ | refine midA.exit ?_) | fail)
      have hsl : slots (rk (g A.ws p)) (rs (g A.ws p)) = [] := by
        unfold slots from_
        rw [if_neg (by omega), if_neg (by omega), if_neg (by omega), slotsFrom, if_neg (by omega)]
      apply W_loopX (α := Unit) (fun y => [(0, .pointer (some ⟨bv, 0, none⟩)), (1, .int .i64 p), (5, .pointer (some ⟨bh, 0, none⟩)), (21, .int .i64 ((0 : Nat) : Int)), (22, .int .i64 0)]) (fun y => (bh, .cells #[.int .i64 (rk (g A.ws p)), .int .i64 (rs (g A.ws p)), .int .i64 (rn (g A.ws p))] 65 (0, 0)) :: H)
        (fun _ => True) (fun _ => 0) ()
      · exact sub_
      · exact cvt_
      · trivial
      rintro _ _
      repeat' (first | (apply gCall; apply L_call rfl rfl rfl rfl rfl; (· first | exact head_c at_ at_ hw om om | exact implGetVal_c at_ hw om om om | exact leads_c at_ at_ at_ at_ hw hm hM.len hh hs ((rvP A.ws _).2) (fun h1 h2 h3 => hWh _ ((rvP A.ws _).2 h1) h2 h3) (hof _) hfr | exact textOk_c at_ at_ at_ hw hm om om om); rintro _ _ ⟨rfl, rfl⟩) | (apply gL; first | refine L_nil ?_ | refine yS ?_ | refine yA fun _ => ?_ | (apply gSt; first | refine sR ?_ | refine sB ?_ | refine s1 ?_ | refine sW ?_ | refine sN ?_) | refine kV ?_ | ((fail_if_success (refine L_known rfl ?_)); refine yW (fun h => ?_) fun h => ?_)) | (apply gW; first | refine W_seq ?_ | refine W_region ?_ | refine W_ret ?_ | refine W_skip ?_ | refine W_block ?_ | refine W_exit ?_ | refine W_cond1 rfl ?_ | refine W_cond0 rfl ?_ | refine cW (fun h => ?_) fun h => ?_) | (first | refine seqR.normal ?_ | refine seqR.ret ?_ | refine seqR.exit ?_ | refine blockR.normal ?_ | refine blockR.ret ?_ | refine blockR.here ?_ | refine blockR.exit rfl ?_ | refine loopR.ret ?_ | refine loopR.exit ?_ | refine midA.ret ?_ | refine midA.exit ?_) | fail)
      all_goals (first | (exfalso; omega) | skip)
      · apply midA.mk ()
        · exact sub_
        · exact cvt_
        · refine ⟨fun j a b => ?_, decide_eq_true (fun c => ?_)⟩
          · rw [hsl] at b; simp at b; omega
          · unfold Ar.kn Ar.w at c; omega
    · apply L_call rfl rfl rfl rfl rfl
      · exact islots_c hz hk
      rintro _ _ ⟨bl, sp, rfl, rfl⟩
      repeat' (first | (apply gCall; apply L_call rfl rfl rfl rfl rfl; (· first | exact head_c at_ at_ hw om om | exact implGetVal_c at_ hw om om om | exact leads_c at_ at_ at_ at_ hw hm hM.len hh hs ((rvP A.ws _).2) (fun h1 h2 h3 => hWh _ ((rvP A.ws _).2 h1) h2 h3) (hof _) hfr | exact textOk_c at_ at_ at_ hw hm om om om); rintro _ _ ⟨rfl, rfl⟩) | (apply gL; first | refine L_nil ?_ | refine yS ?_ | refine yA fun _ => ?_ | (apply gSt; first | refine sR ?_ | refine sB ?_ | refine s1 ?_ | refine sW ?_ | refine sN ?_) | refine kV ?_ | ((fail_if_success (refine L_known rfl ?_)); refine yW (fun h => ?_) fun h => ?_)) | (apply gW; first | refine W_seq ?_ | refine W_region ?_ | refine W_ret ?_ | refine W_skip ?_ | refine W_block ?_ | refine W_exit ?_ | refine W_cond1 rfl ?_ | refine W_cond0 rfl ?_ | refine cW (fun h => ?_) fun h => ?_) | (first | refine seqR.normal ?_ | refine seqR.ret ?_ | refine seqR.exit ?_ | refine blockR.normal ?_ | refine blockR.ret ?_ | refine blockR.here ?_ | refine blockR.exit rfl ?_ | refine loopR.ret ?_ | refine loopR.exit ?_ | refine midA.ret ?_ | refine midA.exit ?_) | fail)
      generalize hG : slots (rk (g A.ws p)) (rs (g A.ws p)) = sl at *
      have hsl : sl.length ≤ 130 := by rw [← hG]; exact slots_len
      apply W_loopX (α := Int) (fun y => [(0, .pointer (some ⟨bv, 0, none⟩)), (1, .int .i64 p), (5, .pointer (some ⟨bh, 0, none⟩)), (20, .slice (some ⟨bl, 0, none⟩) sl.length (sl.length + sp.length)), (21, .int .i64 (sl.length : Int)), (22, .int .i64 y)]) (fun y => (bl, .cells (rowA .i64 sl sp) 3 (0, 0)) :: (bh, .cells #[.int .i64 (rk (g A.ws p)), .int .i64 (rs (g A.ws p)), .int .i64 (rn (g A.ws p))] 65 (0, 0)) :: H)
        (fun y => 0 ≤ y ∧ y ≤ sl.length ∧ ∀ j, 0 ≤ j → j < y → A.slotOk m (rk (g A.ws p)) (A.fromOf m p) (p + g sl j) = true ∧ (rk (g A.ws p) = 2 → rvT A.ws (p + g sl j) = 0 ∨ rvT A.ws (p + g sl j) = 8)) (fun y => (sl.length - y).toNat) 0
      · exact sub_
      · exact cvt_
      · exact ⟨by omega, by omega, fun j a b => by omega⟩
      rintro i ⟨hi1, hi2, hi3⟩
      have hq : i < (sl.length : Int) → 1 ≤ g sl i ∧ g sl i + 1 ≤ rs (g A.ws p) := fun h => slots_in hz (by rw [hG]; exact g_mem hi1 h)
      have hF : i < (sl.length : Int) → ¬ (A.slotOk m (rk (g A.ws p)) (A.fromOf m p) (p + g sl i) = true ∧ (rk (g A.ws p) = 2 → rvT A.ws (p + g sl i) = 0 ∨ rvT A.ws (p + g sl i) = 8)) → false = (A.object m p && A.tabTag p) := by
        intro hil c
        by_cases hso : A.slotOk m (rk (g A.ws p)) (A.fromOf m p) (p + g sl i) = true
        · have ht : A.tabTag p = false := by
            refine decide_eq_false (fun d => c ⟨hso, fun e => ?_⟩)
            have d2 := d e
            have e2 := hk2 e
            subst e2
            have : i = 0 := by simp at hil; omega
            subst this
            exact d2
          rw [ht, Bool.and_false]
        · rw [← object_f hG hi1 hil hso]; rfl
      repeat' (first | (apply gCall; apply L_call rfl rfl rfl rfl rfl; (· first | exact head_c at_ at_ hw om om | exact implGetVal_c at_ hw om om om | exact leads_c at_ at_ at_ at_ hw hm hM.len hh hs ((rvP A.ws _).2) (fun h1 h2 h3 => hWh _ ((rvP A.ws _).2 h1) h2 h3) (hof _) hfr | exact textOk_c at_ at_ at_ hw hm om om om); rintro _ _ ⟨rfl, rfl⟩) | (apply gL; first | refine L_nil ?_ | refine yS ?_ | refine yA fun _ => ?_ | (apply gSt; first | refine sR ?_ | refine sB ?_ | refine s1 ?_ | refine sW ?_ | refine sN ?_) | refine kV ?_ | ((fail_if_success (refine L_known rfl ?_)); refine yW (fun h => ?_) fun h => ?_)) | (apply gW; first | refine W_seq ?_ | refine W_region ?_ | refine W_ret ?_ | refine W_skip ?_ | refine W_block ?_ | refine W_exit ?_ | refine W_cond1 rfl ?_ | refine W_cond0 rfl ?_ | refine cW (fun h => ?_) fun h => ?_) | (first | refine seqR.normal ?_ | refine seqR.ret ?_ | refine seqR.exit ?_ | refine blockR.normal ?_ | refine blockR.ret ?_ | refine blockR.here ?_ | refine blockR.exit rfl ?_ | refine loopR.ret ?_ | refine loopR.exit ?_ | refine midA.ret ?_ | refine midA.exit ?_) | fail)
      all_goals (first
        | (exfalso; omega)
        | (refine retR.ret _ _ (ret1 rfl rfl) cv_ ⟨?_, rfl⟩
           exact congrArg Value.bool (hF (by assumption) (fun c => by
             obtain ⟨c0, c6⟩ := c
             obtain ⟨c1, c2, c3, c4, c5⟩ := slotOk_iff.1 c0
             first | omega | exact absurd (show rv A.ws (p + g sl i) = false by assumption) (by simp [c1]) | exact absurd (show A.leads m (rvT A.ws (p + g sl i)) (rvN A.ws (p + g sl i)) (A.fromOf m p) = false by assumption) (by simp [c2]))))
        | (apply loopR.mk (i + 1)
           · exact sub_
           · exact cvt_
           · exact ⟨by omega, by omega, fun j h1 h2 => by
               by_cases hj : j = i
               · subst hj; exact ⟨slotOk_iff.2 ⟨by assumption, by assumption, by omega, by omega, by omega⟩, fun e => by omega⟩
               · exact hi3 j h1 (by omega)⟩
           · (try dsimp only); omega)
        | (apply midA.mk ()
           · exact sub_
           · exact cvt_
           · refine ⟨fun j a b => (hi3 j a (by omega)).1, decide_eq_true (fun e => ?_)⟩
             have e2 := hk2 e
             subst e2
             exact (hi3 0 (by omega) (by simp at *; omega)).2 e))
  rintro _ ⟨hS, hT⟩
  rw [hT, Bool.and_true, object_t rfl hS]
  have hv5 : rk (g A.ws p) = 6 → rv A.ws (p + 5) = true := by
    intro h
    have e := h6 h
    have := hS 0 (by omega) (by rw [h, e]; decide)
    rw [h, e] at this
    exact (slotOk_iff.1 this).1
  repeat' (fail_if_success apply gAt 19); (first | (apply gCall; apply L_call rfl rfl rfl rfl rfl; (· first | exact head_c at_ at_ hw om om | exact implGetVal_c at_ hw om om om | exact leads_c at_ at_ at_ at_ hw hm hM.len hh hs ((rvP A.ws _).2) (fun h1 h2 h3 => hWh _ ((rvP A.ws _).2 h1) h2 h3) (hof _) hfr | exact textOk_c at_ at_ at_ hw hm om om om); rintro _ _ ⟨rfl, rfl⟩) | (apply gL; first | refine L_nil ?_ | refine yS ?_ | refine yA fun _ => ?_ | (apply gSt; first | refine sR ?_ | refine sB ?_ | refine s1 ?_ | refine sW ?_ | refine sN ?_) | refine kV ?_ | ((fail_if_success (refine L_known rfl ?_)); refine yW (fun h => ?_) fun h => ?_)) | (apply gW; first | refine W_seq ?_ | refine W_region ?_ | refine W_ret ?_ | refine W_skip ?_ | refine W_block ?_ | refine W_exit ?_ | refine W_cond1 rfl ?_ | refine W_cond0 rfl ?_ | refine cW (fun h => ?_) fun h => ?_) | (first | refine seqR.normal ?_ | refine seqR.ret ?_ | refine seqR.exit ?_ | refine blockR.normal ?_ | refine blockR.ret ?_ | refine blockR.here ?_ | refine blockR.exit rfl ?_ | refine loopR.ret ?_ | refine loopR.exit ?_ | refine midA.ret ?_ | refine midA.exit ?_) | fail)
  · refine retR.ret _ _ (ret1 rfl rfl) cv_ ⟨?_, rfl⟩
    rw [if_pos h]
  · refine retR.ret _ _ (ret1 rfl rfl) cv_ ⟨?_, rfl⟩
    rw [if_neg (by assumption), if_pos h]
    have e1 := sgs hw1.1
    have e2 := sgs' hw1.2
    unfold inB
    exact bx (by omega)
  · rw [if_neg (by assumption), if_neg (by assumption), if_pos h]
    have e := h6 h
    repeat' (first | (apply gCall; apply L_call rfl rfl rfl rfl rfl; (· first | exact head_c at_ at_ hw om om | exact implGetVal_c at_ hw om om om | exact leads_c at_ at_ at_ at_ hw hm hM.len hh hs ((rvP A.ws _).2) (fun h1 h2 h3 => hWh _ ((rvP A.ws _).2 h1) h2 h3) (hof _) hfr | exact textOk_c at_ at_ at_ hw hm om om om); rintro _ _ ⟨rfl, rfl⟩) | (apply gL; first | refine L_nil ?_ | refine yS ?_ | refine yA fun _ => ?_ | (apply gSt; first | refine sR ?_ | refine sB ?_ | refine s1 ?_ | refine sW ?_ | refine sN ?_) | refine kV ?_ | ((fail_if_success (refine L_known rfl ?_)); refine yW (fun h => ?_) fun h => ?_)) | (apply gW; first | refine W_seq ?_ | refine W_region ?_ | refine W_ret ?_ | refine W_skip ?_ | refine W_block ?_ | refine W_exit ?_ | refine W_cond1 rfl ?_ | refine W_cond0 rfl ?_ | refine cW (fun h => ?_) fun h => ?_) | (first | refine seqR.normal ?_ | refine seqR.ret ?_ | refine seqR.exit ?_ | refine blockR.normal ?_ | refine blockR.ret ?_ | refine blockR.here ?_ | refine blockR.exit rfl ?_ | refine loopR.ret ?_ | refine loopR.exit ?_ | refine midA.ret ?_ | refine midA.exit ?_) | fail)
    apply L_call rfl rfl rfl rfl rfl
    · exact icoOk2_c at_ at_ at_ hw hm hc hp (by omega) (hv5 h) e
    rintro _ _ ⟨rfl, rfl⟩
    repeat' (first | (apply gCall; apply L_call rfl rfl rfl rfl rfl; (· first | exact head_c at_ at_ hw om om | exact implGetVal_c at_ hw om om om | exact leads_c at_ at_ at_ at_ hw hm hM.len hh hs ((rvP A.ws _).2) (fun h1 h2 h3 => hWh _ ((rvP A.ws _).2 h1) h2 h3) (hof _) hfr | exact textOk_c at_ at_ at_ hw hm om om om); rintro _ _ ⟨rfl, rfl⟩) | (apply gL; first | refine L_nil ?_ | refine yS ?_ | refine yA fun _ => ?_ | (apply gSt; first | refine sR ?_ | refine sB ?_ | refine s1 ?_ | refine sW ?_ | refine sN ?_) | refine kV ?_ | ((fail_if_success (refine L_known rfl ?_)); refine yW (fun h => ?_) fun h => ?_)) | (apply gW; first | refine W_seq ?_ | refine W_region ?_ | refine W_ret ?_ | refine W_skip ?_ | refine W_block ?_ | refine W_exit ?_ | refine W_cond1 rfl ?_ | refine W_cond0 rfl ?_ | refine cW (fun h => ?_) fun h => ?_) | (first | refine seqR.normal ?_ | refine seqR.ret ?_ | refine seqR.exit ?_ | refine blockR.normal ?_ | refine blockR.ret ?_ | refine blockR.here ?_ | refine blockR.exit rfl ?_ | refine loopR.ret ?_ | refine loopR.exit ?_ | refine midA.ret ?_ | refine midA.exit ?_) | fail)
    refine retR.ret _ _ (ret1 rfl rfl) cv_ ⟨?_, rfl⟩
    rfl
  · refine retR.ret _ _ (ret1 rfl rfl) cv_ ⟨?_, rfl⟩
    rw [if_neg (by assumption), if_neg (by assumption), if_neg h]
end Go.Proofs.Ytfhihnonafklbaa.Eng
