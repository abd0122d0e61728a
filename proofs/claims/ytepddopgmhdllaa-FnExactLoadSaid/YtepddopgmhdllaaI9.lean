/- The implementation's textOk, coOk. -/
import Derived.Test.YtepddopgmhdllaaI8
import Derived.Laws.Slices
namespace Go.Proofs.Ytepddopgmhdllaa.Eng
open Go Go.RowKit Go.Proofs.Ytepddopgmhdllaa.Sl Go.Proofs.Ytepddopgmhdllaa.Ar Go.Proofs.Ytepddopgmhdllaa.Base
set_option linter.unusedVariables false
set_option linter.unusedSimpArgs false
set_option maxRecDepth 10000
section
variable {P : Program} {N : Nat} {w0 : World} {E : Env} {H : HL} {o : Oper} {x y z : Operand} {T : TypeId} {k k2 : IntKind} {l h : Int} {d_ : Option Tmp} {ty_ : TypeId} {pos_ : String} {af_ : Array Edge} {gd_ : Option (Nat × Bool)}
theorem ov_slice {e : TypeId} {n : Nat} [TSlice P T e n] {bk of len cap : Nat} (ho : o.op = .slice T x (some y) (some z) none) (hx : ev E x = some (.slice (some ⟨bk, of, none⟩) len cap)) (hy : ev E y = some (.int k l)) (hz : ev E z = some (.int k2 h)) (h0 : 0 ≤ l) (h1 : l ≤ h) (h2 : h ≤ (cap : Int)) (h3 : l < (cap : Int)) :
    OpV P N w0 o E H (.slice (some ⟨bk, of + l.toNat * n, none⟩) (h.toNat - l.toNat) (cap - l.toNat)) := by
  refine ⟨fun A w ha hs => ?_⟩
  have hu := TSlice.out (P := P) (T := T) (e := e) (n := n)
  have hel : P.elem T = e := by simp [Program.elem, hu]
  have hu' : P.underlying T = some (.slice (P.elem T)) := by rw [hel]; exact hu
  unfold execOp; rw [ho]; refine run_v ?_
  simp only [Option.map_some, Option.map_none]
  rw [ha.eval hx, ha.eval hy, ha.eval hz, run_sliceAt_slice _ _ _ _ _ _ hu', run_slice_lh _ _ _ _ _ hu' _ _ _ _ h0 h1 h2, hel, run_sizeOf (TSlice.size (P := P) (T := T))]
  have : cap ≠ l.toNat := by omega
  simp [Result.andThen, sliced, this, add_none]
theorem v_slice {e : TypeId} {n : Nat} [TSlice P T e n] {bk of len cap : Nat} (hx : ev E x = some (.slice (some ⟨bk, of, none⟩) len cap)) (hy : ev E y = some (.int k l)) (hz : ev E z = some (.int k2 h)) (h0 : 0 ≤ l) (h1 : l ≤ h) (h2 : h ≤ (cap : Int)) (h3 : l < (cap : Int)) :
    OpV P N w0 ⟨d_, .slice T x (some y) (some z) none, ty_, pos_, af_, gd_⟩ E H (.slice (some ⟨bk, of + l.toNat * n, none⟩) (h.toNat - l.toNat) (cap - l.toNat)) := ov_slice rfl hx hy hz h0 h1 h2 h3
end
theorem ld_rowS {k : IntKind} {xs : List Int} {sp : List Value} {j i : Int} (h0 : 0 ≤ j) (h1 : 0 ≤ i) (h : j + i < (xs.length : Int)) : (rowA k xs sp).toList[0 + j.toNat * 1 + i.toNat * 1]? = some (.int k (g xs (j + i))) := by
  have := ld_row (k := k) (sp := sp) (xs := xs) (i := j + i) (by omega) h
  rwa [show 0 + (j + i).toNat * 1 = 0 + j.toNat * 1 + i.toNat * 1 by omega] at this
variable {w0 : World} {H : HL} {C : Cn} {A : Ar} {ba : Nat}
theorem textOk_c {bv bi bs bb : Nat} {p size : Int} (hV : At H bv (svObj ba bi A.ws.length bs bb)) (hP : At H ba (aObj C A)) (hA : At H C.bw (wObj C A)) (hw : Wf A.ws) (hm : A.ws.length ≤ 8000) (hp : 0 ≤ p) (hs : 1 ≤ size) (hp2 : p + size < A.ws.length) :
    Fn Try.prog w0 165 #[.pointer (some ⟨bv, 0, none⟩), .int .i64 p, .int .i64 size] H fun v H' => v = .bool (A.strOk p size) ∧ H' = H := by
  have h1 := hw (p + 1)
  have h2 := hw (p + size)
  have hsg : 0 ≤ sg (g A.ws (p + 1)) ∧ sg (g A.ws (p + 1)) = g A.ws (p + 1) ∨ g A.ws (p + 1) > 160 ∧ (sg (g A.ws (p + 1)) < 0 ∨ sg (g A.ws (p + 1)) = g A.ws (p + 1)) := by unfold sg; split <;> omega
  refine enter3 Try.func165 rfl rfl Try.ntmps165 rfl ?_
  repeat' (first | (apply gL; first | refine L_nil ?_ | refine yS ?_ | (apply gCall; apply L_call rfl rfl rfl rfl rfl; (· first | exact val_c at_ at_ hw om om om); rintro _ _ ⟨rfl, rfl⟩) | refine kV ?_ | (apply L_val rfl rfl rfl; (· first | (apply gBin; first | fail | exact v_shr rfl rfl om (by show _ ≤ (64 : Int); omega)) | fail | exact v_slice rfl rfl rfl om om om om | (apply v_ld rfl; (· exact at_); (· exact ld_rowS om om om)))) | ((fail_if_success (refine L_known rfl ?_)); first | refine yN (fun h => ?_) fun h => ?_ | refine yP (fun h => ?_) fun h => ?_ | refine yB (fun h => ?_) fun h => ?_ | refine yK (fun h => ?_) fun h => ?_)) | (apply gW; first | refine W_seq ?_ | refine W_region ?_ | refine W_ret ?_ | refine W_skip ?_ | refine W_block ?_ | refine W_exit ?_ | refine W_cond1 rfl ?_ | refine W_cond0 rfl ?_ | refine cN (fun h => ?_) fun h => ?_ | refine cP (fun h => ?_) fun h => ?_ | refine cB (fun h => ?_) fun h => ?_ | refine cK (fun h => ?_) fun h => ?_ | refine wQ ?_) | (first | refine seqR.normal ?_ | refine seqR.ret ?_ | refine seqR.exit ?_ | refine blockR.normal ?_ | refine blockR.ret ?_ | refine blockR.here ?_ | refine blockR.exit rfl ?_ | refine loopR.ret ?_ | refine loopR.exit ?_) | (apply gQ; first | refine Q_nil ?_ | refine Q_skip rfl rfl rfl ?_ | (apply Q_call rfl rfl rfl rfl rfl; (· first | exact val_c at_ at_ hw om om om)) | refine kQ ?_ | (apply Q_val rfl rfl rfl; (· first | (apply gBin; first | fail | exact v_shr rfl rfl om (by show _ ≤ (64 : Int); omega)) | fail | exact v_slice rfl rfl rfl om om om om | (apply v_ld rfl; (· exact at_); (· exact ld_rowS om om om)))) | ((fail_if_success (refine Q_known rfl ?_)); first | refine zN (fun h => ?_) fun h => ?_ | refine zP (fun h => ?_) fun h => ?_ | refine zB (fun h => ?_) fun h => ?_ | refine zK (fun h => ?_) fun h => ?_)) | fail)
  all_goals refine retR.ret _ _ (ret1 rfl rfl) cv_ ⟨?_, rfl⟩
  all_goals (unfold Ar.strOk Ar.w)
  all_goals (try rw [show sg (g A.ws (p + 1)) = g A.ws (p + 1) by omega])
  all_goals (first | rfl | exact bx om | exact b0 om | exact b1 om | exact bn om)
theorem ico_f1 {p : Int} (h : A.coOk p = true → False) : false = A.coOk p := by
  cases e : A.coOk p with
  | false => rfl
  | true => exact absurd e h
theorem slotsFrom_g {s : Int} : ∀ (f : Nat) (i j : Int), 0 ≤ j → j < ((slotsFrom f i s).length : Int) → g (slotsFrom f i s) j = i + 2 * j := by
  intro f
  induction f with
  | zero => intro i j h0 h; simp [slotsFrom] at h; omega
  | succ f ih =>
    intro i j h0 h
    rw [slotsFrom] at h ⊢
    split
    · rename_i hc
      rw [if_pos hc] at h
      simp only [List.length_cons] at h
      by_cases e : j = 0
      · subst e; simp [g]
      · have := ih (i + 2) (j - 1) (by omega) (by omega)
        have e2 : g (i :: slotsFrom f (i + 2) s) j = g (slotsFrom f (i + 2) s) (j - 1) := by
          unfold g
          rw [show j.toNat = (j - 1).toNat + 1 by omega]; rfl
        rw [e2, this]; omega
    · rename_i hc
      rw [if_neg hc] at h; simp at h; omega
theorem sg0 {x : Int} (h0 : 0 ≤ x) (h1 : x < 18446744073709551616) : sg x = 0 ↔ x = 0 := by unfold sg; split <;> omega
theorem sgs {x : Int} (h0 : 0 ≤ x) : x ≤ 9000 → sg x = x := by unfold sg; intro h; rw [if_pos (by omega)]
theorem sgs' {x : Int} (h1 : x < 18446744073709551616) : 9000 < x → sg x < 0 ∨ sg x = x := by unfold sg; intro h; split <;> omega
set_option maxHeartbeats 2000000 in
theorem icoOk_c {bv bi bs bb : Nat} {p : Int} (hV : At H bv (svObj ba bi A.ws.length bs bb)) (hP : At H ba (aObj C A)) (hA : At H C.bw (wObj C A)) (hw : Wf A.ws) (hm : A.ws.length ≤ 8000) (hc : A.ws.length ≤ C.wc) (hp : 0 ≤ p) (hp2 : p + 126 < A.ws.length) (hv : rv A.ws (p + 5) = true) :
    Fn Try.prog w0 166 #[.pointer (some ⟨bv, 0, none⟩), .int .i64 p, .int .i64 126] H fun v H' => v = .bool (A.coOk p) ∧ H' = H := by
  have h1 := hw (p + 1)
  have h2 := hw (p + 2)
  have h3 := hw (p + 3)
  have h4 := hw (p + 4)
  have e2 : g A.ws (p + 1 + 1) = g A.ws (p + 2) := by rw [show p + 1 + 1 = p + 2 by omega]
  have e3 : g A.ws (p + 1 + 2) = g A.ws (p + 3) := by rw [show p + 1 + 2 = p + 3 by omega]
  have e4 : g A.ws (p + 1 + 3) = g A.ws (p + 4) := by rw [show p + 1 + 3 = p + 4 by omega]
  have s1 := sgs h1.1
  have s2 := sgs h2.1
  have s3 := sgs h3.1
  have s4 := sgs h4.1
  have z1 := sgs' h1.2
  have z2 := sgs' h2.2
  have z3 := sgs' h3.2
  have z4 := sgs' h4.2
  have hlen : (slots 6 126).length = 61 := by decide
  refine enter3 Try.func166 rfl rfl Try.ntmps166 rfl ?_
  repeat' (first | (apply gL; first | refine L_nil ?_ | refine yS ?_ | (apply gCall; apply L_call rfl rfl rfl rfl rfl; (· first | exact val_c at_ at_ hw om om om); rintro _ _ ⟨rfl, rfl⟩) | refine kV ?_ | (apply L_val rfl rfl rfl; (· first | (apply gBin; first | fail | exact v_shr rfl rfl om (by show _ ≤ (64 : Int); omega)) | fail | exact v_slice rfl rfl rfl om om om om | (apply v_ld rfl; (· exact at_); (· exact ld_rowS om om om)))) | ((fail_if_success (refine L_known rfl ?_)); first | refine yN (fun h => ?_) fun h => ?_ | refine yP (fun h => ?_) fun h => ?_ | refine yB (fun h => ?_) fun h => ?_ | refine yK (fun h => ?_) fun h => ?_)) | (apply gW; first | refine W_seq ?_ | refine W_region ?_ | refine W_ret ?_ | refine W_skip ?_ | refine W_block ?_ | refine W_exit ?_ | refine W_cond1 rfl ?_ | refine W_cond0 rfl ?_ | refine cN (fun h => ?_) fun h => ?_ | refine cP (fun h => ?_) fun h => ?_ | refine cB (fun h => ?_) fun h => ?_ | refine cK (fun h => ?_) fun h => ?_ | refine wQ ?_) | (first | refine seqR.normal ?_ | refine seqR.ret ?_ | refine seqR.exit ?_ | refine blockR.normal ?_ | refine blockR.ret ?_ | refine blockR.here ?_ | refine blockR.exit rfl ?_ | refine loopR.ret ?_ | refine loopR.exit ?_) | (apply gQ; first | refine Q_nil ?_ | refine Q_skip rfl rfl rfl ?_ | (apply Q_call rfl rfl rfl rfl rfl; (· first | exact val_c at_ at_ hw om om om)) | refine kQ ?_ | (apply Q_val rfl rfl rfl; (· first | (apply gBin; first | fail | exact v_shr rfl rfl om (by show _ ≤ (64 : Int); omega)) | fail | exact v_slice rfl rfl rfl om om om om | (apply v_ld rfl; (· exact at_); (· exact ld_rowS om om om)))) | ((fail_if_success (refine Q_known rfl ?_)); first | refine zN (fun h => ?_) fun h => ?_ | refine zP (fun h => ?_) fun h => ?_ | refine zB (fun h => ?_) fun h => ?_ | refine zK (fun h => ?_) fun h => ?_)) | fail)
  all_goals (try (refine retR.ret _ _ (ret1 rfl rfl) cv_ ⟨?_, rfl⟩; exact congrArg Value.bool (ico_f1 fun c => by have := (coOk_iff.1 c).1; omega)))
  have b1 : sg (g A.ws (p + 1)) = g A.ws (p + 1) ∧ g A.ws (p + 1) ≤ 4 := by omega
  have b2 : sg (g A.ws (p + 2)) = g A.ws (p + 2) ∧ g A.ws (p + 2) ≤ 60 := by omega
  have b3 : sg (g A.ws (p + 3)) = g A.ws (p + 3) ∧ g A.ws (p + 3) ≤ g A.ws (p + 2) := by omega
  have b4 : sg (g A.ws (p + 4)) = g A.ws (p + 4) ∧ g A.ws (p + 4) ≤ 4095 := by omega
  clear s1 s2 s3 s4 z1 z2 z3 z4 e3 e4
  apply L_call rfl rfl rfl rfl rfl
  · exact islots_c (k := 6) (s := 126) (by decide) (by decide)
  rintro _ _ ⟨bl, sp, rfl, rfl⟩
  repeat' (first | (apply gL; first | refine L_nil ?_ | refine yS ?_ | (apply gCall; apply L_call rfl rfl rfl rfl rfl; (· first | exact val_c at_ at_ hw om om om); rintro _ _ ⟨rfl, rfl⟩) | refine kV ?_ | (apply L_val rfl rfl rfl; (· first | (apply gBin; first | fail | exact v_shr rfl rfl om (by show _ ≤ (64 : Int); omega)) | fail | exact v_slice rfl rfl rfl om om om om | (apply v_ld rfl; (· exact at_); (· exact ld_rowS om om om)))) | ((fail_if_success (refine L_known rfl ?_)); first | refine yN (fun h => ?_) fun h => ?_ | refine yP (fun h => ?_) fun h => ?_ | refine yB (fun h => ?_) fun h => ?_ | refine yK (fun h => ?_) fun h => ?_)) | (apply gW; first | refine W_seq ?_ | refine W_region ?_ | refine W_ret ?_ | refine W_skip ?_ | refine W_block ?_ | refine W_exit ?_ | refine W_cond1 rfl ?_ | refine W_cond0 rfl ?_ | refine cN (fun h => ?_) fun h => ?_ | refine cP (fun h => ?_) fun h => ?_ | refine cB (fun h => ?_) fun h => ?_ | refine cK (fun h => ?_) fun h => ?_ | refine wQ ?_) | (first | refine seqR.normal ?_ | refine seqR.ret ?_ | refine seqR.exit ?_ | refine blockR.normal ?_ | refine blockR.ret ?_ | refine blockR.here ?_ | refine blockR.exit rfl ?_ | refine loopR.ret ?_ | refine loopR.exit ?_) | (apply gQ; first | refine Q_nil ?_ | refine Q_skip rfl rfl rfl ?_ | (apply Q_call rfl rfl rfl rfl rfl; (· first | exact val_c at_ at_ hw om om om)) | refine kQ ?_ | (apply Q_val rfl rfl rfl; (· first | (apply gBin; first | fail | exact v_shr rfl rfl om (by show _ ≤ (64 : Int); omega)) | fail | exact v_slice rfl rfl rfl om om om om | (apply v_ld rfl; (· exact at_); (· exact ld_rowS om om om)))) | ((fail_if_success (refine Q_known rfl ?_)); first | refine zN (fun h => ?_) fun h => ?_ | refine zP (fun h => ?_) fun h => ?_ | refine zB (fun h => ?_) fun h => ?_ | refine zK (fun h => ?_) fun h => ?_)) | fail)
  apply W_loopX (α := Int) (fun y => [(0, .pointer (some ⟨bv, 0, none⟩)), (1, .int .i64 p), (7, .slice (some ⟨C.bw, 0 + (p + 1).toNat * 1, none⟩) ((p + 5).toNat - (p + 1).toNat) (C.wc - (p + 1).toNat)), (49, .slice (some ⟨bl, 0, none⟩) (slots 6 126).length ((slots 6 126).length + List.length sp)), (50, .int .i64 ((slots 6 126).length : Int)), (51, .int .i64 y)]) (fun _ => (bl, .cells (rowA .i64 (slots 6 126) sp) 3 (0, 0)) :: H)
    (fun y => 0 ≤ y ∧ y ≤ 61 ∧ (0 < y → rvT A.ws (p + 5) = 0 ∨ rvT A.ws (p + 5) = 6) ∧ ∀ j : Int, 0 ≤ j → j + 1 < y → j < sg (g A.ws (p + 2)) ∨ g A.ws (p + 7 + 2 * j) = 0) (fun y => (61 - y).toNat) 0
  · exact sub_
  · exact cvt_
  · exact ⟨by omega, by omega, fun h => by omega, fun j a b => by omega⟩
  rintro i ⟨hi, hi2, hi3, hi4⟩
  have eg : i < 61 → g (slots 6 126) i = 5 + 2 * i := fun h => slotsFrom_g 130 5 i hi (by show i < ((slots 6 126).length : Int); omega)
  have et : i < 61 → sg (g A.ws (p + g (slots 6 126) i)) = sg (g A.ws (p + 5 + 2 * i)) := fun h => by rw [eg h, show p + (5 + 2 * i) = p + 5 + 2 * i by omega]
  have e0 : i = 0 → sg (g A.ws (p + 5 + 2 * i)) = rvT A.ws (p + 5) := fun h => by
    subst h
    have h9 : g A.ws (p + 5) ≤ 9 := by unfold rv at hv; rw [Bool.and_eq_true] at hv; exact of_decide_eq_true hv.1
    unfold rvT; rw [if_pos hv, show p + 5 + 2 * 0 = p + 5 by omega]; exact sgs (hw _).1 (by omega)
  have e7 : g A.ws (p + 7 + 2 * (i - 1)) = g A.ws (p + 5 + 2 * i) := by rw [show p + 7 + 2 * (i - 1) = p + 5 + 2 * i by omega]
  have ez := sg0 (hw (p + 5 + 2 * i)).1 (hw (p + 5 + 2 * i)).2
  repeat' (first | (apply gL; first | refine L_nil ?_ | refine yS ?_ | (apply gCall; apply L_call rfl rfl rfl rfl rfl; (· first | exact val_c at_ at_ hw om om om); rintro _ _ ⟨rfl, rfl⟩) | refine kV ?_ | (apply L_val rfl rfl rfl; (· first | (apply gBin; first | fail | exact v_shr rfl rfl om (by show _ ≤ (64 : Int); omega)) | fail | exact v_slice rfl rfl rfl om om om om | (apply v_ld rfl; (· exact at_); (· exact ld_rowS om om om)))) | ((fail_if_success (refine L_known rfl ?_)); first | refine yN (fun h => ?_) fun h => ?_ | refine yP (fun h => ?_) fun h => ?_ | refine yB (fun h => ?_) fun h => ?_ | refine yK (fun h => ?_) fun h => ?_)) | (apply gW; first | refine W_seq ?_ | refine W_region ?_ | refine W_ret ?_ | refine W_skip ?_ | refine W_block ?_ | refine W_exit ?_ | refine W_cond1 rfl ?_ | refine W_cond0 rfl ?_ | refine cN (fun h => ?_) fun h => ?_ | refine cP (fun h => ?_) fun h => ?_ | refine cB (fun h => ?_) fun h => ?_ | refine cK (fun h => ?_) fun h => ?_ | refine wQ ?_) | (first | refine seqR.normal ?_ | refine seqR.ret ?_ | refine seqR.exit ?_ | refine blockR.normal ?_ | refine blockR.ret ?_ | refine blockR.here ?_ | refine blockR.exit rfl ?_ | refine loopR.ret ?_ | refine loopR.exit ?_) | (apply gQ; first | refine Q_nil ?_ | refine Q_skip rfl rfl rfl ?_ | (apply Q_call rfl rfl rfl rfl rfl; (· first | exact val_c at_ at_ hw om om om)) | refine kQ ?_ | (apply Q_val rfl rfl rfl; (· first | (apply gBin; first | fail | exact v_shr rfl rfl om (by show _ ≤ (64 : Int); omega)) | fail | exact v_slice rfl rfl rfl om om om om | (apply v_ld rfl; (· exact at_); (· exact ld_rowS om om om)))) | ((fail_if_success (refine Q_known rfl ?_)); first | refine zN (fun h => ?_) fun h => ?_ | refine zP (fun h => ?_) fun h => ?_ | refine zB (fun h => ?_) fun h => ?_ | refine zK (fun h => ?_) fun h => ?_)) | fail)
  all_goals (first
    | (exfalso; omega)
    | (refine retR.ret _ _ (ret1 rfl rfl) cv_ ⟨?_, rfl⟩
       exact congrArg Value.bool (ico_f1 fun c => by
         have c1 := (coOk_iff.1 c).1
         by_cases h0 : i = 0
         · omega
         · have c2 := (coOk_iff.1 c).2 (i - 1) (by omega) (by omega)
           rw [e7] at c2; omega))
    | (apply loopR.mk (i + 1)
       · exact sub_
       · exact cvt_
       · exact ⟨by omega, by omega, fun h0 => by
           by_cases h0 : i = 0
           · omega
           · exact hi3 (by omega), fun j a b => by
           by_cases hj : j = i - 1
           · subst hj; rw [e7]; omega
           · exact hi4 j a (by omega)⟩
       · (try dsimp only); omega)
    | (refine retR.ret _ _ (ret1 rfl rfl) cv_ ⟨?_, rfl⟩
       rw [coOk_iff.2 ⟨by have := hi3 (by omega); omega, fun j a b => hi4 j a (by omega)⟩]))
end Go.Proofs.Ytepddopgmhdllaa.Eng
