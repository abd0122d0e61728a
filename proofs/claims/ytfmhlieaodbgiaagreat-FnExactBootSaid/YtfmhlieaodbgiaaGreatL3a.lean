/- The law's own, for what changes an arena: rows that may lie nowhere, marked, compared, held. -/
import Derived.Test.YtfmhlieaodbgiaaGreatBA
import Derived.Test.YtfmhlieaodbgiaaGreatLp
import Derived.Test.YtfmhlieaodbgiaaGreatL1
namespace Go.Proofs.YtfmhlieaodbgiaaGreat.Eng
open Go Go.RowKit Go.Proofs.YtfmhlieaodbgiaaGreat.Sl Go.Proofs.YtfmhlieaodbgiaaGreat.Ar Go.Proofs.YtfmhlieaodbgiaaGreat.Base
set_option linter.unusedVariables false
set_option linter.unusedSimpArgs false
set_option maxRecDepth 10000
section
variable {P : Program} {N : Nat} {w0 : World} {E : Env} {H H' X Y Lc G R' : HL} {o : Oper} {x y : Operand} {T : TypeId} {v : Value} {ops : Array Oper} {rest : List Oper} {R : Post}
/-- what a call has made goes behind what was there -/
theorem L_back (h : L P N w0 ops rest E (Lc ++ ((X ++ Y) ++ [])) R) : L P N w0 ops rest E (X ++ (Y ++ Lc)) R :=
  L_perm (by rw [← List.append_assoc, List.append_nil]; exact List.perm_append_comm) h
inductive Tail : HL → HL → HL → HL → Prop
  | nil {G R : HL} : Tail (G ++ R) [] G R
  | cons {H Lc G R : HL} {p : Nat × Obj} : Tail H Lc G R → Tail (p :: H) (p :: Lc) G R
theorem Tail.eq (h : Tail H Lc G R') : H = Lc ++ (G ++ R') := by
  induction h with
  | nil => rfl
  | cons _ ih => rw [ih]; rfl
theorem L_back2 (hT : Tail H Lc G []) (h : L P N w0 ops rest E (Lc ++ (G ++ (X ++ Y))) R) : L P N w0 ops rest E (X ++ (Y ++ H)) R := by
  refine L_perm ?_ h
  rw [hT.eq, List.append_nil, ← List.append_assoc]
  refine List.perm_append_comm.trans ?_
  rw [List.append_assoc]
end
def RU (H : HL) : Option Nat → List Int → Prop
  | none, xs => xs = []
  | some b, xs => ∃ sp, At H b (.cells (rowA .u64 xs sp) 64 (0, 0))
def RV (H : HL) : Option Nat → List (Int × Int) → Prop
  | none, xs => xs = []
  | some b, xs => ∃ sp, At H b (.cells (rowV xs sp) 35 (0, 0))
section
variable {H X Y G R' : HL} {p : Nat × Obj} {b : Option Nat} {xs : List Int} {vs : List (Int × Int)} {sp : List Value}
theorem At.left {b : Nat} {o : Obj} (h : At G b o) : At (G ++ R') b o := by
  induction h with
  | here => exact .here
  | there _ ih => exact .there ih
theorem RU.there (h : RU H b xs) : RU (p :: H) b xs := by cases b with | none => exact h | some b => obtain ⟨s, h⟩ := h; exact ⟨s, .there h⟩
theorem RV.there (h : RV H b vs) : RV (p :: H) b vs := by cases b with | none => exact h | some b => obtain ⟨s, h⟩ := h; exact ⟨s, .there h⟩
theorem RU.app (h : RU H b xs) : RU (X ++ H) b xs := by cases b with | none => exact h | some b => obtain ⟨s, h⟩ := h; exact ⟨s, At.app h⟩
theorem RV.app (h : RV H b vs) : RV (X ++ H) b vs := by cases b with | none => exact h | some b => obtain ⟨s, h⟩ := h; exact ⟨s, At.app h⟩
theorem RU.left (h : RU G b xs) : RU (G ++ R') b xs := by cases b with | none => exact h | some b => obtain ⟨s, h⟩ := h; exact ⟨s, At.left h⟩
theorem RV.left (h : RV G b vs) : RV (G ++ R') b vs := by cases b with | none => exact h | some b => obtain ⟨s, h⟩ := h; exact ⟨s, At.left h⟩
theorem RU.of (h : b = none → xs = []) : RU (oU b xs sp) b xs := by cases b with | none => exact h rfl | some b => exact ⟨sp, .here⟩
theorem RV.of (h : b = none → vs = []) : RV (oV b vs sp) b vs := by cases b with | none => exact h rfl | some b => exact ⟨sp, .here⟩
theorem RU.at {b : Nat} {C : Cn} {A : Ar} (h : At H C.bw (wObj C A)) : RU H (some C.bw) A.ws := ⟨_, h⟩
end
def HU (k : Int) (xs : List Int) : Prop := ∀ j : Int, 0 ≤ j → j < (xs.length : Int) → g xs j = k + j
def HV (k : Int) (vs : List (Int × Int)) : Prop := ∀ j : Int, 0 ≤ j → j < (vs.length : Int) → vs.getD j.toNat (0, 0) = (k + 2 * j, k + 2 * j + 1)
section
variable {P : Program} {N : Nat} {w0 : World} {E : Env} {H H' : HL} {o : Oper} {x y : Operand} {T : TypeId} {v : Value} {ops : Array Oper} {rest : List Oper} {R : Post}
theorem flat_s0 (vs : List (Int × Int)) : ∀ (i : Nat) (t : Int), (flat vs).set (2 * i) (.int .i64 t) = flat (vs.set i (t, (vs.getD i (0, 0)).2)) := by
  induction vs with
  | nil => intro i t; simp [flat]
  | cons v vs ih =>
    intro i t
    cases i with
    | zero => simp [flat]
    | succ i =>
      rw [show 2 * (i + 1) = 2 * i + 1 + 1 by omega]
      simp only [flat, List.set_cons_succ, List.cons.injEq, true_and, List.getD_cons_succ]
      exact ih i t
theorem flat_s1 (vs : List (Int × Int)) : ∀ (i : Nat) (t : Int), (flat vs).set (2 * i + 1) (.int .i64 t) = flat (vs.set i ((vs.getD i (0, 0)).1, t)) := by
  induction vs with
  | nil => intro i t; simp [flat]
  | cons v vs ih =>
    intro i t
    cases i with
    | zero => simp [flat]
    | succ i =>
      rw [show 2 * (i + 1) + 1 = (2 * i + 1) + 1 + 1 by omega]
      simp only [flat, List.set_cons_succ, List.cons.injEq, true_and, List.getD_cons_succ]
      exact ih i t
theorem rowV_s0 {vs : List (Int × Int)} {sp : List Value} {i t : Int} (h0 : 0 ≤ i) (h : i < (vs.length : Int)) : (rowV vs sp).setIfInBounds (0 + i.toNat * 2 + 0) (.int .i64 t) = rowV (vs.set i.toNat (t, (vs.getD i.toNat (0, 0)).2)) sp := by
  apply Array.toList_inj.1
  rw [Array.toList_setIfInBounds]
  simp only [rowV]
  rw [← flat_s0, show 0 + i.toNat * 2 + 0 = 2 * i.toNat by omega, List.set_append_left _ _ (by rw [length_flat]; omega)]
theorem rowV_s1 {vs : List (Int × Int)} {sp : List Value} {i t : Int} (h0 : 0 ≤ i) (h : i < (vs.length : Int)) : (rowV vs sp).setIfInBounds (0 + i.toNat * 2 + 1) (.int .i64 t) = rowV (vs.set i.toNat ((vs.getD i.toNat (0, 0)).1, t)) sp := by
  apply Array.toList_inj.1
  rw [Array.toList_setIfInBounds]
  simp only [rowV]
  rw [← flat_s1, show 0 + i.toNat * 2 + 1 = 2 * i.toNat + 1 by omega, List.set_append_left _ _ (by rw [length_flat]; omega)]
theorem size_rV {vs : List (Int × Int)} {sp : List Value} : 2 * vs.length ≤ (rowV vs sp).size := by simp [rowV, length_flat]
theorem L_sV0 {bk : Nat} {vs : List (Int × Int)} {sp : List Value} {t : TypeId} {i u : Int} [TOne P T] (hw : wantE ops E o = some true) (hd : o.dst = none) (ho : o.op = .store T x y) (hx : ev E x = some (.pointer (some ⟨bk, 0 + i.toNat * 2 + 0, none⟩))) (hy : ev E y = some (.int .i64 u))
    (hU : Up H bk (.cells (rowV vs sp) t (0, 0)) (.cells (rowV (vs.set i.toNat (u, (vs.getD i.toNat (0, 0)).2)) sp) t (0, 0)) H') (h0 : 0 ≤ i) (h : i < (vs.length : Int))
    (hk : L P N w0 ops rest E H' R) : L P N w0 ops (o :: rest) E H R :=
  L_st hw hd ho hx hy rfl (by rw [rowV_s0 h0 h]; exact hU) (by have := size_rV (vs := vs) (sp := sp); omega) hk
theorem L_sV1 {bk : Nat} {vs : List (Int × Int)} {sp : List Value} {t : TypeId} {i u : Int} [TOne P T] (hw : wantE ops E o = some true) (hd : o.dst = none) (ho : o.op = .store T x y) (hx : ev E x = some (.pointer (some ⟨bk, 0 + i.toNat * 2 + 1, none⟩))) (hy : ev E y = some (.int .i64 u))
    (hU : Up H bk (.cells (rowV vs sp) t (0, 0)) (.cells (rowV (vs.set i.toNat ((vs.getD i.toNat (0, 0)).1, u)) sp) t (0, 0)) H') (h0 : 0 ≤ i) (h : i < (vs.length : Int))
    (hk : L P N w0 ops rest E H' R) : L P N w0 ops (o :: rest) E H R :=
  L_st hw hd ho hx hy rfl (by rw [rowV_s1 h0 h]; exact hU) (by have := size_rV (vs := vs) (sp := sp); omega) hk
theorem ld_rV0 {vs : List (Int × Int)} {sp : List Value} {i : Int} (h0 : 0 ≤ i) (h : i < (vs.length : Int)) : (rowV vs sp).toList[0 + i.toNat * 2 + 0]? = some (.int .i64 (vs.getD i.toNat (0, 0)).1) := by
  have hl : i.toNat < vs.length := by omega
  obtain ⟨h1, h2⟩ := flat_get vs i.toNat hl
  simp only [rowV]
  rw [show 0 + i.toNat * 2 + 0 = 2 * i.toNat by omega, List.getElem?_append_left (by rw [length_flat]; omega)]
  exact h1
theorem ld_rV1 {vs : List (Int × Int)} {sp : List Value} {i : Int} (h0 : 0 ≤ i) (h : i < (vs.length : Int)) : (rowV vs sp).toList[0 + i.toNat * 2 + 1]? = some (.int .i64 (vs.getD i.toNat (0, 0)).2) := by
  have hl : i.toNat < vs.length := by omega
  obtain ⟨h1, h2⟩ := flat_get vs i.toNat hl
  simp only [rowV]
  rw [show 0 + i.toNat * 2 + 1 = 2 * i.toNat + 1 by omega, List.getElem?_append_left (by rw [length_flat]; omega)]
  exact h2
end
variable {w0 : World} {H : HL} {C : Cn} {A : Ar}
theorem markUint64S_g {bo : Option Nat} {c : Nat} {xs : List Int} {sp : List Value} {k : Int} (hb : bo = none → xs = []) (hl : xs.length ≤ 1048576) (hk : 0 ≤ k ∧ k ≤ 10000000) :
    Fn Tryz.prog w0 62 #[.slice (ad bo) xs.length c, .int .i64 k] (oU bo xs sp ++ H) fun v H' => v = .int .i64 (k + xs.length) ∧ ∃ xs', (xs'.length = xs.length ∧ HU k xs') ∧ H' = oU bo xs' sp ++ H := by
  refine enter2 Tryz.func62 rfl rfl Tryz.ntmps62 rfl ?_
  repeat' (first | ((first | (apply gCall; apply L_call rfl rfl rfl rfl rfl) | (apply gQC; apply Q_call rfl rfl rfl rfl rfl)); (· first | exact eqVal_c); try rintro _ _ ⟨rfl, rfl⟩) | (apply gL; first | refine L_nil ?_ | refine yX fun _ => ?_ | (apply gSt; first | refine sR ?_ | refine sB ?_ | refine s1 ?_ | refine sW ?_ | refine sN ?_) | refine kV ?_ | (apply L_val rfl rfl rfl; (· first | (apply gBin; first | fail | exact v_nebs rfl rfl) | fail | (apply v_ld rfl; (· exact at_); (· first | exact ld_rV0 om om | exact ld_rV1 om om); done)))) | (apply gW; first | refine W_seq ?_ | refine W_region ?_ | refine W_ret ?_ | refine W_skip ?_ | refine W_block ?_ | refine W_exit ?_ | refine W_cond1 rfl ?_ | refine W_cond0 rfl ?_ | refine cW (fun h => ?_) fun h => ?_ | refine wQ ?_) | (first | refine seqR.normal ?_ | refine seqR.ret ?_ | refine seqR.exit ?_ | refine blockR.normal ?_ | refine blockR.ret ?_ | refine blockR.here ?_ | refine blockR.exit rfl ?_ | refine loopR.ret ?_ | refine loopR.exit ?_) | (apply gQ; first | refine Q_nil ?_ | refine kQ ?_ | (apply Q_val rfl rfl rfl; (· first | (apply gBin; first | fail | exact v_nebs rfl rfl) | fail | (apply v_ld rfl; (· exact at_); (· first | exact ld_rV0 om om | exact ld_rV1 om om); done)))) | fail)
  apply W_loopX (α := Int × List Int) (fun y => [(0, .slice (ad bo) xs.length c), (1, .int .i64 (k + y.1)), (5, .int .i64 y.1)]) (fun y => oU bo y.2 sp ++ H) (fun y => (0 ≤ y.1 ∧ y.1 ≤ xs.length) ∧ y.2.length = xs.length ∧ ∀ j : Int, 0 ≤ j → j < y.1 → g y.2 j = k + j) (fun y => (xs.length - y.1).toNat) (0, xs)
  · exact ⟨rfl, lk (by dsimp only; omega), rfl, trivial⟩
  · exact cvt_
  · exact ⟨⟨by dsimp only; omega, by dsimp only; omega⟩, rfl, fun j a b => by dsimp only at b; omega⟩
  rintro ⟨i, ys⟩ ⟨⟨hi, hi2⟩, hyl, hy⟩
  dsimp only at hi hi2 hyl hy ⊢
  by_cases hlt : i < (xs.length : Int)
  · rcases bo with _ | bo
    · rw [hb rfl] at hlt; simp at hlt; omega
    simp only [oU, ad, List.cons_append, List.nil_append]
    repeat' (first | exact absurd hlt h | first | ((first | (apply gCall; apply L_call rfl rfl rfl rfl rfl) | (apply gQC; apply Q_call rfl rfl rfl rfl rfl)); (· first | exact eqVal_c); try rintro _ _ ⟨rfl, rfl⟩) | (apply gL; first | refine L_nil ?_ | refine yX fun _ => ?_ | (apply gSt; first | refine sR ?_ | refine sB ?_ | refine s1 ?_ | refine sW ?_ | refine sN ?_) | refine kV ?_ | (apply L_val rfl rfl rfl; (· first | (apply gBin; first | fail | exact v_nebs rfl rfl) | fail | (apply v_ld rfl; (· exact at_); (· first | exact ld_rV0 om om | exact ld_rV1 om om); done)))) | (apply gW; first | refine W_seq ?_ | refine W_region ?_ | refine W_ret ?_ | refine W_skip ?_ | refine W_block ?_ | refine W_exit ?_ | refine W_cond1 rfl ?_ | refine W_cond0 rfl ?_ | refine cW (fun h => ?_) fun h => ?_ | refine wQ ?_) | (first | refine seqR.normal ?_ | refine seqR.ret ?_ | refine seqR.exit ?_ | refine blockR.normal ?_ | refine blockR.ret ?_ | refine blockR.here ?_ | refine blockR.exit rfl ?_ | refine loopR.ret ?_ | refine loopR.exit ?_) | (apply gQ; first | refine Q_nil ?_ | refine kQ ?_ | (apply Q_val rfl rfl rfl; (· first | (apply gBin; first | fail | exact v_nebs rfl rfl) | fail | (apply v_ld rfl; (· exact at_); (· first | exact ld_rV0 om om | exact ld_rV1 om om); done)))) | fail)
    apply loopR.mk (i + 1, _)
    · exact ⟨rfl, lk (by dsimp only; omega), rfl, trivial⟩
    · exact cvt_
    · refine ⟨⟨by dsimp only; omega, by dsimp only; omega⟩, by simp [hyl], fun j a b => ?_⟩
      dsimp only at b ⊢
      rw [g_set hi (by omega) a]
      split
      · rename_i e; rw [e]
      · exact hy j a (by omega)
    · dsimp only; omega
  · repeat' (first | exact absurd h hlt | first | ((first | (apply gCall; apply L_call rfl rfl rfl rfl rfl) | (apply gQC; apply Q_call rfl rfl rfl rfl rfl)); (· first | exact eqVal_c); try rintro _ _ ⟨rfl, rfl⟩) | (apply gL; first | refine L_nil ?_ | refine yX fun _ => ?_ | (apply gSt; first | refine sR ?_ | refine sB ?_ | refine s1 ?_ | refine sW ?_ | refine sN ?_) | refine kV ?_ | (apply L_val rfl rfl rfl; (· first | (apply gBin; first | fail | exact v_nebs rfl rfl) | fail | (apply v_ld rfl; (· exact at_); (· first | exact ld_rV0 om om | exact ld_rV1 om om); done)))) | (apply gW; first | refine W_seq ?_ | refine W_region ?_ | refine W_ret ?_ | refine W_skip ?_ | refine W_block ?_ | refine W_exit ?_ | refine W_cond1 rfl ?_ | refine W_cond0 rfl ?_ | refine cW (fun h => ?_) fun h => ?_ | refine wQ ?_) | (first | refine seqR.normal ?_ | refine seqR.ret ?_ | refine seqR.exit ?_ | refine blockR.normal ?_ | refine blockR.ret ?_ | refine blockR.here ?_ | refine blockR.exit rfl ?_ | refine loopR.ret ?_ | refine loopR.exit ?_) | (apply gQ; first | refine Q_nil ?_ | refine kQ ?_ | (apply Q_val rfl rfl rfl; (· first | (apply gBin; first | fail | exact v_nebs rfl rfl) | fail | (apply v_ld rfl; (· exact at_); (· first | exact ld_rV0 om om | exact ld_rV1 om om); done)))) | fail)
    refine retR.ret _ _ (ret1 rfl rfl) cvt_ ⟨?_, ys, ⟨hyl, fun j a b => hy j a (by omega)⟩, rfl⟩
    rw [show i = (xs.length : Int) by omega]
theorem markValS_g {bo : Option Nat} {c : Nat} {xs : List (Int × Int)} {sp : List Value} {k : Int} (hb : bo = none → xs = []) (hl : xs.length ≤ 1048576) (hk : 0 ≤ k ∧ k ≤ 10000000) :
    Fn Tryz.prog w0 63 #[.slice (ad bo) xs.length c, .int .i64 k] (oV bo xs sp ++ H) fun v H' => v = .int .i64 (k + 2 * xs.length) ∧ ∃ xs', (xs'.length = xs.length ∧ HV k xs') ∧ H' = oV bo xs' sp ++ H := by
  refine enter2 Tryz.func63 rfl rfl Tryz.ntmps63 rfl ?_
  repeat' (first | ((first | (apply gCall; apply L_call rfl rfl rfl rfl rfl) | (apply gQC; apply Q_call rfl rfl rfl rfl rfl)); (· first | exact eqVal_c); try rintro _ _ ⟨rfl, rfl⟩) | (apply gL; first | refine L_nil ?_ | refine yX fun _ => ?_ | (apply gSt; first | refine sR ?_ | refine sB ?_ | refine s1 ?_ | refine sW ?_ | refine sN ?_) | refine kV ?_ | (apply L_val rfl rfl rfl; (· first | (apply gBin; first | fail | exact v_nebs rfl rfl) | fail | (apply v_ld rfl; (· exact at_); (· first | exact ld_rV0 om om | exact ld_rV1 om om); done)))) | (apply gW; first | refine W_seq ?_ | refine W_region ?_ | refine W_ret ?_ | refine W_skip ?_ | refine W_block ?_ | refine W_exit ?_ | refine W_cond1 rfl ?_ | refine W_cond0 rfl ?_ | refine cW (fun h => ?_) fun h => ?_ | refine wQ ?_) | (first | refine seqR.normal ?_ | refine seqR.ret ?_ | refine seqR.exit ?_ | refine blockR.normal ?_ | refine blockR.ret ?_ | refine blockR.here ?_ | refine blockR.exit rfl ?_ | refine loopR.ret ?_ | refine loopR.exit ?_) | (apply gQ; first | refine Q_nil ?_ | refine kQ ?_ | (apply Q_val rfl rfl rfl; (· first | (apply gBin; first | fail | exact v_nebs rfl rfl) | fail | (apply v_ld rfl; (· exact at_); (· first | exact ld_rV0 om om | exact ld_rV1 om om); done)))) | fail)
  apply W_loopX (α := Int × List (Int × Int)) (fun y => [(0, .slice (ad bo) xs.length c), (1, .int .i64 (k + 2 * y.1)), (5, .int .i64 y.1)]) (fun y => oV bo y.2 sp ++ H) (fun y => (0 ≤ y.1 ∧ y.1 ≤ xs.length) ∧ y.2.length = xs.length ∧ ∀ j : Int, 0 ≤ j → j < y.1 → y.2.getD j.toNat (0, 0) = (k + 2 * j, k + 2 * j + 1)) (fun y => (xs.length - y.1).toNat) (0, xs)
  · exact ⟨rfl, lk (by dsimp only; omega), rfl, trivial⟩
  · exact cvt_
  · exact ⟨⟨by dsimp only; omega, by dsimp only; omega⟩, rfl, fun j a b => by dsimp only at b; omega⟩
  rintro ⟨i, ys⟩ ⟨⟨hi, hi2⟩, hyl, hy⟩
  dsimp only at hi hi2 hyl hy ⊢
  by_cases hlt : i < (xs.length : Int)
  · rcases bo with _ | bo
    · rw [hb rfl] at hlt; simp at hlt; omega
    simp only [oV, ad, List.cons_append, List.nil_append]
    repeat' (first | exact absurd hlt h | (apply gSt; first | (apply L_sV0 rfl rfl rfl rfl rfl; (· exact up_); (· omega); (· omega)) | (apply L_sV1 rfl rfl rfl rfl rfl; (· exact up_); (· omega); (· simp; omega))) | first | ((first | (apply gCall; apply L_call rfl rfl rfl rfl rfl) | (apply gQC; apply Q_call rfl rfl rfl rfl rfl)); (· first | exact eqVal_c); try rintro _ _ ⟨rfl, rfl⟩) | (apply gL; first | refine L_nil ?_ | refine yX fun _ => ?_ | (apply gSt; first | refine sR ?_ | refine sB ?_ | refine s1 ?_ | refine sW ?_ | refine sN ?_) | refine kV ?_ | (apply L_val rfl rfl rfl; (· first | (apply gBin; first | fail | exact v_nebs rfl rfl) | fail | (apply v_ld rfl; (· exact at_); (· first | exact ld_rV0 om om | exact ld_rV1 om om); done)))) | (apply gW; first | refine W_seq ?_ | refine W_region ?_ | refine W_ret ?_ | refine W_skip ?_ | refine W_block ?_ | refine W_exit ?_ | refine W_cond1 rfl ?_ | refine W_cond0 rfl ?_ | refine cW (fun h => ?_) fun h => ?_ | refine wQ ?_) | (first | refine seqR.normal ?_ | refine seqR.ret ?_ | refine seqR.exit ?_ | refine blockR.normal ?_ | refine blockR.ret ?_ | refine blockR.here ?_ | refine blockR.exit rfl ?_ | refine loopR.ret ?_ | refine loopR.exit ?_) | (apply gQ; first | refine Q_nil ?_ | refine kQ ?_ | (apply Q_val rfl rfl rfl; (· first | (apply gBin; first | fail | exact v_nebs rfl rfl) | fail | (apply v_ld rfl; (· exact at_); (· first | exact ld_rV0 om om | exact ld_rV1 om om); done)))) | fail)
    apply loopR.mk (i + 1, _)
    · exact ⟨rfl, lk (by dsimp only; omega), rfl, trivial⟩
    · exact cvt_
    · refine ⟨⟨by dsimp only; omega, by dsimp only; omega⟩, by simp [hyl], fun j a b => ?_⟩
      dsimp only at b ⊢
      rw [getD_set hi (by simp; omega) a]
      split
      · rename_i e; subst e
        rw [getD_set hi (by omega) hi, if_pos rfl]
      · rename_i e
        rw [getD_set hi (by omega) a, if_neg e]
        exact hy j a (by omega)
    · dsimp only; omega
  · repeat' (first | exact absurd h hlt | first | ((first | (apply gCall; apply L_call rfl rfl rfl rfl rfl) | (apply gQC; apply Q_call rfl rfl rfl rfl rfl)); (· first | exact eqVal_c); try rintro _ _ ⟨rfl, rfl⟩) | (apply gL; first | refine L_nil ?_ | refine yX fun _ => ?_ | (apply gSt; first | refine sR ?_ | refine sB ?_ | refine s1 ?_ | refine sW ?_ | refine sN ?_) | refine kV ?_ | (apply L_val rfl rfl rfl; (· first | (apply gBin; first | fail | exact v_nebs rfl rfl) | fail | (apply v_ld rfl; (· exact at_); (· first | exact ld_rV0 om om | exact ld_rV1 om om); done)))) | (apply gW; first | refine W_seq ?_ | refine W_region ?_ | refine W_ret ?_ | refine W_skip ?_ | refine W_block ?_ | refine W_exit ?_ | refine W_cond1 rfl ?_ | refine W_cond0 rfl ?_ | refine cW (fun h => ?_) fun h => ?_ | refine wQ ?_) | (first | refine seqR.normal ?_ | refine seqR.ret ?_ | refine seqR.exit ?_ | refine blockR.normal ?_ | refine blockR.ret ?_ | refine blockR.here ?_ | refine blockR.exit rfl ?_ | refine loopR.ret ?_ | refine loopR.exit ?_) | (apply gQ; first | refine Q_nil ?_ | refine kQ ?_ | (apply Q_val rfl rfl rfl; (· first | (apply gBin; first | fail | exact v_nebs rfl rfl) | fail | (apply v_ld rfl; (· exact at_); (· first | exact ld_rV0 om om | exact ld_rV1 om om); done)))) | fail)
    refine retR.ret _ _ (ret1 rfl rfl) cvt_ ⟨?_, ys, ⟨hyl, fun j a b => hy j a (by omega)⟩, rfl⟩
    rw [show i = (xs.length : Int) by omega]
theorem heldValS_g {bo : Option Nat} {c : Nat} {xs : List (Int × Int)} {k : Int} (hB : RV H bo xs) (hl : xs.length ≤ 1048576) (hk : 0 ≤ k ∧ k ≤ 10000000) (hx : HV k xs) :
    Fn Tryz.prog w0 66 #[.slice (ad bo) xs.length c, .int .i64 k] H fun v H' => v = .int .i64 (k + 2 * xs.length) ∧ H' = H := by
  refine enter2 Tryz.func66 rfl rfl Tryz.ntmps66 rfl ?_
  repeat' (first | ((first | (apply gCall; apply L_call rfl rfl rfl rfl rfl) | (apply gQC; apply Q_call rfl rfl rfl rfl rfl)); (· first | exact eqVal_c); try rintro _ _ ⟨rfl, rfl⟩) | (apply gL; first | refine L_nil ?_ | refine yX fun _ => ?_ | (apply gSt; first | refine sR ?_ | refine sB ?_ | refine s1 ?_ | refine sW ?_ | refine sN ?_) | refine kV ?_ | (apply L_val rfl rfl rfl; (· first | (apply gBin; first | fail | exact v_nebs rfl rfl) | fail | (apply v_ld rfl; (· exact at_); (· first | exact ld_rV0 om om | exact ld_rV1 om om); done)))) | (apply gW; first | refine W_seq ?_ | refine W_region ?_ | refine W_ret ?_ | refine W_skip ?_ | refine W_block ?_ | refine W_exit ?_ | refine W_cond1 rfl ?_ | refine W_cond0 rfl ?_ | refine cW (fun h => ?_) fun h => ?_ | refine wQ ?_) | (first | refine seqR.normal ?_ | refine seqR.ret ?_ | refine seqR.exit ?_ | refine blockR.normal ?_ | refine blockR.ret ?_ | refine blockR.here ?_ | refine blockR.exit rfl ?_ | refine loopR.ret ?_ | refine loopR.exit ?_) | (apply gQ; first | refine Q_nil ?_ | refine kQ ?_ | (apply Q_val rfl rfl rfl; (· first | (apply gBin; first | fail | exact v_nebs rfl rfl) | fail | (apply v_ld rfl; (· exact at_); (· first | exact ld_rV0 om om | exact ld_rV1 om om); done)))) | fail)
  apply W_loopX (α := Int) (fun y => [(0, .slice (ad bo) xs.length c), (1, .int .i64 (k + 2 * y)), (5, .int .i64 y)]) (fun y => H) (fun y => (0 ≤ y ∧ y ≤ xs.length)) (fun y => (xs.length - y).toNat) 0
  · exact ⟨rfl, lk (by omega), rfl, trivial⟩
  · exact cvt_
  · exact ⟨by omega, by omega⟩
  rintro i ⟨hi, hi2⟩
  by_cases hlt : i < (xs.length : Int)
  · rcases bo with _ | bo
    · rw [show xs = [] from hB] at hlt; simp at hlt; omega
    obtain ⟨sp, hB⟩ := hB
    have hxi := hx i hi hlt
    have hx1 : (xs.getD i.toNat (0, 0)).1 = k + 2 * i := by rw [hxi]
    have hx2 : (xs.getD i.toNat (0, 0)).2 = k + 2 * i + 1 := by rw [hxi]
    simp only [ad]
    repeat' (first | exact absurd hlt h | exact absurd hx1 h | exact absurd hx2 h | first | ((first | (apply gCall; apply L_call rfl rfl rfl rfl rfl) | (apply gQC; apply Q_call rfl rfl rfl rfl rfl)); (· first | exact eqVal_c); try rintro _ _ ⟨rfl, rfl⟩) | (apply gL; first | refine L_nil ?_ | refine yX fun _ => ?_ | (apply gSt; first | refine sR ?_ | refine sB ?_ | refine s1 ?_ | refine sW ?_ | refine sN ?_) | refine kV ?_ | (apply L_val rfl rfl rfl; (· first | (apply gBin; first | fail | exact v_nebs rfl rfl) | fail | (apply v_ld rfl; (· exact at_); (· first | exact ld_rV0 om om | exact ld_rV1 om om); done)))) | (apply gW; first | refine W_seq ?_ | refine W_region ?_ | refine W_ret ?_ | refine W_skip ?_ | refine W_block ?_ | refine W_exit ?_ | refine W_cond1 rfl ?_ | refine W_cond0 rfl ?_ | refine cW (fun h => ?_) fun h => ?_ | refine wQ ?_) | (first | refine seqR.normal ?_ | refine seqR.ret ?_ | refine seqR.exit ?_ | refine blockR.normal ?_ | refine blockR.ret ?_ | refine blockR.here ?_ | refine blockR.exit rfl ?_ | refine loopR.ret ?_ | refine loopR.exit ?_) | (apply gQ; first | refine Q_nil ?_ | refine kQ ?_ | (apply Q_val rfl rfl rfl; (· first | (apply gBin; first | fail | exact v_nebs rfl rfl) | fail | (apply v_ld rfl; (· exact at_); (· first | exact ld_rV0 om om | exact ld_rV1 om om); done)))) | fail)
    apply loopR.mk (i + 1)
    · exact ⟨rfl, lk (by omega), rfl, trivial⟩
    · exact cvt_
    · exact ⟨by omega, by omega⟩
    · (try dsimp only); omega
  · repeat' (first | exact absurd h hlt | first | ((first | (apply gCall; apply L_call rfl rfl rfl rfl rfl) | (apply gQC; apply Q_call rfl rfl rfl rfl rfl)); (· first | exact eqVal_c); try rintro _ _ ⟨rfl, rfl⟩) | (apply gL; first | refine L_nil ?_ | refine yX fun _ => ?_ | (apply gSt; first | refine sR ?_ | refine sB ?_ | refine s1 ?_ | refine sW ?_ | refine sN ?_) | refine kV ?_ | (apply L_val rfl rfl rfl; (· first | (apply gBin; first | fail | exact v_nebs rfl rfl) | fail | (apply v_ld rfl; (· exact at_); (· first | exact ld_rV0 om om | exact ld_rV1 om om); done)))) | (apply gW; first | refine W_seq ?_ | refine W_region ?_ | refine W_ret ?_ | refine W_skip ?_ | refine W_block ?_ | refine W_exit ?_ | refine W_cond1 rfl ?_ | refine W_cond0 rfl ?_ | refine cW (fun h => ?_) fun h => ?_ | refine wQ ?_) | (first | refine seqR.normal ?_ | refine seqR.ret ?_ | refine seqR.exit ?_ | refine blockR.normal ?_ | refine blockR.ret ?_ | refine blockR.here ?_ | refine blockR.exit rfl ?_ | refine loopR.ret ?_ | refine loopR.exit ?_) | (apply gQ; first | refine Q_nil ?_ | refine kQ ?_ | (apply Q_val rfl rfl rfl; (· first | (apply gBin; first | fail | exact v_nebs rfl rfl) | fail | (apply v_ld rfl; (· exact at_); (· first | exact ld_rV0 om om | exact ld_rV1 om om); done)))) | fail)
    refine retR.ret _ _ (ret1 rfl rfl) cv_ ⟨?_, rfl⟩
    rw [show i = (xs.length : Int) by omega]
theorem eqUint64S_g {bo b' : Option Nat} {c c' : Nat} {xs : List Int} (h1 : RU H bo xs) (h2 : RU H b' xs) (hl : xs.length ≤ 1048576) :
    Fn Tryz.prog w0 56 #[.slice (ad bo) xs.length c, .slice (ad b') xs.length c'] H fun v H' => v = .bool true ∧ H' = H := by
  refine enter2 Tryz.func56 rfl rfl Tryz.ntmps56 rfl ?_
  repeat' (first | ((first | (apply gCall; apply L_call rfl rfl rfl rfl rfl) | (apply gQC; apply Q_call rfl rfl rfl rfl rfl)); (· first | exact eqVal_c); try rintro _ _ ⟨rfl, rfl⟩) | (apply gL; first | refine L_nil ?_ | refine yX fun _ => ?_ | (apply gSt; first | refine sR ?_ | refine sB ?_ | refine s1 ?_ | refine sW ?_ | refine sN ?_) | refine kV ?_ | (apply L_val rfl rfl rfl; (· first | (apply gBin; first | fail | exact v_nebs rfl rfl) | fail | (apply v_ld rfl; (· exact at_); (· first | exact ld_rV0 om om | exact ld_rV1 om om); done)))) | (apply gW; first | refine W_seq ?_ | refine W_region ?_ | refine W_ret ?_ | refine W_skip ?_ | refine W_block ?_ | refine W_exit ?_ | refine W_cond1 rfl ?_ | refine W_cond0 rfl ?_ | refine cW (fun h => ?_) fun h => ?_ | refine wQ ?_) | (first | refine seqR.normal ?_ | refine seqR.ret ?_ | refine seqR.exit ?_ | refine blockR.normal ?_ | refine blockR.ret ?_ | refine blockR.here ?_ | refine blockR.exit rfl ?_ | refine loopR.ret ?_ | refine loopR.exit ?_) | (apply gQ; first | refine Q_nil ?_ | refine kQ ?_ | (apply Q_val rfl rfl rfl; (· first | (apply gBin; first | fail | exact v_nebs rfl rfl) | fail | (apply v_ld rfl; (· exact at_); (· first | exact ld_rV0 om om | exact ld_rV1 om om); done)))) | fail)
  · exact absurd rfl h
  apply W_loopX (α := Int) (fun y => [(0, .slice (ad bo) xs.length c), (1, .slice (ad b') xs.length c'), (5, .int .i64 y)]) (fun _ => H) (fun y => 0 ≤ y ∧ y ≤ xs.length) (fun y => (xs.length - y).toNat) 0
  · exact sub_
  · exact cvt_
  · exact ⟨by omega, by omega⟩
  rintro i ⟨hi, hi2⟩
  by_cases hlt : i < (xs.length : Int)
  · rcases bo with _ | bo
    · rw [show xs = [] from h1] at hlt; simp at hlt; omega
    rcases b' with _ | b'
    · rw [show xs = [] from h2] at hlt; simp at hlt; omega
    obtain ⟨sp, h1⟩ := h1
    obtain ⟨sp', h2⟩ := h2
    simp only [ad]
    repeat' (first | exact absurd hlt h | exact absurd rfl h | first | ((first | (apply gCall; apply L_call rfl rfl rfl rfl rfl) | (apply gQC; apply Q_call rfl rfl rfl rfl rfl)); (· first | exact eqVal_c); try rintro _ _ ⟨rfl, rfl⟩) | (apply gL; first | refine L_nil ?_ | refine yX fun _ => ?_ | (apply gSt; first | refine sR ?_ | refine sB ?_ | refine s1 ?_ | refine sW ?_ | refine sN ?_) | refine kV ?_ | (apply L_val rfl rfl rfl; (· first | (apply gBin; first | fail | exact v_nebs rfl rfl) | fail | (apply v_ld rfl; (· exact at_); (· first | exact ld_rV0 om om | exact ld_rV1 om om); done)))) | (apply gW; first | refine W_seq ?_ | refine W_region ?_ | refine W_ret ?_ | refine W_skip ?_ | refine W_block ?_ | refine W_exit ?_ | refine W_cond1 rfl ?_ | refine W_cond0 rfl ?_ | refine cW (fun h => ?_) fun h => ?_ | refine wQ ?_) | (first | refine seqR.normal ?_ | refine seqR.ret ?_ | refine seqR.exit ?_ | refine blockR.normal ?_ | refine blockR.ret ?_ | refine blockR.here ?_ | refine blockR.exit rfl ?_ | refine loopR.ret ?_ | refine loopR.exit ?_) | (apply gQ; first | refine Q_nil ?_ | refine kQ ?_ | (apply Q_val rfl rfl rfl; (· first | (apply gBin; first | fail | exact v_nebs rfl rfl) | fail | (apply v_ld rfl; (· exact at_); (· first | exact ld_rV0 om om | exact ld_rV1 om om); done)))) | fail)
    apply loopR.mk (i + 1)
    · exact sub_
    · exact cvt_
    · exact ⟨by omega, by omega⟩
    · (try dsimp only); omega
  · repeat' (first | exact absurd h hlt | first | ((first | (apply gCall; apply L_call rfl rfl rfl rfl rfl) | (apply gQC; apply Q_call rfl rfl rfl rfl rfl)); (· first | exact eqVal_c); try rintro _ _ ⟨rfl, rfl⟩) | (apply gL; first | refine L_nil ?_ | refine yX fun _ => ?_ | (apply gSt; first | refine sR ?_ | refine sB ?_ | refine s1 ?_ | refine sW ?_ | refine sN ?_) | refine kV ?_ | (apply L_val rfl rfl rfl; (· first | (apply gBin; first | fail | exact v_nebs rfl rfl) | fail | (apply v_ld rfl; (· exact at_); (· first | exact ld_rV0 om om | exact ld_rV1 om om); done)))) | (apply gW; first | refine W_seq ?_ | refine W_region ?_ | refine W_ret ?_ | refine W_skip ?_ | refine W_block ?_ | refine W_exit ?_ | refine W_cond1 rfl ?_ | refine W_cond0 rfl ?_ | refine cW (fun h => ?_) fun h => ?_ | refine wQ ?_) | (first | refine seqR.normal ?_ | refine seqR.ret ?_ | refine seqR.exit ?_ | refine blockR.normal ?_ | refine blockR.ret ?_ | refine blockR.here ?_ | refine blockR.exit rfl ?_ | refine loopR.ret ?_ | refine loopR.exit ?_) | (apply gQ; first | refine Q_nil ?_ | refine kQ ?_ | (apply Q_val rfl rfl rfl; (· first | (apply gBin; first | fail | exact v_nebs rfl rfl) | fail | (apply v_ld rfl; (· exact at_); (· first | exact ld_rV0 om om | exact ld_rV1 om om); done)))) | fail)
    refine retR.ret _ _ (ret1 rfl rfl) cv_ ⟨?_, rfl⟩
    rfl
theorem eqValS_g {bo b' : Option Nat} {c c' : Nat} {xs : List (Int × Int)} (h1 : RV H bo xs) (h2 : RV H b' xs) (hl : xs.length ≤ 1048576) :
    Fn Tryz.prog w0 57 #[.slice (ad bo) xs.length c, .slice (ad b') xs.length c'] H fun v H' => v = .bool true ∧ H' = H := by
  refine enter2 Tryz.func57 rfl rfl Tryz.ntmps57 rfl ?_
  repeat' (first | ((first | (apply gCall; apply L_call rfl rfl rfl rfl rfl) | (apply gQC; apply Q_call rfl rfl rfl rfl rfl)); (· first | exact eqVal_c); try rintro _ _ ⟨rfl, rfl⟩) | (apply gL; first | refine L_nil ?_ | refine yX fun _ => ?_ | (apply gSt; first | refine sR ?_ | refine sB ?_ | refine s1 ?_ | refine sW ?_ | refine sN ?_) | refine kV ?_ | (apply L_val rfl rfl rfl; (· first | (apply gBin; first | fail | exact v_nebs rfl rfl) | fail | (apply v_ld rfl; (· exact at_); (· first | exact ld_rV0 om om | exact ld_rV1 om om); done)))) | (apply gW; first | refine W_seq ?_ | refine W_region ?_ | refine W_ret ?_ | refine W_skip ?_ | refine W_block ?_ | refine W_exit ?_ | refine W_cond1 rfl ?_ | refine W_cond0 rfl ?_ | refine cW (fun h => ?_) fun h => ?_ | refine wQ ?_) | (first | refine seqR.normal ?_ | refine seqR.ret ?_ | refine seqR.exit ?_ | refine blockR.normal ?_ | refine blockR.ret ?_ | refine blockR.here ?_ | refine blockR.exit rfl ?_ | refine loopR.ret ?_ | refine loopR.exit ?_) | (apply gQ; first | refine Q_nil ?_ | refine kQ ?_ | (apply Q_val rfl rfl rfl; (· first | (apply gBin; first | fail | exact v_nebs rfl rfl) | fail | (apply v_ld rfl; (· exact at_); (· first | exact ld_rV0 om om | exact ld_rV1 om om); done)))) | fail)
  · exact absurd rfl h
  apply W_loopX (α := Int) (fun y => [(0, .slice (ad bo) xs.length c), (1, .slice (ad b') xs.length c'), (5, .int .i64 y)]) (fun _ => H) (fun y => 0 ≤ y ∧ y ≤ xs.length) (fun y => (xs.length - y).toNat) 0
  · exact sub_
  · exact cvt_
  · exact ⟨by omega, by omega⟩
  rintro i ⟨hi, hi2⟩
  by_cases hlt : i < (xs.length : Int)
  · rcases bo with _ | bo
    · rw [show xs = [] from h1] at hlt; simp at hlt; omega
    rcases b' with _ | b'
    · rw [show xs = [] from h2] at hlt; simp at hlt; omega
    obtain ⟨sp, h1⟩ := h1
    obtain ⟨sp', h2⟩ := h2
    simp only [ad]
    repeat' (first | exact absurd hlt h | exact absurd rfl h | first | ((first | (apply gCall; apply L_call rfl rfl rfl rfl rfl) | (apply gQC; apply Q_call rfl rfl rfl rfl rfl)); (· first | exact eqVal_c); try rintro _ _ ⟨rfl, rfl⟩) | (apply gL; first | refine L_nil ?_ | refine yX fun _ => ?_ | (apply gSt; first | refine sR ?_ | refine sB ?_ | refine s1 ?_ | refine sW ?_ | refine sN ?_) | refine kV ?_ | (apply L_val rfl rfl rfl; (· first | (apply gBin; first | fail | exact v_nebs rfl rfl) | fail | (apply v_ld rfl; (· exact at_); (· first | exact ld_rV0 om om | exact ld_rV1 om om); done)))) | (apply gW; first | refine W_seq ?_ | refine W_region ?_ | refine W_ret ?_ | refine W_skip ?_ | refine W_block ?_ | refine W_exit ?_ | refine W_cond1 rfl ?_ | refine W_cond0 rfl ?_ | refine cW (fun h => ?_) fun h => ?_ | refine wQ ?_) | (first | refine seqR.normal ?_ | refine seqR.ret ?_ | refine seqR.exit ?_ | refine blockR.normal ?_ | refine blockR.ret ?_ | refine blockR.here ?_ | refine blockR.exit rfl ?_ | refine loopR.ret ?_ | refine loopR.exit ?_) | (apply gQ; first | refine Q_nil ?_ | refine kQ ?_ | (apply Q_val rfl rfl rfl; (· first | (apply gBin; first | fail | exact v_nebs rfl rfl) | fail | (apply v_ld rfl; (· exact at_); (· first | exact ld_rV0 om om | exact ld_rV1 om om); done)))) | fail)
    apply loopR.mk (i + 1)
    · exact sub_
    · exact cvt_
    · exact ⟨by omega, by omega⟩
    · (try dsimp only); omega
  · repeat' (first | exact absurd h hlt | first | ((first | (apply gCall; apply L_call rfl rfl rfl rfl rfl) | (apply gQC; apply Q_call rfl rfl rfl rfl rfl)); (· first | exact eqVal_c); try rintro _ _ ⟨rfl, rfl⟩) | (apply gL; first | refine L_nil ?_ | refine yX fun _ => ?_ | (apply gSt; first | refine sR ?_ | refine sB ?_ | refine s1 ?_ | refine sW ?_ | refine sN ?_) | refine kV ?_ | (apply L_val rfl rfl rfl; (· first | (apply gBin; first | fail | exact v_nebs rfl rfl) | fail | (apply v_ld rfl; (· exact at_); (· first | exact ld_rV0 om om | exact ld_rV1 om om); done)))) | (apply gW; first | refine W_seq ?_ | refine W_region ?_ | refine W_ret ?_ | refine W_skip ?_ | refine W_block ?_ | refine W_exit ?_ | refine W_cond1 rfl ?_ | refine W_cond0 rfl ?_ | refine cW (fun h => ?_) fun h => ?_ | refine wQ ?_) | (first | refine seqR.normal ?_ | refine seqR.ret ?_ | refine seqR.exit ?_ | refine blockR.normal ?_ | refine blockR.ret ?_ | refine blockR.here ?_ | refine blockR.exit rfl ?_ | refine loopR.ret ?_ | refine loopR.exit ?_) | (apply gQ; first | refine Q_nil ?_ | refine kQ ?_ | (apply Q_val rfl rfl rfl; (· first | (apply gBin; first | fail | exact v_nebs rfl rfl) | fail | (apply v_ld rfl; (· exact at_); (· first | exact ld_rV0 om om | exact ld_rV1 om om); done)))) | fail)
    refine retR.ret _ _ (ret1 rfl rfl) cv_ ⟨?_, rfl⟩
    rfl
set_option maxHeartbeats 2000000 in
theorem eqArena_g {bw br bw' br' : Option Nat} {cw cr cw' cr' : Nat} (h1 : RU H bw A.ws) (h2 : RV H br A.vs) (h3 : RU H bw' A.ws) (h4 : RV H br' A.vs) (hl : A.ws.length ≤ 1048576) (hl2 : A.vs.length ≤ 1048576) :
    Fn Tryz.prog w0 30 #[arG (ad bw) cw (ad br) cr A, arG (ad bw') cw' (ad br') cr' A] H fun v H' => v = .bool true ∧ H' = H := by
  refine enter2 Tryz.func30 rfl rfl Tryz.ntmps30 rfl ?_
  repeat' (first | ((first | (apply gCall; apply L_call rfl rfl rfl rfl rfl) | (apply gQC; apply Q_call rfl rfl rfl rfl rfl)); (· first | exact eqVal_c); try rintro _ _ ⟨rfl, rfl⟩) | (apply gL; first | refine L_nil ?_ | refine yX fun _ => ?_ | (apply gSt; first | refine sR ?_ | refine sB ?_ | refine s1 ?_ | refine sW ?_ | refine sN ?_) | refine kV ?_ | (apply L_val rfl rfl rfl; (· first | (apply gBin; first | fail | exact v_nebs rfl rfl) | fail | (apply v_ld rfl; (· exact at_); (· first | exact ld_rV0 om om | exact ld_rV1 om om); done)))) | (apply gW; first | refine W_seq ?_ | refine W_region ?_ | refine W_ret ?_ | refine W_skip ?_ | refine W_block ?_ | refine W_exit ?_ | refine W_cond1 rfl ?_ | refine W_cond0 rfl ?_ | refine cW (fun h => ?_) fun h => ?_ | refine wQ ?_) | (first | refine seqR.normal ?_ | refine seqR.ret ?_ | refine seqR.exit ?_ | refine blockR.normal ?_ | refine blockR.ret ?_ | refine blockR.here ?_ | refine blockR.exit rfl ?_ | refine loopR.ret ?_ | refine loopR.exit ?_) | (apply gQ; first | refine Q_nil ?_ | refine kQ ?_ | (apply Q_val rfl rfl rfl; (· first | (apply gBin; first | fail | exact v_nebs rfl rfl) | fail | (apply v_ld rfl; (· exact at_); (· first | exact ld_rV0 om om | exact ld_rV1 om om); done)))) | fail)
  apply L_call rfl rfl rfl rfl rfl
  · exact eqUint64S_g (RU.there (RU.there h1)) (RU.there (RU.there h3)) hl
  rintro _ _ ⟨rfl, rfl⟩
  repeat' (first | ((first | (apply gCall; apply L_call rfl rfl rfl rfl rfl) | (apply gQC; apply Q_call rfl rfl rfl rfl rfl)); (· first | exact eqVal_c); try rintro _ _ ⟨rfl, rfl⟩) | (apply gL; first | refine L_nil ?_ | refine yX fun _ => ?_ | (apply gSt; first | refine sR ?_ | refine sB ?_ | refine s1 ?_ | refine sW ?_ | refine sN ?_) | refine kV ?_ | (apply L_val rfl rfl rfl; (· first | (apply gBin; first | fail | exact v_nebs rfl rfl) | fail | (apply v_ld rfl; (· exact at_); (· first | exact ld_rV0 om om | exact ld_rV1 om om); done)))) | (apply gW; first | refine W_seq ?_ | refine W_region ?_ | refine W_ret ?_ | refine W_skip ?_ | refine W_block ?_ | refine W_exit ?_ | refine W_cond1 rfl ?_ | refine W_cond0 rfl ?_ | refine cW (fun h => ?_) fun h => ?_ | refine wQ ?_) | (first | refine seqR.normal ?_ | refine seqR.ret ?_ | refine seqR.exit ?_ | refine blockR.normal ?_ | refine blockR.ret ?_ | refine blockR.here ?_ | refine blockR.exit rfl ?_ | refine loopR.ret ?_ | refine loopR.exit ?_) | (apply gQ; first | refine Q_nil ?_ | refine kQ ?_ | (apply Q_val rfl rfl rfl; (· first | (apply gBin; first | fail | exact v_nebs rfl rfl) | fail | (apply v_ld rfl; (· exact at_); (· first | exact ld_rV0 om om | exact ld_rV1 om om); done)))) | fail)
  all_goals (first | exact absurd rfl h | skip)
  apply L_call rfl rfl rfl rfl rfl
  · exact eqValS_g (RV.there (RV.there h2)) (RV.there (RV.there h4)) hl2
  rintro _ _ ⟨rfl, rfl⟩
  repeat' (first | ((first | (apply gCall; apply L_call rfl rfl rfl rfl rfl) | (apply gQC; apply Q_call rfl rfl rfl rfl rfl)); (· first | exact eqVal_c); try rintro _ _ ⟨rfl, rfl⟩) | (apply gL; first | refine L_nil ?_ | refine yX fun _ => ?_ | (apply gSt; first | refine sR ?_ | refine sB ?_ | refine s1 ?_ | refine sW ?_ | refine sN ?_) | refine kV ?_ | (apply L_val rfl rfl rfl; (· first | (apply gBin; first | fail | exact v_nebs rfl rfl) | fail | (apply v_ld rfl; (· exact at_); (· first | exact ld_rV0 om om | exact ld_rV1 om om); done)))) | (apply gW; first | refine W_seq ?_ | refine W_region ?_ | refine W_ret ?_ | refine W_skip ?_ | refine W_block ?_ | refine W_exit ?_ | refine W_cond1 rfl ?_ | refine W_cond0 rfl ?_ | refine cW (fun h => ?_) fun h => ?_ | refine wQ ?_) | (first | refine seqR.normal ?_ | refine seqR.ret ?_ | refine seqR.exit ?_ | refine blockR.normal ?_ | refine blockR.ret ?_ | refine blockR.here ?_ | refine blockR.exit rfl ?_ | refine loopR.ret ?_ | refine loopR.exit ?_) | (apply gQ; first | refine Q_nil ?_ | refine kQ ?_ | (apply Q_val rfl rfl rfl; (· first | (apply gBin; first | fail | exact v_nebs rfl rfl) | fail | (apply v_ld rfl; (· exact at_); (· first | exact ld_rV0 om om | exact ld_rV1 om om); done)))) | fail)
  all_goals (first | exact absurd rfl h | (refine retR.ret _ _ (ret1 rfl rfl) cv_ ⟨?_, rfl⟩; rfl))
theorem markArena_f {bw br : Option Nat} {cw cr : Nat} {wsp rsp : List Value} {k : Int} (h1 : bw = none → A.ws = []) (h2 : br = none → A.vs = []) (hl : A.ws.length ≤ 1048576) (hl2 : A.vs.length ≤ 1048576) (hk : 0 ≤ k ∧ k ≤ 8000000) :
    Fn Tryz.prog w0 36 #[arG (ad bw) cw (ad br) cr A, .int .i64 k] (oV br A.vs rsp ++ (oU bw A.ws wsp ++ H)) fun v H' => v = .int .i64 (k + A.ws.length + 2 * A.vs.length) ∧ ∃ ws' vs', (ws'.length = A.ws.length ∧ HU k ws') ∧ (vs'.length = A.vs.length ∧ HV (k + A.ws.length) vs') ∧ H' = oV br vs' rsp ++ (oU bw ws' wsp ++ H) := by
  refine Fn.perm (H' := oU bw A.ws wsp ++ (oV br A.vs rsp ++ H)) (by rw [← List.append_assoc, ← List.append_assoc]; exact List.Perm.append_right _ List.perm_append_comm) ?_
  refine enter2 Tryz.func36 rfl rfl Tryz.ntmps36 rfl ?_
  repeat' (first | ((first | (apply gCall; apply L_call rfl rfl rfl rfl rfl) | (apply gQC; apply Q_call rfl rfl rfl rfl rfl)); (· first | exact eqVal_c); try rintro _ _ ⟨rfl, rfl⟩) | (apply gL; first | refine L_nil ?_ | refine yX fun _ => ?_ | (apply gSt; first | refine sR ?_ | refine sB ?_ | refine s1 ?_ | refine sW ?_ | refine sN ?_) | refine kV ?_ | (apply L_val rfl rfl rfl; (· first | (apply gBin; first | fail | exact v_nebs rfl rfl) | fail | (apply v_ld rfl; (· exact at_); (· first | exact ld_rV0 om om | exact ld_rV1 om om); done)))) | (apply gW; first | refine W_seq ?_ | refine W_region ?_ | refine W_ret ?_ | refine W_skip ?_ | refine W_block ?_ | refine W_exit ?_ | refine W_cond1 rfl ?_ | refine W_cond0 rfl ?_ | refine cW (fun h => ?_) fun h => ?_ | refine wQ ?_) | (first | refine seqR.normal ?_ | refine seqR.ret ?_ | refine seqR.exit ?_ | refine blockR.normal ?_ | refine blockR.ret ?_ | refine blockR.here ?_ | refine blockR.exit rfl ?_ | refine loopR.ret ?_ | refine loopR.exit ?_) | (apply gQ; first | refine Q_nil ?_ | refine kQ ?_ | (apply Q_val rfl rfl rfl; (· first | (apply gBin; first | fail | exact v_nebs rfl rfl) | fail | (apply v_ld rfl; (· exact at_); (· first | exact ld_rV0 om om | exact ld_rV1 om om); done)))) | fail)
  rename_i b2
  apply L_call rfl rfl rfl rfl rfl
  · exact Fn.perm (H' := oU bw A.ws wsp ++ ((b2, _) :: (oV br A.vs rsp ++ H))) List.perm_middle.symm (markUint64S_g h1 hl (by omega))
  rintro _ _ ⟨rfl, ws', ⟨hw1, hw2⟩, rfl⟩
  refine L_perm (H' := (b2, .cells (arG (ad bw) cw (ad br) cr A).cells 33 (0, 0)) :: (oU bw ws' wsp ++ (oV br A.vs rsp ++ H))) List.perm_middle ?_
  repeat' (first | ((first | (apply gCall; apply L_call rfl rfl rfl rfl rfl) | (apply gQC; apply Q_call rfl rfl rfl rfl rfl)); (· first | exact eqVal_c); try rintro _ _ ⟨rfl, rfl⟩) | (apply gL; first | refine L_nil ?_ | refine yX fun _ => ?_ | (apply gSt; first | refine sR ?_ | refine sB ?_ | refine s1 ?_ | refine sW ?_ | refine sN ?_) | refine kV ?_ | (apply L_val rfl rfl rfl; (· first | (apply gBin; first | fail | exact v_nebs rfl rfl) | fail | (apply v_ld rfl; (· exact at_); (· first | exact ld_rV0 om om | exact ld_rV1 om om); done)))) | (apply gW; first | refine W_seq ?_ | refine W_region ?_ | refine W_ret ?_ | refine W_skip ?_ | refine W_block ?_ | refine W_exit ?_ | refine W_cond1 rfl ?_ | refine W_cond0 rfl ?_ | refine cW (fun h => ?_) fun h => ?_ | refine wQ ?_) | (first | refine seqR.normal ?_ | refine seqR.ret ?_ | refine seqR.exit ?_ | refine blockR.normal ?_ | refine blockR.ret ?_ | refine blockR.here ?_ | refine blockR.exit rfl ?_ | refine loopR.ret ?_ | refine loopR.exit ?_) | (apply gQ; first | refine Q_nil ?_ | refine kQ ?_ | (apply Q_val rfl rfl rfl; (· first | (apply gBin; first | fail | exact v_nebs rfl rfl) | fail | (apply v_ld rfl; (· exact at_); (· first | exact ld_rV0 om om | exact ld_rV1 om om); done)))) | fail)
  apply L_call rfl rfl rfl rfl rfl
  · refine Fn.perm (H' := oV br A.vs rsp ++ ((b2, .cells (arG (ad bw) cw (ad br) cr A).cells 33 (0, 0)) :: (oU bw ws' wsp ++ H))) ?_ (markValS_g h2 hl2 (by omega))
    refine (List.Perm.cons _ ?_).trans List.perm_middle.symm
    rw [← List.append_assoc, ← List.append_assoc]; exact List.Perm.append_right _ List.perm_append_comm
  rintro _ _ ⟨rfl, vs', ⟨hv1, hv2⟩, rfl⟩
  refine L_perm (H' := (b2, .cells (arG (ad bw) cw (ad br) cr A).cells 33 (0, 0)) :: (oV br vs' rsp ++ (oU bw ws' wsp ++ H))) List.perm_middle ?_
  repeat' (first | ((first | (apply gCall; apply L_call rfl rfl rfl rfl rfl) | (apply gQC; apply Q_call rfl rfl rfl rfl rfl)); (· first | exact eqVal_c); try rintro _ _ ⟨rfl, rfl⟩) | (apply gL; first | refine L_nil ?_ | refine yX fun _ => ?_ | (apply gSt; first | refine sR ?_ | refine sB ?_ | refine s1 ?_ | refine sW ?_ | refine sN ?_) | refine kV ?_ | (apply L_val rfl rfl rfl; (· first | (apply gBin; first | fail | exact v_nebs rfl rfl) | fail | (apply v_ld rfl; (· exact at_); (· first | exact ld_rV0 om om | exact ld_rV1 om om); done)))) | (apply gW; first | refine W_seq ?_ | refine W_region ?_ | refine W_ret ?_ | refine W_skip ?_ | refine W_block ?_ | refine W_exit ?_ | refine W_cond1 rfl ?_ | refine W_cond0 rfl ?_ | refine cW (fun h => ?_) fun h => ?_ | refine wQ ?_) | (first | refine seqR.normal ?_ | refine seqR.ret ?_ | refine seqR.exit ?_ | refine blockR.normal ?_ | refine blockR.ret ?_ | refine blockR.here ?_ | refine blockR.exit rfl ?_ | refine loopR.ret ?_ | refine loopR.exit ?_) | (apply gQ; first | refine Q_nil ?_ | refine kQ ?_ | (apply Q_val rfl rfl rfl; (· first | (apply gBin; first | fail | exact v_nebs rfl rfl) | fail | (apply v_ld rfl; (· exact at_); (· first | exact ld_rV0 om om | exact ld_rV1 om om); done)))) | fail)
  refine retR.ret _ _ (ret1 rfl rfl) (Cv.skip Cv.refl) ⟨rfl, ws', vs', ⟨hw1, hw2⟩, ⟨hv1, hv2⟩, rfl⟩
/-- what was made by the call before, marked where it lies -/
theorem markArena_t {Lc : HL} {bw br : Option Nat} {cw cr : Nat} {wsp rsp : List Value} {k : Int} (hT : Tail H Lc (oU bw A.ws wsp ++ oV br A.vs rsp) []) (h1 : bw = none → A.ws = []) (h2 : br = none → A.vs = []) (hl : A.ws.length ≤ 1048576) (hl2 : A.vs.length ≤ 1048576) (hk : 0 ≤ k ∧ k ≤ 1000) :
    Fn Tryz.prog w0 36 #[arG (ad bw) cw (ad br) cr A, .int .i64 k] H fun v H' => v = .int .i64 (k + A.ws.length + 2 * A.vs.length) ∧ ∃ ws' vs', (ws'.length = A.ws.length ∧ HU k ws') ∧ (vs'.length = A.vs.length ∧ HV (k + A.ws.length) vs') ∧ H' = Lc ++ ((oU bw ws' wsp ++ oV br vs' rsp) ++ []) := by
  have key := markArena_f (w0 := w0) (H := Lc) (A := A) (bw := bw) (br := br) (cw := cw) (cr := cr) (wsp := wsp) (rsp := rsp) h1 h2 hl hl2 ⟨hk.1, by omega⟩
  rw [hT.eq]
  have p1 : ∀ (X Y : HL), (Lc ++ ((Y ++ X) ++ [])).Perm (X ++ (Y ++ Lc)) := fun X Y => by
    rw [List.append_nil, ← List.append_assoc X Y Lc]
    exact List.perm_append_comm.trans (List.Perm.append_right _ List.perm_append_comm)
  refine ⟨key.1, fun w hw => ?_⟩
  refine (key.2 w (hw.perm (p1 _ _))).mono ?_
  rintro e w' ⟨v, H', he, hs, hv, ws', vs', a, b, rfl⟩
  exact ⟨v, _, he, hs.perm (p1 _ _).symm, hv, ws', vs', a, b, rfl⟩
/-- what came in, marked -/
theorem markArena_s {H1 H2 : HL} (hT : Tk H C.br (.cells (rowV A.vs []) 35 (0, 0)) H1) (hT2 : Tk H1 C.bw (.cells (rowA .u64 A.ws []) 64 (0, 0)) H2) (hl : A.ws.length ≤ 1048576) (hl2 : A.vs.length ≤ 1048576) {k : Int} (hk : 0 ≤ k ∧ k ≤ 1000) :
    Fn Tryz.prog w0 36 #[arV C A, .int .i64 k] H fun v H' => v = .int .i64 (k + A.ws.length + 2 * A.vs.length) ∧ H' = H2 := by
  refine Fn.conv (Cv.take hT (Cv.take hT2 Cv.refl)) ?_
  have key := markArena_f (w0 := w0) (H := H2) (A := A) (bw := some C.bw) (br := some C.br) (cw := C.wc) (cr := C.rc) (wsp := []) (rsp := []) (fun c => by cases c) (fun c => by cases c) hl hl2 ⟨hk.1, by omega⟩
  refine ⟨key.1, fun w hw => ?_⟩
  refine (key.2 w hw).mono ?_
  rintro e w' ⟨v, H', he, hs, hv, ws', vs', a, b, rfl⟩
  exact ⟨v, H2, he, hs.drop.drop, hv, rfl⟩
end Go.Proofs.YtfmhlieaodbgiaaGreat.Eng
