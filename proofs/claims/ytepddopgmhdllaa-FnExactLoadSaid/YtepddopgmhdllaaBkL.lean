/- The law's own, for what changes an arena: rows that may lie nowhere, marked, compared, held. -/
import Derived.Test.YtepddopgmhdllaaBkC
import Derived.Test.YtepddopgmhdllaaBkD
import Derived.Test.YtepddopgmhdllaaT0
import Derived.Test.YtepddopgmhdllaaU0
namespace Go.Proofs.Ytepddopgmhdllaa.Eng
open Go Go.RowKit Go.Proofs.Ytepddopgmhdllaa.Sl Go.Proofs.Ytepddopgmhdllaa.Ar Go.Proofs.Ytepddopgmhdllaa.Base
set_option linter.unusedVariables false
set_option linter.unusedSimpArgs false
set_option maxRecDepth 10000
section
variable {P : Program} {N : Nat} {w0 : World} {E : Env} {H H' X Y Lc G R' : HL} {o : Oper} {x y : Operand} {T : TypeId} {v : Value} {ops : Array Oper} {rest : List Oper} {R : Post}
theorem L_perm (p : H.Perm H') (h : L P N w0 ops rest E H' R) : L P N w0 ops rest E H R := ⟨fun a w ha hs => h.out a w ha (hs.perm p)⟩
theorem Fn.perm {f : FuncId} {args : Array Value} {S : Value → HL → Prop} (p : H.Perm H') (h : Fn P w0 f args H' S) : Fn P w0 f args H S := ⟨h.1, fun w hw => h.2 w (hw.perm p)⟩
/-- what a call has made goes behind what was there -/
theorem L_back (h : L P N w0 ops rest E (Lc ++ ((X ++ Y) ++ [])) R) : L P N w0 ops rest E (X ++ (Y ++ Lc)) R :=
  L_perm (by rw [← List.append_assoc, List.append_nil]; exact List.perm_append_comm) h
inductive Tail : HL → HL → HL → HL → Prop
  | nil {G R : HL} : Tail (G ++ R) [] G R
  | cons {H Lc G R : HL} {p : Nat × Obj} : Tail H Lc G R → Tail (p :: H) (p :: Lc) G R
theorem Tail.eq (h : Tail H Lc G R') : H = Lc ++ (G ++ R') := by
  induction h with
  | nil => rfl
  | cons _ ih => rw [ih]; rfl
theorem L_back2 (hT : Tail H Lc G []) (h : L P N w0 ops rest E (Lc ++ (G ++ (X ++ Y))) R) : L P N w0 ops rest E (X ++ (Y ++ H)) R := by
  refine L_perm ?_ h
  rw [hT.eq, List.append_nil, ← List.append_assoc]
  refine List.perm_append_comm.trans ?_
  rw [List.append_assoc]
end
def RU (H : HL) : Option Nat → List Int → Prop
  | none, xs => xs = []
  | some b, xs => ∃ sp, At H b (.cells (rowA .u64 xs sp) 115 (0, 0))
def RV (H : HL) : Option Nat → List (Int × Int) → Prop
  | none, xs => xs = []
  | some b, xs => ∃ sp, At H b (.cells (rowV xs sp) 39 (0, 0))
section
variable {H X Y G R' : HL} {p : Nat × Obj} {b : Option Nat} {xs : List Int} {vs : List (Int × Int)} {sp : List Value}
theorem At.left {b : Nat} {o : Obj} (h : At G b o) : At (G ++ R') b o := by
  induction h with
  | here => exact .here
  | there _ ih => exact .there ih
theorem RU.there (h : RU H b xs) : RU (p :: H) b xs := by cases b with | none => exact h | some b => obtain ⟨s, h⟩ := h; exact ⟨s, .there h⟩
theorem RV.there (h : RV H b vs) : RV (p :: H) b vs := by cases b with | none => exact h | some b => obtain ⟨s, h⟩ := h; exact ⟨s, .there h⟩
theorem RU.app (h : RU H b xs) : RU (X ++ H) b xs := by cases b with | none => exact h | some b => obtain ⟨s, h⟩ := h; exact ⟨s, At.app h⟩
theorem RV.app (h : RV H b vs) : RV (X ++ H) b vs := by cases b with | none => exact h | some b => obtain ⟨s, h⟩ := h; exact ⟨s, At.app h⟩
theorem RU.left (h : RU G b xs) : RU (G ++ R') b xs := by cases b with | none => exact h | some b => obtain ⟨s, h⟩ := h; exact ⟨s, At.left h⟩
theorem RV.left (h : RV G b vs) : RV (G ++ R') b vs := by cases b with | none => exact h | some b => obtain ⟨s, h⟩ := h; exact ⟨s, At.left h⟩
theorem RU.of (h : b = none → xs = []) : RU (oU b xs sp) b xs := by cases b with | none => exact h rfl | some b => exact ⟨sp, .here⟩
theorem RV.of (h : b = none → vs = []) : RV (oV b vs sp) b vs := by cases b with | none => exact h rfl | some b => exact ⟨sp, .here⟩
theorem RU.at {b : Nat} {C : Cn} {A : Ar} (h : At H C.bw (wObj C A)) : RU H (some C.bw) A.ws := ⟨_, h⟩
end
def HU (k : Int) (xs : List Int) : Prop := ∀ j : Int, 0 ≤ j → j < (xs.length : Int) → g xs j = k + j
def HV (k : Int) (vs : List (Int × Int)) : Prop := ∀ j : Int, 0 ≤ j → j < (vs.length : Int) → vs.getD j.toNat (0, 0) = (k + 2 * j, k + 2 * j + 1)
section
variable {P : Program} {N : Nat} {w0 : World} {E : Env} {H H' : HL} {o : Oper} {x y : Operand} {T : TypeId} {v : Value} {ops : Array Oper} {rest : List Oper} {R : Post}
theorem flat_s0 (vs : List (Int × Int)) : ∀ (i : Nat) (t : Int), (flat vs).set (2 * i) (.int .i64 t) = flat (vs.set i (t, (vs.getD i (0, 0)).2)) := by
  induction vs with
  | nil => intro i t; simp [flat]
  | cons v vs ih =>
    intro i t
    cases i with
    | zero => simp [flat]
    | succ i =>
      rw [show 2 * (i + 1) = 2 * i + 1 + 1 by omega]
      simp only [flat, List.set_cons_succ, List.cons.injEq, true_and, List.getD_cons_succ]
      exact ih i t
theorem flat_s1 (vs : List (Int × Int)) : ∀ (i : Nat) (t : Int), (flat vs).set (2 * i + 1) (.int .i64 t) = flat (vs.set i ((vs.getD i (0, 0)).1, t)) := by
  induction vs with
  | nil => intro i t; simp [flat]
  | cons v vs ih =>
    intro i t
    cases i with
    | zero => simp [flat]
    | succ i =>
      rw [show 2 * (i + 1) + 1 = (2 * i + 1) + 1 + 1 by omega]
      simp only [flat, List.set_cons_succ, List.cons.injEq, true_and, List.getD_cons_succ]
      exact ih i t
theorem rowV_s0 {vs : List (Int × Int)} {sp : List Value} {i t : Int} (h0 : 0 ≤ i) (h : i < (vs.length : Int)) : (rowV vs sp).setIfInBounds (0 + i.toNat * 2 + 0) (.int .i64 t) = rowV (vs.set i.toNat (t, (vs.getD i.toNat (0, 0)).2)) sp := by
  apply Array.toList_inj.1
  rw [Array.toList_setIfInBounds]
  simp only [rowV]
  rw [← flat_s0, show 0 + i.toNat * 2 + 0 = 2 * i.toNat by omega, List.set_append_left _ _ (by rw [length_flat]; omega)]
theorem rowV_s1 {vs : List (Int × Int)} {sp : List Value} {i t : Int} (h0 : 0 ≤ i) (h : i < (vs.length : Int)) : (rowV vs sp).setIfInBounds (0 + i.toNat * 2 + 1) (.int .i64 t) = rowV (vs.set i.toNat ((vs.getD i.toNat (0, 0)).1, t)) sp := by
  apply Array.toList_inj.1
  rw [Array.toList_setIfInBounds]
  simp only [rowV]
  rw [← flat_s1, show 0 + i.toNat * 2 + 1 = 2 * i.toNat + 1 by omega, List.set_append_left _ _ (by rw [length_flat]; omega)]
theorem size_rV {vs : List (Int × Int)} {sp : List Value} : 2 * vs.length ≤ (rowV vs sp).size := by simp [rowV, length_flat]
theorem L_sV0 {bk : Nat} {vs : List (Int × Int)} {sp : List Value} {t : TypeId} {i u : Int} [TOne P T] (hw : wantE ops E o = some true) (hd : o.dst = none) (ho : o.op = .store T x y) (hx : ev E x = some (.pointer (some ⟨bk, 0 + i.toNat * 2 + 0, none⟩))) (hy : ev E y = some (.int .i64 u))
    (hU : Up H bk (.cells (rowV vs sp) t (0, 0)) (.cells (rowV (vs.set i.toNat (u, (vs.getD i.toNat (0, 0)).2)) sp) t (0, 0)) H') (h0 : 0 ≤ i) (h : i < (vs.length : Int))
    (hk : L P N w0 ops rest E H' R) : L P N w0 ops (o :: rest) E H R :=
  L_st hw hd ho hx hy rfl (by rw [rowV_s0 h0 h]; exact hU) (by have := size_rV (vs := vs) (sp := sp); omega) hk
theorem L_sV1 {bk : Nat} {vs : List (Int × Int)} {sp : List Value} {t : TypeId} {i u : Int} [TOne P T] (hw : wantE ops E o = some true) (hd : o.dst = none) (ho : o.op = .store T x y) (hx : ev E x = some (.pointer (some ⟨bk, 0 + i.toNat * 2 + 1, none⟩))) (hy : ev E y = some (.int .i64 u))
    (hU : Up H bk (.cells (rowV vs sp) t (0, 0)) (.cells (rowV (vs.set i.toNat ((vs.getD i.toNat (0, 0)).1, u)) sp) t (0, 0)) H') (h0 : 0 ≤ i) (h : i < (vs.length : Int))
    (hk : L P N w0 ops rest E H' R) : L P N w0 ops (o :: rest) E H R :=
  L_st hw hd ho hx hy rfl (by rw [rowV_s1 h0 h]; exact hU) (by have := size_rV (vs := vs) (sp := sp); omega) hk
theorem ld_rV0 {vs : List (Int × Int)} {sp : List Value} {i : Int} (h0 : 0 ≤ i) (h : i < (vs.length : Int)) : (rowV vs sp).toList[0 + i.toNat * 2 + 0]? = some (.int .i64 (vs.getD i.toNat (0, 0)).1) := by
  have hl : i.toNat < vs.length := by omega
  obtain ⟨h1, h2⟩ := flat_get vs i.toNat hl
  simp only [rowV]
  rw [show 0 + i.toNat * 2 + 0 = 2 * i.toNat by omega, List.getElem?_append_left (by rw [length_flat]; omega)]
  exact h1
theorem ld_rV1 {vs : List (Int × Int)} {sp : List Value} {i : Int} (h0 : 0 ≤ i) (h : i < (vs.length : Int)) : (rowV vs sp).toList[0 + i.toNat * 2 + 1]? = some (.int .i64 (vs.getD i.toNat (0, 0)).2) := by
  have hl : i.toNat < vs.length := by omega
  obtain ⟨h1, h2⟩ := flat_get vs i.toNat hl
  simp only [rowV]
  rw [show 0 + i.toNat * 2 + 1 = 2 * i.toNat + 1 by omega, List.getElem?_append_left (by rw [length_flat]; omega)]
  exact h2
end
variable {w0 : World} {H : HL} {C : Cn} {A : Ar}
theorem markUint64S_g {bo : Option Nat} {c : Nat} {xs : List Int} {sp : List Value} {k : Int} (hb : bo = none → xs = []) (hl : xs.length ≤ 1048576) (hk : 0 ≤ k ∧ k ≤ 10000000) :
    Fn Try.prog w0 64 #[.slice (ad bo) xs.length c, .int .i64 k] (oU bo xs sp ++ H) fun v H' => v = .int .i64 (k + xs.length) ∧ ∃ xs', (xs'.length = xs.length ∧ HU k xs') ∧ H' = oU bo xs' sp ++ H := by
  refine enter2 Try.func64 rfl rfl Try.ntmps64 rfl ?_
  repeat' (first | (apply gL; first | refine L_nil ?_ | refine yX fun _ => ?_ | (apply gSt; first | refine sR ?_ | refine sB ?_ | refine s1 ?_ | refine sW ?_ | refine sN ?_) | (apply gCall; apply L_call rfl rfl rfl rfl rfl; (· first | exact eqVal_c); rintro _ _ ⟨rfl, rfl⟩) | refine kV ?_ | (apply L_val rfl rfl rfl; (· first | (apply gBin; first | fail | exact v_nebs rfl rfl) | fail | (apply v_ld rfl; (· exact at_); (· first | exact ld_rV0 om om | exact ld_rV1 om om); done)))) | (apply gW; first | refine W_seq ?_ | refine W_region ?_ | refine W_ret ?_ | refine W_skip ?_ | refine W_block ?_ | refine W_exit ?_ | refine W_cond1 rfl ?_ | refine W_cond0 rfl ?_ | refine cN (fun h => ?_) fun h => ?_ | refine cP (fun h => ?_) fun h => ?_ | refine cB (fun h => ?_) fun h => ?_ | refine cK (fun h => ?_) fun h => ?_ | refine wQ ?_) | (first | refine seqR.normal ?_ | refine seqR.ret ?_ | refine seqR.exit ?_ | refine blockR.normal ?_ | refine blockR.ret ?_ | refine blockR.here ?_ | refine blockR.exit rfl ?_ | refine loopR.ret ?_ | refine loopR.exit ?_) | (apply gQ; first | refine Q_nil ?_ | (apply Q_call rfl rfl rfl rfl rfl; (· first | exact eqVal_c)) | refine kQ ?_ | (apply Q_val rfl rfl rfl; (· first | (apply gBin; first | fail | exact v_nebs rfl rfl) | fail | (apply v_ld rfl; (· exact at_); (· first | exact ld_rV0 om om | exact ld_rV1 om om); done)))) | fail)
  apply W_loopX (α := Int × List Int) (fun y => [(0, .slice (ad bo) xs.length c), (1, .int .i64 (k + y.1)), (5, .int .i64 y.1)]) (fun y => oU bo y.2 sp ++ H) (fun y => (0 ≤ y.1 ∧ y.1 ≤ xs.length) ∧ y.2.length = xs.length ∧ ∀ j : Int, 0 ≤ j → j < y.1 → g y.2 j = k + j) (fun y => (xs.length - y.1).toNat) (0, xs)
  · exact ⟨rfl, lk (by dsimp only; omega), rfl, trivial⟩
  · exact cvt_
  · exact ⟨⟨by dsimp only; omega, by dsimp only; omega⟩, rfl, fun j a b => by dsimp only at b; omega⟩
  rintro ⟨i, ys⟩ ⟨⟨hi, hi2⟩, hyl, hy⟩
  dsimp only at hi hi2 hyl hy ⊢
  by_cases hlt : i < (xs.length : Int)
  · rcases bo with _ | bo
    · rw [hb rfl] at hlt; simp at hlt; omega
    simp only [oU, ad, List.cons_append, List.nil_append]
    repeat' (first | exact absurd hlt h | first | (apply gL; first | refine L_nil ?_ | refine yX fun _ => ?_ | (apply gSt; first | refine sR ?_ | refine sB ?_ | refine s1 ?_ | refine sW ?_ | refine sN ?_) | (apply gCall; apply L_call rfl rfl rfl rfl rfl; (· first | exact eqVal_c); rintro _ _ ⟨rfl, rfl⟩) | refine kV ?_ | (apply L_val rfl rfl rfl; (· first | (apply gBin; first | fail | exact v_nebs rfl rfl) | fail | (apply v_ld rfl; (· exact at_); (· first | exact ld_rV0 om om | exact ld_rV1 om om); done)))) | (apply gW; first | refine W_seq ?_ | refine W_region ?_ | refine W_ret ?_ | refine W_skip ?_ | refine W_block ?_ | refine W_exit ?_ | refine W_cond1 rfl ?_ | refine W_cond0 rfl ?_ | refine cN (fun h => ?_) fun h => ?_ | refine cP (fun h => ?_) fun h => ?_ | refine cB (fun h => ?_) fun h => ?_ | refine cK (fun h => ?_) fun h => ?_ | refine wQ ?_) | (first | refine seqR.normal ?_ | refine seqR.ret ?_ | refine seqR.exit ?_ | refine blockR.normal ?_ | refine blockR.ret ?_ | refine blockR.here ?_ | refine blockR.exit rfl ?_ | refine loopR.ret ?_ | refine loopR.exit ?_) | (apply gQ; first | refine Q_nil ?_ | (apply Q_call rfl rfl rfl rfl rfl; (· first | exact eqVal_c)) | refine kQ ?_ | (apply Q_val rfl rfl rfl; (· first | (apply gBin; first | fail | exact v_nebs rfl rfl) | fail | (apply v_ld rfl; (· exact at_); (· first | exact ld_rV0 om om | exact ld_rV1 om om); done)))) | fail)
    apply loopR.mk (i + 1, _)
    · exact ⟨rfl, lk (by dsimp only; omega), rfl, trivial⟩
    · exact cvt_
    · refine ⟨⟨by dsimp only; omega, by dsimp only; omega⟩, by simp [hyl], fun j a b => ?_⟩
      dsimp only at b ⊢
      rw [g_set hi (by omega) a]
      split
      · rename_i e; rw [e]
      · exact hy j a (by omega)
    · dsimp only; omega
  · repeat' (first | exact absurd h hlt | first | (apply gL; first | refine L_nil ?_ | refine yX fun _ => ?_ | (apply gSt; first | refine sR ?_ | refine sB ?_ | refine s1 ?_ | refine sW ?_ | refine sN ?_) | (apply gCall; apply L_call rfl rfl rfl rfl rfl; (· first | exact eqVal_c); rintro _ _ ⟨rfl, rfl⟩) | refine kV ?_ | (apply L_val rfl rfl rfl; (· first | (apply gBin; first | fail | exact v_nebs rfl rfl) | fail | (apply v_ld rfl; (· exact at_); (· first | exact ld_rV0 om om | exact ld_rV1 om om); done)))) | (apply gW; first | refine W_seq ?_ | refine W_region ?_ | refine W_ret ?_ | refine W_skip ?_ | refine W_block ?_ | refine W_exit ?_ | refine W_cond1 rfl ?_ | refine W_cond0 rfl ?_ | refine cN (fun h => ?_) fun h => ?_ | refine cP (fun h => ?_) fun h => ?_ | refine cB (fun h => ?_) fun h => ?_ | refine cK (fun h => ?_) fun h => ?_ | refine wQ ?_) | (first | refine seqR.normal ?_ | refine seqR.ret ?_ | refine seqR.exit ?_ | refine blockR.normal ?_ | refine blockR.ret ?_ | refine blockR.here ?_ | refine blockR.exit rfl ?_ | refine loopR.ret ?_ | refine loopR.exit ?_) | (apply gQ; first | refine Q_nil ?_ | (apply Q_call rfl rfl rfl rfl rfl; (· first | exact eqVal_c)) | refine kQ ?_ | (apply Q_val rfl rfl rfl; (· first | (apply gBin; first | fail | exact v_nebs rfl rfl) | fail | (apply v_ld rfl; (· exact at_); (· first | exact ld_rV0 om om | exact ld_rV1 om om); done)))) | fail)
    refine retR.ret _ _ (ret1 rfl rfl) cvt_ ⟨?_, ys, ⟨hyl, fun j a b => hy j a (by omega)⟩, rfl⟩
    rw [show i = (xs.length : Int) by omega]
theorem markValS_g {bo : Option Nat} {c : Nat} {xs : List (Int × Int)} {sp : List Value} {k : Int} (hb : bo = none → xs = []) (hl : xs.length ≤ 1048576) (hk : 0 ≤ k ∧ k ≤ 10000000) :
    Fn Try.prog w0 65 #[.slice (ad bo) xs.length c, .int .i64 k] (oV bo xs sp ++ H) fun v H' => v = .int .i64 (k + 2 * xs.length) ∧ ∃ xs', (xs'.length = xs.length ∧ HV k xs') ∧ H' = oV bo xs' sp ++ H := by
  refine enter2 Try.func65 rfl rfl Try.ntmps65 rfl ?_
  repeat' (first | (apply gL; first | refine L_nil ?_ | refine yX fun _ => ?_ | (apply gSt; first | refine sR ?_ | refine sB ?_ | refine s1 ?_ | refine sW ?_ | refine sN ?_) | (apply gCall; apply L_call rfl rfl rfl rfl rfl; (· first | exact eqVal_c); rintro _ _ ⟨rfl, rfl⟩) | refine kV ?_ | (apply L_val rfl rfl rfl; (· first | (apply gBin; first | fail | exact v_nebs rfl rfl) | fail | (apply v_ld rfl; (· exact at_); (· first | exact ld_rV0 om om | exact ld_rV1 om om); done)))) | (apply gW; first | refine W_seq ?_ | refine W_region ?_ | refine W_ret ?_ | refine W_skip ?_ | refine W_block ?_ | refine W_exit ?_ | refine W_cond1 rfl ?_ | refine W_cond0 rfl ?_ | refine cN (fun h => ?_) fun h => ?_ | refine cP (fun h => ?_) fun h => ?_ | refine cB (fun h => ?_) fun h => ?_ | refine cK (fun h => ?_) fun h => ?_ | refine wQ ?_) | (first | refine seqR.normal ?_ | refine seqR.ret ?_ | refine seqR.exit ?_ | refine blockR.normal ?_ | refine blockR.ret ?_ | refine blockR.here ?_ | refine blockR.exit rfl ?_ | refine loopR.ret ?_ | refine loopR.exit ?_) | (apply gQ; first | refine Q_nil ?_ | (apply Q_call rfl rfl rfl rfl rfl; (· first | exact eqVal_c)) | refine kQ ?_ | (apply Q_val rfl rfl rfl; (· first | (apply gBin; first | fail | exact v_nebs rfl rfl) | fail | (apply v_ld rfl; (· exact at_); (· first | exact ld_rV0 om om | exact ld_rV1 om om); done)))) | fail)
  apply W_loopX (α := Int × List (Int × Int)) (fun y => [(0, .slice (ad bo) xs.length c), (1, .int .i64 (k + 2 * y.1)), (5, .int .i64 y.1)]) (fun y => oV bo y.2 sp ++ H) (fun y => (0 ≤ y.1 ∧ y.1 ≤ xs.length) ∧ y.2.length = xs.length ∧ ∀ j : Int, 0 ≤ j → j < y.1 → y.2.getD j.toNat (0, 0) = (k + 2 * j, k + 2 * j + 1)) (fun y => (xs.length - y.1).toNat) (0, xs)
  · exact ⟨rfl, lk (by dsimp only; omega), rfl, trivial⟩
  · exact cvt_
  · exact ⟨⟨by dsimp only; omega, by dsimp only; omega⟩, rfl, fun j a b => by dsimp only at b; omega⟩
  rintro ⟨i, ys⟩ ⟨⟨hi, hi2⟩, hyl, hy⟩
  dsimp only at hi hi2 hyl hy ⊢
  by_cases hlt : i < (xs.length : Int)
  · rcases bo with _ | bo
    · rw [hb rfl] at hlt; simp at hlt; omega
    simp only [oV, ad, List.cons_append, List.nil_append]
    repeat' (first | exact absurd hlt h | (apply gSt; first | (apply L_sV0 rfl rfl rfl rfl rfl; (· exact up_); (· omega); (· omega)) | (apply L_sV1 rfl rfl rfl rfl rfl; (· exact up_); (· omega); (· simp; omega))) | first | (apply gL; first | refine L_nil ?_ | refine yX fun _ => ?_ | (apply gSt; first | refine sR ?_ | refine sB ?_ | refine s1 ?_ | refine sW ?_ | refine sN ?_) | (apply gCall; apply L_call rfl rfl rfl rfl rfl; (· first | exact eqVal_c); rintro _ _ ⟨rfl, rfl⟩) | refine kV ?_ | (apply L_val rfl rfl rfl; (· first | (apply gBin; first | fail | exact v_nebs rfl rfl) | fail | (apply v_ld rfl; (· exact at_); (· first | exact ld_rV0 om om | exact ld_rV1 om om); done)))) | (apply gW; first | refine W_seq ?_ | refine W_region ?_ | refine W_ret ?_ | refine W_skip ?_ | refine W_block ?_ | refine W_exit ?_ | refine W_cond1 rfl ?_ | refine W_cond0 rfl ?_ | refine cN (fun h => ?_) fun h => ?_ | refine cP (fun h => ?_) fun h => ?_ | refine cB (fun h => ?_) fun h => ?_ | refine cK (fun h => ?_) fun h => ?_ | refine wQ ?_) | (first | refine seqR.normal ?_ | refine seqR.ret ?_ | refine seqR.exit ?_ | refine blockR.normal ?_ | refine blockR.ret ?_ | refine blockR.here ?_ | refine blockR.exit rfl ?_ | refine loopR.ret ?_ | refine loopR.exit ?_) | (apply gQ; first | refine Q_nil ?_ | (apply Q_call rfl rfl rfl rfl rfl; (· first | exact eqVal_c)) | refine kQ ?_ | (apply Q_val rfl rfl rfl; (· first | (apply gBin; first | fail | exact v_nebs rfl rfl) | fail | (apply v_ld rfl; (· exact at_); (· first | exact ld_rV0 om om | exact ld_rV1 om om); done)))) | fail)
    apply loopR.mk (i + 1, _)
    · exact ⟨rfl, lk (by dsimp only; omega), rfl, trivial⟩
    · exact cvt_
    · refine ⟨⟨by dsimp only; omega, by dsimp only; omega⟩, by simp [hyl], fun j a b => ?_⟩
      dsimp only at b ⊢
      rw [getD_set hi (by simp; omega) a]
      split
      · rename_i e; subst e
        rw [getD_set hi (by omega) hi, if_pos rfl]
      · rename_i e
        rw [getD_set hi (by omega) a, if_neg e]
        exact hy j a (by omega)
    · dsimp only; omega
  · repeat' (first | exact absurd h hlt | first | (apply gL; first | refine L_nil ?_ | refine yX fun _ => ?_ | (apply gSt; first | refine sR ?_ | refine sB ?_ | refine s1 ?_ | refine sW ?_ | refine sN ?_) | (apply gCall; apply L_call rfl rfl rfl rfl rfl; (· first | exact eqVal_c); rintro _ _ ⟨rfl, rfl⟩) | refine kV ?_ | (apply L_val rfl rfl rfl; (· first | (apply gBin; first | fail | exact v_nebs rfl rfl) | fail | (apply v_ld rfl; (· exact at_); (· first | exact ld_rV0 om om | exact ld_rV1 om om); done)))) | (apply gW; first | refine W_seq ?_ | refine W_region ?_ | refine W_ret ?_ | refine W_skip ?_ | refine W_block ?_ | refine W_exit ?_ | refine W_cond1 rfl ?_ | refine W_cond0 rfl ?_ | refine cN (fun h => ?_) fun h => ?_ | refine cP (fun h => ?_) fun h => ?_ | refine cB (fun h => ?_) fun h => ?_ | refine cK (fun h => ?_) fun h => ?_ | refine wQ ?_) | (first | refine seqR.normal ?_ | refine seqR.ret ?_ | refine seqR.exit ?_ | refine blockR.normal ?_ | refine blockR.ret ?_ | refine blockR.here ?_ | refine blockR.exit rfl ?_ | refine loopR.ret ?_ | refine loopR.exit ?_) | (apply gQ; first | refine Q_nil ?_ | (apply Q_call rfl rfl rfl rfl rfl; (· first | exact eqVal_c)) | refine kQ ?_ | (apply Q_val rfl rfl rfl; (· first | (apply gBin; first | fail | exact v_nebs rfl rfl) | fail | (apply v_ld rfl; (· exact at_); (· first | exact ld_rV0 om om | exact ld_rV1 om om); done)))) | fail)
    refine retR.ret _ _ (ret1 rfl rfl) cvt_ ⟨?_, ys, ⟨hyl, fun j a b => hy j a (by omega)⟩, rfl⟩
    rw [show i = (xs.length : Int) by omega]
theorem heldUint64S_g {bo : Option Nat} {c : Nat} {xs : List Int} {k : Int} (hB : RU H bo xs) (hl : xs.length ≤ 1048576) (hk : 0 ≤ k ∧ k ≤ 10000000) (hx : HU k xs) :
    Fn Try.prog w0 66 #[.slice (ad bo) xs.length c, .int .i64 k] H fun v H' => v = .int .i64 (k + xs.length) ∧ H' = H := by
  refine enter2 Try.func66 rfl rfl Try.ntmps66 rfl ?_
  repeat' (first | (apply gL; first | refine L_nil ?_ | refine yX fun _ => ?_ | (apply gSt; first | refine sR ?_ | refine sB ?_ | refine s1 ?_ | refine sW ?_ | refine sN ?_) | (apply gCall; apply L_call rfl rfl rfl rfl rfl; (· first | exact eqVal_c); rintro _ _ ⟨rfl, rfl⟩) | refine kV ?_ | (apply L_val rfl rfl rfl; (· first | (apply gBin; first | fail | exact v_nebs rfl rfl) | fail | (apply v_ld rfl; (· exact at_); (· first | exact ld_rV0 om om | exact ld_rV1 om om); done)))) | (apply gW; first | refine W_seq ?_ | refine W_region ?_ | refine W_ret ?_ | refine W_skip ?_ | refine W_block ?_ | refine W_exit ?_ | refine W_cond1 rfl ?_ | refine W_cond0 rfl ?_ | refine cN (fun h => ?_) fun h => ?_ | refine cP (fun h => ?_) fun h => ?_ | refine cB (fun h => ?_) fun h => ?_ | refine cK (fun h => ?_) fun h => ?_ | refine wQ ?_) | (first | refine seqR.normal ?_ | refine seqR.ret ?_ | refine seqR.exit ?_ | refine blockR.normal ?_ | refine blockR.ret ?_ | refine blockR.here ?_ | refine blockR.exit rfl ?_ | refine loopR.ret ?_ | refine loopR.exit ?_) | (apply gQ; first | refine Q_nil ?_ | (apply Q_call rfl rfl rfl rfl rfl; (· first | exact eqVal_c)) | refine kQ ?_ | (apply Q_val rfl rfl rfl; (· first | (apply gBin; first | fail | exact v_nebs rfl rfl) | fail | (apply v_ld rfl; (· exact at_); (· first | exact ld_rV0 om om | exact ld_rV1 om om); done)))) | fail)
  apply W_loopX (α := Int) (fun y => [(0, .slice (ad bo) xs.length c), (1, .int .i64 (k + y)), (5, .int .i64 y)]) (fun y => H) (fun y => (0 ≤ y ∧ y ≤ xs.length)) (fun y => (xs.length - y).toNat) 0
  · exact ⟨rfl, lk (by omega), rfl, trivial⟩
  · exact cvt_
  · exact ⟨by omega, by omega⟩
  rintro i ⟨hi, hi2⟩
  by_cases hlt : i < (xs.length : Int)
  · rcases bo with _ | bo
    · rw [show xs = [] from hB] at hlt; simp at hlt; omega
    obtain ⟨sp, hB⟩ := hB
    simp only [ad]
    repeat' (first | exact absurd hlt h | first | (apply gL; first | refine L_nil ?_ | refine yX fun _ => ?_ | (apply gSt; first | refine sR ?_ | refine sB ?_ | refine s1 ?_ | refine sW ?_ | refine sN ?_) | (apply gCall; apply L_call rfl rfl rfl rfl rfl; (· first | exact eqVal_c); rintro _ _ ⟨rfl, rfl⟩) | refine kV ?_ | (apply L_val rfl rfl rfl; (· first | (apply gBin; first | fail | exact v_nebs rfl rfl) | fail | (apply v_ld rfl; (· exact at_); (· first | exact ld_rV0 om om | exact ld_rV1 om om); done)))) | (apply gW; first | refine W_seq ?_ | refine W_region ?_ | refine W_ret ?_ | refine W_skip ?_ | refine W_block ?_ | refine W_exit ?_ | refine W_cond1 rfl ?_ | refine W_cond0 rfl ?_ | refine cN (fun h => ?_) fun h => ?_ | refine cP (fun h => ?_) fun h => ?_ | refine cB (fun h => ?_) fun h => ?_ | refine cK (fun h => ?_) fun h => ?_ | refine wQ ?_) | (first | refine seqR.normal ?_ | refine seqR.ret ?_ | refine seqR.exit ?_ | refine blockR.normal ?_ | refine blockR.ret ?_ | refine blockR.here ?_ | refine blockR.exit rfl ?_ | refine loopR.ret ?_ | refine loopR.exit ?_) | (apply gQ; first | refine Q_nil ?_ | (apply Q_call rfl rfl rfl rfl rfl; (· first | exact eqVal_c)) | refine kQ ?_ | (apply Q_val rfl rfl rfl; (· first | (apply gBin; first | fail | exact v_nebs rfl rfl) | fail | (apply v_ld rfl; (· exact at_); (· first | exact ld_rV0 om om | exact ld_rV1 om om); done)))) | fail)
    · exact absurd (hx i hi hlt) h
    · apply loopR.mk (i + 1)
      · exact ⟨rfl, lk (by omega), rfl, trivial⟩
      · exact cvt_
      · exact ⟨by omega, by omega⟩
      · (try dsimp only); omega
  · repeat' (first | exact absurd h hlt | first | (apply gL; first | refine L_nil ?_ | refine yX fun _ => ?_ | (apply gSt; first | refine sR ?_ | refine sB ?_ | refine s1 ?_ | refine sW ?_ | refine sN ?_) | (apply gCall; apply L_call rfl rfl rfl rfl rfl; (· first | exact eqVal_c); rintro _ _ ⟨rfl, rfl⟩) | refine kV ?_ | (apply L_val rfl rfl rfl; (· first | (apply gBin; first | fail | exact v_nebs rfl rfl) | fail | (apply v_ld rfl; (· exact at_); (· first | exact ld_rV0 om om | exact ld_rV1 om om); done)))) | (apply gW; first | refine W_seq ?_ | refine W_region ?_ | refine W_ret ?_ | refine W_skip ?_ | refine W_block ?_ | refine W_exit ?_ | refine W_cond1 rfl ?_ | refine W_cond0 rfl ?_ | refine cN (fun h => ?_) fun h => ?_ | refine cP (fun h => ?_) fun h => ?_ | refine cB (fun h => ?_) fun h => ?_ | refine cK (fun h => ?_) fun h => ?_ | refine wQ ?_) | (first | refine seqR.normal ?_ | refine seqR.ret ?_ | refine seqR.exit ?_ | refine blockR.normal ?_ | refine blockR.ret ?_ | refine blockR.here ?_ | refine blockR.exit rfl ?_ | refine loopR.ret ?_ | refine loopR.exit ?_) | (apply gQ; first | refine Q_nil ?_ | (apply Q_call rfl rfl rfl rfl rfl; (· first | exact eqVal_c)) | refine kQ ?_ | (apply Q_val rfl rfl rfl; (· first | (apply gBin; first | fail | exact v_nebs rfl rfl) | fail | (apply v_ld rfl; (· exact at_); (· first | exact ld_rV0 om om | exact ld_rV1 om om); done)))) | fail)
    refine retR.ret _ _ (ret1 rfl rfl) cv_ ⟨?_, rfl⟩
    rw [show i = (xs.length : Int) by omega]
theorem heldValS_g {bo : Option Nat} {c : Nat} {xs : List (Int × Int)} {k : Int} (hB : RV H bo xs) (hl : xs.length ≤ 1048576) (hk : 0 ≤ k ∧ k ≤ 10000000) (hx : HV k xs) :
    Fn Try.prog w0 67 #[.slice (ad bo) xs.length c, .int .i64 k] H fun v H' => v = .int .i64 (k + 2 * xs.length) ∧ H' = H := by
  refine enter2 Try.func67 rfl rfl Try.ntmps67 rfl ?_
  repeat' (first | (apply gL; first | refine L_nil ?_ | refine yX fun _ => ?_ | (apply gSt; first | refine sR ?_ | refine sB ?_ | refine s1 ?_ | refine sW ?_ | refine sN ?_) | (apply gCall; apply L_call rfl rfl rfl rfl rfl; (· first | exact eqVal_c); rintro _ _ ⟨rfl, rfl⟩) | refine kV ?_ | (apply L_val rfl rfl rfl; (· first | (apply gBin; first | fail | exact v_nebs rfl rfl) | fail | (apply v_ld rfl; (· exact at_); (· first | exact ld_rV0 om om | exact ld_rV1 om om); done)))) | (apply gW; first | refine W_seq ?_ | refine W_region ?_ | refine W_ret ?_ | refine W_skip ?_ | refine W_block ?_ | refine W_exit ?_ | refine W_cond1 rfl ?_ | refine W_cond0 rfl ?_ | refine cN (fun h => ?_) fun h => ?_ | refine cP (fun h => ?_) fun h => ?_ | refine cB (fun h => ?_) fun h => ?_ | refine cK (fun h => ?_) fun h => ?_ | refine wQ ?_) | (first | refine seqR.normal ?_ | refine seqR.ret ?_ | refine seqR.exit ?_ | refine blockR.normal ?_ | refine blockR.ret ?_ | refine blockR.here ?_ | refine blockR.exit rfl ?_ | refine loopR.ret ?_ | refine loopR.exit ?_) | (apply gQ; first | refine Q_nil ?_ | (apply Q_call rfl rfl rfl rfl rfl; (· first | exact eqVal_c)) | refine kQ ?_ | (apply Q_val rfl rfl rfl; (· first | (apply gBin; first | fail | exact v_nebs rfl rfl) | fail | (apply v_ld rfl; (· exact at_); (· first | exact ld_rV0 om om | exact ld_rV1 om om); done)))) | fail)
  apply W_loopX (α := Int) (fun y => [(0, .slice (ad bo) xs.length c), (1, .int .i64 (k + 2 * y)), (5, .int .i64 y)]) (fun y => H) (fun y => (0 ≤ y ∧ y ≤ xs.length)) (fun y => (xs.length - y).toNat) 0
  · exact ⟨rfl, lk (by omega), rfl, trivial⟩
  · exact cvt_
  · exact ⟨by omega, by omega⟩
  rintro i ⟨hi, hi2⟩
  by_cases hlt : i < (xs.length : Int)
  · rcases bo with _ | bo
    · rw [show xs = [] from hB] at hlt; simp at hlt; omega
    obtain ⟨sp, hB⟩ := hB
    have hxi := hx i hi hlt
    have hx1 : (xs.getD i.toNat (0, 0)).1 = k + 2 * i := by rw [hxi]
    have hx2 : (xs.getD i.toNat (0, 0)).2 = k + 2 * i + 1 := by rw [hxi]
    simp only [ad]
    repeat' (first | exact absurd hlt h | exact absurd hx1 h | exact absurd hx2 h | first | (apply gL; first | refine L_nil ?_ | refine yX fun _ => ?_ | (apply gSt; first | refine sR ?_ | refine sB ?_ | refine s1 ?_ | refine sW ?_ | refine sN ?_) | (apply gCall; apply L_call rfl rfl rfl rfl rfl; (· first | exact eqVal_c); rintro _ _ ⟨rfl, rfl⟩) | refine kV ?_ | (apply L_val rfl rfl rfl; (· first | (apply gBin; first | fail | exact v_nebs rfl rfl) | fail | (apply v_ld rfl; (· exact at_); (· first | exact ld_rV0 om om | exact ld_rV1 om om); done)))) | (apply gW; first | refine W_seq ?_ | refine W_region ?_ | refine W_ret ?_ | refine W_skip ?_ | refine W_block ?_ | refine W_exit ?_ | refine W_cond1 rfl ?_ | refine W_cond0 rfl ?_ | refine cN (fun h => ?_) fun h => ?_ | refine cP (fun h => ?_) fun h => ?_ | refine cB (fun h => ?_) fun h => ?_ | refine cK (fun h => ?_) fun h => ?_ | refine wQ ?_) | (first | refine seqR.normal ?_ | refine seqR.ret ?_ | refine seqR.exit ?_ | refine blockR.normal ?_ | refine blockR.ret ?_ | refine blockR.here ?_ | refine blockR.exit rfl ?_ | refine loopR.ret ?_ | refine loopR.exit ?_) | (apply gQ; first | refine Q_nil ?_ | (apply Q_call rfl rfl rfl rfl rfl; (· first | exact eqVal_c)) | refine kQ ?_ | (apply Q_val rfl rfl rfl; (· first | (apply gBin; first | fail | exact v_nebs rfl rfl) | fail | (apply v_ld rfl; (· exact at_); (· first | exact ld_rV0 om om | exact ld_rV1 om om); done)))) | fail)
    apply loopR.mk (i + 1)
    · exact ⟨rfl, lk (by omega), rfl, trivial⟩
    · exact cvt_
    · exact ⟨by omega, by omega⟩
    · (try dsimp only); omega
  · repeat' (first | exact absurd h hlt | first | (apply gL; first | refine L_nil ?_ | refine yX fun _ => ?_ | (apply gSt; first | refine sR ?_ | refine sB ?_ | refine s1 ?_ | refine sW ?_ | refine sN ?_) | (apply gCall; apply L_call rfl rfl rfl rfl rfl; (· first | exact eqVal_c); rintro _ _ ⟨rfl, rfl⟩) | refine kV ?_ | (apply L_val rfl rfl rfl; (· first | (apply gBin; first | fail | exact v_nebs rfl rfl) | fail | (apply v_ld rfl; (· exact at_); (· first | exact ld_rV0 om om | exact ld_rV1 om om); done)))) | (apply gW; first | refine W_seq ?_ | refine W_region ?_ | refine W_ret ?_ | refine W_skip ?_ | refine W_block ?_ | refine W_exit ?_ | refine W_cond1 rfl ?_ | refine W_cond0 rfl ?_ | refine cN (fun h => ?_) fun h => ?_ | refine cP (fun h => ?_) fun h => ?_ | refine cB (fun h => ?_) fun h => ?_ | refine cK (fun h => ?_) fun h => ?_ | refine wQ ?_) | (first | refine seqR.normal ?_ | refine seqR.ret ?_ | refine seqR.exit ?_ | refine blockR.normal ?_ | refine blockR.ret ?_ | refine blockR.here ?_ | refine blockR.exit rfl ?_ | refine loopR.ret ?_ | refine loopR.exit ?_) | (apply gQ; first | refine Q_nil ?_ | (apply Q_call rfl rfl rfl rfl rfl; (· first | exact eqVal_c)) | refine kQ ?_ | (apply Q_val rfl rfl rfl; (· first | (apply gBin; first | fail | exact v_nebs rfl rfl) | fail | (apply v_ld rfl; (· exact at_); (· first | exact ld_rV0 om om | exact ld_rV1 om om); done)))) | fail)
    refine retR.ret _ _ (ret1 rfl rfl) cv_ ⟨?_, rfl⟩
    rw [show i = (xs.length : Int) by omega]
theorem eqUint64S_g {bo b' : Option Nat} {c c' : Nat} {xs : List Int} (h1 : RU H bo xs) (h2 : RU H b' xs) (hl : xs.length ≤ 1048576) :
    Fn Try.prog w0 62 #[.slice (ad bo) xs.length c, .slice (ad b') xs.length c'] H fun v H' => v = .bool true ∧ H' = H := by
  refine enter2 Try.func62 rfl rfl Try.ntmps62 rfl ?_
  repeat' (first | (apply gL; first | refine L_nil ?_ | refine yX fun _ => ?_ | (apply gSt; first | refine sR ?_ | refine sB ?_ | refine s1 ?_ | refine sW ?_ | refine sN ?_) | (apply gCall; apply L_call rfl rfl rfl rfl rfl; (· first | exact eqVal_c); rintro _ _ ⟨rfl, rfl⟩) | refine kV ?_ | (apply L_val rfl rfl rfl; (· first | (apply gBin; first | fail | exact v_nebs rfl rfl) | fail | (apply v_ld rfl; (· exact at_); (· first | exact ld_rV0 om om | exact ld_rV1 om om); done)))) | (apply gW; first | refine W_seq ?_ | refine W_region ?_ | refine W_ret ?_ | refine W_skip ?_ | refine W_block ?_ | refine W_exit ?_ | refine W_cond1 rfl ?_ | refine W_cond0 rfl ?_ | refine cN (fun h => ?_) fun h => ?_ | refine cP (fun h => ?_) fun h => ?_ | refine cB (fun h => ?_) fun h => ?_ | refine cK (fun h => ?_) fun h => ?_ | refine wQ ?_) | (first | refine seqR.normal ?_ | refine seqR.ret ?_ | refine seqR.exit ?_ | refine blockR.normal ?_ | refine blockR.ret ?_ | refine blockR.here ?_ | refine blockR.exit rfl ?_ | refine loopR.ret ?_ | refine loopR.exit ?_) | (apply gQ; first | refine Q_nil ?_ | (apply Q_call rfl rfl rfl rfl rfl; (· first | exact eqVal_c)) | refine kQ ?_ | (apply Q_val rfl rfl rfl; (· first | (apply gBin; first | fail | exact v_nebs rfl rfl) | fail | (apply v_ld rfl; (· exact at_); (· first | exact ld_rV0 om om | exact ld_rV1 om om); done)))) | fail)
  · exact absurd rfl h
  apply W_loopX (α := Int) (fun y => [(0, .slice (ad bo) xs.length c), (1, .slice (ad b') xs.length c'), (5, .int .i64 y)]) (fun _ => H) (fun y => 0 ≤ y ∧ y ≤ xs.length) (fun y => (xs.length - y).toNat) 0
  · exact sub_
  · exact cvt_
  · exact ⟨by omega, by omega⟩
  rintro i ⟨hi, hi2⟩
  by_cases hlt : i < (xs.length : Int)
  · rcases bo with _ | bo
    · rw [show xs = [] from h1] at hlt; simp at hlt; omega
    rcases b' with _ | b'
    · rw [show xs = [] from h2] at hlt; simp at hlt; omega
    obtain ⟨sp, h1⟩ := h1
    obtain ⟨sp', h2⟩ := h2
    simp only [ad]
    repeat' (first | exact absurd hlt h | exact absurd rfl h | first | (apply gL; first | refine L_nil ?_ | refine yX fun _ => ?_ | (apply gSt; first | refine sR ?_ | refine sB ?_ | refine s1 ?_ | refine sW ?_ | refine sN ?_) | (apply gCall; apply L_call rfl rfl rfl rfl rfl; (· first | exact eqVal_c); rintro _ _ ⟨rfl, rfl⟩) | refine kV ?_ | (apply L_val rfl rfl rfl; (· first | (apply gBin; first | fail | exact v_nebs rfl rfl) | fail | (apply v_ld rfl; (· exact at_); (· first | exact ld_rV0 om om | exact ld_rV1 om om); done)))) | (apply gW; first | refine W_seq ?_ | refine W_region ?_ | refine W_ret ?_ | refine W_skip ?_ | refine W_block ?_ | refine W_exit ?_ | refine W_cond1 rfl ?_ | refine W_cond0 rfl ?_ | refine cN (fun h => ?_) fun h => ?_ | refine cP (fun h => ?_) fun h => ?_ | refine cB (fun h => ?_) fun h => ?_ | refine cK (fun h => ?_) fun h => ?_ | refine wQ ?_) | (first | refine seqR.normal ?_ | refine seqR.ret ?_ | refine seqR.exit ?_ | refine blockR.normal ?_ | refine blockR.ret ?_ | refine blockR.here ?_ | refine blockR.exit rfl ?_ | refine loopR.ret ?_ | refine loopR.exit ?_) | (apply gQ; first | refine Q_nil ?_ | (apply Q_call rfl rfl rfl rfl rfl; (· first | exact eqVal_c)) | refine kQ ?_ | (apply Q_val rfl rfl rfl; (· first | (apply gBin; first | fail | exact v_nebs rfl rfl) | fail | (apply v_ld rfl; (· exact at_); (· first | exact ld_rV0 om om | exact ld_rV1 om om); done)))) | fail)
    apply loopR.mk (i + 1)
    · exact sub_
    · exact cvt_
    · exact ⟨by omega, by omega⟩
    · (try dsimp only); omega
  · repeat' (first | exact absurd h hlt | first | (apply gL; first | refine L_nil ?_ | refine yX fun _ => ?_ | (apply gSt; first | refine sR ?_ | refine sB ?_ | refine s1 ?_ | refine sW ?_ | refine sN ?_) | (apply gCall; apply L_call rfl rfl rfl rfl rfl; (· first | exact eqVal_c); rintro _ _ ⟨rfl, rfl⟩) | refine kV ?_ | (apply L_val rfl rfl rfl; (· first | (apply gBin; first | fail | exact v_nebs rfl rfl) | fail | (apply v_ld rfl; (· exact at_); (· first | exact ld_rV0 om om | exact ld_rV1 om om); done)))) | (apply gW; first | refine W_seq ?_ | refine W_region ?_ | refine W_ret ?_ | refine W_skip ?_ | refine W_block ?_ | refine W_exit ?_ | refine W_cond1 rfl ?_ | refine W_cond0 rfl ?_ | refine cN (fun h => ?_) fun h => ?_ | refine cP (fun h => ?_) fun h => ?_ | refine cB (fun h => ?_) fun h => ?_ | refine cK (fun h => ?_) fun h => ?_ | refine wQ ?_) | (first | refine seqR.normal ?_ | refine seqR.ret ?_ | refine seqR.exit ?_ | refine blockR.normal ?_ | refine blockR.ret ?_ | refine blockR.here ?_ | refine blockR.exit rfl ?_ | refine loopR.ret ?_ | refine loopR.exit ?_) | (apply gQ; first | refine Q_nil ?_ | (apply Q_call rfl rfl rfl rfl rfl; (· first | exact eqVal_c)) | refine kQ ?_ | (apply Q_val rfl rfl rfl; (· first | (apply gBin; first | fail | exact v_nebs rfl rfl) | fail | (apply v_ld rfl; (· exact at_); (· first | exact ld_rV0 om om | exact ld_rV1 om om); done)))) | fail)
    refine retR.ret _ _ (ret1 rfl rfl) cv_ ⟨?_, rfl⟩
    rfl
theorem eqValS_g {bo b' : Option Nat} {c c' : Nat} {xs : List (Int × Int)} (h1 : RV H bo xs) (h2 : RV H b' xs) (hl : xs.length ≤ 1048576) :
    Fn Try.prog w0 63 #[.slice (ad bo) xs.length c, .slice (ad b') xs.length c'] H fun v H' => v = .bool true ∧ H' = H := by
  refine enter2 Try.func63 rfl rfl Try.ntmps63 rfl ?_
  repeat' (first | (apply gL; first | refine L_nil ?_ | refine yX fun _ => ?_ | (apply gSt; first | refine sR ?_ | refine sB ?_ | refine s1 ?_ | refine sW ?_ | refine sN ?_) | (apply gCall; apply L_call rfl rfl rfl rfl rfl; (· first | exact eqVal_c); rintro _ _ ⟨rfl, rfl⟩) | refine kV ?_ | (apply L_val rfl rfl rfl; (· first | (apply gBin; first | fail | exact v_nebs rfl rfl) | fail | (apply v_ld rfl; (· exact at_); (· first | exact ld_rV0 om om | exact ld_rV1 om om); done)))) | (apply gW; first | refine W_seq ?_ | refine W_region ?_ | refine W_ret ?_ | refine W_skip ?_ | refine W_block ?_ | refine W_exit ?_ | refine W_cond1 rfl ?_ | refine W_cond0 rfl ?_ | refine cN (fun h => ?_) fun h => ?_ | refine cP (fun h => ?_) fun h => ?_ | refine cB (fun h => ?_) fun h => ?_ | refine cK (fun h => ?_) fun h => ?_ | refine wQ ?_) | (first | refine seqR.normal ?_ | refine seqR.ret ?_ | refine seqR.exit ?_ | refine blockR.normal ?_ | refine blockR.ret ?_ | refine blockR.here ?_ | refine blockR.exit rfl ?_ | refine loopR.ret ?_ | refine loopR.exit ?_) | (apply gQ; first | refine Q_nil ?_ | (apply Q_call rfl rfl rfl rfl rfl; (· first | exact eqVal_c)) | refine kQ ?_ | (apply Q_val rfl rfl rfl; (· first | (apply gBin; first | fail | exact v_nebs rfl rfl) | fail | (apply v_ld rfl; (· exact at_); (· first | exact ld_rV0 om om | exact ld_rV1 om om); done)))) | fail)
  · exact absurd rfl h
  apply W_loopX (α := Int) (fun y => [(0, .slice (ad bo) xs.length c), (1, .slice (ad b') xs.length c'), (5, .int .i64 y)]) (fun _ => H) (fun y => 0 ≤ y ∧ y ≤ xs.length) (fun y => (xs.length - y).toNat) 0
  · exact sub_
  · exact cvt_
  · exact ⟨by omega, by omega⟩
  rintro i ⟨hi, hi2⟩
  by_cases hlt : i < (xs.length : Int)
  · rcases bo with _ | bo
    · rw [show xs = [] from h1] at hlt; simp at hlt; omega
    rcases b' with _ | b'
    · rw [show xs = [] from h2] at hlt; simp at hlt; omega
    obtain ⟨sp, h1⟩ := h1
    obtain ⟨sp', h2⟩ := h2
    simp only [ad]
    repeat' (first | exact absurd hlt h | exact absurd rfl h | first | (apply gL; first | refine L_nil ?_ | refine yX fun _ => ?_ | (apply gSt; first | refine sR ?_ | refine sB ?_ | refine s1 ?_ | refine sW ?_ | refine sN ?_) | (apply gCall; apply L_call rfl rfl rfl rfl rfl; (· first | exact eqVal_c); rintro _ _ ⟨rfl, rfl⟩) | refine kV ?_ | (apply L_val rfl rfl rfl; (· first | (apply gBin; first | fail | exact v_nebs rfl rfl) | fail | (apply v_ld rfl; (· exact at_); (· first | exact ld_rV0 om om | exact ld_rV1 om om); done)))) | (apply gW; first | refine W_seq ?_ | refine W_region ?_ | refine W_ret ?_ | refine W_skip ?_ | refine W_block ?_ | refine W_exit ?_ | refine W_cond1 rfl ?_ | refine W_cond0 rfl ?_ | refine cN (fun h => ?_) fun h => ?_ | refine cP (fun h => ?_) fun h => ?_ | refine cB (fun h => ?_) fun h => ?_ | refine cK (fun h => ?_) fun h => ?_ | refine wQ ?_) | (first | refine seqR.normal ?_ | refine seqR.ret ?_ | refine seqR.exit ?_ | refine blockR.normal ?_ | refine blockR.ret ?_ | refine blockR.here ?_ | refine blockR.exit rfl ?_ | refine loopR.ret ?_ | refine loopR.exit ?_) | (apply gQ; first | refine Q_nil ?_ | (apply Q_call rfl rfl rfl rfl rfl; (· first | exact eqVal_c)) | refine kQ ?_ | (apply Q_val rfl rfl rfl; (· first | (apply gBin; first | fail | exact v_nebs rfl rfl) | fail | (apply v_ld rfl; (· exact at_); (· first | exact ld_rV0 om om | exact ld_rV1 om om); done)))) | fail)
    apply loopR.mk (i + 1)
    · exact sub_
    · exact cvt_
    · exact ⟨by omega, by omega⟩
    · (try dsimp only); omega
  · repeat' (first | exact absurd h hlt | first | (apply gL; first | refine L_nil ?_ | refine yX fun _ => ?_ | (apply gSt; first | refine sR ?_ | refine sB ?_ | refine s1 ?_ | refine sW ?_ | refine sN ?_) | (apply gCall; apply L_call rfl rfl rfl rfl rfl; (· first | exact eqVal_c); rintro _ _ ⟨rfl, rfl⟩) | refine kV ?_ | (apply L_val rfl rfl rfl; (· first | (apply gBin; first | fail | exact v_nebs rfl rfl) | fail | (apply v_ld rfl; (· exact at_); (· first | exact ld_rV0 om om | exact ld_rV1 om om); done)))) | (apply gW; first | refine W_seq ?_ | refine W_region ?_ | refine W_ret ?_ | refine W_skip ?_ | refine W_block ?_ | refine W_exit ?_ | refine W_cond1 rfl ?_ | refine W_cond0 rfl ?_ | refine cN (fun h => ?_) fun h => ?_ | refine cP (fun h => ?_) fun h => ?_ | refine cB (fun h => ?_) fun h => ?_ | refine cK (fun h => ?_) fun h => ?_ | refine wQ ?_) | (first | refine seqR.normal ?_ | refine seqR.ret ?_ | refine seqR.exit ?_ | refine blockR.normal ?_ | refine blockR.ret ?_ | refine blockR.here ?_ | refine blockR.exit rfl ?_ | refine loopR.ret ?_ | refine loopR.exit ?_) | (apply gQ; first | refine Q_nil ?_ | (apply Q_call rfl rfl rfl rfl rfl; (· first | exact eqVal_c)) | refine kQ ?_ | (apply Q_val rfl rfl rfl; (· first | (apply gBin; first | fail | exact v_nebs rfl rfl) | fail | (apply v_ld rfl; (· exact at_); (· first | exact ld_rV0 om om | exact ld_rV1 om om); done)))) | fail)
    refine retR.ret _ _ (ret1 rfl rfl) cv_ ⟨?_, rfl⟩
    rfl
set_option maxHeartbeats 2000000 in
theorem eqArena_g {bw br bw' br' : Option Nat} {cw cr cw' cr' : Nat} (h1 : RU H bw A.ws) (h2 : RV H br A.vs) (h3 : RU H bw' A.ws) (h4 : RV H br' A.vs) (hl : A.ws.length ≤ 1048576) (hl2 : A.vs.length ≤ 1048576) :
    Fn Try.prog w0 18 #[arG (ad bw) cw (ad br) cr A, arG (ad bw') cw' (ad br') cr' A] H fun v H' => v = .bool true ∧ H' = H := by
  refine enter2 Try.func18 rfl rfl Try.ntmps18 rfl ?_
  repeat' (first | (apply gL; first | refine L_nil ?_ | refine yX fun _ => ?_ | (apply gSt; first | refine sR ?_ | refine sB ?_ | refine s1 ?_ | refine sW ?_ | refine sN ?_) | (apply gCall; apply L_call rfl rfl rfl rfl rfl; (· first | exact eqVal_c); rintro _ _ ⟨rfl, rfl⟩) | refine kV ?_ | (apply L_val rfl rfl rfl; (· first | (apply gBin; first | fail | exact v_nebs rfl rfl) | fail | (apply v_ld rfl; (· exact at_); (· first | exact ld_rV0 om om | exact ld_rV1 om om); done)))) | (apply gW; first | refine W_seq ?_ | refine W_region ?_ | refine W_ret ?_ | refine W_skip ?_ | refine W_block ?_ | refine W_exit ?_ | refine W_cond1 rfl ?_ | refine W_cond0 rfl ?_ | refine cN (fun h => ?_) fun h => ?_ | refine cP (fun h => ?_) fun h => ?_ | refine cB (fun h => ?_) fun h => ?_ | refine cK (fun h => ?_) fun h => ?_ | refine wQ ?_) | (first | refine seqR.normal ?_ | refine seqR.ret ?_ | refine seqR.exit ?_ | refine blockR.normal ?_ | refine blockR.ret ?_ | refine blockR.here ?_ | refine blockR.exit rfl ?_ | refine loopR.ret ?_ | refine loopR.exit ?_) | (apply gQ; first | refine Q_nil ?_ | (apply Q_call rfl rfl rfl rfl rfl; (· first | exact eqVal_c)) | refine kQ ?_ | (apply Q_val rfl rfl rfl; (· first | (apply gBin; first | fail | exact v_nebs rfl rfl) | fail | (apply v_ld rfl; (· exact at_); (· first | exact ld_rV0 om om | exact ld_rV1 om om); done)))) | fail)
  apply L_call rfl rfl rfl rfl rfl
  · exact eqUint64S_g (RU.there (RU.there h1)) (RU.there (RU.there h3)) hl
  rintro _ _ ⟨rfl, rfl⟩
  repeat' (first | (apply gL; first | refine L_nil ?_ | refine yX fun _ => ?_ | (apply gSt; first | refine sR ?_ | refine sB ?_ | refine s1 ?_ | refine sW ?_ | refine sN ?_) | (apply gCall; apply L_call rfl rfl rfl rfl rfl; (· first | exact eqVal_c); rintro _ _ ⟨rfl, rfl⟩) | refine kV ?_ | (apply L_val rfl rfl rfl; (· first | (apply gBin; first | fail | exact v_nebs rfl rfl) | fail | (apply v_ld rfl; (· exact at_); (· first | exact ld_rV0 om om | exact ld_rV1 om om); done)))) | (apply gW; first | refine W_seq ?_ | refine W_region ?_ | refine W_ret ?_ | refine W_skip ?_ | refine W_block ?_ | refine W_exit ?_ | refine W_cond1 rfl ?_ | refine W_cond0 rfl ?_ | refine cN (fun h => ?_) fun h => ?_ | refine cP (fun h => ?_) fun h => ?_ | refine cB (fun h => ?_) fun h => ?_ | refine cK (fun h => ?_) fun h => ?_ | refine wQ ?_) | (first | refine seqR.normal ?_ | refine seqR.ret ?_ | refine seqR.exit ?_ | refine blockR.normal ?_ | refine blockR.ret ?_ | refine blockR.here ?_ | refine blockR.exit rfl ?_ | refine loopR.ret ?_ | refine loopR.exit ?_) | (apply gQ; first | refine Q_nil ?_ | (apply Q_call rfl rfl rfl rfl rfl; (· first | exact eqVal_c)) | refine kQ ?_ | (apply Q_val rfl rfl rfl; (· first | (apply gBin; first | fail | exact v_nebs rfl rfl) | fail | (apply v_ld rfl; (· exact at_); (· first | exact ld_rV0 om om | exact ld_rV1 om om); done)))) | fail)
  all_goals (first | exact absurd rfl h | skip)
  apply L_call rfl rfl rfl rfl rfl
  · exact eqValS_g (RV.there (RV.there h2)) (RV.there (RV.there h4)) hl2
  rintro _ _ ⟨rfl, rfl⟩
  repeat' (first | (apply gL; first | refine L_nil ?_ | refine yX fun _ => ?_ | (apply gSt; first | refine sR ?_ | refine sB ?_ | refine s1 ?_ | refine sW ?_ | refine sN ?_) | (apply gCall; apply L_call rfl rfl rfl rfl rfl; (· first | exact eqVal_c); rintro _ _ ⟨rfl, rfl⟩) | refine kV ?_ | (apply L_val rfl rfl rfl; (· first | (apply gBin; first | fail | exact v_nebs rfl rfl) | fail | (apply v_ld rfl; (· exact at_); (· first | exact ld_rV0 om om | exact ld_rV1 om om); done)))) | (apply gW; first | refine W_seq ?_ | refine W_region ?_ | refine W_ret ?_ | refine W_skip ?_ | refine W_block ?_ | refine W_exit ?_ | refine W_cond1 rfl ?_ | refine W_cond0 rfl ?_ | refine cN (fun h => ?_) fun h => ?_ | refine cP (fun h => ?_) fun h => ?_ | refine cB (fun h => ?_) fun h => ?_ | refine cK (fun h => ?_) fun h => ?_ | refine wQ ?_) | (first | refine seqR.normal ?_ | refine seqR.ret ?_ | refine seqR.exit ?_ | refine blockR.normal ?_ | refine blockR.ret ?_ | refine blockR.here ?_ | refine blockR.exit rfl ?_ | refine loopR.ret ?_ | refine loopR.exit ?_) | (apply gQ; first | refine Q_nil ?_ | (apply Q_call rfl rfl rfl rfl rfl; (· first | exact eqVal_c)) | refine kQ ?_ | (apply Q_val rfl rfl rfl; (· first | (apply gBin; first | fail | exact v_nebs rfl rfl) | fail | (apply v_ld rfl; (· exact at_); (· first | exact ld_rV0 om om | exact ld_rV1 om om); done)))) | fail)
  all_goals (first | exact absurd rfl h | (refine retR.ret _ _ (ret1 rfl rfl) cv_ ⟨?_, rfl⟩; rfl))
theorem heldArena_g {bw br : Option Nat} {cw cr : Nat} {ws : List Int} {vs : List (Int × Int)} {k : Int} (h1 : RU H bw ws) (h2 : RV H br vs) (hl : ws.length ≤ 1048576) (hl2 : vs.length ≤ 1048576) (hk : 0 ≤ k ∧ k ≤ 1000) (hu : HU k ws) (hv : HV (k + ws.length) vs) (ew : ws.length = A.ws.length) (ev : vs.length = A.vs.length) :
    Fn Try.prog w0 20 #[arG (ad bw) cw (ad br) cr A, .int .i64 k] H fun v H' => v = .int .i64 (k + A.ws.length + 2 * A.vs.length) ∧ H' = H := by
  refine enter2 Try.func20 rfl rfl Try.ntmps20 rfl ?_
  repeat' (first | (apply gL; first | refine L_nil ?_ | refine yX fun _ => ?_ | (apply gSt; first | refine sR ?_ | refine sB ?_ | refine s1 ?_ | refine sW ?_ | refine sN ?_) | (apply gCall; apply L_call rfl rfl rfl rfl rfl; (· first | exact eqVal_c); rintro _ _ ⟨rfl, rfl⟩) | refine kV ?_ | (apply L_val rfl rfl rfl; (· first | (apply gBin; first | fail | exact v_nebs rfl rfl) | fail | (apply v_ld rfl; (· exact at_); (· first | exact ld_rV0 om om | exact ld_rV1 om om); done)))) | (apply gW; first | refine W_seq ?_ | refine W_region ?_ | refine W_ret ?_ | refine W_skip ?_ | refine W_block ?_ | refine W_exit ?_ | refine W_cond1 rfl ?_ | refine W_cond0 rfl ?_ | refine cN (fun h => ?_) fun h => ?_ | refine cP (fun h => ?_) fun h => ?_ | refine cB (fun h => ?_) fun h => ?_ | refine cK (fun h => ?_) fun h => ?_ | refine wQ ?_) | (first | refine seqR.normal ?_ | refine seqR.ret ?_ | refine seqR.exit ?_ | refine blockR.normal ?_ | refine blockR.ret ?_ | refine blockR.here ?_ | refine blockR.exit rfl ?_ | refine loopR.ret ?_ | refine loopR.exit ?_) | (apply gQ; first | refine Q_nil ?_ | (apply Q_call rfl rfl rfl rfl rfl; (· first | exact eqVal_c)) | refine kQ ?_ | (apply Q_val rfl rfl rfl; (· first | (apply gBin; first | fail | exact v_nebs rfl rfl) | fail | (apply v_ld rfl; (· exact at_); (· first | exact ld_rV0 om om | exact ld_rV1 om om); done)))) | fail)
  rw [← ew]
  apply L_call rfl rfl rfl rfl rfl
  · exact heldUint64S_g (RU.there h1) hl (by omega) hu
  rintro _ _ ⟨rfl, rfl⟩
  repeat' (first | exact absurd h (by omega) | first | (apply gL; first | refine L_nil ?_ | refine yX fun _ => ?_ | (apply gSt; first | refine sR ?_ | refine sB ?_ | refine s1 ?_ | refine sW ?_ | refine sN ?_) | (apply gCall; apply L_call rfl rfl rfl rfl rfl; (· first | exact eqVal_c); rintro _ _ ⟨rfl, rfl⟩) | refine kV ?_ | (apply L_val rfl rfl rfl; (· first | (apply gBin; first | fail | exact v_nebs rfl rfl) | fail | (apply v_ld rfl; (· exact at_); (· first | exact ld_rV0 om om | exact ld_rV1 om om); done)))) | (apply gW; first | refine W_seq ?_ | refine W_region ?_ | refine W_ret ?_ | refine W_skip ?_ | refine W_block ?_ | refine W_exit ?_ | refine W_cond1 rfl ?_ | refine W_cond0 rfl ?_ | refine cN (fun h => ?_) fun h => ?_ | refine cP (fun h => ?_) fun h => ?_ | refine cB (fun h => ?_) fun h => ?_ | refine cK (fun h => ?_) fun h => ?_ | refine wQ ?_) | (first | refine seqR.normal ?_ | refine seqR.ret ?_ | refine seqR.exit ?_ | refine blockR.normal ?_ | refine blockR.ret ?_ | refine blockR.here ?_ | refine blockR.exit rfl ?_ | refine loopR.ret ?_ | refine loopR.exit ?_) | (apply gQ; first | refine Q_nil ?_ | (apply Q_call rfl rfl rfl rfl rfl; (· first | exact eqVal_c)) | refine kQ ?_ | (apply Q_val rfl rfl rfl; (· first | (apply gBin; first | fail | exact v_nebs rfl rfl) | fail | (apply v_ld rfl; (· exact at_); (· first | exact ld_rV0 om om | exact ld_rV1 om om); done)))) | fail)
  rw [← ev]
  apply L_call rfl rfl rfl rfl rfl
  · exact heldValS_g (RV.there h2) hl2 (by omega) hv
  rintro _ _ ⟨rfl, rfl⟩
  repeat' (first | exact absurd h (by omega) | first | (apply gL; first | refine L_nil ?_ | refine yX fun _ => ?_ | (apply gSt; first | refine sR ?_ | refine sB ?_ | refine s1 ?_ | refine sW ?_ | refine sN ?_) | (apply gCall; apply L_call rfl rfl rfl rfl rfl; (· first | exact eqVal_c); rintro _ _ ⟨rfl, rfl⟩) | refine kV ?_ | (apply L_val rfl rfl rfl; (· first | (apply gBin; first | fail | exact v_nebs rfl rfl) | fail | (apply v_ld rfl; (· exact at_); (· first | exact ld_rV0 om om | exact ld_rV1 om om); done)))) | (apply gW; first | refine W_seq ?_ | refine W_region ?_ | refine W_ret ?_ | refine W_skip ?_ | refine W_block ?_ | refine W_exit ?_ | refine W_cond1 rfl ?_ | refine W_cond0 rfl ?_ | refine cN (fun h => ?_) fun h => ?_ | refine cP (fun h => ?_) fun h => ?_ | refine cB (fun h => ?_) fun h => ?_ | refine cK (fun h => ?_) fun h => ?_ | refine wQ ?_) | (first | refine seqR.normal ?_ | refine seqR.ret ?_ | refine seqR.exit ?_ | refine blockR.normal ?_ | refine blockR.ret ?_ | refine blockR.here ?_ | refine blockR.exit rfl ?_ | refine loopR.ret ?_ | refine loopR.exit ?_) | (apply gQ; first | refine Q_nil ?_ | (apply Q_call rfl rfl rfl rfl rfl; (· first | exact eqVal_c)) | refine kQ ?_ | (apply Q_val rfl rfl rfl; (· first | (apply gBin; first | fail | exact v_nebs rfl rfl) | fail | (apply v_ld rfl; (· exact at_); (· first | exact ld_rV0 om om | exact ld_rV1 om om); done)))) | fail)
  refine retR.ret _ _ (ret1 rfl rfl) cv_ ⟨?_, rfl⟩
  rfl
theorem markArena_f {bw br : Option Nat} {cw cr : Nat} {wsp rsp : List Value} {k : Int} (h1 : bw = none → A.ws = []) (h2 : br = none → A.vs = []) (hl : A.ws.length ≤ 1048576) (hl2 : A.vs.length ≤ 1048576) (hk : 0 ≤ k ∧ k ≤ 1000) :
    Fn Try.prog w0 19 #[arG (ad bw) cw (ad br) cr A, .int .i64 k] (oV br A.vs rsp ++ (oU bw A.ws wsp ++ H)) fun v H' => v = .int .i64 (k + A.ws.length + 2 * A.vs.length) ∧ ∃ ws' vs', (ws'.length = A.ws.length ∧ HU k ws') ∧ (vs'.length = A.vs.length ∧ HV (k + A.ws.length) vs') ∧ H' = oV br vs' rsp ++ (oU bw ws' wsp ++ H) := by
  refine Fn.perm (H' := oU bw A.ws wsp ++ (oV br A.vs rsp ++ H)) (by rw [← List.append_assoc, ← List.append_assoc]; exact List.Perm.append_right _ List.perm_append_comm) ?_
  refine enter2 Try.func19 rfl rfl Try.ntmps19 rfl ?_
  repeat' (first | (apply gL; first | refine L_nil ?_ | refine yX fun _ => ?_ | (apply gSt; first | refine sR ?_ | refine sB ?_ | refine s1 ?_ | refine sW ?_ | refine sN ?_) | (apply gCall; apply L_call rfl rfl rfl rfl rfl; (· first | exact eqVal_c); rintro _ _ ⟨rfl, rfl⟩) | refine kV ?_ | (apply L_val rfl rfl rfl; (· first | (apply gBin; first | fail | exact v_nebs rfl rfl) | fail | (apply v_ld rfl; (· exact at_); (· first | exact ld_rV0 om om | exact ld_rV1 om om); done)))) | (apply gW; first | refine W_seq ?_ | refine W_region ?_ | refine W_ret ?_ | refine W_skip ?_ | refine W_block ?_ | refine W_exit ?_ | refine W_cond1 rfl ?_ | refine W_cond0 rfl ?_ | refine cN (fun h => ?_) fun h => ?_ | refine cP (fun h => ?_) fun h => ?_ | refine cB (fun h => ?_) fun h => ?_ | refine cK (fun h => ?_) fun h => ?_ | refine wQ ?_) | (first | refine seqR.normal ?_ | refine seqR.ret ?_ | refine seqR.exit ?_ | refine blockR.normal ?_ | refine blockR.ret ?_ | refine blockR.here ?_ | refine blockR.exit rfl ?_ | refine loopR.ret ?_ | refine loopR.exit ?_) | (apply gQ; first | refine Q_nil ?_ | (apply Q_call rfl rfl rfl rfl rfl; (· first | exact eqVal_c)) | refine kQ ?_ | (apply Q_val rfl rfl rfl; (· first | (apply gBin; first | fail | exact v_nebs rfl rfl) | fail | (apply v_ld rfl; (· exact at_); (· first | exact ld_rV0 om om | exact ld_rV1 om om); done)))) | fail)
  rename_i b2
  apply L_call rfl rfl rfl rfl rfl
  · exact Fn.perm (H' := oU bw A.ws wsp ++ ((b2, _) :: (oV br A.vs rsp ++ H))) List.perm_middle.symm (markUint64S_g h1 hl (by omega))
  rintro _ _ ⟨rfl, ws', ⟨hw1, hw2⟩, rfl⟩
  refine L_perm (H' := (b2, .cells (arG (ad bw) cw (ad br) cr A).cells 29 (0, 0)) :: (oU bw ws' wsp ++ (oV br A.vs rsp ++ H))) List.perm_middle ?_
  repeat' (first | (apply gL; first | refine L_nil ?_ | refine yX fun _ => ?_ | (apply gSt; first | refine sR ?_ | refine sB ?_ | refine s1 ?_ | refine sW ?_ | refine sN ?_) | (apply gCall; apply L_call rfl rfl rfl rfl rfl; (· first | exact eqVal_c); rintro _ _ ⟨rfl, rfl⟩) | refine kV ?_ | (apply L_val rfl rfl rfl; (· first | (apply gBin; first | fail | exact v_nebs rfl rfl) | fail | (apply v_ld rfl; (· exact at_); (· first | exact ld_rV0 om om | exact ld_rV1 om om); done)))) | (apply gW; first | refine W_seq ?_ | refine W_region ?_ | refine W_ret ?_ | refine W_skip ?_ | refine W_block ?_ | refine W_exit ?_ | refine W_cond1 rfl ?_ | refine W_cond0 rfl ?_ | refine cN (fun h => ?_) fun h => ?_ | refine cP (fun h => ?_) fun h => ?_ | refine cB (fun h => ?_) fun h => ?_ | refine cK (fun h => ?_) fun h => ?_ | refine wQ ?_) | (first | refine seqR.normal ?_ | refine seqR.ret ?_ | refine seqR.exit ?_ | refine blockR.normal ?_ | refine blockR.ret ?_ | refine blockR.here ?_ | refine blockR.exit rfl ?_ | refine loopR.ret ?_ | refine loopR.exit ?_) | (apply gQ; first | refine Q_nil ?_ | (apply Q_call rfl rfl rfl rfl rfl; (· first | exact eqVal_c)) | refine kQ ?_ | (apply Q_val rfl rfl rfl; (· first | (apply gBin; first | fail | exact v_nebs rfl rfl) | fail | (apply v_ld rfl; (· exact at_); (· first | exact ld_rV0 om om | exact ld_rV1 om om); done)))) | fail)
  apply L_call rfl rfl rfl rfl rfl
  · refine Fn.perm (H' := oV br A.vs rsp ++ ((b2, .cells (arG (ad bw) cw (ad br) cr A).cells 29 (0, 0)) :: (oU bw ws' wsp ++ H))) ?_ (markValS_g h2 hl2 (by omega))
    refine (List.Perm.cons _ ?_).trans List.perm_middle.symm
    rw [← List.append_assoc, ← List.append_assoc]; exact List.Perm.append_right _ List.perm_append_comm
  rintro _ _ ⟨rfl, vs', ⟨hv1, hv2⟩, rfl⟩
  refine L_perm (H' := (b2, .cells (arG (ad bw) cw (ad br) cr A).cells 29 (0, 0)) :: (oV br vs' rsp ++ (oU bw ws' wsp ++ H))) List.perm_middle ?_
  repeat' (first | (apply gL; first | refine L_nil ?_ | refine yX fun _ => ?_ | (apply gSt; first | refine sR ?_ | refine sB ?_ | refine s1 ?_ | refine sW ?_ | refine sN ?_) | (apply gCall; apply L_call rfl rfl rfl rfl rfl; (· first | exact eqVal_c); rintro _ _ ⟨rfl, rfl⟩) | refine kV ?_ | (apply L_val rfl rfl rfl; (· first | (apply gBin; first | fail | exact v_nebs rfl rfl) | fail | (apply v_ld rfl; (· exact at_); (· first | exact ld_rV0 om om | exact ld_rV1 om om); done)))) | (apply gW; first | refine W_seq ?_ | refine W_region ?_ | refine W_ret ?_ | refine W_skip ?_ | refine W_block ?_ | refine W_exit ?_ | refine W_cond1 rfl ?_ | refine W_cond0 rfl ?_ | refine cN (fun h => ?_) fun h => ?_ | refine cP (fun h => ?_) fun h => ?_ | refine cB (fun h => ?_) fun h => ?_ | refine cK (fun h => ?_) fun h => ?_ | refine wQ ?_) | (first | refine seqR.normal ?_ | refine seqR.ret ?_ | refine seqR.exit ?_ | refine blockR.normal ?_ | refine blockR.ret ?_ | refine blockR.here ?_ | refine blockR.exit rfl ?_ | refine loopR.ret ?_ | refine loopR.exit ?_) | (apply gQ; first | refine Q_nil ?_ | (apply Q_call rfl rfl rfl rfl rfl; (· first | exact eqVal_c)) | refine kQ ?_ | (apply Q_val rfl rfl rfl; (· first | (apply gBin; first | fail | exact v_nebs rfl rfl) | fail | (apply v_ld rfl; (· exact at_); (· first | exact ld_rV0 om om | exact ld_rV1 om om); done)))) | fail)
  refine retR.ret _ _ (ret1 rfl rfl) (Cv.skip Cv.refl) ⟨rfl, ws', vs', ⟨hw1, hw2⟩, ⟨hv1, hv2⟩, rfl⟩
/-- what was made by the call before, marked where it lies -/
theorem markArena_t {Lc : HL} {bw br : Option Nat} {cw cr : Nat} {wsp rsp : List Value} {k : Int} (hT : Tail H Lc (oU bw A.ws wsp ++ oV br A.vs rsp) []) (h1 : bw = none → A.ws = []) (h2 : br = none → A.vs = []) (hl : A.ws.length ≤ 1048576) (hl2 : A.vs.length ≤ 1048576) (hk : 0 ≤ k ∧ k ≤ 1000) :
    Fn Try.prog w0 19 #[arG (ad bw) cw (ad br) cr A, .int .i64 k] H fun v H' => v = .int .i64 (k + A.ws.length + 2 * A.vs.length) ∧ ∃ ws' vs', (ws'.length = A.ws.length ∧ HU k ws') ∧ (vs'.length = A.vs.length ∧ HV (k + A.ws.length) vs') ∧ H' = Lc ++ ((oU bw ws' wsp ++ oV br vs' rsp) ++ []) := by
  have key := markArena_f (w0 := w0) (H := Lc) (A := A) (bw := bw) (br := br) (cw := cw) (cr := cr) (wsp := wsp) (rsp := rsp) h1 h2 hl hl2 hk
  rw [hT.eq]
  have p1 : ∀ (X Y : HL), (Lc ++ ((Y ++ X) ++ [])).Perm (X ++ (Y ++ Lc)) := fun X Y => by
    rw [List.append_nil, ← List.append_assoc X Y Lc]
    exact List.perm_append_comm.trans (List.Perm.append_right _ List.perm_append_comm)
  refine ⟨key.1, fun w hw => ?_⟩
  refine (key.2 w (hw.perm (p1 _ _))).mono ?_
  rintro e w' ⟨v, H', he, hs, hv, ws', vs', a, b, rfl⟩
  exact ⟨v, _, he, hs.perm (p1 _ _).symm, hv, ws', vs', a, b, rfl⟩
/-- what came in, marked -/
theorem markArena_s {H1 H2 : HL} (hT : Tk H C.br (.cells (rowV A.vs []) 39 (0, 0)) H1) (hT2 : Tk H1 C.bw (.cells (rowA .u64 A.ws []) 115 (0, 0)) H2) (hl : A.ws.length ≤ 1048576) (hl2 : A.vs.length ≤ 1048576) {k : Int} (hk : 0 ≤ k ∧ k ≤ 1000) :
    Fn Try.prog w0 19 #[arV C A, .int .i64 k] H fun v H' => v = .int .i64 (k + A.ws.length + 2 * A.vs.length) ∧ H' = H2 := by
  refine Fn.conv (Cv.take hT (Cv.take hT2 Cv.refl)) ?_
  have key := markArena_f (w0 := w0) (H := H2) (A := A) (bw := some C.bw) (br := some C.br) (cw := C.wc) (cr := C.rc) (wsp := []) (rsp := []) (fun c => by cases c) (fun c => by cases c) hl hl2 hk
  refine ⟨key.1, fun w hw => ?_⟩
  refine (key.2 w hw).mono ?_
  rintro e w' ⟨v, H', he, hs, hv, ws', vs', a, b, rfl⟩
  exact ⟨v, H2, he, hs.drop.drop, hv, rfl⟩
/-- what the implementation hands back: an arena of the call's own, and one thing more -/
def IRes (B : Ar) (r : Value) (H : HL) (v : Value) (H' : HL) : Prop := ∃ gw gwc gws gr grc grs, v = .tuple #[arG (ad gw) gwc (ad gr) grc B, r] ∧ (gw = none → B.ws = []) ∧ (gr = none → B.vs = []) ∧ H' = oU gw B.ws gws ++ (oV gr B.vs grs ++ H)
theorem copyArena_p (hA : At H C.bw (wObj C A)) (hR : At H C.br (rObj C A)) (hl : A.ws.length ≤ 1048576) (hl2 : A.vs.length ≤ 1048576) :
    Fn Try.prog w0 59 #[arV C A] H fun v H' => ∃ bw wc wsp br rc rsp, v = arG (ad bw) wc (ad br) rc A ∧ (bw = none → A.ws = []) ∧ (br = none → A.vs = []) ∧ A.ws.length ≤ wc ∧ H' = oU bw A.ws wsp ++ (oV br A.vs rsp ++ H) := by
  have key := copyArena_c (w0 := w0) hA hR hl hl2
  refine ⟨key.1, fun w hw => ?_⟩
  refine (key.2 w hw).mono ?_
  rintro e w' ⟨v, H', he, hs, bw, wc, wsp, br, rc, rsp, hv, h1, h2, h3, rfl⟩
  exact ⟨v, _, he, hs.perm (by rw [← List.append_assoc, ← List.append_assoc]; exact List.Perm.append_right _ List.perm_append_comm), bw, wc, wsp, br, rc, rsp, hv, h1, h2, h3, rfl⟩
inductive TkG : HL → HL → HL → Prop
  | here {G R : HL} : TkG (G ++ R) G R
  | there {H G R : HL} {p : Nat × Obj} : TkG H G R → TkG (p :: H) G (p :: R)
theorem TkG.perm {H G R : HL} (h : TkG H G R) : H.Perm (G ++ R) := by
  induction h with
  | here => exact .refl _
  | there _ ih => exact (List.Perm.cons _ ih).trans List.perm_middle.symm
section
variable {P : Program} {N : Nat} {w0 : World} {E : Env} {H X Y : HL} {ops : Array Oper} {rest : List Oper} {R : Post} {a b p q r : Nat × Obj}
theorem L_front2 (h : L P N w0 ops rest E (p :: q :: (X ++ (Y ++ H))) R) : L P N w0 ops rest E (X ++ (Y ++ (p :: q :: H))) R :=
  L_perm (by
    refine (List.Perm.append_left X (List.perm_middle.trans (List.Perm.cons p List.perm_middle))).trans ?_
    exact List.perm_middle.trans (List.Perm.cons p List.perm_middle)) h
theorem L_front3 (h : L P N w0 ops rest E (p :: q :: r :: (X ++ (Y ++ H))) R) : L P N w0 ops rest E (X ++ (Y ++ (p :: q :: r :: H))) R :=
  L_perm (by
    refine (List.Perm.append_left X (List.perm_middle.trans (List.Perm.cons p (List.perm_middle.trans (List.Perm.cons q List.perm_middle))))).trans ?_
    exact List.perm_middle.trans (List.Perm.cons p (List.perm_middle.trans (List.Perm.cons q List.perm_middle)))) h
theorem L_mid2 (h : L P N w0 ops rest E (a :: b :: p :: q :: (X ++ H)) R) : L P N w0 ops rest E (a :: b :: (X ++ (p :: q :: H))) R :=
  L_perm (List.Perm.cons a (List.Perm.cons b (List.perm_middle.trans (List.Perm.cons p List.perm_middle)))) h
end
end Go.Proofs.Ytepddopgmhdllaa.Eng
namespace Go.Proofs.Ytepddopgmhdllaa.Ar
def Ar.setRootR (A : Ar) (r t n : Int) : Ar × Bool := if A.ok = true ∧ A.inR r = true ∧ valOk t n = true ∧ isRef t = false then ({ A with vs := A.vs.set r.toNat (t, n) }, true) else (A, false)
def Ar.moveRootR (A : Ar) (r s : Int) : Ar × Bool := if A.ok = true ∧ A.inR r = true ∧ A.inR s = true then ({ A with vs := A.vs.set r.toNat (A.vs.getD s.toNat (0, 0)) }, true) else (A, false)
def Ar.setCellR (A : Ar) (r s : Int) : Ar × Bool := if A.ok = true ∧ A.inR r = true ∧ A.inR s = true ∧ (A.vs.getD r.toNat (0, 0)).1 = 9 then (A.putV ((A.vs.getD r.toNat (0, 0)).2 + 1) (A.vs.getD s.toNat (0, 0)).1 (A.vs.getD s.toNat (0, 0)).2, true) else (A, false)
end Go.Proofs.Ytepddopgmhdllaa.Ar
namespace Go.Proofs.Ytepddopgmhdllaa.Eng
open Go Go.RowKit Go.Proofs.Ytepddopgmhdllaa.Sl Go.Proofs.Ytepddopgmhdllaa.Ar Go.Proofs.Ytepddopgmhdllaa.Base
set_option linter.unusedVariables false
variable {A : Ar} {m : List Int}
def SRes (B : Ar) (r : Value) (H : HL) (v : Value) (H' : HL) : Prop := ∃ C' : Cn, v = .tuple #[arV C' B, r] ∧ H' = (C'.br, rObj C' B) :: (C'.bw, wObj C' B) :: H
theorem cv_d2 {G : HL} {p q : Nat × Obj} : Cv (p :: q :: G) G := Cv.skip (Cv.skip Cv.refl)
theorem cv_d3 {G : HL} {p q r : Nat × Obj} : Cv (p :: q :: r :: G) G := Cv.skip (Cv.skip (Cv.skip Cv.refl))
theorem cv_b {G : HL} {a b p q : Nat × Obj} : Cv (a :: b :: p :: q :: G) (b :: G) := Cv.skip (Cv.take (b := b.1) (o := b.2) Tk.here (Cv.skip (Cv.skip Cv.refl)))
theorem cv_d4 {G : HL} {p q r s : Nat × Obj} : Cv (p :: q :: r :: s :: G) G := Cv.skip (Cv.skip (Cv.skip (Cv.skip Cv.refl)))
theorem cv_d5 {G : HL} {p q r s t : Nat × Obj} : Cv (p :: q :: r :: s :: t :: G) G := Cv.skip cv_d4
theorem OkP.rootFits (hP : OkP A m) (hSI : SI A m) {r : Int} (h0 : 0 ≤ r) (h1 : r < (A.vs.length : Int)) (hk : kd (A.vs.getD r.toNat (0, 0)).1 ≠ 0) :
    (0 ≤ (A.vs.getD r.toNat (0, 0)).2 ∧ (A.vs.getD r.toNat (0, 0)).2 < (A.ws.length : Int)) ∧ g m (A.vs.getD r.toNat (0, 0)).2 = 1 ∧ hOk (g A.ws (A.vs.getD r.toNat (0, 0)).2) = true ∧ rk (g A.ws (A.vs.getD r.toNat (0, 0)).2) = kd (A.vs.getD r.toNat (0, 0)).1 := by
  obtain ⟨a, b, c, d, e, f, -⟩ := hP.root h0 h1 hk
  exact ⟨⟨a, b⟩, c, f, e⟩
theorem OkP.cellFits (hP : OkP A m) {r : Int} (h0 : 0 ≤ r) (h1 : r < (A.vs.length : Int)) (h9 : (A.vs.getD r.toNat (0, 0)).1 = 9) : 0 ≤ (A.vs.getD r.toNat (0, 0)).2 ∧ (A.vs.getD r.toNat (0, 0)).2 + 2 < (A.ws.length : Int) := by
  obtain ⟨a, b, c, d, e, f, k, -⟩ := hP.root h0 h1 (by show kd (A.vs.getD r.toNat (0, 0)).1 ≠ 0; rw [h9]; decide)
  have hz : SizeP (hk (g A.ws (rN A r))) (hs (g A.ws (rN A r))) := (of_decide_eq_true (show decide (HeadP _ _ _) = true from f)).1
  rw [(rsR' f).2.2.2.1, show rT A r = 9 from h9] at e
  have e5 : kd 9 = 5 := rfl
  unfold SizeP at hz
  dsimp only [rN] at a k hz e
  omega
theorem setRootR_len {r t n : Int} : (A.setRootR r t n).1.ws.length = A.ws.length ∧ (A.setRootR r t n).1.vs.length = A.vs.length := by
  unfold Ar.setRootR; split
  · exact ⟨rfl, List.length_set⟩
  · exact ⟨rfl, rfl⟩
theorem moveRootR_len {x0 x1 : Int} : (A.moveRootR x0 x1).1.ws.length = A.ws.length ∧ (A.moveRootR x0 x1).1.vs.length = A.vs.length := by
  unfold Ar.moveRootR; split
  · exact ⟨rfl, List.length_set⟩
  · exact ⟨rfl, rfl⟩
theorem setCellR_len {x0 x1 : Int} : (A.setCellR x0 x1).1.ws.length = A.ws.length ∧ (A.setCellR x0 x1).1.vs.length = A.vs.length := by
  unfold Ar.setCellR; split
  · refine ⟨?_, rfl⟩
    show (List.set (List.set _ _ _) _ _).length = _
    rw [List.length_set, List.length_set]
  · exact ⟨rfl, rfl⟩
end Go.Proofs.Ytepddopgmhdllaa.Eng
