/- The law's own: texts of marks, nodes compared. -/
import Derived.Test.YtfhihnonafklbaaHN
import Derived.Test.YtfhihnonafklbaaL3a
namespace Go.Proofs.Ytfhihnonafklbaa.Eng
open Go Go.RowKit Go.Proofs.Ytfhihnonafklbaa.Sl Go.Proofs.Ytfhihnonafklbaa.Ar Go.Proofs.Ytfhihnonafklbaa.Base
set_option linter.unusedVariables false
set_option linter.unusedSimpArgs false
set_option maxRecDepth 10000
section
variable {P : Program} {N : Nat} {w0 : World} {E : Env} {H : HL} {o : Oper} {x y z : Operand} {T T2 : TypeId} {s t : ByteArray} {d_ : Option Tmp} {ty_ : TypeId} {pos_ : String} {af_ : Array Edge} {gd_ : Option (Nat × Bool)}
theorem str_app (xs ys : List Int) : strOfNums xs ++ strOfNums ys = strOfNums (xs ++ ys) := by
  apply ByteArray.ext
  rw [ByteArray.data_append]
  simp [strOfNums]
theorem v_addz {xs ys : List Int} (hx : ev E x = some (.string (strOfNums xs))) (hy : ev E y = some (.string (strOfNums ys))) (h : ((xs.length : Nat) : Int) + (ys.length : Int) ≤ 100000000) : OpV P N w0 ⟨d_, .binOp .add T x y T2, ty_, pos_, af_, gd_⟩ E H (.string (strOfNums (xs ++ ys))) := ov_bin rfl hx hy fun w => by
  have h2 : ¬ ((((strOfNums xs).size + (strOfNums ys).size : Nat) : Int) > IntKind.i64.max) := by
    rw [strOfNums_size, strOfNums_size]
    have : IntKind.i64.max = 9223372036854775807 := rfl
    omega
  rw [← str_app]
  simp only [eqGuard, binOp, Op.stringOp]
  rw [if_neg h2]
  rfl
end
/-- the figures of a number -/
def mDig : Nat → Int → List Int → List Int
  | 0, _, acc => acc
  | f + 1, n, acc => if n > 0 then mDig f (n / 10) (IntKind.u8.wrap (48 + n % 10) :: acc) else acc
/-- the text that is a mark -/
def mTx (k : Int) : List Int := 109 :: mDig (k.toNat + 1) k []
theorem nLen : ∀ (x : ND × NA), (nCells x).length = 6 := fun x => rfl
variable {w0 : World} {H : HL} {C : Cn} {A : Ar}
theorem markText_c {k : Int} (hk : 1 ≤ k ∧ k ≤ 20000000) : Fn Try.prog w0 57 #[.int .i64 k] H fun v H' => v = .string (strOfNums (mTx k)) ∧ H' = H := by
  refine enter1 Try.func57 rfl rfl Try.ntmps57 rfl ?_
  repeat' (first | (exfalso; omega) | ((fail_if_success apply gAtR 4); (first | ((first | (apply gCall; apply L_call rfl rfl rfl rfl rfl) | (apply gQC; apply Q_call rfl rfl rfl rfl rfl)); (· first | exact eqValS_g (RV.there (RV.there h1)) (RV.there (RV.there h2)) hl | exact eqNode_c (d := d) (b := na.b) (b' := na'.b) (c := na.c) (c' := na'.c) (hx _ m1) (hx' _ m2) (hsl _ m1)); try rintro _ _ ⟨rfl, rfl⟩) | (apply gL; first | refine L_nil ?_ | refine yX fun _ => ?_ | (apply gBs; first | (refine L_bs0 rfl rfl rfl rfl (fun _ => ?_)) | (refine L_bs1 rfl rfl rfl rfl rfl rfl rfl (fun _ => ?_))) | refine kV ?_ | (apply L_val rfl rfl rfl; (· first | (apply gBin; first | fail | exact v_nes rfl rfl | exact v_addz rfl rfl (by simp only [List.length_cons, List.length_nil]; omega) | exact v_addz (xs := [109]) rfl rfl (by simp only [List.length_cons, List.length_nil]; omega)) | fail | exact v_bts (xs := [IntKind.u8.wrap (48 + n % 10)]) (sp := []) rfl at_ | exact v_ldF nLen rfl hN e1 | exact v_ldF nLen rfl hN' e2))) | (apply gW; first | refine W_seq ?_ | refine W_region ?_ | refine W_ret ?_ | refine W_skip ?_ | refine W_block ?_ | refine W_exit ?_ | refine W_cond1 rfl ?_ | refine W_cond0 rfl ?_ | refine cW (fun h => ?_) fun h => ?_ | refine wQ ?_) | (first | refine seqR.normal ?_ | refine seqR.ret ?_ | refine seqR.exit ?_ | refine blockR.normal ?_ | refine blockR.ret ?_ | refine blockR.here ?_ | refine blockR.exit rfl ?_ | refine loopR.ret ?_ | refine loopR.exit ?_) | (apply gQ; first | refine Q_nil ?_ | refine kQ ?_ | (apply Q_val rfl rfl rfl; (· first | (apply gBin; first | fail | exact v_nes rfl rfl | exact v_addz rfl rfl (by simp only [List.length_cons, List.length_nil]; omega) | exact v_addz (xs := [109]) rfl rfl (by simp only [List.length_cons, List.length_nil]; omega)) | fail | exact v_bts (xs := [IntKind.u8.wrap (48 + n % 10)]) (sp := []) rfl at_ | exact v_ldF nLen rfl hN e1 | exact v_ldF nLen rfl hN' e2))) | fail)))
  apply W_loopX (α := Int × List Int) (fun y => [(0, .int .i64 y.1), (3, .string (strOfNums y.2))]) (fun _ => H) (fun y => (0 ≤ y.1 ∧ (y.2.length : Int) + y.1 ≤ k) ∧ ∃ f, y.1.toNat < f ∧ mDig f y.1 y.2 = mDig (k.toNat + 1) k []) (fun y => y.1.toNat) (k, [])
  · exact sub_
  · exact cvt_
  · exact ⟨⟨by dsimp only; omega, by dsimp only [List.length_nil]; omega⟩, _, Nat.lt_succ_self _, rfl⟩
  rintro ⟨n, acc⟩ ⟨⟨hn, hn2⟩, f, hf, hm⟩
  dsimp only at hn hn2 hf hm ⊢
  cases f with
  | zero => omega
  | succ f =>
  rw [mDig] at hm
  by_cases hlt : n > 0
  · rw [if_pos hlt] at hm
    repeat' (first | exact absurd hlt h | first | ((first | (apply gCall; apply L_call rfl rfl rfl rfl rfl) | (apply gQC; apply Q_call rfl rfl rfl rfl rfl)); (· first | exact eqValS_g (RV.there (RV.there h1)) (RV.there (RV.there h2)) hl | exact eqNode_c (d := d) (b := na.b) (b' := na'.b) (c := na.c) (c' := na'.c) (hx _ m1) (hx' _ m2) (hsl _ m1)); try rintro _ _ ⟨rfl, rfl⟩) | (apply gL; first | refine L_nil ?_ | refine yX fun _ => ?_ | (apply gBs; first | (refine L_bs0 rfl rfl rfl rfl (fun _ => ?_)) | (refine L_bs1 rfl rfl rfl rfl rfl rfl rfl (fun _ => ?_))) | refine kV ?_ | (apply L_val rfl rfl rfl; (· first | (apply gBin; first | fail | exact v_nes rfl rfl | exact v_addz rfl rfl (by simp only [List.length_cons, List.length_nil]; omega) | exact v_addz (xs := [109]) rfl rfl (by simp only [List.length_cons, List.length_nil]; omega)) | fail | exact v_bts (xs := [IntKind.u8.wrap (48 + n % 10)]) (sp := []) rfl at_ | exact v_ldF nLen rfl hN e1 | exact v_ldF nLen rfl hN' e2))) | (apply gW; first | refine W_seq ?_ | refine W_region ?_ | refine W_ret ?_ | refine W_skip ?_ | refine W_block ?_ | refine W_exit ?_ | refine W_cond1 rfl ?_ | refine W_cond0 rfl ?_ | refine cW (fun h => ?_) fun h => ?_ | refine wQ ?_) | (first | refine seqR.normal ?_ | refine seqR.ret ?_ | refine seqR.exit ?_ | refine blockR.normal ?_ | refine blockR.ret ?_ | refine blockR.here ?_ | refine blockR.exit rfl ?_ | refine loopR.ret ?_ | refine loopR.exit ?_) | (apply gQ; first | refine Q_nil ?_ | refine kQ ?_ | (apply Q_val rfl rfl rfl; (· first | (apply gBin; first | fail | exact v_nes rfl rfl | exact v_addz rfl rfl (by simp only [List.length_cons, List.length_nil]; omega) | exact v_addz (xs := [109]) rfl rfl (by simp only [List.length_cons, List.length_nil]; omega)) | fail | exact v_bts (xs := [IntKind.u8.wrap (48 + n % 10)]) (sp := []) rfl at_ | exact v_ldF nLen rfl hN e1 | exact v_ldF nLen rfl hN' e2))) | fail)
    apply loopR.mk (n / 10, IntKind.u8.wrap (48 + n % 10) :: acc)
    · exact sub_
    · exact cvt_
    · exact ⟨⟨by dsimp only; omega, by dsimp only [List.length_cons]; omega⟩, f, by dsimp only; omega, hm⟩
    · dsimp only; omega
  · rw [if_neg hlt] at hm
    repeat' (first | exact absurd h hlt | first | ((first | (apply gCall; apply L_call rfl rfl rfl rfl rfl) | (apply gQC; apply Q_call rfl rfl rfl rfl rfl)); (· first | exact eqValS_g (RV.there (RV.there h1)) (RV.there (RV.there h2)) hl | exact eqNode_c (d := d) (b := na.b) (b' := na'.b) (c := na.c) (c' := na'.c) (hx _ m1) (hx' _ m2) (hsl _ m1)); try rintro _ _ ⟨rfl, rfl⟩) | (apply gL; first | refine L_nil ?_ | refine yX fun _ => ?_ | (apply gBs; first | (refine L_bs0 rfl rfl rfl rfl (fun _ => ?_)) | (refine L_bs1 rfl rfl rfl rfl rfl rfl rfl (fun _ => ?_))) | refine kV ?_ | (apply L_val rfl rfl rfl; (· first | (apply gBin; first | fail | exact v_nes rfl rfl | exact v_addz rfl rfl (by simp only [List.length_cons, List.length_nil]; omega) | exact v_addz (xs := [109]) rfl rfl (by simp only [List.length_cons, List.length_nil]; omega)) | fail | exact v_bts (xs := [IntKind.u8.wrap (48 + n % 10)]) (sp := []) rfl at_ | exact v_ldF nLen rfl hN e1 | exact v_ldF nLen rfl hN' e2))) | (apply gW; first | refine W_seq ?_ | refine W_region ?_ | refine W_ret ?_ | refine W_skip ?_ | refine W_block ?_ | refine W_exit ?_ | refine W_cond1 rfl ?_ | refine W_cond0 rfl ?_ | refine cW (fun h => ?_) fun h => ?_ | refine wQ ?_) | (first | refine seqR.normal ?_ | refine seqR.ret ?_ | refine seqR.exit ?_ | refine blockR.normal ?_ | refine blockR.ret ?_ | refine blockR.here ?_ | refine blockR.exit rfl ?_ | refine loopR.ret ?_ | refine loopR.exit ?_) | (apply gQ; first | refine Q_nil ?_ | refine kQ ?_ | (apply Q_val rfl rfl rfl; (· first | (apply gBin; first | fail | exact v_nes rfl rfl | exact v_addz rfl rfl (by simp only [List.length_cons, List.length_nil]; omega) | exact v_addz (xs := [109]) rfl rfl (by simp only [List.length_cons, List.length_nil]; omega)) | fail | exact v_bts (xs := [IntKind.u8.wrap (48 + n % 10)]) (sp := []) rfl at_ | exact v_ldF nLen rfl hN e1 | exact v_ldF nLen rfl hN' e2))) | fail)
    refine retR.ret _ _ (ret1 rfl rfl) cv_ ⟨?_, rfl⟩
    unfold mTx
    rw [← hm]
    rfl
def RN (H : HL) : Option Nat → List (ND × NA) → Prop
  | none, l => l = []
  | some b, l => ∃ sp, At H b (.cells (rowF nCells l sp) 50 (0, 0))
/-- where a shape lies -/
structure RS (H : HL) (br : Option Nat) (vs : List (Int × Int)) (bn : Option Nat) (l : List (ND × NA)) : Prop where
  rv : RV H br vs
  rn : RN H bn l
  rx : ∀ x ∈ l, RV H x.2.b x.1.sl
section
variable {X Y G R' : HL} {p : Nat × Obj} {br bn : Option Nat} {vs : List (Int × Int)} {l : List (ND × NA)} {rsp nsp : List Value}
theorem RN.there (h : RN H bn l) : RN (p :: H) bn l := by cases bn with | none => exact h | some b => obtain ⟨s, h⟩ := h; exact ⟨s, .there h⟩
theorem RN.app (h : RN H bn l) : RN (X ++ H) bn l := by cases bn with | none => exact h | some b => obtain ⟨s, h⟩ := h; exact ⟨s, At.app h⟩
theorem RN.left (h : RN G bn l) : RN (G ++ R') bn l := by cases bn with | none => exact h | some b => obtain ⟨s, h⟩ := h; exact ⟨s, At.left h⟩
theorem RS.there (h : RS H br vs bn l) : RS (p :: H) br vs bn l := ⟨h.rv.there, h.rn.there, fun x hx => (h.rx x hx).there⟩
theorem RS.app (h : RS H br vs bn l) : RS (X ++ H) br vs bn l := ⟨h.rv.app, h.rn.app, fun x hx => (h.rx x hx).app⟩
theorem RS.left (h : RS G br vs bn l) : RS (G ++ R') br vs bn l := ⟨h.rv.left, h.rn.left, fun x hx => (h.rx x hx).left⟩
theorem RV.nHL : ∀ {l : List (ND × NA)}, (∀ x ∈ l, NOk x) → ∀ x ∈ l, RV (nHL l) x.2.b x.1.sl
  | [], _, x, hx => by cases hx
  | y :: l, h, x, hx => by
    rw [Eng.nHL]
    rcases List.mem_cons.1 hx with rfl | hx
    · exact RV.left (RV.of (h x List.mem_cons_self))
    · exact RV.app (RV.nHL (fun z hz => h z (List.mem_cons_of_mem _ hz)) x hx)
theorem RS.of (h1 : br = none → vs = []) (h2 : bn = none → l = []) (h3 : ∀ x ∈ l, NOk x) : RS (oV br vs rsp ++ (oN bn l nsp ++ nHL l)) br vs bn l := by
  refine ⟨RV.left (RV.of h1), RN.app (RN.left ?_), fun x hx => RV.app (RV.app (RV.nHL h3 x hx))⟩
  cases bn with
  | none => exact h2 rfl
  | some b => exact ⟨nsp, .here⟩
end
theorem eqNode_c {d : ND} {b b' : Option Nat} {c c' : Nat} (h1 : RV H b d.sl) (h2 : RV H b' d.sl) (hl : d.sl.length ≤ 1048576) :
    Fn Try.prog w0 56 #[ndV d b c, ndV d b' c'] H fun v H' => v = .bool true ∧ H' = H := by
  refine enter2 Try.func56 rfl rfl Try.ntmps56 rfl ?_
  repeat' (first | exact absurd rfl h | first | ((first | (apply gCall; apply L_call rfl rfl rfl rfl rfl) | (apply gQC; apply Q_call rfl rfl rfl rfl rfl)); (· first | exact eqValS_g (RV.there (RV.there h1)) (RV.there (RV.there h2)) hl | exact eqNode_c (d := d) (b := na.b) (b' := na'.b) (c := na.c) (c' := na'.c) (hx _ m1) (hx' _ m2) (hsl _ m1)); try rintro _ _ ⟨rfl, rfl⟩) | (apply gL; first | refine L_nil ?_ | refine yX fun _ => ?_ | (apply gBs; first | (refine L_bs0 rfl rfl rfl rfl (fun _ => ?_)) | (refine L_bs1 rfl rfl rfl rfl rfl rfl rfl (fun _ => ?_))) | refine kV ?_ | (apply L_val rfl rfl rfl; (· first | (apply gBin; first | fail | exact v_nes rfl rfl | exact v_addz rfl rfl (by simp only [List.length_cons, List.length_nil]; omega) | exact v_addz (xs := [109]) rfl rfl (by simp only [List.length_cons, List.length_nil]; omega)) | fail | exact v_bts (xs := [IntKind.u8.wrap (48 + n % 10)]) (sp := []) rfl at_ | exact v_ldF nLen rfl hN e1 | exact v_ldF nLen rfl hN' e2))) | (apply gW; first | refine W_seq ?_ | refine W_region ?_ | refine W_ret ?_ | refine W_skip ?_ | refine W_block ?_ | refine W_exit ?_ | refine W_cond1 rfl ?_ | refine W_cond0 rfl ?_ | refine cW (fun h => ?_) fun h => ?_ | refine wQ ?_) | (first | refine seqR.normal ?_ | refine seqR.ret ?_ | refine seqR.exit ?_ | refine blockR.normal ?_ | refine blockR.ret ?_ | refine blockR.here ?_ | refine blockR.exit rfl ?_ | refine loopR.ret ?_ | refine loopR.exit ?_) | (apply gQ; first | refine Q_nil ?_ | refine kQ ?_ | (apply Q_val rfl rfl rfl; (· first | (apply gBin; first | fail | exact v_nes rfl rfl | exact v_addz rfl rfl (by simp only [List.length_cons, List.length_nil]; omega) | exact v_addz (xs := [109]) rfl rfl (by simp only [List.length_cons, List.length_nil]; omega)) | fail | exact v_bts (xs := [IntKind.u8.wrap (48 + n % 10)]) (sp := []) rfl at_ | exact v_ldF nLen rfl hN e1 | exact v_ldF nLen rfl hN' e2))) | fail)
  refine retR.ret _ _ (ret1 rfl rfl) cvt_ ⟨rfl, rfl⟩
set_option maxHeartbeats 1000000 in
theorem eqNodeS_c {bn bn' : Option Nat} {c c' : Nat} {l l' : List (ND × NA)} (hll : l.map Prod.fst = l'.map Prod.fst) (hN : RN H bn l) (hN' : RN H bn' l') (hx : ∀ x ∈ l, RV H x.2.b x.1.sl) (hx' : ∀ x ∈ l', RV H x.2.b x.1.sl) (hl : l.length ≤ 1048576) (hsl : ∀ x ∈ l, x.1.sl.length ≤ 1048576) :
    Fn Try.prog w0 23 #[.slice (ad bn) (List.length l) c, .slice (ad bn') (List.length l') c'] H fun v H' => v = .bool true ∧ H' = H := by
  have hle : l'.length = l.length := by have := congrArg List.length hll; simpa using this.symm
  rw [hle]
  refine enter2 Try.func23 rfl rfl Try.ntmps23 rfl ?_
  repeat' (first | ((first | (apply gCall; apply L_call rfl rfl rfl rfl rfl) | (apply gQC; apply Q_call rfl rfl rfl rfl rfl)); (· first | exact eqValS_g (RV.there (RV.there h1)) (RV.there (RV.there h2)) hl | exact eqNode_c (d := d) (b := na.b) (b' := na'.b) (c := na.c) (c' := na'.c) (hx _ m1) (hx' _ m2) (hsl _ m1)); try rintro _ _ ⟨rfl, rfl⟩) | (apply gL; first | refine L_nil ?_ | refine yX fun _ => ?_ | (apply gBs; first | (refine L_bs0 rfl rfl rfl rfl (fun _ => ?_)) | (refine L_bs1 rfl rfl rfl rfl rfl rfl rfl (fun _ => ?_))) | refine kV ?_ | (apply L_val rfl rfl rfl; (· first | (apply gBin; first | fail | exact v_nes rfl rfl | exact v_addz rfl rfl (by simp only [List.length_cons, List.length_nil]; omega) | exact v_addz (xs := [109]) rfl rfl (by simp only [List.length_cons, List.length_nil]; omega)) | fail | exact v_bts (xs := [IntKind.u8.wrap (48 + n % 10)]) (sp := []) rfl at_ | exact v_ldF nLen rfl hN e1 | exact v_ldF nLen rfl hN' e2))) | (apply gW; first | refine W_seq ?_ | refine W_region ?_ | refine W_ret ?_ | refine W_skip ?_ | refine W_block ?_ | refine W_exit ?_ | refine W_cond1 rfl ?_ | refine W_cond0 rfl ?_ | refine cW (fun h => ?_) fun h => ?_ | refine wQ ?_) | (first | refine seqR.normal ?_ | refine seqR.ret ?_ | refine seqR.exit ?_ | refine blockR.normal ?_ | refine blockR.ret ?_ | refine blockR.here ?_ | refine blockR.exit rfl ?_ | refine loopR.ret ?_ | refine loopR.exit ?_) | (apply gQ; first | refine Q_nil ?_ | refine kQ ?_ | (apply Q_val rfl rfl rfl; (· first | (apply gBin; first | fail | exact v_nes rfl rfl | exact v_addz rfl rfl (by simp only [List.length_cons, List.length_nil]; omega) | exact v_addz (xs := [109]) rfl rfl (by simp only [List.length_cons, List.length_nil]; omega)) | fail | exact v_bts (xs := [IntKind.u8.wrap (48 + n % 10)]) (sp := []) rfl at_ | exact v_ldF nLen rfl hN e1 | exact v_ldF nLen rfl hN' e2))) | fail)
  · exact absurd rfl h
  apply W_loopX (α := Int) (fun y => [(0, .slice (ad bn) (List.length l) c), (1, .slice (ad bn') (List.length l) c'), (5, .int .i64 y)]) (fun _ => H) (fun y => 0 ≤ y ∧ y ≤ (List.length l : Int)) (fun y => ((List.length l : Int) - y).toNat) 0
  · exact sub_
  · exact cvt_
  · exact ⟨by omega, by omega⟩
  rintro i ⟨hi, hi2⟩
  by_cases hlt : i < (List.length l : Int)
  · rcases bn with _ | bn
    · rw [show l = [] from hN] at hlt; simp at hlt; omega
    rcases bn' with _ | bn'
    · rw [← hle, show l' = [] from hN'] at hlt; simp at hlt; omega
    obtain ⟨sp, hN⟩ := hN
    obtain ⟨sp', hN'⟩ := hN'
    obtain ⟨⟨d, na⟩, e1⟩ : ∃ x, l[i.toNat]? = some x := ⟨l[i.toNat], List.getElem?_eq_getElem (by omega)⟩
    obtain ⟨⟨d', na'⟩, e2⟩ : ∃ x, l'[i.toNat]? = some x := ⟨l'[i.toNat], List.getElem?_eq_getElem (by omega)⟩
    have e3 : d = d' := by
      have := congrArg (fun z => z[i.toNat]?) hll
      simp [e1, e2] at this
      exact this
    subst e3
    have m1 := List.mem_of_getElem? e1
    have m2 := List.mem_of_getElem? e2
    simp only [ad]
    repeat' (first | exact absurd hlt h | exact absurd rfl h | first | ((first | (apply gCall; apply L_call rfl rfl rfl rfl rfl) | (apply gQC; apply Q_call rfl rfl rfl rfl rfl)); (· first | exact eqValS_g (RV.there (RV.there h1)) (RV.there (RV.there h2)) hl | exact eqNode_c (d := d) (b := na.b) (b' := na'.b) (c := na.c) (c' := na'.c) (hx _ m1) (hx' _ m2) (hsl _ m1)); try rintro _ _ ⟨rfl, rfl⟩) | (apply gL; first | refine L_nil ?_ | refine yX fun _ => ?_ | (apply gBs; first | (refine L_bs0 rfl rfl rfl rfl (fun _ => ?_)) | (refine L_bs1 rfl rfl rfl rfl rfl rfl rfl (fun _ => ?_))) | refine kV ?_ | (apply L_val rfl rfl rfl; (· first | (apply gBin; first | fail | exact v_nes rfl rfl | exact v_addz rfl rfl (by simp only [List.length_cons, List.length_nil]; omega) | exact v_addz (xs := [109]) rfl rfl (by simp only [List.length_cons, List.length_nil]; omega)) | fail | exact v_bts (xs := [IntKind.u8.wrap (48 + n % 10)]) (sp := []) rfl at_ | exact v_ldF nLen rfl hN e1 | exact v_ldF nLen rfl hN' e2))) | (apply gW; first | refine W_seq ?_ | refine W_region ?_ | refine W_ret ?_ | refine W_skip ?_ | refine W_block ?_ | refine W_exit ?_ | refine W_cond1 rfl ?_ | refine W_cond0 rfl ?_ | refine cW (fun h => ?_) fun h => ?_ | refine wQ ?_) | (first | refine seqR.normal ?_ | refine seqR.ret ?_ | refine seqR.exit ?_ | refine blockR.normal ?_ | refine blockR.ret ?_ | refine blockR.here ?_ | refine blockR.exit rfl ?_ | refine loopR.ret ?_ | refine loopR.exit ?_) | (apply gQ; first | refine Q_nil ?_ | refine kQ ?_ | (apply Q_val rfl rfl rfl; (· first | (apply gBin; first | fail | exact v_nes rfl rfl | exact v_addz rfl rfl (by simp only [List.length_cons, List.length_nil]; omega) | exact v_addz (xs := [109]) rfl rfl (by simp only [List.length_cons, List.length_nil]; omega)) | fail | exact v_bts (xs := [IntKind.u8.wrap (48 + n % 10)]) (sp := []) rfl at_ | exact v_ldF nLen rfl hN e1 | exact v_ldF nLen rfl hN' e2))) | fail)
    apply loopR.mk (i + 1)
    · exact sub_
    · exact cvt_
    · exact ⟨by omega, by omega⟩
    · (try dsimp only); omega
  · repeat' (first | exact absurd h hlt | first | ((first | (apply gCall; apply L_call rfl rfl rfl rfl rfl) | (apply gQC; apply Q_call rfl rfl rfl rfl rfl)); (· first | exact eqValS_g (RV.there (RV.there h1)) (RV.there (RV.there h2)) hl | exact eqNode_c (d := d) (b := na.b) (b' := na'.b) (c := na.c) (c' := na'.c) (hx _ m1) (hx' _ m2) (hsl _ m1)); try rintro _ _ ⟨rfl, rfl⟩) | (apply gL; first | refine L_nil ?_ | refine yX fun _ => ?_ | (apply gBs; first | (refine L_bs0 rfl rfl rfl rfl (fun _ => ?_)) | (refine L_bs1 rfl rfl rfl rfl rfl rfl rfl (fun _ => ?_))) | refine kV ?_ | (apply L_val rfl rfl rfl; (· first | (apply gBin; first | fail | exact v_nes rfl rfl | exact v_addz rfl rfl (by simp only [List.length_cons, List.length_nil]; omega) | exact v_addz (xs := [109]) rfl rfl (by simp only [List.length_cons, List.length_nil]; omega)) | fail | exact v_bts (xs := [IntKind.u8.wrap (48 + n % 10)]) (sp := []) rfl at_ | exact v_ldF nLen rfl hN e1 | exact v_ldF nLen rfl hN' e2))) | (apply gW; first | refine W_seq ?_ | refine W_region ?_ | refine W_ret ?_ | refine W_skip ?_ | refine W_block ?_ | refine W_exit ?_ | refine W_cond1 rfl ?_ | refine W_cond0 rfl ?_ | refine cW (fun h => ?_) fun h => ?_ | refine wQ ?_) | (first | refine seqR.normal ?_ | refine seqR.ret ?_ | refine seqR.exit ?_ | refine blockR.normal ?_ | refine blockR.ret ?_ | refine blockR.here ?_ | refine blockR.exit rfl ?_ | refine loopR.ret ?_ | refine loopR.exit ?_) | (apply gQ; first | refine Q_nil ?_ | refine kQ ?_ | (apply Q_val rfl rfl rfl; (· first | (apply gBin; first | fail | exact v_nes rfl rfl | exact v_addz rfl rfl (by simp only [List.length_cons, List.length_nil]; omega) | exact v_addz (xs := [109]) rfl rfl (by simp only [List.length_cons, List.length_nil]; omega)) | fail | exact v_bts (xs := [IntKind.u8.wrap (48 + n % 10)]) (sp := []) rfl at_ | exact v_ldF nLen rfl hN e1 | exact v_ldF nLen rfl hN' e2))) | fail)
    refine retR.ret _ _ (ret1 rfl rfl) cv_ ⟨?_, rfl⟩
    rfl
theorem eqShape_c {br bn br' bn' : Option Nat} {cr cn cr' cn' : Nat} {vs : List (Int × Int)} {l l' : List (ND × NA)} (hll : l.map Prod.fst = l'.map Prod.fst) (h1 : RS H br vs bn l) (h2 : RS H br' vs bn' l') (hv : vs.length ≤ 1048576) (hl : l.length ≤ 1048576) (hsl : ∀ x ∈ l, x.1.sl.length ≤ 1048576) :
    Fn Try.prog w0 8 #[.agg #[.slice (ad br) vs.length cr, .slice (ad bn) (List.length l) cn], .agg #[.slice (ad br') vs.length cr', .slice (ad bn') (List.length l') cn']] H fun v H' => v = .bool true ∧ H' = H := by
  refine enter2 Try.func8 rfl rfl Try.ntmps8 rfl ?_
  repeat' (first | ((first | (apply gCall; apply L_call rfl rfl rfl rfl rfl) | (apply gQC; apply Q_call rfl rfl rfl rfl rfl)); (· first | exact eqValS_g (RV.there (RV.there h1)) (RV.there (RV.there h2)) hl | exact eqNode_c (d := d) (b := na.b) (b' := na'.b) (c := na.c) (c' := na'.c) (hx _ m1) (hx' _ m2) (hsl _ m1)); try rintro _ _ ⟨rfl, rfl⟩) | (apply gL; first | refine L_nil ?_ | refine yX fun _ => ?_ | (apply gBs; first | (refine L_bs0 rfl rfl rfl rfl (fun _ => ?_)) | (refine L_bs1 rfl rfl rfl rfl rfl rfl rfl (fun _ => ?_))) | refine kV ?_ | (apply L_val rfl rfl rfl; (· first | (apply gBin; first | fail | exact v_nes rfl rfl | exact v_addz rfl rfl (by simp only [List.length_cons, List.length_nil]; omega) | exact v_addz (xs := [109]) rfl rfl (by simp only [List.length_cons, List.length_nil]; omega)) | fail | exact v_bts (xs := [IntKind.u8.wrap (48 + n % 10)]) (sp := []) rfl at_ | exact v_ldF nLen rfl hN e1 | exact v_ldF nLen rfl hN' e2))) | (apply gW; first | refine W_seq ?_ | refine W_region ?_ | refine W_ret ?_ | refine W_skip ?_ | refine W_block ?_ | refine W_exit ?_ | refine W_cond1 rfl ?_ | refine W_cond0 rfl ?_ | refine cW (fun h => ?_) fun h => ?_ | refine wQ ?_) | (first | refine seqR.normal ?_ | refine seqR.ret ?_ | refine seqR.exit ?_ | refine blockR.normal ?_ | refine blockR.ret ?_ | refine blockR.here ?_ | refine blockR.exit rfl ?_ | refine loopR.ret ?_ | refine loopR.exit ?_) | (apply gQ; first | refine Q_nil ?_ | refine kQ ?_ | (apply Q_val rfl rfl rfl; (· first | (apply gBin; first | fail | exact v_nes rfl rfl | exact v_addz rfl rfl (by simp only [List.length_cons, List.length_nil]; omega) | exact v_addz (xs := [109]) rfl rfl (by simp only [List.length_cons, List.length_nil]; omega)) | fail | exact v_bts (xs := [IntKind.u8.wrap (48 + n % 10)]) (sp := []) rfl at_ | exact v_ldF nLen rfl hN e1 | exact v_ldF nLen rfl hN' e2))) | fail)
  apply L_call rfl rfl rfl rfl rfl
  · exact eqValS_g h1.there.there.rv h2.there.there.rv hv
  rintro _ _ ⟨rfl, rfl⟩
  repeat' (first | ((first | (apply gCall; apply L_call rfl rfl rfl rfl rfl) | (apply gQC; apply Q_call rfl rfl rfl rfl rfl)); (· first | exact eqValS_g (RV.there (RV.there h1)) (RV.there (RV.there h2)) hl | exact eqNode_c (d := d) (b := na.b) (b' := na'.b) (c := na.c) (c' := na'.c) (hx _ m1) (hx' _ m2) (hsl _ m1)); try rintro _ _ ⟨rfl, rfl⟩) | (apply gL; first | refine L_nil ?_ | refine yX fun _ => ?_ | (apply gBs; first | (refine L_bs0 rfl rfl rfl rfl (fun _ => ?_)) | (refine L_bs1 rfl rfl rfl rfl rfl rfl rfl (fun _ => ?_))) | refine kV ?_ | (apply L_val rfl rfl rfl; (· first | (apply gBin; first | fail | exact v_nes rfl rfl | exact v_addz rfl rfl (by simp only [List.length_cons, List.length_nil]; omega) | exact v_addz (xs := [109]) rfl rfl (by simp only [List.length_cons, List.length_nil]; omega)) | fail | exact v_bts (xs := [IntKind.u8.wrap (48 + n % 10)]) (sp := []) rfl at_ | exact v_ldF nLen rfl hN e1 | exact v_ldF nLen rfl hN' e2))) | (apply gW; first | refine W_seq ?_ | refine W_region ?_ | refine W_ret ?_ | refine W_skip ?_ | refine W_block ?_ | refine W_exit ?_ | refine W_cond1 rfl ?_ | refine W_cond0 rfl ?_ | refine cW (fun h => ?_) fun h => ?_ | refine wQ ?_) | (first | refine seqR.normal ?_ | refine seqR.ret ?_ | refine seqR.exit ?_ | refine blockR.normal ?_ | refine blockR.ret ?_ | refine blockR.here ?_ | refine blockR.exit rfl ?_ | refine loopR.ret ?_ | refine loopR.exit ?_) | (apply gQ; first | refine Q_nil ?_ | refine kQ ?_ | (apply Q_val rfl rfl rfl; (· first | (apply gBin; first | fail | exact v_nes rfl rfl | exact v_addz rfl rfl (by simp only [List.length_cons, List.length_nil]; omega) | exact v_addz (xs := [109]) rfl rfl (by simp only [List.length_cons, List.length_nil]; omega)) | fail | exact v_bts (xs := [IntKind.u8.wrap (48 + n % 10)]) (sp := []) rfl at_ | exact v_ldF nLen rfl hN e1 | exact v_ldF nLen rfl hN' e2))) | fail)
  all_goals (try exact absurd rfl h)
  apply L_call rfl rfl rfl rfl rfl
  · exact eqNodeS_c hll h1.there.there.rn h2.there.there.rn h1.there.there.rx h2.there.there.rx hl hsl
  rintro _ _ ⟨rfl, rfl⟩
  repeat' (first | ((first | (apply gCall; apply L_call rfl rfl rfl rfl rfl) | (apply gQC; apply Q_call rfl rfl rfl rfl rfl)); (· first | exact eqValS_g (RV.there (RV.there h1)) (RV.there (RV.there h2)) hl | exact eqNode_c (d := d) (b := na.b) (b' := na'.b) (c := na.c) (c' := na'.c) (hx _ m1) (hx' _ m2) (hsl _ m1)); try rintro _ _ ⟨rfl, rfl⟩) | (apply gL; first | refine L_nil ?_ | refine yX fun _ => ?_ | (apply gBs; first | (refine L_bs0 rfl rfl rfl rfl (fun _ => ?_)) | (refine L_bs1 rfl rfl rfl rfl rfl rfl rfl (fun _ => ?_))) | refine kV ?_ | (apply L_val rfl rfl rfl; (· first | (apply gBin; first | fail | exact v_nes rfl rfl | exact v_addz rfl rfl (by simp only [List.length_cons, List.length_nil]; omega) | exact v_addz (xs := [109]) rfl rfl (by simp only [List.length_cons, List.length_nil]; omega)) | fail | exact v_bts (xs := [IntKind.u8.wrap (48 + n % 10)]) (sp := []) rfl at_ | exact v_ldF nLen rfl hN e1 | exact v_ldF nLen rfl hN' e2))) | (apply gW; first | refine W_seq ?_ | refine W_region ?_ | refine W_ret ?_ | refine W_skip ?_ | refine W_block ?_ | refine W_exit ?_ | refine W_cond1 rfl ?_ | refine W_cond0 rfl ?_ | refine cW (fun h => ?_) fun h => ?_ | refine wQ ?_) | (first | refine seqR.normal ?_ | refine seqR.ret ?_ | refine seqR.exit ?_ | refine blockR.normal ?_ | refine blockR.ret ?_ | refine blockR.here ?_ | refine blockR.exit rfl ?_ | refine loopR.ret ?_ | refine loopR.exit ?_) | (apply gQ; first | refine Q_nil ?_ | refine kQ ?_ | (apply Q_val rfl rfl rfl; (· first | (apply gBin; first | fail | exact v_nes rfl rfl | exact v_addz rfl rfl (by simp only [List.length_cons, List.length_nil]; omega) | exact v_addz (xs := [109]) rfl rfl (by simp only [List.length_cons, List.length_nil]; omega)) | fail | exact v_bts (xs := [IntKind.u8.wrap (48 + n % 10)]) (sp := []) rfl at_ | exact v_ldF nLen rfl hN e1 | exact v_ldF nLen rfl hN' e2))) | fail)
  all_goals (first | exact absurd rfl h | (refine retR.ret _ _ (ret1 rfl rfl) cvt_ ⟨rfl, rfl⟩))
end Go.Proofs.Ytfhihnonafklbaa.Eng
