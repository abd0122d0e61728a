/- The law's own: functions of a module, a module marked. -/
import Derived.Test.YtfmhlieaodbgiaaGreatLD
namespace Go.Proofs.YtfmhlieaodbgiaaGreat.Eng
open Go Go.RowKit Go.Proofs.YtfmhlieaodbgiaaGreat.Sl Go.Proofs.YtfmhlieaodbgiaaGreat.Ar Go.Proofs.YtfmhlieaodbgiaaGreat.Base
set_option linter.unusedVariables false
set_option linter.unusedSimpArgs false
set_option maxRecDepth 10000
def mP (k : Int) (p : PR) : PR := ⟨k, k + 1, mUp (k + 1 + 1) p.ups.length, mIn (k + 1 + 1 + 2 * p.ups.length) p.code.length⟩
def nW (l : List PR) : Int := 2 * l.length + 2 * szP l
def mPA : Int → List (PR × PA) → List (PR × PA)
  | _, [] => []
  | k, x :: l => (mP k x.1, x.2) :: mPA (k + nW [x.1]) l
theorem nW_cons (p : PR) (l : List PR) : nW (p :: l) = nW [p] + nW l := by simp [nW, szP]; omega
theorem nW_one (p : PR) : nW [p] = 2 + 2 * p.ups.length + 2 * p.code.length := by simp [nW, szP]; omega
theorem nW_app (l l' : List PR) : nW (l ++ l') = nW l + nW l' := by simp [nW, szP_app]; omega
theorem nW_nn (l : List PR) : 0 ≤ nW l := by have := szP_nn l; unfold nW; omega
theorem nW_take (l : List PR) (i : Nat) : nW (l.take i) ≤ nW l := by
  have := nW_app (l.take i) (l.drop i)
  rw [List.take_append_drop] at this
  have := nW_nn (l.drop i)
  omega
theorem mPA_len : ∀ (l : List (PR × PA)) (k : Int), (mPA k l).length = l.length
  | [], k => rfl
  | x :: l, k => by rw [mPA, List.length_cons, mPA_len l, List.length_cons]
theorem mPA_get : ∀ (l : List (PR × PA)) (k : Int) (i : Nat) (x : PR × PA), l[i]? = some x → (mPA k l)[i]? = some (mP (k + nW ((l.take i).map Prod.fst)) x.1, x.2)
  | [], k, i, x, h => by simp at h
  | y :: l, k, 0, x, h => by
    simp only [List.getElem?_cons_zero, Option.some.injEq] at h
    subst h
    rw [mPA, List.getElem?_cons_zero, List.take_zero, List.map_nil, show nW [] = 0 from rfl, show k + 0 = k by omega]
  | y :: l, k, i + 1, x, h => by
    rw [List.getElem?_cons_succ] at h
    rw [mPA, List.getElem?_cons_succ, mPA_get l _ i x h, List.take_succ_cons, List.map_cons, nW_cons y.1 ((l.take i).map Prod.fst), show k + nW [y.1] + nW ((l.take i).map Prod.fst) = k + (nW [y.1] + nW ((l.take i).map Prod.fst)) by omega]
theorem pHL_pick : ∀ (l : List (PR × PA)) (i : Nat) (x : PR × PA), l[i]? = some x → (pHL l).Perm (oC 106 x.2.ub (x.1.ups.flatMap upC) x.2.us ++ (oC 80 x.2.cb (x.1.code.flatMap inC) x.2.cs ++ pHL (l.eraseIdx i)))
  | [], i, x, h => by simp at h
  | y :: l, 0, x, h => by
    simp only [List.getElem?_cons_zero, Option.some.injEq] at h
    subst h
    rw [pHL, flat_inC]; exact .refl _
  | y :: l, i + 1, x, h => by
    rw [List.getElem?_cons_succ] at h
    have ih := pHL_pick l i x h
    rw [pHL, List.eraseIdx_cons_succ, pHL]
    refine (List.Perm.append_left _ (List.Perm.append_left _ ih)).trans ?_
    generalize oC 106 y.2.ub (y.1.ups.flatMap upC) y.2.us = A
    generalize oC 80 y.2.cb (flat y.1.code) y.2.cs = B
    generalize oC 106 x.2.ub (x.1.ups.flatMap upC) x.2.us = C
    generalize oC 80 x.2.cb (x.1.code.flatMap inC) x.2.cs = D
    have := List.perm_append_comm_assoc (A ++ B) (C ++ D) (pHL (l.eraseIdx i))
    simpa only [List.append_assoc] using this
theorem eraseIdx_set {α : Type} : ∀ (l : List α) (i : Nat) (x : α), (l.set i x).eraseIdx i = l.eraseIdx i
  | [], i, x => by simp
  | y :: l, 0, x => by simp
  | y :: l, i + 1, x => by rw [List.set_cons_succ, List.eraseIdx_cons_succ, List.eraseIdx_cons_succ, eraseIdx_set l]
section
variable {q : Nat × Obj} {P U I R H : HL}
theorem pickA (h : P.Perm (U ++ (I ++ R))) : (q :: (P ++ H)).Perm (U ++ (q :: (I ++ (R ++ H)))) := by
  refine (List.Perm.cons q (List.Perm.append_right H h)).trans ?_
  rw [List.append_assoc, List.append_assoc]
  exact List.perm_middle.symm
theorem pickC : (q :: (U ++ (I ++ R))).Perm (I ++ (q :: (U ++ R))) := (List.Perm.cons q (List.perm_append_comm_assoc U I R)).trans List.perm_middle.symm
theorem pickD (h : P.Perm (U ++ (I ++ R))) : (I ++ (q :: (U ++ (R ++ H)))).Perm (q :: (P ++ H)) := by
  refine List.perm_middle.trans (List.Perm.cons q ?_)
  refine (List.perm_append_comm_assoc I U _).trans ?_
  have := (List.Perm.append_right H h).symm
  rwa [List.append_assoc, List.append_assoc] at this
end
theorem rowF_same {α : Type} {f : α → List Value} {l : List α} {i : Nat} {y y' : α} {sp : List Value} (h : f y = f y') : rowF f (l.set i y) sp = rowF f (l.set i y') sp := by
  have e : ∀ l : List α, l.flatMap f = (l.map f).flatten := fun l => by rw [List.flatMap_def]
  unfold rowF
  rw [e, e, List.map_set, List.map_set, h]
theorem prC_mP {k : Int} {p : PR} {a : PA} : prC (⟨k, k + 1, p.ups, p.code⟩, a) = prC (mP k p, a) := by
  unfold prC mP
  dsimp only
  rw [mUp_len, mIn_len]
variable {w0 : World} {H : HL}
set_option maxHeartbeats 2000000 in
theorem markProtoS_g {bo : Option Nat} {c : Nat} {l : List (PR × PA)} {sp : List Value} {k : Int} (hb : bo = none → l = []) (hk2 : ∀ x ∈ l, POk x) (hl : nW (l.map Prod.fst) ≤ 4200000) (hk : 1 ≤ k ∧ k ≤ 1000) (hsz : ∀ x ∈ l, x.1.ups.length ≤ 1048576 ∧ x.1.code.length ≤ 1048576) :
    Fn Tryz.prog w0 34 #[.slice (ad bo) (List.length l) c, .int .i64 k] (oC 58 bo (l.flatMap prC) sp ++ (pHL l ++ H)) fun v H' => v = .int .i64 (k + nW (l.map Prod.fst)) ∧ H' = oC 58 bo ((mPA k l).flatMap prC) sp ++ (pHL (mPA k l) ++ H) := by
  have hml : (mPA k l).length = List.length l := mPA_len _ _
  have hll : (List.length l : Int) ≤ 2100000 := by have := szP_nn (l.map Prod.fst); unfold nW at hl; rw [List.length_map] at hl; omega
  refine enter2 Tryz.func34 rfl rfl Tryz.ntmps34 rfl ?_
  repeat' (first | (apply gCall; apply L_call rfl rfl rfl rfl rfl; (· fail); rintro _ _ ⟨rfl, rfl⟩) | (apply gL; first | refine L_nil ?_ | refine yX fun _ => ?_ | (apply gSt; first | refine sR ?_ | refine sB ?_ | refine s1 ?_ | refine sW ?_ | refine sN ?_) | refine kV ?_ | (apply L_val rfl rfl rfl; (· first | (apply gBin; first | fail ) | fail | exact v_ldFc (j := 2) prLen rfl at_ (hg3 _ _) (by decide) rfl | exact v_ldFc (j := 3) prLen rfl at_ (hg3 _ _) (by decide) rfl))) | (apply gW; first | refine W_seq ?_ | refine W_region ?_ | refine W_ret ?_ | refine W_skip ?_ | refine W_block ?_ | refine W_exit ?_ | refine W_cond1 rfl ?_ | refine W_cond0 rfl ?_ | refine cW (fun h => ?_) fun h => ?_) | (first | refine seqR.normal ?_ | refine seqR.ret ?_ | refine seqR.exit ?_ | refine blockR.normal ?_ | refine blockR.ret ?_ | refine blockR.here ?_ | refine blockR.exit rfl ?_ | refine loopR.ret ?_ | refine loopR.exit ?_) | fail)
  apply W_loopX (α := Int) (fun y => [(0, .slice (ad bo) (List.length l) c), (1, .int .i64 (k + nW ((l.take y.toNat).map Prod.fst))), (5, .int .i64 y)]) (fun y => oC 58 bo ((mix y.toNat (mPA k l) l).flatMap prC) sp ++ (pHL (mix y.toNat (mPA k l) l) ++ H)) (fun y => 0 ≤ y ∧ y ≤ (List.length l : Int)) (fun y => ((List.length l : Int) - y).toNat) 0
  · exact ⟨rfl, lk (by rw [show (0 : Int).toNat = 0 from rfl, List.take_zero]; show k = k + 0; omega), rfl, trivial⟩
  · rw [show (0 : Int).toNat = 0 from rfl, mix_0]; exact Cv.refl
  · exact ⟨by omega, by omega⟩
  rintro i ⟨hi, hi2⟩
  by_cases hlt : i < (List.length l : Int)
  · rcases bo with _ | b
    · rw [hb rfl] at hlt; simp at hlt; omega
    obtain ⟨x, ex⟩ : ∃ x, l[i.toNat]? = some x := ⟨l[i.toNat]'(by omega), List.getElem?_eq_getElem _⟩
    have hxm := List.mem_of_getElem? ex
    obtain ⟨hs1, hs2⟩ := hsz x hxm
    obtain ⟨hk3, hk4⟩ := hk2 x hxm
    have hg : (mix i.toNat (mPA k l) l)[i.toNat]? = some x := by rw [mix_get hml (by omega)]; exact ex
    have hlt' : i.toNat < (mix i.toNat (mPA k l) l).length := by rw [mix_len hml]; omega
    have hg2 : ∀ y, ((mix i.toNat (mPA k l) l).set i.toNat y)[i.toNat]? = some y := fun y => by rw [List.getElem?_set_self hlt']
    have hg3 : ∀ y z, (((mix i.toNat (mPA k l) l).set i.toNat z).set i.toNat y)[i.toNat]? = some y := fun y z => by rw [List.getElem?_set_self (by rw [List.length_set]; exact hlt')]
    have hm := mPA_get l k i.toNat x ex
    have hpk := pHL_pick _ _ _ hg
    have hpk2 : (pHL ((mix i.toNat (mPA k l) l).set i.toNat (mP (k + nW ((l.take i.toNat).map Prod.fst)) x.1, x.2))).Perm _ := pHL_pick _ _ _ (hg2 _)
    rw [eraseIdx_set] at hpk2
    have hkb : 0 ≤ nW ((l.take i.toNat).map Prod.fst) ∧ nW ((l.take i.toNat).map Prod.fst) ≤ 4200000 := ⟨nW_nn _, by rw [List.map_take]; exact Int.le_trans (nW_take _ _) hl⟩
    have hks : k + nW ((l.take (i + 1).toNat).map Prod.fst) = k + nW ((l.take i.toNat).map Prod.fst) + 1 + 1 + 2 * x.1.ups.length + 2 * x.1.code.length := by
      rw [show (i + 1).toNat = i.toNat + 1 by omega, take_snoc ex, List.map_append, nW_app, List.map_cons, List.map_nil, nW_one]; omega
    obtain ⟨⟨pa, sl, ups, code⟩, ⟨ub, uc, us, cb, cc, cs⟩⟩ := x
    dsimp only at hs1 hs2 hk3 hk4 hpk hpk2 hks
    generalize hkk : k + nW ((l.take i.toNat).map Prod.fst) = kk at *
    simp only [ad_s]
    show W _ _ _ _ _ ((b, .cells (rowF prC (mix i.toNat (mPA k l) l) sp) 58 (0, 0)) :: (pHL (mix i.toNat (mPA k l) l) ++ H)) _
    repeat' (first | exact absurd hlt h | (apply gSt; first | (apply L_stF (f := prC) (j := 0) (a' := (⟨kk, sl, ups, code⟩, ⟨ub, uc, us, cb, cc, cs⟩)) prLen rfl rfl rfl rfl rfl rfl hg (by decide) rfl; (· exact up_)) | (apply L_stF (f := prC) (j := 1) (a' := (⟨kk, kk + 1, ups, code⟩, ⟨ub, uc, us, cb, cc, cs⟩)) prLen rfl rfl rfl rfl rfl rfl (hg2 (⟨kk, sl, ups, code⟩, ⟨ub, uc, us, cb, cc, cs⟩)) (by decide) rfl; (· exact up_))) | first | (apply gCall; apply L_call rfl rfl rfl rfl rfl; (· fail); rintro _ _ ⟨rfl, rfl⟩) | (apply gL; first | refine L_nil ?_ | refine yX fun _ => ?_ | (apply gSt; first | refine sR ?_ | refine sB ?_ | refine s1 ?_ | refine sW ?_ | refine sN ?_) | refine kV ?_ | (apply L_val rfl rfl rfl; (· first | (apply gBin; first | fail ) | fail | exact v_ldFc (j := 2) prLen rfl at_ (hg3 _ _) (by decide) rfl | exact v_ldFc (j := 3) prLen rfl at_ (hg3 _ _) (by decide) rfl))) | (apply gW; first | refine W_seq ?_ | refine W_region ?_ | refine W_ret ?_ | refine W_skip ?_ | refine W_block ?_ | refine W_exit ?_ | refine W_cond1 rfl ?_ | refine W_cond0 rfl ?_ | refine cW (fun h => ?_) fun h => ?_) | (first | refine seqR.normal ?_ | refine seqR.ret ?_ | refine seqR.exit ?_ | refine blockR.normal ?_ | refine blockR.ret ?_ | refine blockR.here ?_ | refine blockR.exit rfl ?_ | refine loopR.ret ?_ | refine loopR.exit ?_) | fail)
    refine L_perm (pickA hpk) ?_
    apply L_call rfl rfl rfl rfl rfl
    · exact markUpS_g (xs := ups) hk3 hs1 (by omega)
    rintro _ _ ⟨rfl, rfl⟩
    refine L_perm List.perm_middle ?_
    repeat' (first | (apply gCall; apply L_call rfl rfl rfl rfl rfl; (· fail); rintro _ _ ⟨rfl, rfl⟩) | (apply gL; first | refine L_nil ?_ | refine yX fun _ => ?_ | (apply gSt; first | refine sR ?_ | refine sB ?_ | refine s1 ?_ | refine sW ?_ | refine sN ?_) | refine kV ?_ | (apply L_val rfl rfl rfl; (· first | (apply gBin; first | fail ) | fail | exact v_ldFc (j := 2) prLen rfl at_ (hg3 _ _) (by decide) rfl | exact v_ldFc (j := 3) prLen rfl at_ (hg3 _ _) (by decide) rfl))) | (apply gW; first | refine W_seq ?_ | refine W_region ?_ | refine W_ret ?_ | refine W_skip ?_ | refine W_block ?_ | refine W_exit ?_ | refine W_cond1 rfl ?_ | refine W_cond0 rfl ?_ | refine cW (fun h => ?_) fun h => ?_) | (first | refine seqR.normal ?_ | refine seqR.ret ?_ | refine seqR.exit ?_ | refine blockR.normal ?_ | refine blockR.ret ?_ | refine blockR.here ?_ | refine blockR.exit rfl ?_ | refine loopR.ret ?_ | refine loopR.exit ?_) | fail)
    refine L_perm pickC ?_
    apply L_call rfl rfl rfl rfl rfl
    · exact markInsS_g (xs := code) (k := kk + 1 + 1 + 2 * ups.length) hk4 hs2 (by omega)
    rintro _ _ ⟨rfl, rfl⟩
    refine L_perm (pickD hpk2) ?_
    rw [List.set_set, rowF_same (prC_mP (p := ⟨pa, sl, ups, code⟩)), mix_set hml hm]
    repeat' (first | (apply gCall; apply L_call rfl rfl rfl rfl rfl; (· fail); rintro _ _ ⟨rfl, rfl⟩) | (apply gL; first | refine L_nil ?_ | refine yX fun _ => ?_ | (apply gSt; first | refine sR ?_ | refine sB ?_ | refine s1 ?_ | refine sW ?_ | refine sN ?_) | refine kV ?_ | (apply L_val rfl rfl rfl; (· first | (apply gBin; first | fail ) | fail | exact v_ldFc (j := 2) prLen rfl at_ (hg3 _ _) (by decide) rfl | exact v_ldFc (j := 3) prLen rfl at_ (hg3 _ _) (by decide) rfl))) | (apply gW; first | refine W_seq ?_ | refine W_region ?_ | refine W_ret ?_ | refine W_skip ?_ | refine W_block ?_ | refine W_exit ?_ | refine W_cond1 rfl ?_ | refine W_cond0 rfl ?_ | refine cW (fun h => ?_) fun h => ?_) | (first | refine seqR.normal ?_ | refine seqR.ret ?_ | refine seqR.exit ?_ | refine blockR.normal ?_ | refine blockR.ret ?_ | refine blockR.here ?_ | refine blockR.exit rfl ?_ | refine loopR.ret ?_ | refine loopR.exit ?_) | fail)
    apply loopR.mk (i + 1)
    · exact ⟨rfl, lk (by rw [hks]), rfl, trivial⟩
    · rw [show (i + 1).toNat = i.toNat + 1 by omega]; exact Cv.refl
    · exact ⟨by omega, by omega⟩
    · omega
  · repeat' (first | exact absurd h hlt | first | (apply gCall; apply L_call rfl rfl rfl rfl rfl; (· fail); rintro _ _ ⟨rfl, rfl⟩) | (apply gL; first | refine L_nil ?_ | refine yX fun _ => ?_ | (apply gSt; first | refine sR ?_ | refine sB ?_ | refine s1 ?_ | refine sW ?_ | refine sN ?_) | refine kV ?_ | (apply L_val rfl rfl rfl; (· first | (apply gBin; first | fail ) | fail | exact v_ldFc (j := 2) prLen rfl at_ (hg3 _ _) (by decide) rfl | exact v_ldFc (j := 3) prLen rfl at_ (hg3 _ _) (by decide) rfl))) | (apply gW; first | refine W_seq ?_ | refine W_region ?_ | refine W_ret ?_ | refine W_skip ?_ | refine W_block ?_ | refine W_exit ?_ | refine W_cond1 rfl ?_ | refine W_cond0 rfl ?_ | refine cW (fun h => ?_) fun h => ?_) | (first | refine seqR.normal ?_ | refine seqR.ret ?_ | refine seqR.exit ?_ | refine blockR.normal ?_ | refine blockR.ret ?_ | refine blockR.here ?_ | refine blockR.exit rfl ?_ | refine loopR.ret ?_ | refine loopR.exit ?_) | fail)
    rw [mix_all hml (by omega), List.take_of_length_le (by omega)]
    exact retR.ret _ _ (ret1 rfl rfl) Cv.refl ⟨rfl, rfl⟩
theorem mPA_snd : ∀ (l : List (PR × PA)) (k : Int), (mPA k l).map Prod.snd = l.map Prod.snd
  | [], k => rfl
  | x :: l, k => by rw [mPA, List.map_cons, mPA_snd l, List.map_cons]
theorem zip_fs : ∀ (l : List (PR × PA)), (l.map Prod.fst).zip (l.map Prod.snd) = l
  | [] => rfl
  | x :: l => by simp [zip_fs l]
/-- a module that is marked from k on -/
def mkM (k : Int) (M : Md) (X : MA) : Md := ⟨(mPA k (M.pr.zip X.aa)).map Prod.fst, mTs (k + nW M.pr) M.tx.length⟩
theorem mkM_zip {k : Int} {M : Md} {X : MA} (h : MOk M X) : (mkM k M X).pr.zip X.aa = mPA k (M.pr.zip X.aa) := by
  have e : X.aa = (mPA k (M.pr.zip X.aa)).map Prod.snd := by
    rw [mPA_snd, List.map_snd_zip]
    rw [h.la]; exact Nat.le_refl _
  have := zip_fs (mPA k (M.pr.zip X.aa))
  rw [← e] at this
  exact this
theorem mkM_len {k : Int} {M : Md} {X : MA} (h : MOk M X) : (mkM k M X).pr.length = M.pr.length := by
  show ((mPA k (M.pr.zip X.aa)).map Prod.fst).length = _
  rw [List.length_map, mPA_len, List.length_zip, h.la, Nat.min_self]
theorem zip_fst {M : Md} {X : MA} (h : MOk M X) : (M.pr.zip X.aa).map Prod.fst = M.pr := by
  rw [List.map_fst_zip]; rw [h.la]; exact Nat.le_refl _
section
variable {q : Nat × Obj} {P Q T H : HL}
theorem mdm0 : (q :: (P ++ (Q ++ H))).Perm (P ++ (Q ++ (q :: H))) :=
  ((List.Perm.append_left P List.perm_middle).trans List.perm_middle).symm
theorem mdm1 : (q :: ((Q ++ (P ++ T)) ++ H)).Perm (P ++ (Q ++ (q :: (T ++ H)))) := by
  rw [List.append_assoc, List.append_assoc]
  exact (List.Perm.cons q (List.perm_append_comm_assoc Q P _)).trans mdm0
theorem mdm2 : (P ++ (Q ++ (q :: (T ++ H)))).Perm (q :: (T ++ (P ++ (Q ++ H)))) := by
  refine mdm0.symm.trans (List.Perm.cons q ?_)
  exact (List.Perm.append_left P (List.perm_append_comm_assoc Q T H)).trans (List.perm_append_comm_assoc P T _)
theorem mdm4 : (T ++ (q :: (P ++ (Q ++ H)))).Perm (q :: ((Q ++ (P ++ T)) ++ H)) := by
  refine List.perm_middle.trans (List.Perm.cons q ?_)
  rw [List.append_assoc, List.append_assoc]
  refine (List.perm_append_comm_assoc T P _).trans ?_
  refine (List.Perm.append_left P (List.perm_append_comm_assoc T Q H)).trans ?_
  exact List.perm_append_comm_assoc P Q _
end
theorem markProtoS_z {M : Md} {X : MA} {k : Int} (hO : MOk M X) (hn : nW M.pr ≤ 4200000) (hsz : ∀ q ∈ M.pr, q.ups.length ≤ 1048576 ∧ q.code.length ≤ 1048576) (hk : 1 ≤ k ∧ k ≤ 1000) :
    Fn Tryz.prog w0 34 #[.slice (ad X.pb) M.pr.length X.pc, .int .i64 k] (oC 58 X.pb ((M.pr.zip X.aa).flatMap prC) X.ps ++ (pHL (M.pr.zip X.aa) ++ H)) fun v H' => v = .int .i64 (k + nW M.pr) ∧ H' = oC 58 X.pb ((mPA k (M.pr.zip X.aa)).flatMap prC) X.ps ++ (pHL (mPA k (M.pr.zip X.aa)) ++ H) := by
  have e1 := zip_fst hO
  have e2 : (M.pr.zip X.aa).length = M.pr.length := by rw [List.length_zip, hO.la, Nat.min_self]
  have := markProtoS_g (w0 := w0) (H := H) (bo := X.pb) (c := X.pc) (l := M.pr.zip X.aa) (sp := X.ps) (k := k) (fun c => by rw [hO.pn c]; rfl) hO.pk (by rw [e1]; exact hn) hk (fun x hx => hsz x.1 (List.of_mem_zip (a := x.1) (b := x.2) hx).1)
  rw [e1, e2] at this
  exact this
set_option maxHeartbeats 1000000 in
theorem markModule_g {M : Md} {X : MA} {k : Int} (hO : MOk M X) (hn : nW M.pr ≤ 4200000) (ht : M.tx.length ≤ 1048576) (hsz : ∀ q ∈ M.pr, q.ups.length ≤ 1048576 ∧ q.code.length ≤ 1048576) (hk : 1 ≤ k ∧ k ≤ 1000) :
    Fn Tryz.prog w0 10 #[mdV M X, .int .i64 k] (mHL M X ++ H) fun v H' => v = .int .i64 (k + nW M.pr + M.tx.length) ∧ H' = mHL (mkM k M X) X ++ H := by
  have e1 := zip_fst hO
  have e2 : (M.pr.zip X.aa).length = M.pr.length := by rw [List.length_zip, hO.la, Nat.min_self]
  have hnn := nW_nn M.pr
  have e3 : mHL (mkM k M X) X = pHL (mPA k (M.pr.zip X.aa)) ++ (oC 58 X.pb ((mPA k (M.pr.zip X.aa)).flatMap prC) X.ps ++ oC 9 X.tb ((mTs (k + nW M.pr) M.tx.length).flatMap tsC) X.ts) := by
    unfold mHL; rw [mkM_zip hO]; rfl
  rw [e3]
  refine enter2 Tryz.func10 rfl rfl Tryz.ntmps10 rfl ?_
  repeat' (first | (apply gCall; apply L_call rfl rfl rfl rfl rfl; (· fail); rintro _ _ ⟨rfl, rfl⟩) | (apply gL; first | refine L_nil ?_ | refine yX fun _ => ?_ | (apply gSt; first | refine sR ?_ | refine sB ?_ | refine s1 ?_ | refine sW ?_ | refine sN ?_) | refine kV ?_ | (apply L_val rfl rfl rfl; (· first | (apply gBin; first | fail ) | fail | exact v_ldFc (j := 2) prLen rfl at_ (hg3 _ _) (by decide) rfl | exact v_ldFc (j := 3) prLen rfl at_ (hg3 _ _) (by decide) rfl))) | (apply gW; first | refine W_seq ?_ | refine W_region ?_ | refine W_ret ?_ | refine W_skip ?_ | refine W_block ?_ | refine W_exit ?_ | refine W_cond1 rfl ?_ | refine W_cond0 rfl ?_ | refine cW (fun h => ?_) fun h => ?_) | (first | refine seqR.normal ?_ | refine seqR.ret ?_ | refine seqR.exit ?_ | refine blockR.normal ?_ | refine blockR.ret ?_ | refine blockR.here ?_ | refine blockR.exit rfl ?_ | refine loopR.ret ?_ | refine loopR.exit ?_) | fail)
  refine L_perm mdm1 ?_
  apply L_call rfl rfl rfl rfl rfl
  · exact markProtoS_z hO hn hsz hk
  rintro _ _ ⟨rfl, rfl⟩
  refine L_perm mdm2 ?_
  repeat' (first | (apply gCall; apply L_call rfl rfl rfl rfl rfl; (· fail); rintro _ _ ⟨rfl, rfl⟩) | (apply gL; first | refine L_nil ?_ | refine yX fun _ => ?_ | (apply gSt; first | refine sR ?_ | refine sB ?_ | refine s1 ?_ | refine sW ?_ | refine sN ?_) | refine kV ?_ | (apply L_val rfl rfl rfl; (· first | (apply gBin; first | fail ) | fail | exact v_ldFc (j := 2) prLen rfl at_ (hg3 _ _) (by decide) rfl | exact v_ldFc (j := 3) prLen rfl at_ (hg3 _ _) (by decide) rfl))) | (apply gW; first | refine W_seq ?_ | refine W_region ?_ | refine W_ret ?_ | refine W_skip ?_ | refine W_block ?_ | refine W_exit ?_ | refine W_cond1 rfl ?_ | refine W_cond0 rfl ?_ | refine cW (fun h => ?_) fun h => ?_) | (first | refine seqR.normal ?_ | refine seqR.ret ?_ | refine seqR.exit ?_ | refine blockR.normal ?_ | refine blockR.ret ?_ | refine blockR.here ?_ | refine blockR.exit rfl ?_ | refine loopR.ret ?_ | refine loopR.exit ?_) | fail)
  refine L_perm List.perm_middle.symm ?_
  apply L_call rfl rfl rfl rfl rfl
  · exact markStringS_g hO.tn ht (by omega)
  rintro _ _ ⟨rfl, rfl⟩
  refine L_perm mdm4 ?_
  repeat' (first | (apply gCall; apply L_call rfl rfl rfl rfl rfl; (· fail); rintro _ _ ⟨rfl, rfl⟩) | (apply gL; first | refine L_nil ?_ | refine yX fun _ => ?_ | (apply gSt; first | refine sR ?_ | refine sB ?_ | refine s1 ?_ | refine sW ?_ | refine sN ?_) | refine kV ?_ | (apply L_val rfl rfl rfl; (· first | (apply gBin; first | fail ) | fail | exact v_ldFc (j := 2) prLen rfl at_ (hg3 _ _) (by decide) rfl | exact v_ldFc (j := 3) prLen rfl at_ (hg3 _ _) (by decide) rfl))) | (apply gW; first | refine W_seq ?_ | refine W_region ?_ | refine W_ret ?_ | refine W_skip ?_ | refine W_block ?_ | refine W_exit ?_ | refine W_cond1 rfl ?_ | refine W_cond0 rfl ?_ | refine cW (fun h => ?_) fun h => ?_) | (first | refine seqR.normal ?_ | refine seqR.ret ?_ | refine seqR.exit ?_ | refine blockR.normal ?_ | refine blockR.ret ?_ | refine blockR.here ?_ | refine blockR.exit rfl ?_ | refine loopR.ret ?_ | refine loopR.exit ?_) | fail)
  exact retR.ret _ _ (ret1 rfl rfl) (Cv.skip Cv.refl) ⟨rfl, rfl⟩
end Go.Proofs.YtfmhlieaodbgiaaGreat.Eng
