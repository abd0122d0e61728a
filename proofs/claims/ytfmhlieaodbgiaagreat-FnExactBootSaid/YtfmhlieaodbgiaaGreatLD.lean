/- The law's own: modules marked. -/
import Derived.Test.YtfmhlieaodbgiaaGreatLC
namespace Go.Proofs.YtfmhlieaodbgiaaGreat.Eng
open Go Go.RowKit Go.Proofs.YtfmhlieaodbgiaaGreat.Sl Go.Proofs.YtfmhlieaodbgiaaGreat.Ar Go.Proofs.YtfmhlieaodbgiaaGreat.Base
set_option linter.unusedVariables false
set_option linter.unusedSimpArgs false
set_option maxRecDepth 10000
section
variable {P : Program} {N : Nat} {w0 : World} {E : Env} {H : HL} {o : Oper} {x y z : Operand} {T T2 : TypeId} {s t : ByteArray} {d_ : Option Tmp} {ty_ : TypeId} {pos_ : String} {af_ : Array Edge} {gd_ : Option (Nat × Bool)}
theorem str_app (xs ys : List Int) : strOfNums xs ++ strOfNums ys = strOfNums (xs ++ ys) := by
  apply ByteArray.ext
  rw [ByteArray.data_append]
  simp [strOfNums]
theorem v_addz {xs ys : List Int} (hx : ev E x = some (.string (strOfNums xs))) (hy : ev E y = some (.string (strOfNums ys))) (h : ((xs.length : Nat) : Int) + (ys.length : Int) ≤ 100000000) : OpV P N w0 ⟨d_, .binOp .add T x y T2, ty_, pos_, af_, gd_⟩ E H (.string (strOfNums (xs ++ ys))) := ov_bin rfl hx hy fun w => by
  have h2 : ¬ ((((strOfNums xs).size + (strOfNums ys).size : Nat) : Int) > IntKind.i64.max) := by
    rw [strOfNums_size, strOfNums_size]
    have : IntKind.i64.max = 9223372036854775807 := rfl
    omega
  rw [← str_app]
  simp only [eqGuard, binOp, Op.stringOp]
  rw [if_neg h2]
  rfl
end
/-- the figures of a number -/
def mDig : Nat → Int → List Int → List Int
  | 0, _, acc => acc
  | f + 1, n, acc => if n > 0 then mDig f (n / 10) (IntKind.u8.wrap (48 + n % 10) :: acc) else acc
/-- the text that is a mark -/
def mTx (k : Int) : List Int := 109 :: mDig (k.toNat + 1) k []
/-- rows that are marks -/
def mUp : Int → Nat → List (Bool × Int)
  | _, 0 => []
  | k, n + 1 => (decide (k % 3 = 0), k + 1) :: mUp (k + 2) n
def mIn : Int → Nat → List (Int × Int)
  | _, 0 => []
  | k, n + 1 => (k, k + 1) :: mIn (k + 2) n
def mTs : Int → Nat → List (List Int)
  | _, 0 => []
  | k, n + 1 => mTx k :: mTs (k + 1) n
theorem mUp_len : ∀ (n : Nat) (k : Int), (mUp k n).length = n
  | 0, k => rfl
  | n + 1, k => by rw [mUp, List.length_cons, mUp_len n]
theorem mIn_len : ∀ (n : Nat) (k : Int), (mIn k n).length = n
  | 0, k => rfl
  | n + 1, k => by rw [mIn, List.length_cons, mIn_len n]
theorem mTs_len : ∀ (n : Nat) (k : Int), (mTs k n).length = n
  | 0, k => rfl
  | n + 1, k => by rw [mTs, List.length_cons, mTs_len n]
theorem mUp_get : ∀ (n : Nat) (k : Int) (i : Nat), i < n → (mUp k n)[i]? = some (decide ((k + 2 * (i : Int)) % 3 = 0), k + 2 * (i : Int) + 1)
  | 0, k, i, h => by omega
  | n + 1, k, 0, h => by rw [mUp, List.getElem?_cons_zero, show k + 2 * ((0 : Nat) : Int) = k by omega]
  | n + 1, k, i + 1, h => by rw [mUp, List.getElem?_cons_succ, mUp_get n (k + 2) i (by omega), show k + 2 + 2 * (i : Int) = k + 2 * ((i + 1 : Nat) : Int) by omega]
theorem mIn_get : ∀ (n : Nat) (k : Int) (i : Nat), i < n → (mIn k n)[i]? = some (k + 2 * (i : Int), k + 2 * (i : Int) + 1)
  | 0, k, i, h => by omega
  | n + 1, k, 0, h => by rw [mIn, List.getElem?_cons_zero, show k + 2 * ((0 : Nat) : Int) = k by omega]
  | n + 1, k, i + 1, h => by rw [mIn, List.getElem?_cons_succ, mIn_get n (k + 2) i (by omega), show k + 2 + 2 * (i : Int) = k + 2 * ((i + 1 : Nat) : Int) by omega]
theorem mTs_get : ∀ (n : Nat) (k : Int) (i : Nat), i < n → (mTs k n)[i]? = some (mTx (k + (i : Int)))
  | 0, k, i, h => by omega
  | n + 1, k, 0, h => by rw [mTs, List.getElem?_cons_zero, show k + ((0 : Nat) : Int) = k by omega]
  | n + 1, k, i + 1, h => by rw [mTs, List.getElem?_cons_succ, mTs_get n (k + 1) i (by omega), show k + 1 + (i : Int) = k + ((i + 1 : Nat) : Int) by omega]
variable {w0 : World} {H : HL}
theorem markText_c {k : Int} (hk : 1 ≤ k ∧ k ≤ 20000000) : Fn Tryz.prog w0 61 #[.int .i64 k] H fun v H' => v = .string (strOfNums (mTx k)) ∧ H' = H := by
  refine enter1 Tryz.func61 rfl rfl Tryz.ntmps61 rfl ?_
  repeat' (first | (exfalso; omega) | ((fail_if_success apply gAtR 4); (first | (apply gCall; apply L_call rfl rfl rfl rfl rfl; (· first | exact markText_c om); rintro _ _ ⟨rfl, rfl⟩) | (apply gL; first | refine L_nil ?_ | (apply gSt; first | refine sR ?_ | refine sB ?_ | refine s1 ?_ | refine sW ?_ | refine sN ?_) | (apply gBs; first | (refine L_bs0 rfl rfl rfl rfl (fun _ => ?_)) | (refine L_bs1 rfl rfl rfl rfl rfl rfl rfl (fun _ => ?_))) | refine kV ?_ | (apply L_val rfl rfl rfl; (· first | (apply gBin; first | fail | exact v_nes rfl rfl | exact v_addz rfl rfl (by simp only [List.length_cons, List.length_nil]; omega) | exact v_addz (xs := [109]) rfl rfl (by simp only [List.length_cons, List.length_nil]; omega)) | fail | exact v_bts (xs := [IntKind.u8.wrap (48 + n % 10)]) (sp := []) rfl at_))) | (apply gW; first | refine W_seq ?_ | refine W_region ?_ | refine W_ret ?_ | refine W_skip ?_ | refine W_block ?_ | refine W_exit ?_ | refine W_cond1 rfl ?_ | refine W_cond0 rfl ?_ | refine cW (fun h => ?_) fun h => ?_) | (first | refine seqR.normal ?_ | refine seqR.ret ?_ | refine seqR.exit ?_ | refine blockR.normal ?_ | refine blockR.ret ?_ | refine blockR.here ?_ | refine blockR.exit rfl ?_ | refine loopR.ret ?_ | refine loopR.exit ?_) | fail)))
  apply W_loopX (α := Int × List Int) (fun y => [(0, .int .i64 y.1), (3, .string (strOfNums y.2))]) (fun _ => H) (fun y => (0 ≤ y.1 ∧ (y.2.length : Int) + y.1 ≤ k) ∧ ∃ f, y.1.toNat < f ∧ mDig f y.1 y.2 = mDig (k.toNat + 1) k []) (fun y => y.1.toNat) (k, [])
  · exact sub_
  · exact cvt_
  · exact ⟨⟨by dsimp only; omega, by dsimp only [List.length_nil]; omega⟩, _, Nat.lt_succ_self _, rfl⟩
  rintro ⟨n, acc⟩ ⟨⟨hn, hn2⟩, f, hf, hm⟩
  dsimp only at hn hn2 hf hm ⊢
  cases f with
  | zero => omega
  | succ f =>
  rw [mDig] at hm
  by_cases hlt : n > 0
  · rw [if_pos hlt] at hm
    repeat' (first | exact absurd hlt h | first | (apply gCall; apply L_call rfl rfl rfl rfl rfl; (· first | exact markText_c om); rintro _ _ ⟨rfl, rfl⟩) | (apply gL; first | refine L_nil ?_ | (apply gSt; first | refine sR ?_ | refine sB ?_ | refine s1 ?_ | refine sW ?_ | refine sN ?_) | (apply gBs; first | (refine L_bs0 rfl rfl rfl rfl (fun _ => ?_)) | (refine L_bs1 rfl rfl rfl rfl rfl rfl rfl (fun _ => ?_))) | refine kV ?_ | (apply L_val rfl rfl rfl; (· first | (apply gBin; first | fail | exact v_nes rfl rfl | exact v_addz rfl rfl (by simp only [List.length_cons, List.length_nil]; omega) | exact v_addz (xs := [109]) rfl rfl (by simp only [List.length_cons, List.length_nil]; omega)) | fail | exact v_bts (xs := [IntKind.u8.wrap (48 + n % 10)]) (sp := []) rfl at_))) | (apply gW; first | refine W_seq ?_ | refine W_region ?_ | refine W_ret ?_ | refine W_skip ?_ | refine W_block ?_ | refine W_exit ?_ | refine W_cond1 rfl ?_ | refine W_cond0 rfl ?_ | refine cW (fun h => ?_) fun h => ?_) | (first | refine seqR.normal ?_ | refine seqR.ret ?_ | refine seqR.exit ?_ | refine blockR.normal ?_ | refine blockR.ret ?_ | refine blockR.here ?_ | refine blockR.exit rfl ?_ | refine loopR.ret ?_ | refine loopR.exit ?_) | fail)
    apply loopR.mk (n / 10, IntKind.u8.wrap (48 + n % 10) :: acc)
    · exact sub_
    · exact cvt_
    · exact ⟨⟨by dsimp only; omega, by dsimp only [List.length_cons]; omega⟩, f, by dsimp only; omega, hm⟩
    · dsimp only; omega
  · rw [if_neg hlt] at hm
    repeat' (first | exact absurd h hlt | first | (apply gCall; apply L_call rfl rfl rfl rfl rfl; (· first | exact markText_c om); rintro _ _ ⟨rfl, rfl⟩) | (apply gL; first | refine L_nil ?_ | (apply gSt; first | refine sR ?_ | refine sB ?_ | refine s1 ?_ | refine sW ?_ | refine sN ?_) | (apply gBs; first | (refine L_bs0 rfl rfl rfl rfl (fun _ => ?_)) | (refine L_bs1 rfl rfl rfl rfl rfl rfl rfl (fun _ => ?_))) | refine kV ?_ | (apply L_val rfl rfl rfl; (· first | (apply gBin; first | fail | exact v_nes rfl rfl | exact v_addz rfl rfl (by simp only [List.length_cons, List.length_nil]; omega) | exact v_addz (xs := [109]) rfl rfl (by simp only [List.length_cons, List.length_nil]; omega)) | fail | exact v_bts (xs := [IntKind.u8.wrap (48 + n % 10)]) (sp := []) rfl at_))) | (apply gW; first | refine W_seq ?_ | refine W_region ?_ | refine W_ret ?_ | refine W_skip ?_ | refine W_block ?_ | refine W_exit ?_ | refine W_cond1 rfl ?_ | refine W_cond0 rfl ?_ | refine cW (fun h => ?_) fun h => ?_) | (first | refine seqR.normal ?_ | refine seqR.ret ?_ | refine seqR.exit ?_ | refine blockR.normal ?_ | refine blockR.ret ?_ | refine blockR.here ?_ | refine blockR.exit rfl ?_ | refine loopR.ret ?_ | refine loopR.exit ?_) | fail)
    refine retR.ret _ _ (ret1 rfl rfl) cv_ ⟨?_, rfl⟩
    unfold mTx
    rw [← hm]
    rfl
set_option maxHeartbeats 1000000 in
theorem markUpS_g {bo : Option Nat} {c : Nat} {xs : List (Bool × Int)} {sp : List Value} {k : Int} (hb : bo = none → xs = []) (hl : xs.length ≤ 1048576) (hk : 0 ≤ k ∧ k ≤ 10000000) :
    Fn Tryz.prog w0 59 #[.slice (ad bo) xs.length c, .int .i64 k] (oC 106 bo (xs.flatMap upC) sp ++ H) fun v H' => v = .int .i64 (k + 2 * xs.length) ∧ H' = oC 106 bo ((mUp k xs.length).flatMap upC) sp ++ H := by
  have hml : (mUp k xs.length).length = xs.length := mUp_len _ _
  refine enter2 Tryz.func59 rfl rfl Tryz.ntmps59 rfl ?_
  repeat' (first | (apply gCall; apply L_call rfl rfl rfl rfl rfl; (· first | exact markText_c om); rintro _ _ ⟨rfl, rfl⟩) | (apply gL; first | refine L_nil ?_ | (apply gSt; first | refine sR ?_ | refine sB ?_ | refine s1 ?_ | refine sW ?_ | refine sN ?_) | (apply gBs; first | (refine L_bs0 rfl rfl rfl rfl (fun _ => ?_)) | (refine L_bs1 rfl rfl rfl rfl rfl rfl rfl (fun _ => ?_))) | refine kV ?_ | (apply L_val rfl rfl rfl; (· first | (apply gBin; first | fail | exact v_nes rfl rfl | exact v_addz rfl rfl (by simp only [List.length_cons, List.length_nil]; omega) | exact v_addz (xs := [109]) rfl rfl (by simp only [List.length_cons, List.length_nil]; omega)) | fail | exact v_bts (xs := [IntKind.u8.wrap (48 + n % 10)]) (sp := []) rfl at_))) | (apply gW; first | refine W_seq ?_ | refine W_region ?_ | refine W_ret ?_ | refine W_skip ?_ | refine W_block ?_ | refine W_exit ?_ | refine W_cond1 rfl ?_ | refine W_cond0 rfl ?_ | refine cW (fun h => ?_) fun h => ?_) | (first | refine seqR.normal ?_ | refine seqR.ret ?_ | refine seqR.exit ?_ | refine blockR.normal ?_ | refine blockR.ret ?_ | refine blockR.here ?_ | refine blockR.exit rfl ?_ | refine loopR.ret ?_ | refine loopR.exit ?_) | fail)
  apply W_loopX (α := Int) (fun y => [(0, .slice (ad bo) xs.length c), (1, .int .i64 (k + 2 * y)), (5, .int .i64 y)]) (fun y => oC 106 bo ((mix y.toNat (mUp k xs.length) xs).flatMap upC) sp ++ H) (fun y => 0 ≤ y ∧ y ≤ (xs.length : Int)) (fun y => ((xs.length : Int) - y).toNat) 0
  · exact ⟨rfl, lk (by omega), rfl, trivial⟩
  · rw [show (0 : Int).toNat = 0 from rfl, mix_0]; exact Cv.refl
  · exact ⟨by omega, by omega⟩
  rintro i ⟨hi, hi2⟩
  by_cases hlt : i < (xs.length : Int)
  · rcases bo with _ | b
    · rw [hb rfl] at hlt; simp at hlt; omega
    obtain ⟨x, ex⟩ : ∃ x, xs[i.toNat]? = some x := ⟨xs[i.toNat]'(by omega), List.getElem?_eq_getElem _⟩
    have hg : (mix i.toNat (mUp k xs.length) xs)[i.toNat]? = some x := by rw [mix_get hml (by omega)]; exact ex
    have hlt' : i.toNat < (mix i.toNat (mUp k xs.length) xs).length := by rw [mix_len hml]; omega
    have hg2 : ∀ y, ((mix i.toNat (mUp k xs.length) xs).set i.toNat y)[i.toNat]? = some y := fun y => by rw [List.getElem?_set_self hlt']
    have hm := mUp_get xs.length k i.toNat (by omega)
    rw [Int.toNat_of_nonneg hi] at hm
    simp only [ad_s]
    show W _ _ _ _ _ ((b, .cells (rowF upC (mix i.toNat (mUp k xs.length) xs) sp) 106 (0, 0)) :: H) _
    repeat' (first | exact absurd hlt h | (apply gSt; first | (apply L_stF (f := upC) (j := 0) (a' := (decide ((k + 2 * i) % 3 = 0), x.2)) upLen rfl rfl rfl rfl rfl rfl hg (by decide) rfl; (· exact up_)) | (apply L_stF (f := upC) (j := 1) (a' := (decide ((k + 2 * i) % 3 = 0), k + 2 * i + 1)) upLen rfl rfl rfl rfl rfl rfl (hg2 (decide ((k + 2 * i) % 3 = 0), x.2)) (by decide) rfl; (· exact up_))) | first | (apply gCall; apply L_call rfl rfl rfl rfl rfl; (· first | exact markText_c om); rintro _ _ ⟨rfl, rfl⟩) | (apply gL; first | refine L_nil ?_ | (apply gSt; first | refine sR ?_ | refine sB ?_ | refine s1 ?_ | refine sW ?_ | refine sN ?_) | (apply gBs; first | (refine L_bs0 rfl rfl rfl rfl (fun _ => ?_)) | (refine L_bs1 rfl rfl rfl rfl rfl rfl rfl (fun _ => ?_))) | refine kV ?_ | (apply L_val rfl rfl rfl; (· first | (apply gBin; first | fail | exact v_nes rfl rfl | exact v_addz rfl rfl (by simp only [List.length_cons, List.length_nil]; omega) | exact v_addz (xs := [109]) rfl rfl (by simp only [List.length_cons, List.length_nil]; omega)) | fail | exact v_bts (xs := [IntKind.u8.wrap (48 + n % 10)]) (sp := []) rfl at_))) | (apply gW; first | refine W_seq ?_ | refine W_region ?_ | refine W_ret ?_ | refine W_skip ?_ | refine W_block ?_ | refine W_exit ?_ | refine W_cond1 rfl ?_ | refine W_cond0 rfl ?_ | refine cW (fun h => ?_) fun h => ?_) | (first | refine seqR.normal ?_ | refine seqR.ret ?_ | refine seqR.exit ?_ | refine blockR.normal ?_ | refine blockR.ret ?_ | refine blockR.here ?_ | refine blockR.exit rfl ?_ | refine loopR.ret ?_ | refine loopR.exit ?_) | fail)
    rw [List.set_set, mix_set hml hm]
    apply loopR.mk (i + 1)
    · exact ⟨rfl, lk (by omega), rfl, trivial⟩
    · rw [show (i + 1).toNat = i.toNat + 1 by omega]; exact Cv.refl
    · exact ⟨by omega, by omega⟩
    · omega
  · repeat' (first | exact absurd h hlt | first | (apply gCall; apply L_call rfl rfl rfl rfl rfl; (· first | exact markText_c om); rintro _ _ ⟨rfl, rfl⟩) | (apply gL; first | refine L_nil ?_ | (apply gSt; first | refine sR ?_ | refine sB ?_ | refine s1 ?_ | refine sW ?_ | refine sN ?_) | (apply gBs; first | (refine L_bs0 rfl rfl rfl rfl (fun _ => ?_)) | (refine L_bs1 rfl rfl rfl rfl rfl rfl rfl (fun _ => ?_))) | refine kV ?_ | (apply L_val rfl rfl rfl; (· first | (apply gBin; first | fail | exact v_nes rfl rfl | exact v_addz rfl rfl (by simp only [List.length_cons, List.length_nil]; omega) | exact v_addz (xs := [109]) rfl rfl (by simp only [List.length_cons, List.length_nil]; omega)) | fail | exact v_bts (xs := [IntKind.u8.wrap (48 + n % 10)]) (sp := []) rfl at_))) | (apply gW; first | refine W_seq ?_ | refine W_region ?_ | refine W_ret ?_ | refine W_skip ?_ | refine W_block ?_ | refine W_exit ?_ | refine W_cond1 rfl ?_ | refine W_cond0 rfl ?_ | refine cW (fun h => ?_) fun h => ?_) | (first | refine seqR.normal ?_ | refine seqR.ret ?_ | refine seqR.exit ?_ | refine blockR.normal ?_ | refine blockR.ret ?_ | refine blockR.here ?_ | refine blockR.exit rfl ?_ | refine loopR.ret ?_ | refine loopR.exit ?_) | fail)
    rw [mix_all hml (by omega)]
    refine retR.ret _ _ (ret1 rfl rfl) Cv.refl ⟨?_, rfl⟩
    rw [show i = (xs.length : Int) by omega]
set_option maxHeartbeats 1000000 in
theorem markInsS_g {bo : Option Nat} {c : Nat} {xs : List (Int × Int)} {sp : List Value} {k : Int} (hb : bo = none → xs = []) (hl : xs.length ≤ 1048576) (hk : 0 ≤ k ∧ k ≤ 10000000) :
    Fn Tryz.prog w0 60 #[.slice (ad bo) xs.length c, .int .i64 k] (oC 80 bo (xs.flatMap inC) sp ++ H) fun v H' => v = .int .i64 (k + 2 * xs.length) ∧ H' = oC 80 bo ((mIn k xs.length).flatMap inC) sp ++ H := by
  have hml : (mIn k xs.length).length = xs.length := mIn_len _ _
  refine enter2 Tryz.func60 rfl rfl Tryz.ntmps60 rfl ?_
  repeat' (first | (apply gCall; apply L_call rfl rfl rfl rfl rfl; (· first | exact markText_c om); rintro _ _ ⟨rfl, rfl⟩) | (apply gL; first | refine L_nil ?_ | (apply gSt; first | refine sR ?_ | refine sB ?_ | refine s1 ?_ | refine sW ?_ | refine sN ?_) | (apply gBs; first | (refine L_bs0 rfl rfl rfl rfl (fun _ => ?_)) | (refine L_bs1 rfl rfl rfl rfl rfl rfl rfl (fun _ => ?_))) | refine kV ?_ | (apply L_val rfl rfl rfl; (· first | (apply gBin; first | fail | exact v_nes rfl rfl | exact v_addz rfl rfl (by simp only [List.length_cons, List.length_nil]; omega) | exact v_addz (xs := [109]) rfl rfl (by simp only [List.length_cons, List.length_nil]; omega)) | fail | exact v_bts (xs := [IntKind.u8.wrap (48 + n % 10)]) (sp := []) rfl at_))) | (apply gW; first | refine W_seq ?_ | refine W_region ?_ | refine W_ret ?_ | refine W_skip ?_ | refine W_block ?_ | refine W_exit ?_ | refine W_cond1 rfl ?_ | refine W_cond0 rfl ?_ | refine cW (fun h => ?_) fun h => ?_) | (first | refine seqR.normal ?_ | refine seqR.ret ?_ | refine seqR.exit ?_ | refine blockR.normal ?_ | refine blockR.ret ?_ | refine blockR.here ?_ | refine blockR.exit rfl ?_ | refine loopR.ret ?_ | refine loopR.exit ?_) | fail)
  apply W_loopX (α := Int) (fun y => [(0, .slice (ad bo) xs.length c), (1, .int .i64 (k + 2 * y)), (5, .int .i64 y)]) (fun y => oC 80 bo ((mix y.toNat (mIn k xs.length) xs).flatMap inC) sp ++ H) (fun y => 0 ≤ y ∧ y ≤ (xs.length : Int)) (fun y => ((xs.length : Int) - y).toNat) 0
  · exact ⟨rfl, lk (by omega), rfl, trivial⟩
  · rw [show (0 : Int).toNat = 0 from rfl, mix_0]; exact Cv.refl
  · exact ⟨by omega, by omega⟩
  rintro i ⟨hi, hi2⟩
  by_cases hlt : i < (xs.length : Int)
  · rcases bo with _ | b
    · rw [hb rfl] at hlt; simp at hlt; omega
    obtain ⟨x, ex⟩ : ∃ x, xs[i.toNat]? = some x := ⟨xs[i.toNat]'(by omega), List.getElem?_eq_getElem _⟩
    have hg : (mix i.toNat (mIn k xs.length) xs)[i.toNat]? = some x := by rw [mix_get hml (by omega)]; exact ex
    have hlt' : i.toNat < (mix i.toNat (mIn k xs.length) xs).length := by rw [mix_len hml]; omega
    have hg2 : ∀ y, ((mix i.toNat (mIn k xs.length) xs).set i.toNat y)[i.toNat]? = some y := fun y => by rw [List.getElem?_set_self hlt']
    have hm := mIn_get xs.length k i.toNat (by omega)
    rw [Int.toNat_of_nonneg hi] at hm
    simp only [ad_s]
    show W _ _ _ _ _ ((b, .cells (rowF inC (mix i.toNat (mIn k xs.length) xs) sp) 80 (0, 0)) :: H) _
    repeat' (first | exact absurd hlt h | (apply gSt; first | (apply L_stF (f := inC) (j := 0) (a' := (k + 2 * i, x.2)) inLen rfl rfl rfl rfl rfl rfl hg (by decide) rfl; (· exact up_)) | (apply L_stF (f := inC) (j := 1) (a' := (k + 2 * i, k + 2 * i + 1)) inLen rfl rfl rfl rfl rfl rfl (hg2 (k + 2 * i, x.2)) (by decide) rfl; (· exact up_))) | first | (apply gCall; apply L_call rfl rfl rfl rfl rfl; (· first | exact markText_c om); rintro _ _ ⟨rfl, rfl⟩) | (apply gL; first | refine L_nil ?_ | (apply gSt; first | refine sR ?_ | refine sB ?_ | refine s1 ?_ | refine sW ?_ | refine sN ?_) | (apply gBs; first | (refine L_bs0 rfl rfl rfl rfl (fun _ => ?_)) | (refine L_bs1 rfl rfl rfl rfl rfl rfl rfl (fun _ => ?_))) | refine kV ?_ | (apply L_val rfl rfl rfl; (· first | (apply gBin; first | fail | exact v_nes rfl rfl | exact v_addz rfl rfl (by simp only [List.length_cons, List.length_nil]; omega) | exact v_addz (xs := [109]) rfl rfl (by simp only [List.length_cons, List.length_nil]; omega)) | fail | exact v_bts (xs := [IntKind.u8.wrap (48 + n % 10)]) (sp := []) rfl at_))) | (apply gW; first | refine W_seq ?_ | refine W_region ?_ | refine W_ret ?_ | refine W_skip ?_ | refine W_block ?_ | refine W_exit ?_ | refine W_cond1 rfl ?_ | refine W_cond0 rfl ?_ | refine cW (fun h => ?_) fun h => ?_) | (first | refine seqR.normal ?_ | refine seqR.ret ?_ | refine seqR.exit ?_ | refine blockR.normal ?_ | refine blockR.ret ?_ | refine blockR.here ?_ | refine blockR.exit rfl ?_ | refine loopR.ret ?_ | refine loopR.exit ?_) | fail)
    rw [List.set_set, mix_set hml hm]
    apply loopR.mk (i + 1)
    · exact ⟨rfl, lk (by omega), rfl, trivial⟩
    · rw [show (i + 1).toNat = i.toNat + 1 by omega]; exact Cv.refl
    · exact ⟨by omega, by omega⟩
    · omega
  · repeat' (first | exact absurd h hlt | first | (apply gCall; apply L_call rfl rfl rfl rfl rfl; (· first | exact markText_c om); rintro _ _ ⟨rfl, rfl⟩) | (apply gL; first | refine L_nil ?_ | (apply gSt; first | refine sR ?_ | refine sB ?_ | refine s1 ?_ | refine sW ?_ | refine sN ?_) | (apply gBs; first | (refine L_bs0 rfl rfl rfl rfl (fun _ => ?_)) | (refine L_bs1 rfl rfl rfl rfl rfl rfl rfl (fun _ => ?_))) | refine kV ?_ | (apply L_val rfl rfl rfl; (· first | (apply gBin; first | fail | exact v_nes rfl rfl | exact v_addz rfl rfl (by simp only [List.length_cons, List.length_nil]; omega) | exact v_addz (xs := [109]) rfl rfl (by simp only [List.length_cons, List.length_nil]; omega)) | fail | exact v_bts (xs := [IntKind.u8.wrap (48 + n % 10)]) (sp := []) rfl at_))) | (apply gW; first | refine W_seq ?_ | refine W_region ?_ | refine W_ret ?_ | refine W_skip ?_ | refine W_block ?_ | refine W_exit ?_ | refine W_cond1 rfl ?_ | refine W_cond0 rfl ?_ | refine cW (fun h => ?_) fun h => ?_) | (first | refine seqR.normal ?_ | refine seqR.ret ?_ | refine seqR.exit ?_ | refine blockR.normal ?_ | refine blockR.ret ?_ | refine blockR.here ?_ | refine blockR.exit rfl ?_ | refine loopR.ret ?_ | refine loopR.exit ?_) | fail)
    rw [mix_all hml (by omega)]
    refine retR.ret _ _ (ret1 rfl rfl) Cv.refl ⟨?_, rfl⟩
    rw [show i = (xs.length : Int) by omega]
set_option maxHeartbeats 1000000 in
theorem markStringS_g {bo : Option Nat} {c : Nat} {xs : List (List Int)} {sp : List Value} {k : Int} (hb : bo = none → xs = []) (hl : xs.length ≤ 1048576) (hk : 1 ≤ k ∧ k ≤ 10000000) :
    Fn Tryz.prog w0 35 #[.slice (ad bo) xs.length c, .int .i64 k] (oC 9 bo (xs.flatMap tsC) sp ++ H) fun v H' => v = .int .i64 (k + xs.length) ∧ H' = oC 9 bo ((mTs k xs.length).flatMap tsC) sp ++ H := by
  have hml : (mTs k xs.length).length = xs.length := mTs_len _ _
  refine enter2 Tryz.func35 rfl rfl Tryz.ntmps35 rfl ?_
  repeat' (first | (apply gCall; apply L_call rfl rfl rfl rfl rfl; (· first | exact markText_c om); rintro _ _ ⟨rfl, rfl⟩) | (apply gL; first | refine L_nil ?_ | (apply gSt; first | refine sR ?_ | refine sB ?_ | refine s1 ?_ | refine sW ?_ | refine sN ?_) | (apply gBs; first | (refine L_bs0 rfl rfl rfl rfl (fun _ => ?_)) | (refine L_bs1 rfl rfl rfl rfl rfl rfl rfl (fun _ => ?_))) | refine kV ?_ | (apply L_val rfl rfl rfl; (· first | (apply gBin; first | fail | exact v_nes rfl rfl | exact v_addz rfl rfl (by simp only [List.length_cons, List.length_nil]; omega) | exact v_addz (xs := [109]) rfl rfl (by simp only [List.length_cons, List.length_nil]; omega)) | fail | exact v_bts (xs := [IntKind.u8.wrap (48 + n % 10)]) (sp := []) rfl at_))) | (apply gW; first | refine W_seq ?_ | refine W_region ?_ | refine W_ret ?_ | refine W_skip ?_ | refine W_block ?_ | refine W_exit ?_ | refine W_cond1 rfl ?_ | refine W_cond0 rfl ?_ | refine cW (fun h => ?_) fun h => ?_) | (first | refine seqR.normal ?_ | refine seqR.ret ?_ | refine seqR.exit ?_ | refine blockR.normal ?_ | refine blockR.ret ?_ | refine blockR.here ?_ | refine blockR.exit rfl ?_ | refine loopR.ret ?_ | refine loopR.exit ?_) | fail)
  apply W_loopX (α := Int) (fun y => [(0, .slice (ad bo) xs.length c), (1, .int .i64 (k + y)), (5, .int .i64 y)]) (fun y => oC 9 bo ((mix y.toNat (mTs k xs.length) xs).flatMap tsC) sp ++ H) (fun y => 0 ≤ y ∧ y ≤ (xs.length : Int)) (fun y => ((xs.length : Int) - y).toNat) 0
  · exact ⟨rfl, lk (by omega), rfl, trivial⟩
  · rw [show (0 : Int).toNat = 0 from rfl, mix_0]; exact Cv.refl
  · exact ⟨by omega, by omega⟩
  rintro i ⟨hi, hi2⟩
  by_cases hlt : i < (xs.length : Int)
  · rcases bo with _ | b
    · rw [hb rfl] at hlt; simp at hlt; omega
    obtain ⟨x, ex⟩ : ∃ x, xs[i.toNat]? = some x := ⟨xs[i.toNat]'(by omega), List.getElem?_eq_getElem _⟩
    have hg : (mix i.toNat (mTs k xs.length) xs)[i.toNat]? = some x := by rw [mix_get hml (by omega)]; exact ex
    have hm := mTs_get xs.length k i.toNat (by omega)
    rw [Int.toNat_of_nonneg hi] at hm
    simp only [ad_s]
    show W _ _ _ _ _ ((b, .cells (rowF tsC (mix i.toNat (mTs k xs.length) xs) sp) 9 (0, 0)) :: H) _
    repeat' (first | exact absurd hlt h | (apply gSt; apply L_stF (f := tsC) (j := 0) (a' := mTx (k + i)) tsLen rfl rfl rfl rfl rfl rfl hg (by decide) rfl; (· exact up_)) | first | (apply gCall; apply L_call rfl rfl rfl rfl rfl; (· first | exact markText_c om); rintro _ _ ⟨rfl, rfl⟩) | (apply gL; first | refine L_nil ?_ | (apply gSt; first | refine sR ?_ | refine sB ?_ | refine s1 ?_ | refine sW ?_ | refine sN ?_) | (apply gBs; first | (refine L_bs0 rfl rfl rfl rfl (fun _ => ?_)) | (refine L_bs1 rfl rfl rfl rfl rfl rfl rfl (fun _ => ?_))) | refine kV ?_ | (apply L_val rfl rfl rfl; (· first | (apply gBin; first | fail | exact v_nes rfl rfl | exact v_addz rfl rfl (by simp only [List.length_cons, List.length_nil]; omega) | exact v_addz (xs := [109]) rfl rfl (by simp only [List.length_cons, List.length_nil]; omega)) | fail | exact v_bts (xs := [IntKind.u8.wrap (48 + n % 10)]) (sp := []) rfl at_))) | (apply gW; first | refine W_seq ?_ | refine W_region ?_ | refine W_ret ?_ | refine W_skip ?_ | refine W_block ?_ | refine W_exit ?_ | refine W_cond1 rfl ?_ | refine W_cond0 rfl ?_ | refine cW (fun h => ?_) fun h => ?_) | (first | refine seqR.normal ?_ | refine seqR.ret ?_ | refine seqR.exit ?_ | refine blockR.normal ?_ | refine blockR.ret ?_ | refine blockR.here ?_ | refine blockR.exit rfl ?_ | refine loopR.ret ?_ | refine loopR.exit ?_) | fail)
    rw [mix_set hml hm]
    apply loopR.mk (i + 1)
    · exact ⟨rfl, lk (by omega), rfl, trivial⟩
    · rw [show (i + 1).toNat = i.toNat + 1 by omega]; exact Cv.refl
    · exact ⟨by omega, by omega⟩
    · omega
  · repeat' (first | exact absurd h hlt | first | (apply gCall; apply L_call rfl rfl rfl rfl rfl; (· first | exact markText_c om); rintro _ _ ⟨rfl, rfl⟩) | (apply gL; first | refine L_nil ?_ | (apply gSt; first | refine sR ?_ | refine sB ?_ | refine s1 ?_ | refine sW ?_ | refine sN ?_) | (apply gBs; first | (refine L_bs0 rfl rfl rfl rfl (fun _ => ?_)) | (refine L_bs1 rfl rfl rfl rfl rfl rfl rfl (fun _ => ?_))) | refine kV ?_ | (apply L_val rfl rfl rfl; (· first | (apply gBin; first | fail | exact v_nes rfl rfl | exact v_addz rfl rfl (by simp only [List.length_cons, List.length_nil]; omega) | exact v_addz (xs := [109]) rfl rfl (by simp only [List.length_cons, List.length_nil]; omega)) | fail | exact v_bts (xs := [IntKind.u8.wrap (48 + n % 10)]) (sp := []) rfl at_))) | (apply gW; first | refine W_seq ?_ | refine W_region ?_ | refine W_ret ?_ | refine W_skip ?_ | refine W_block ?_ | refine W_exit ?_ | refine W_cond1 rfl ?_ | refine W_cond0 rfl ?_ | refine cW (fun h => ?_) fun h => ?_) | (first | refine seqR.normal ?_ | refine seqR.ret ?_ | refine seqR.exit ?_ | refine blockR.normal ?_ | refine blockR.ret ?_ | refine blockR.here ?_ | refine blockR.exit rfl ?_ | refine loopR.ret ?_ | refine loopR.exit ?_) | fail)
    rw [mix_all hml (by omega)]
    refine retR.ret _ _ (ret1 rfl rfl) Cv.refl ⟨?_, rfl⟩
    rw [show i = (xs.length : Int) by omega]
end Go.Proofs.YtfmhlieaodbgiaaGreat.Eng
