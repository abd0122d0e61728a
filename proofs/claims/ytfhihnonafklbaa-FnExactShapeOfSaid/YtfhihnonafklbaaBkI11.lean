/- Plain: what a right arena's objects say of its tables, for the implementation. -/
import Derived.Test.YtfhihnonafklbaaBkI8
import Derived.Test.YtfhihnonafklbaaBkS10
namespace Go.Proofs.Ytfhihnonafklbaa.Eng
open Go Go.RowKit Go.Proofs.Ytfhihnonafklbaa.Sl Go.Proofs.Ytfhihnonafklbaa.Ar Go.Proofs.Ytfhihnonafklbaa.Base
set_option linter.unusedVariables false
set_option linter.unusedSimpArgs false
variable {A : Ar}
theorem findFrom_true {b n t x : Int} : ∀ (k : Nat) (i : Int), (A.findFrom b n t x k i).2 = true ∨ (A.findFrom b n t x k i).1 = -1 ∨ A.keyT b (A.findFrom b n t x k i).1 = 0 := by
  intro k
  induction k with
  | zero => intro i; exact .inr (.inl rfl)
  | succ k ih =>
    intro i
    rw [Ar.findFrom]
    split
    · rename_i h; exact .inr (.inr h)
    · split
      · exact .inl rfl
      · exact ih _
theorem find_true {b n t x i : Int} (h : (A.find b n t x).1 = i) (h0 : 0 ≤ i) (hk : rvT A.ws (b + 1 + 4 * i) ≠ 0) : A.find b n t x = (i, true) := by
  have : (A.find b n t x).2 = true ∨ (A.find b n t x).1 = -1 ∨ A.keyT b (A.find b n t x).1 = 0 := by
    unfold Ar.find; split
    · exact .inr (.inl rfl)
    · exact findFrom_true _ _
  rcases this with e | e | e
  · exact Prod.ext h e
  · omega
  · rw [h] at e; exact absurd e hk
theorem tab_pre2 {m : List Int} (hM : MarkP A m) (hO : ObjP A m) (hPl : ∀ n : Int, 0 ≤ n → n < A.ws.length → g m n ≠ 0 → PlaceP A n) {p : Int} (hp : 0 ≤ p) (hp2 : p < A.ws.length) (hi : g m p = 1 ∨ g m p = 2) (hk : rk (g A.ws p) = 2) :
    rv A.ws (p + 2) = true ∧
    (rvT A.ws (p + 2) = 8 → PlaceP A (rvN A.ws (p + 2)) ∧ 1 ≤ A.entries (A.where_ (rvN A.ws (p + 2))) ∧
      ∀ i : Int, 0 ≤ i → i < A.entries (A.where_ (rvN A.ws (p + 2))) → rv A.ws (A.where_ (rvN A.ws (p + 2)) + 1 + 4 * i) = true ∧ rvT A.ws (A.where_ (rvN A.ws (p + 2)) + 1 + 4 * i) ≠ 8 ∧ rvT A.ws (A.where_ (rvN A.ws (p + 2)) + 1 + 4 * i) ≠ 9 ∧
        (kd (rvT A.ws (A.where_ (rvN A.ws (p + 2)) + 1 + 4 * i)) ≠ 0 → PlaceP A (rvN A.ws (A.where_ (rvN A.ws (p + 2)) + 1 + 4 * i)))) := by
  have hok := hM.ok p hp hp2 hi
  have hs := rsR' hok.2.1
  have hz : ∀ q : Int, hOk (g A.ws q) = true → SizeP (rk (g A.ws q)) (rs (g A.ws q)) := fun q h => by
    have hr := rsR' h
    rw [hr.2.2.1, hr.2.2.2.1]; exact (of_decide_eq_true (show decide (HeadP _ _ _) = true from h)).1
  have hz1 := hz p hok.2.1
  have h3 : rs (g A.ws p) = 3 := by unfold SizeP at hz1; omega
  have hsl : A.slotOk m (rk (g A.ws p)) (A.fromOf m p) (p + 2) = true := obj_slot (hO p hp hp2 hi) (by
    rw [hk, h3]
    exact slots_mem (by simp [from_]) (by simp [from_]) (by omega) (by simp [from_]))
  have hplc : ∀ {k fr q : Int}, A.slotOk m k fr q = true → kd (rvT A.ws q) ≠ 0 → PlaceP A (rvN A.ws q) := by
    intro k fr q h hkd
    have hl := leads_of (slotOk_iff.1 h).2.1 hkd
    rw [hM.len] at hl
    exact hPl _ ((rvP A.ws q).2 hkd) hl.1 hl.2.1
  refine ⟨(slotOk_iff.1 hsl).1, fun h8 => ?_⟩
  have hkd : kd (rvT A.ws (p + 2)) ≠ 0 := by rw [h8]; decide
  have hl := leads_of (slotOk_iff.1 hsl).2.1 hkd
  rw [hM.len] at hl
  have h0 := (rvP A.ws (p + 2)).2 hkd
  have hw := hM.wh _ h0 hl.1 hl.2.1
  have h6 : rk (g A.ws (A.where_ (rvN A.ws (p + 2)))) = 3 := by rw [hl.2.2, h8]; rfl
  have h7 := hM.ok _ hw.1 hw.2.1 hw.2.2
  have hz2 := hz _ h7.2.1
  have he : A.entries (A.where_ (rvN A.ws (p + 2))) = rs (g A.ws (A.where_ (rvN A.ws (p + 2)))) / 4 := rfl
  refine ⟨hplc hsl hkd, by unfold SizeP at hz2; omega, fun i hi1 hi2 => ?_⟩
  have := obj_slot (q := 1 + 4 * i) (hO _ hw.1 hw.2.1 hw.2.2) (by
    rw [h6]
    have : from_ 3 (rs (g A.ws (A.where_ (rvN A.ws (p + 2))))) = 1 := by simp [from_]
    have hr := rsR' h7.2.1
    exact slots_mem (by omega) (by omega) (by omega) (by omega))
  have e : A.where_ (rvN A.ws (p + 2)) + 1 + 4 * i = A.where_ (rvN A.ws (p + 2)) + (1 + 4 * i) := by omega
  rw [e]
  have c := slotOk_iff.1 this
  exact ⟨c.1, fun d => c.2.2.1 ⟨d, by omega⟩, fun d => c.2.2.2.1 ⟨d, h6⟩, hplc this⟩
/-- where the implementation finds an object -/
theorem placeP_of (hn : A.numbersP) {m : List Int} (hI : MI A m) (ho : (∃ q : Int, 0 ≤ q ∧ (g m q = 2 ∨ g m q = 3)) → A.old ≤ (2 - A.to) * A.semi) {n : Int} (h0 : 0 ≤ n) (hm : g m n ≠ 0) : PlaceP A n := by
  have hh := (numF hn).2.2.2.2.2.2.1
  have ht := hn.2.2.2.2.2.1.2
  unfold PlaceP inB
  have hnf : hOk (g A.ws n) = true → A.where_ n = n := fun h => by unfold Ar.where_; rw [if_neg (by rw [hOk_fw h]; decide)]
  rcases hI.of n h0 with e | e | e | e
  · exact absurd e hm
  · have := hI.one n h0 e
    rw [hnf this.2.2.1]; split <;> rfl
  · have := hI.two n h0 e
    rw [hnf this.2.2.1]; split <;> rfl
  · have h3 := hI.three n h0 e
    have ho2 := ho ⟨n, h0, .inr e⟩
    rw [if_pos]
    refine decide_eq_true ⟨h3.1, ?_⟩
    have : (1 - A.to + 1) * A.semi = (2 - A.to) * A.semi := by congr 1; omega
    omega
end Go.Proofs.Ytfhihnonafklbaa.Eng
namespace Go.Proofs.Ytfhihnonafklbaa.Eng
open Go Go.RowKit Go.Proofs.Ytfhihnonafklbaa.Sl Go.Proofs.Ytfhihnonafklbaa.Ar Go.Proofs.Ytfhihnonafklbaa.Base
set_option linter.unusedVariables false
set_option linter.unusedSimpArgs false
set_option maxRecDepth 10000
variable {w0 : World} {H : HL} {C : Cn} {A : Ar} {ba : Nat}
set_option maxHeartbeats 4000000 in
theorem tableOk_c {bv bi bs bb : Nat} {m kb : List Int} {led : List Bool} {p : Int} (hP : At H ba (aObj C A)) (hA : At H C.bw (wObj C A)) (hw : Wf A.ws) (hm : A.ws.length ≤ 8000) (hh : A.to = 0 ∨ A.to = 1) (hs : 256 ≤ A.semi ∧ A.semi ≤ 4000)
    (hM : MarkP A m) (hO : ObjP A m) (hPl : ∀ n : Int, 0 ≤ n → n < A.ws.length → g m n ≠ 0 → PlaceP A n) (hp : 0 ≤ p) (hp2 : p < A.ws.length) (hi : g m p = 1 ∨ g m p = 2) (hk : rk (g A.ws p) = 2) (hT : A.tabTag p = true) (hl : led.length = A.ws.length) (hL : LedK (A.ws.length : Int) led kb) :
    Fn Try.prog w0 74 #[.pointer (some ⟨bv, 0, none⟩), .int .i64 p] ((bv, svObj ba bi A.ws.length bs bb) :: (bb, sObj kb) :: H) fun v H' => v = .bool (A.tab p led).isSome ∧ ∃ kb', H' = (bv, svObj ba bi A.ws.length bs bb) :: (bb, sObj kb') :: H ∧ ∀ l, A.tab p led = some l → l.length = A.ws.length ∧ LedK (A.ws.length : Int) l kb' := by
  have pre := tab_pre hM hO hp hp2 hi hk
  have pre2 := tab_pre2 hM hO hPl hp hp2 hi hk
  have hT2 : rvT A.ws (p + 2) = 0 ∨ rvT A.ws (p + 2) = 8 := of_decide_eq_true hT hk
  obtain ⟨q1, q2, q3⟩ := pre
  obtain ⟨hrv, q4⟩ := pre2
  have hw1 := hw (p + 1)
  have z1 := sg0 hw1.1 hw1.2
  refine enter2 Try.func74 rfl rfl Try.ntmps74 rfl ?_
  repeat' (fail_if_success apply gAt 5); (first | ((first | (apply gCall; apply L_call rfl rfl rfl rfl rfl) | (apply gQC; apply Q_call rfl rfl rfl rfl rfl)); (· first | exact head_c at_ at_ hw om om | exact val2_c at_ at_ hw hrv om om om | exact val2_c at_ at_ hw (hKe _ om om).1 om om om | exact place2_c at_ at_ hw hh hs om om hPN | exact entry_c at_ at_ hw hm hh hs om rfl om om (fun i a b => (hKe i a b).1) (fun i a b => hKy i a b) (fun i a b => (hKe i a b).2.2.2) (hKy _ om om) (by assumption) (rvV _ _) (hKe _ om om).2.1 (hKe _ om om).2.2.1 (hKe _ om om).2.2.2); try rintro _ _ ⟨rfl, rfl⟩) | (apply gL; first | refine L_nil ?_ | refine yS ?_ | refine yA fun _ => ?_ | (apply gSt; first | refine sR ?_ | refine sB ?_ | refine s1 ?_ | refine sW ?_ | refine sN ?_) | (apply gMu; apply L_mapset rfl rfl rfl rfl rfl rfl; (· exact up_)) | refine kV ?_ | ((fail_if_success (refine L_known rfl ?_)); refine yW (fun h => ?_) fun h => ?_)) | (apply gW; first | refine W_seq ?_ | refine W_region ?_ | refine W_ret ?_ | refine W_skip ?_ | refine W_block ?_ | refine W_exit ?_ | refine W_cond1 rfl ?_ | refine W_cond0 rfl ?_ | refine cW (fun h => ?_) fun h => ?_ | refine wQ ?_) | (first | refine seqR.normal ?_ | refine seqR.ret ?_ | refine seqR.exit ?_ | refine blockR.normal ?_ | refine blockR.ret ?_ | refine blockR.here ?_ | refine blockR.exit rfl ?_ | refine loopR.ret ?_ | refine loopR.exit ?_) | (apply gQ; first | refine Q_nil ?_ | refine Q_skip rfl rfl rfl ?_ | refine kQ ?_ | ((fail_if_success (refine Q_known rfl ?_)); refine zW (fun h => ?_) fun h => ?_)) | fail)
  · have e := tab0 (A := A) (led := led) h
    refine retR.ret _ _ (ret1 rfl rfl) cvt_ ⟨?_, kb, rfl, fun l h' => by rw [e] at h'; split at h' <;> first | (cases h'; exact ⟨hl, hL⟩) | cases h'⟩
    rw [e, isSomeIf]
    exact bx (by omega)
  have h8 : rvT A.ws (p + 2) = 8 := by omega
  obtain ⟨⟨t1, t2⟩, t3, t4⟩ := q2 h8
  have hKy := q3 h8
  obtain ⟨hPN, hn1, hKe⟩ := q4 h8
  clear q2 q3 q4
  have hr := rsR (g A.ws (A.where_ (rvN A.ws (p + 2))))
  repeat' (first | ((first | (apply gCall; apply L_call rfl rfl rfl rfl rfl) | (apply gQC; apply Q_call rfl rfl rfl rfl rfl)); (· first | exact head_c at_ at_ hw om om | exact val2_c at_ at_ hw hrv om om om | exact val2_c at_ at_ hw (hKe _ om om).1 om om om | exact place2_c at_ at_ hw hh hs om om hPN | exact entry_c at_ at_ hw hm hh hs om rfl om om (fun i a b => (hKe i a b).1) (fun i a b => hKy i a b) (fun i a b => (hKe i a b).2.2.2) (hKy _ om om) (by assumption) (rvV _ _) (hKe _ om om).2.1 (hKe _ om om).2.2.1 (hKe _ om om).2.2.2); try rintro _ _ ⟨rfl, rfl⟩) | (apply gL; first | refine L_nil ?_ | refine yS ?_ | refine yA fun _ => ?_ | (apply gSt; first | refine sR ?_ | refine sB ?_ | refine s1 ?_ | refine sW ?_ | refine sN ?_) | (apply gMu; apply L_mapset rfl rfl rfl rfl rfl rfl; (· exact up_)) | refine kV ?_ | ((fail_if_success (refine L_known rfl ?_)); refine yW (fun h => ?_) fun h => ?_)) | (apply gW; first | refine W_seq ?_ | refine W_region ?_ | refine W_ret ?_ | refine W_skip ?_ | refine W_block ?_ | refine W_exit ?_ | refine W_cond1 rfl ?_ | refine W_cond0 rfl ?_ | refine cW (fun h => ?_) fun h => ?_ | refine wQ ?_) | (first | refine seqR.normal ?_ | refine seqR.ret ?_ | refine seqR.exit ?_ | refine blockR.normal ?_ | refine blockR.ret ?_ | refine blockR.here ?_ | refine blockR.exit rfl ?_ | refine loopR.ret ?_ | refine loopR.exit ?_) | (apply gQ; first | refine Q_nil ?_ | refine Q_skip rfl rfl rfl ?_ | refine kQ ?_ | ((fail_if_success (refine Q_known rfl ?_)); refine zW (fun h => ?_) fun h => ?_)) | fail)
  all_goals (generalize hG : A.where_ (rvN A.ws (p + 2)) = b at *)
  · have hld : led.getD b.toNat false = true := (hL b t3 (by have := (rsR (g A.ws b)).1; omega)).2 h
    have e := tabL hG h8 hld
    exact retR.ret _ _ (ret1 rfl rfl) cvt_ ⟨by rw [e]; rfl, kb, rfl, fun l h' => by rw [e] at h'; cases h'⟩
  have he : A.entries b = rs (g A.ws b) / 4 := rfl
  have hld : led.getD b.toNat false = false := by
    cases e : led.getD b.toNat false with
    | false => rfl
    | true => exact absurd ((hL b t3 (by omega)).1 e) h
  have e := tabE hG h8 hld
  have hl2 : (led.set b.toNat true).length = A.ws.length := by simp [hl]
  have hL2 : LedK (A.ws.length : Int) (led.set b.toNat true) (putS kb b) := by
    have := led_set (led := led) (ks := kb) (k := b) (by rw [hl]; exact hL) t3 (by omega)
    rwa [hl] at this
  have hu := used_r (A := A) (b := b) (by omega)
  apply W_loopX (α := Int × Int) (fun y => [(0, .pointer (some ⟨bv, 0, none⟩)), (1, .int .i64 p), (5, .int .u64 (g A.ws (p + 1))), (7, .int .i64 b), (8, .int .i64 y.2), (9, .int .i64 (A.entries b)), (62, .int .i64 (A.entries b)), (63, .int .i64 y.1)]) (fun _ => (bv, svObj ba bi A.ws.length bs bb) :: (bb, sObj (putS kb b)) :: H)
    (fun y => (0 ≤ y.1 ∧ y.1 ≤ A.entries b ∧ 0 ≤ y.2 ∧ y.2 ≤ y.1) ∧ (∃ f, A.usedFrom b (A.entries b) f y.1 y.2 = A.used b ∧ A.entries b - y.1 < (f : Int)) ∧ ∀ j, 0 ≤ j → j < y.1 → rvT A.ws (b + 1 + 4 * j) = 0 ∨ A.find b (A.entries b) (rvT A.ws (b + 1 + 4 * j)) (rvN A.ws (b + 1 + 4 * j)) = (j, true)) (fun y => (A.entries b - y.1).toNat) (0, 0)
  · exact sub_
  · exact cvt_
  · exact ⟨⟨by dsimp only; omega, by dsimp only; omega, by dsimp only; omega, by dsimp only; omega⟩, ⟨_, rfl, by dsimp only; omega⟩, fun j h1 h2 => by dsimp only at h2; omega⟩
  rintro ⟨i, u⟩ ⟨⟨hi1, hi2, hu1, hu2⟩, ⟨f, hf, hf2⟩, hi3⟩
  dsimp only at hi1 hi2 hu1 hu2 hf hf2 hi3 ⊢
  have hTg : i < A.entries b → rvT A.ws (b + 1 + 4 * i) = g A.ws (b + 1 + 4 * i) := fun h => by unfold rvT; rw [if_pos (hKe i hi1 h).1]
  repeat' (first | ((first | (apply gCall; apply L_call rfl rfl rfl rfl rfl) | (apply gQC; apply Q_call rfl rfl rfl rfl rfl)); (· first | exact head_c at_ at_ hw om om | exact val2_c at_ at_ hw hrv om om om | exact val2_c at_ at_ hw (hKe _ om om).1 om om om | exact place2_c at_ at_ hw hh hs om om hPN | exact entry_c at_ at_ hw hm hh hs om rfl om om (fun i a b => (hKe i a b).1) (fun i a b => hKy i a b) (fun i a b => (hKe i a b).2.2.2) (hKy _ om om) (by assumption) (rvV _ _) (hKe _ om om).2.1 (hKe _ om om).2.2.1 (hKe _ om om).2.2.2); try rintro _ _ ⟨rfl, rfl⟩) | (apply gL; first | refine L_nil ?_ | refine yS ?_ | refine yA fun _ => ?_ | (apply gSt; first | refine sR ?_ | refine sB ?_ | refine s1 ?_ | refine sW ?_ | refine sN ?_) | (apply gMu; apply L_mapset rfl rfl rfl rfl rfl rfl; (· exact up_)) | refine kV ?_ | ((fail_if_success (refine L_known rfl ?_)); refine yW (fun h => ?_) fun h => ?_)) | (apply gW; first | refine W_seq ?_ | refine W_region ?_ | refine W_ret ?_ | refine W_skip ?_ | refine W_block ?_ | refine W_exit ?_ | refine W_cond1 rfl ?_ | refine W_cond0 rfl ?_ | refine cW (fun h => ?_) fun h => ?_ | refine wQ ?_) | (first | refine seqR.normal ?_ | refine seqR.ret ?_ | refine seqR.exit ?_ | refine blockR.normal ?_ | refine blockR.ret ?_ | refine blockR.here ?_ | refine blockR.exit rfl ?_ | refine loopR.ret ?_ | refine loopR.exit ?_) | (apply gQ; first | refine Q_nil ?_ | refine Q_skip rfl rfl rfl ?_ | refine kQ ?_ | ((fail_if_success (refine Q_known rfl ?_)); refine zW (fun h => ?_) fun h => ?_)) | fail)
  · obtain ⟨f', rfl, e2⟩ := used_step (A := A) (u := u) (show i < A.entries b by assumption) hf2
    rw [e2, if_neg (by rw [← hTg (by assumption)]; omega)] at hf
    apply loopR.mk (i + 1, u)
    · exact sub_
    · exact cvt_
    · exact ⟨⟨by dsimp only; omega, by dsimp only; omega, by dsimp only; omega, by dsimp only; omega⟩, ⟨f', hf, by dsimp only; omega⟩, fun j h1 h2 => by
        by_cases hj : j = i
        · subst hj; exact .inl h
        · exact hi3 j h1 (by dsimp only at h2; omega)⟩
    · dsimp only; omega
  · refine retR.ret _ _ (ret1 rfl rfl) cvt_ ⟨?_, _, rfl, fun l h' => by rw [e] at h'; split at h' <;> first | (cases h'; exact ⟨hl2, hL2⟩) | cases h'⟩
    rw [e, if_neg (fun c => by
      rcases keysOk_iff.1 c.1 i hi1 (by assumption) with c1 | c1
      · exact absurd c1 (by assumption)
      · exact h (congrArg Prod.fst c1))]; rfl
  · obtain ⟨f', rfl, e2⟩ := used_step (A := A) (u := u) (show i < A.entries b by assumption) hf2
    rw [e2, if_pos (by rw [← hTg (by assumption)]; assumption)] at hf
    apply loopR.mk (i + 1, u + 1)
    · exact sub_
    · exact cvt_
    · exact ⟨⟨by dsimp only; omega, by dsimp only; omega, by dsimp only; omega, by dsimp only; omega⟩, ⟨f', hf, by dsimp only; omega⟩, fun j h1 h2 => by
        by_cases hj : j = i
        · subst hj; exact .inr (find_true h hi1 (by assumption))
        · exact hi3 j h1 (by dsimp only at h2; omega)⟩
    · dsimp only; omega
  · rw [used_end (by assumption)] at hf
    have hk := keysOk_iff.2 (fun j h1 h2 => hi3 j h1 (by omega))
    have s1 := sgs hw1.1 (by omega)
    refine retR.ret _ _ (ret1 rfl rfl) cvt_ ⟨?_, _, rfl, fun l h' => by rw [e] at h'; split at h' <;> first | (cases h'; exact ⟨hl2, hL2⟩) | cases h'⟩
    rw [e, isSomeIf]
    exact bx ⟨fun h9 => ⟨hk, by omega, by omega⟩, fun h9 => by omega⟩
  · rw [used_end (by assumption)] at hf
    refine retR.ret _ _ (ret1 rfl rfl) cvt_ ⟨?_, _, rfl, fun l h' => by rw [e] at h'; split at h' <;> first | (cases h'; exact ⟨hl2, hL2⟩) | cases h'⟩
    rw [e, if_neg (fun c => by
      have c2 := c.2.1
      have : g A.ws (p + 1) = sg (g A.ws (p + 1)) := by
        unfold sg at c2 ⊢; split at c2 <;> (first | omega | (rw [if_pos (by omega)]))
      omega)]; rfl
end Go.Proofs.Ytfhihnonafklbaa.Eng
namespace Go.Proofs.Ytfhihnonafklbaa.Ar
def Ar.rootOk (A : Ar) (m : List Int) (t n : Int) : Bool := valOk t n && !(decide (t = 8)) && A.leads m t n 1
end Go.Proofs.Ytfhihnonafklbaa.Ar
namespace Go.Proofs.Ytfhihnonafklbaa.Eng
open Go Go.RowKit Go.Proofs.Ytfhihnonafklbaa.Sl Go.Proofs.Ytfhihnonafklbaa.Ar Go.Proofs.Ytfhihnonafklbaa.Base
set_option linter.unusedVariables false
set_option linter.unusedSimpArgs false
set_option maxRecDepth 10000
variable {w0 : World} {H : HL} {C : Cn} {A : Ar} {ba : Nat}
abbrev pObj (bv : Nat) : Obj := .cells #[.pointer (some ⟨bv, 0, none⟩)] 82 (0, 0)
theorem closure_c {b1 bv bi bs bb : Nat} {m : List Int} {t n : Int} (h1 : At H b1 (pObj bv)) (hV : At H bv (svObj ba bi A.ws.length bs bb)) (hB : At H bi (uObj m)) (hP : At H ba (aObj C A)) (hA : At H C.bw (wObj C A)) (hw : Wf A.ws) (hm : A.ws.length ≤ 8000) (hh : A.to = 0 ∨ A.to = 1) (hs : 256 ≤ A.semi ∧ A.semi ≤ 4000)
    (hM : MarkP A m) (hof : ∀ n : Int, g m n = 0 ∨ g m n = 1 ∨ g m n = 2 ∨ g m n = 3) (hPl : ∀ n : Int, 0 ≤ n → n < A.ws.length → g m n ≠ 0 → PlaceP A n) :
    Fn Try.prog w0 76 #[.agg #[.int .i64 t, .int .i64 n], .pointer (some ⟨b1, 0, none⟩)] H fun v H' => v = .bool (!(A.rootOk m t n)) ∧ H' = H := by
  have hWh : ∀ n : Int, 0 ≤ n → n < A.ws.length → g m n ≠ 0 → PlaceP A n ∧ 0 ≤ A.where_ n ∧ A.where_ n < A.ws.length := fun n h1 h2 h3 => ⟨hPl n h1 h2 h3, (hM.wh n h1 h2 h3).1, (hM.wh n h1 h2 h3).2.1⟩
  refine enter2 Try.func76 rfl rfl Try.ntmps76 rfl ?_
  repeat' (first | (apply gCall; apply L_call rfl rfl rfl rfl rfl; (· first | exact implValOk_c _ _ | exact leads_c (fr := 1) at_ at_ at_ at_ hw hm hM.len hh hs (fun h => valP_n (by assumption) h) (fun h1 h2 h3 => hWh _ (valP_n (by assumption) h1) h2 h3) (hof _) (.inl ⟨rfl, rfl⟩) | exact objectOk_c at_ at_ at_ at_ hw hm hc hh hs hM hof hPl om om om | exact head_c at_ at_ hw om om); rintro _ _ ⟨rfl, rfl⟩) | (apply gL; first | refine L_nil ?_ | refine yS ?_ | refine yX fun _ => ?_ | refine kV ?_ | (apply L_val rfl rfl rfl; (· first | (apply gBin; first | fail ) | fail | exact v_func rfl rfl)) | ((fail_if_success (refine L_known rfl ?_)); refine yW (fun h => ?_) fun h => ?_)) | (apply gW; first | refine W_seq ?_ | refine W_region ?_ | refine W_ret ?_ | refine W_skip ?_ | refine W_block ?_ | refine W_exit ?_ | refine W_cond1 rfl ?_ | refine W_cond0 rfl ?_ | refine cW (fun h => ?_) fun h => ?_) | (first | refine seqR.normal ?_ | refine seqR.ret ?_ | refine seqR.exit ?_ | refine blockR.normal ?_ | refine blockR.ret ?_ | refine blockR.here ?_ | refine blockR.exit rfl ?_ | refine loopR.ret ?_ | refine loopR.exit ?_ | refine midA.ret ?_ | refine midA.exit ?_) | fail)
  all_goals refine retR.ret _ _ (ret1 rfl rfl) cv_ ⟨?_, rfl⟩
  · unfold Ar.rootOk; rw [show valOk t n = false from decide_eq_false h]; rfl
  · unfold Ar.rootOk; rw [h]; simp
  · unfold Ar.rootOk; rw [show valOk t n = true from decide_eq_true (by assumption), decide_eq_false h]; simp
theorem rootsAll {m : List Int} : A.rootsOk m = true ↔ ∀ i : Int, 0 ≤ i → i < (A.vs.length : Int) → A.rootOk m (A.vs.getD i.toNat (0, 0)).1 (A.vs.getD i.toNat (0, 0)).2 = true := by
  unfold Ar.rootsOk
  rw [List.all_eq_true]
  constructor
  · intro h i hi hi2
    have hl : i.toNat < A.vs.length := by omega
    have := h (A.vs[i.toNat]) (List.getElem_mem hl)
    rw [List.getD_eq_getElem?_getD, List.getElem?_eq_getElem hl]; exact this
  · intro h v hv
    obtain ⟨n, hn, rfl⟩ := List.getElem_of_mem hv
    have := h (n : Int) (by omega) (by omega)
    rw [Int.toNat_natCast, List.getD_eq_getElem?_getD, List.getElem?_eq_getElem hn] at this; exact this
theorem indexFunc_c {b1 bv bi bs bb : Nat} {m : List Int} (h1 : At H b1 (pObj bv)) (hV : At H bv (svObj ba bi A.ws.length bs bb)) (hB : At H bi (uObj m)) (hP : At H ba (aObj C A)) (hA : At H C.bw (wObj C A)) (hR : At H C.br (rObj C A)) (hw : Wf A.ws) (hm : A.ws.length ≤ 8000) (hx : A.vs.length ≤ 1048576) (hh : A.to = 0 ∨ A.to = 1) (hs : 256 ≤ A.semi ∧ A.semi ≤ 4000)
    (hM : MarkP A m) (hof : ∀ n : Int, g m n = 0 ∨ g m n = 1 ∨ g m n = 2 ∨ g m n = 3) (hPl : ∀ n : Int, 0 ≤ n → n < A.ws.length → g m n ≠ 0 → PlaceP A n) :
    Fn Try.prog w0 92 #[.slice (some ⟨C.br, 0, none⟩) A.vs.length C.rc, .func (.func 76) #[] #[.pointer (some ⟨b1, 0, none⟩)]] H fun v H' => (∃ r : Int, v = .int .i64 r ∧ A.rootsOk m = decide (r < 0)) ∧ H' = H := by
  refine enter2 Try.func92 rfl rfl Try.ntmps92 rfl ?_
  repeat' (first | (apply gCall; apply L_call rfl rfl rfl rfl rfl; (· first | exact implValOk_c _ _ | exact leads_c (fr := 1) at_ at_ at_ at_ hw hm hM.len hh hs (fun h => valP_n (by assumption) h) (fun h1 h2 h3 => hWh _ (valP_n (by assumption) h1) h2 h3) (hof _) (.inl ⟨rfl, rfl⟩) | exact objectOk_c at_ at_ at_ at_ hw hm hc hh hs hM hof hPl om om om | exact head_c at_ at_ hw om om); rintro _ _ ⟨rfl, rfl⟩) | (apply gL; first | refine L_nil ?_ | refine yS ?_ | refine yX fun _ => ?_ | refine kV ?_ | (apply L_val rfl rfl rfl; (· first | (apply gBin; first | fail ) | fail | exact v_func rfl rfl)) | ((fail_if_success (refine L_known rfl ?_)); refine yW (fun h => ?_) fun h => ?_)) | (apply gW; first | refine W_seq ?_ | refine W_region ?_ | refine W_ret ?_ | refine W_skip ?_ | refine W_block ?_ | refine W_exit ?_ | refine W_cond1 rfl ?_ | refine W_cond0 rfl ?_ | refine cW (fun h => ?_) fun h => ?_) | (first | refine seqR.normal ?_ | refine seqR.ret ?_ | refine seqR.exit ?_ | refine blockR.normal ?_ | refine blockR.ret ?_ | refine blockR.here ?_ | refine blockR.exit rfl ?_ | refine loopR.ret ?_ | refine loopR.exit ?_ | refine midA.ret ?_ | refine midA.exit ?_) | fail)
  apply W_loopX (α := Int) (fun y => [(0, .slice (some ⟨C.br, 0, none⟩) A.vs.length C.rc), (1, .func (.func 76) #[] #[.pointer (some ⟨b1, 0, none⟩)]), (7, .int .i64 (A.vs.length : Int)), (8, .int .i64 y)]) (fun _ => H)
    (fun y => 0 ≤ y ∧ y ≤ A.vs.length ∧ ∀ j : Int, 0 ≤ j → j < y → A.rootOk m (A.vs.getD j.toNat (0, 0)).1 (A.vs.getD j.toNat (0, 0)).2 = true) (fun y => (A.vs.length - y).toNat) 0
  · exact sub_
  · exact cvt_
  · exact ⟨by omega, by omega, fun j a b => by omega⟩
  rintro i ⟨hi, hi2, hi3⟩
  repeat' (first | (apply gCall; apply L_call rfl rfl rfl rfl rfl; (· first | exact implValOk_c _ _ | exact leads_c (fr := 1) at_ at_ at_ at_ hw hm hM.len hh hs (fun h => valP_n (by assumption) h) (fun h1 h2 h3 => hWh _ (valP_n (by assumption) h1) h2 h3) (hof _) (.inl ⟨rfl, rfl⟩) | exact objectOk_c at_ at_ at_ at_ hw hm hc hh hs hM hof hPl om om om | exact head_c at_ at_ hw om om); rintro _ _ ⟨rfl, rfl⟩) | (apply gL; first | refine L_nil ?_ | refine yS ?_ | refine yX fun _ => ?_ | refine kV ?_ | (apply L_val rfl rfl rfl; (· first | (apply gBin; first | fail ) | fail | exact v_func rfl rfl)) | ((fail_if_success (refine L_known rfl ?_)); refine yW (fun h => ?_) fun h => ?_)) | (apply gW; first | refine W_seq ?_ | refine W_region ?_ | refine W_ret ?_ | refine W_skip ?_ | refine W_block ?_ | refine W_exit ?_ | refine W_cond1 rfl ?_ | refine W_cond0 rfl ?_ | refine cW (fun h => ?_) fun h => ?_) | (first | refine seqR.normal ?_ | refine seqR.ret ?_ | refine seqR.exit ?_ | refine blockR.normal ?_ | refine blockR.ret ?_ | refine blockR.here ?_ | refine blockR.exit rfl ?_ | refine loopR.ret ?_ | refine loopR.exit ?_ | refine midA.ret ?_ | refine midA.exit ?_) | fail)
  · apply L_callv rfl rfl rfl rfl rfl rfl
    · exact closure_c at_ at_ at_ at_ at_ hw hm hh hs hM hof hPl
    rintro _ _ ⟨rfl, rfl⟩
    repeat' (first | (apply gCall; apply L_call rfl rfl rfl rfl rfl; (· first | exact implValOk_c _ _ | exact leads_c (fr := 1) at_ at_ at_ at_ hw hm hM.len hh hs (fun h => valP_n (by assumption) h) (fun h1 h2 h3 => hWh _ (valP_n (by assumption) h1) h2 h3) (hof _) (.inl ⟨rfl, rfl⟩) | exact objectOk_c at_ at_ at_ at_ hw hm hc hh hs hM hof hPl om om om | exact head_c at_ at_ hw om om); rintro _ _ ⟨rfl, rfl⟩) | (apply gL; first | refine L_nil ?_ | refine yS ?_ | refine yX fun _ => ?_ | refine kV ?_ | (apply L_val rfl rfl rfl; (· first | (apply gBin; first | fail ) | fail | exact v_func rfl rfl)) | ((fail_if_success (refine L_known rfl ?_)); refine yW (fun h => ?_) fun h => ?_)) | (apply gW; first | refine W_seq ?_ | refine W_region ?_ | refine W_ret ?_ | refine W_skip ?_ | refine W_block ?_ | refine W_exit ?_ | refine W_cond1 rfl ?_ | refine W_cond0 rfl ?_ | refine cW (fun h => ?_) fun h => ?_) | (first | refine seqR.normal ?_ | refine seqR.ret ?_ | refine seqR.exit ?_ | refine blockR.normal ?_ | refine blockR.ret ?_ | refine blockR.here ?_ | refine blockR.exit rfl ?_ | refine loopR.ret ?_ | refine loopR.exit ?_ | refine midA.ret ?_ | refine midA.exit ?_) | fail)
    · refine retR.ret _ _ (ret1 rfl rfl) cv_ ⟨?_, rfl⟩
      refine ⟨_, rfl, ?_⟩
      rw [decide_eq_false (by omega)]
      cases e : A.rootsOk m with
      | false => rfl
      | true => have := rootsAll.1 e i hi (by assumption); rw [this] at h; cases h
    · apply loopR.mk (i + 1)
      · exact sub_
      · exact cvt_
      · exact ⟨by omega, by omega, fun j a b => by
          by_cases hj : j = i
          · subst hj; exact h
          · exact hi3 j a (by omega)⟩
      · (try dsimp only); omega
  · refine retR.ret _ _ (ret1 rfl rfl) cv_ ⟨?_, rfl⟩
    refine ⟨_, rfl, ?_⟩
    rw [rootsAll.2 (fun j a b => hi3 j a (by omega))]; rfl
theorem containsFunc_c {b1 bv bi bs bb : Nat} {m : List Int} (h1 : At H b1 (pObj bv)) (hV : At H bv (svObj ba bi A.ws.length bs bb)) (hB : At H bi (uObj m)) (hP : At H ba (aObj C A)) (hA : At H C.bw (wObj C A)) (hR : At H C.br (rObj C A)) (hw : Wf A.ws) (hm : A.ws.length ≤ 8000) (hx : A.vs.length ≤ 1048576) (hh : A.to = 0 ∨ A.to = 1) (hs : 256 ≤ A.semi ∧ A.semi ≤ 4000)
    (hM : MarkP A m) (hof : ∀ n : Int, g m n = 0 ∨ g m n = 1 ∨ g m n = 2 ∨ g m n = 3) (hPl : ∀ n : Int, 0 ≤ n → n < A.ws.length → g m n ≠ 0 → PlaceP A n) :
    Fn Try.prog w0 75 #[.slice (some ⟨C.br, 0, none⟩) A.vs.length C.rc, .func (.func 76) #[] #[.pointer (some ⟨b1, 0, none⟩)]] H fun v H' => v = .bool (!(A.rootsOk m)) ∧ H' = H := by
  refine enter2 Try.func75 rfl rfl Try.ntmps75 rfl ?_
  repeat' (first | (apply gCall; apply L_call rfl rfl rfl rfl rfl; (· first | exact implValOk_c _ _ | exact leads_c (fr := 1) at_ at_ at_ at_ hw hm hM.len hh hs (fun h => valP_n (by assumption) h) (fun h1 h2 h3 => hWh _ (valP_n (by assumption) h1) h2 h3) (hof _) (.inl ⟨rfl, rfl⟩) | exact objectOk_c at_ at_ at_ at_ hw hm hc hh hs hM hof hPl om om om | exact head_c at_ at_ hw om om); rintro _ _ ⟨rfl, rfl⟩) | (apply gL; first | refine L_nil ?_ | refine yS ?_ | refine yX fun _ => ?_ | refine kV ?_ | (apply L_val rfl rfl rfl; (· first | (apply gBin; first | fail ) | fail | exact v_func rfl rfl)) | ((fail_if_success (refine L_known rfl ?_)); refine yW (fun h => ?_) fun h => ?_)) | (apply gW; first | refine W_seq ?_ | refine W_region ?_ | refine W_ret ?_ | refine W_skip ?_ | refine W_block ?_ | refine W_exit ?_ | refine W_cond1 rfl ?_ | refine W_cond0 rfl ?_ | refine cW (fun h => ?_) fun h => ?_) | (first | refine seqR.normal ?_ | refine seqR.ret ?_ | refine seqR.exit ?_ | refine blockR.normal ?_ | refine blockR.ret ?_ | refine blockR.here ?_ | refine blockR.exit rfl ?_ | refine loopR.ret ?_ | refine loopR.exit ?_ | refine midA.ret ?_ | refine midA.exit ?_) | fail)
  apply L_call rfl rfl rfl rfl rfl
  · exact indexFunc_c at_ at_ at_ at_ at_ at_ hw hm hx hh hs hM hof hPl
  rintro _ _ ⟨⟨r, rfl, hr⟩, rfl⟩
  repeat' (first | (apply gCall; apply L_call rfl rfl rfl rfl rfl; (· first | exact implValOk_c _ _ | exact leads_c (fr := 1) at_ at_ at_ at_ hw hm hM.len hh hs (fun h => valP_n (by assumption) h) (fun h1 h2 h3 => hWh _ (valP_n (by assumption) h1) h2 h3) (hof _) (.inl ⟨rfl, rfl⟩) | exact objectOk_c at_ at_ at_ at_ hw hm hc hh hs hM hof hPl om om om | exact head_c at_ at_ hw om om); rintro _ _ ⟨rfl, rfl⟩) | (apply gL; first | refine L_nil ?_ | refine yS ?_ | refine yX fun _ => ?_ | refine kV ?_ | (apply L_val rfl rfl rfl; (· first | (apply gBin; first | fail ) | fail | exact v_func rfl rfl)) | ((fail_if_success (refine L_known rfl ?_)); refine yW (fun h => ?_) fun h => ?_)) | (apply gW; first | refine W_seq ?_ | refine W_region ?_ | refine W_ret ?_ | refine W_skip ?_ | refine W_block ?_ | refine W_exit ?_ | refine W_cond1 rfl ?_ | refine W_cond0 rfl ?_ | refine cW (fun h => ?_) fun h => ?_) | (first | refine seqR.normal ?_ | refine seqR.ret ?_ | refine seqR.exit ?_ | refine blockR.normal ?_ | refine blockR.ret ?_ | refine blockR.here ?_ | refine blockR.exit rfl ?_ | refine loopR.ret ?_ | refine loopR.exit ?_ | refine midA.ret ?_ | refine midA.exit ?_) | fail)
  refine retR.ret _ _ (ret1 rfl rfl) cv_ ⟨?_, rfl⟩
  rw [hr]
  by_cases c : r < 0
  · rw [decide_eq_true c, decide_eq_false (by omega)]; rfl
  · rw [decide_eq_false c, decide_eq_true (by omega)]; rfl
/-! ### what is told of all objects -/
theorem tabs_f {m : List Int} : ∀ (f : Nat) (p : Int) (led : List Bool) (q : Int), (m.length : Int) - p < (f : Int) → p ≤ q → q < (m.length : Int) → (g m q = 1 ∨ g m q = 2) → rk (g A.ws q) = 2 → (∀ led, A.tab q led = none) → A.tabsFrom m f p led = false := by
  intro f
  induction f with
  | zero => intro p led q h1 h2 h3; omega
  | succ f ih =>
    intro p led q h1 h2 h3 h4 h5 h6
    rw [Ar.tabsFrom, if_pos (by omega)]
    by_cases e : p = q
    · subst e
      rw [if_pos ⟨isM_iff.2 h4, h5⟩, h6]
    · split
      · cases A.tab p led with
        | none => rfl
        | some l => exact ih _ _ q (by omega) (by omega) h3 h4 h5 h6
      · exact ih _ _ q (by omega) (by omega) h3 h4 h5 h6
def Ar.content (A : Ar) (m : List Int) : Bool := A.objsFrom m (m.length + 1) 0 && A.tabsFrom m (m.length + 1) 0 A.falses && A.rootsOk m
theorem content_f {m : List Int} (hl : m.length = A.ws.length) {q : Int} (h0 : 0 ≤ q) (h1 : q < A.ws.length) (h2 : g m q = 1 ∨ g m q = 2) (h : (A.object m q && A.tabTag q) = false) : false = Ar.content A m := by
  unfold Ar.content
  rw [Bool.and_eq_false_iff] at h
  rcases h with h | h
  · cases e : A.objsFrom m (m.length + 1) 0 with
    | false => rfl
    | true => have := (objs_iff hl).1 e q h0 h1 h2; rw [h] at this; cases this
  · have h := of_decide_eq_false (show decide _ = false from h)
    have hk : rk (g A.ws q) = 2 := by
      rcases Decidable.em (rk (g A.ws q) = 2) with c | c
      · exact c
      · exact absurd (fun d => absurd d c) h
    have ht : ¬ (rvT A.ws (q + 2) = 0 ∨ rvT A.ws (q + 2) = 8) := fun c => h (fun _ => c)
    rw [tabs_f _ 0 _ q (by omega) h0 (by omega) h2 hk (fun led => tabN (fun c => ht (.inl c)) (fun c => ht (.inr c)))]
    simp
set_option maxHeartbeats 4000000 in
theorem contentOk_c {bv bi bs bb : Nat} {m : List Int} (hB : At H bi (uObj m)) (hP : At H ba (aObj C A)) (hA : At H C.bw (wObj C A)) (hR : At H C.br (rObj C A)) (hw : Wf A.ws) (hm : A.ws.length ≤ 8000) (hc : A.ws.length ≤ C.wc) (hx : A.vs.length ≤ 1048576) (hh : A.to = 0 ∨ A.to = 1) (hs : 256 ≤ A.semi ∧ A.semi ≤ 4000)
    (hM : MarkP A m) (hof : ∀ n : Int, g m n = 0 ∨ g m n = 1 ∨ g m n = 2 ∨ g m n = 3) (hPl : ∀ n : Int, 0 ≤ n → n < A.ws.length → g m n ≠ 0 → PlaceP A n) :
    Fn Try.prog w0 52 #[.pointer (some ⟨bv, 0, none⟩)] ((bv, svObj ba bi A.ws.length bs bb) :: (bb, sObj []) :: H) fun v H' => v = .bool (Ar.content A m) ∧ ∃ kb', H' = (bv, svObj ba bi A.ws.length bs bb) :: (bb, sObj kb') :: H := by
  have hlen := hM.len
  refine enter1 Try.func52 rfl rfl Try.ntmps52 rfl ?_
  repeat' (fail_if_success apply gAt 1); (first | (apply gCall; apply L_call rfl rfl rfl rfl rfl; (· first | exact implValOk_c _ _ | exact leads_c (fr := 1) at_ at_ at_ at_ hw hm hM.len hh hs (fun h => valP_n (by assumption) h) (fun h1 h2 h3 => hWh _ (valP_n (by assumption) h1) h2 h3) (hof _) (.inl ⟨rfl, rfl⟩) | exact objectOk_c at_ at_ at_ at_ hw hm hc hh hs hM hof hPl om om om | exact head_c at_ at_ hw om om); rintro _ _ ⟨rfl, rfl⟩) | (apply gL; first | refine L_nil ?_ | refine yS ?_ | refine yX fun _ => ?_ | refine kV ?_ | (apply L_val rfl rfl rfl; (· first | (apply gBin; first | fail ) | fail | exact v_func rfl rfl)) | ((fail_if_success (refine L_known rfl ?_)); refine yW (fun h => ?_) fun h => ?_)) | (apply gW; first | refine W_seq ?_ | refine W_region ?_ | refine W_ret ?_ | refine W_skip ?_ | refine W_block ?_ | refine W_exit ?_ | refine W_cond1 rfl ?_ | refine W_cond0 rfl ?_ | refine cW (fun h => ?_) fun h => ?_) | (first | refine seqR.normal ?_ | refine seqR.ret ?_ | refine seqR.exit ?_ | refine blockR.normal ?_ | refine blockR.ret ?_ | refine blockR.here ?_ | refine blockR.exit rfl ?_ | refine loopR.ret ?_ | refine loopR.exit ?_ | refine midA.ret ?_ | refine midA.exit ?_) | fail)
  rename_i b1
  refine W_midA (α := Unit) (fun _ => [(1, .pointer (some ⟨b1, 0, none⟩))]) (fun _ => (b1, pObj bv) :: (bv, svObj ba bi A.ws.length bs bb) :: (bb, sObj []) :: H) (fun _ => ∀ q : Int, 0 ≤ q → q < A.ws.length → (g m q = 1 ∨ g m q = 2) → (A.object m q && A.tabTag q) = true) ?_ ?_
  · repeat' (first | (apply gCall; apply L_call rfl rfl rfl rfl rfl; (· first | exact implValOk_c _ _ | exact leads_c (fr := 1) at_ at_ at_ at_ hw hm hM.len hh hs (fun h => valP_n (by assumption) h) (fun h1 h2 h3 => hWh _ (valP_n (by assumption) h1) h2 h3) (hof _) (.inl ⟨rfl, rfl⟩) | exact objectOk_c at_ at_ at_ at_ hw hm hc hh hs hM hof hPl om om om | exact head_c at_ at_ hw om om); rintro _ _ ⟨rfl, rfl⟩) | (apply gL; first | refine L_nil ?_ | refine yS ?_ | refine yX fun _ => ?_ | refine kV ?_ | (apply L_val rfl rfl rfl; (· first | (apply gBin; first | fail ) | fail | exact v_func rfl rfl)) | ((fail_if_success (refine L_known rfl ?_)); refine yW (fun h => ?_) fun h => ?_)) | (apply gW; first | refine W_seq ?_ | refine W_region ?_ | refine W_ret ?_ | refine W_skip ?_ | refine W_block ?_ | refine W_exit ?_ | refine W_cond1 rfl ?_ | refine W_cond0 rfl ?_ | refine cW (fun h => ?_) fun h => ?_) | (first | refine seqR.normal ?_ | refine seqR.ret ?_ | refine seqR.exit ?_ | refine blockR.normal ?_ | refine blockR.ret ?_ | refine blockR.here ?_ | refine blockR.exit rfl ?_ | refine loopR.ret ?_ | refine loopR.exit ?_ | refine midA.ret ?_ | refine midA.exit ?_) | fail)
    apply W_loopX (α := Int) (fun y => [(1, .pointer (some ⟨b1, 0, none⟩)), (10, .slice (some ⟨bi, 0, none⟩) A.ws.length A.ws.length), (11, .int .i64 (A.ws.length : Int)), (12, .int .i64 y)]) (fun _ => (b1, pObj bv) :: (bv, svObj ba bi A.ws.length bs bb) :: (bb, sObj []) :: H)
      (fun y => 0 ≤ y ∧ y ≤ A.ws.length ∧ ∀ q : Int, 0 ≤ q → q < y → (g m q = 1 ∨ g m q = 2) → (A.object m q && A.tabTag q) = true) (fun y => (A.ws.length - y).toNat) 0
    · exact sub_
    · exact cvt_
    · exact ⟨by omega, by omega, fun j h1 h2 => by omega⟩
    rintro p ⟨hp, hp2, hp3⟩
    repeat' (first | (apply gCall; apply L_call rfl rfl rfl rfl rfl; (· first | exact implValOk_c _ _ | exact leads_c (fr := 1) at_ at_ at_ at_ hw hm hM.len hh hs (fun h => valP_n (by assumption) h) (fun h1 h2 h3 => hWh _ (valP_n (by assumption) h1) h2 h3) (hof _) (.inl ⟨rfl, rfl⟩) | exact objectOk_c at_ at_ at_ at_ hw hm hc hh hs hM hof hPl om om om | exact head_c at_ at_ hw om om); rintro _ _ ⟨rfl, rfl⟩) | (apply gL; first | refine L_nil ?_ | refine yS ?_ | refine yX fun _ => ?_ | refine kV ?_ | (apply L_val rfl rfl rfl; (· first | (apply gBin; first | fail ) | fail | exact v_func rfl rfl)) | ((fail_if_success (refine L_known rfl ?_)); refine yW (fun h => ?_) fun h => ?_)) | (apply gW; first | refine W_seq ?_ | refine W_region ?_ | refine W_ret ?_ | refine W_skip ?_ | refine W_block ?_ | refine W_exit ?_ | refine W_cond1 rfl ?_ | refine W_cond0 rfl ?_ | refine cW (fun h => ?_) fun h => ?_) | (first | refine seqR.normal ?_ | refine seqR.ret ?_ | refine seqR.exit ?_ | refine blockR.normal ?_ | refine blockR.ret ?_ | refine blockR.here ?_ | refine blockR.exit rfl ?_ | refine loopR.ret ?_ | refine loopR.exit ?_ | refine midA.ret ?_ | refine midA.exit ?_) | fail)
    all_goals (first
      | (exfalso; omega)
      | (refine retR.ret _ _ (ret1 rfl rfl) cvt_ ⟨?_, _, rfl⟩
         exact congrArg Value.bool (content_f hM.len hp (by omega) (by omega) h))
      | (apply loopR.mk (p + 1)
         · exact sub_
         · exact cvt_
         · exact ⟨by omega, by omega, fun j h1 h2 h3 => by
             by_cases hj : j = p
             · subst hj; first | exact h | omega
             · exact hp3 j h1 (by omega) h3⟩
         · (try dsimp only); omega)
      | (apply midA.mk ()
         · exact sub_
         · exact cvt_
         · exact fun j h1 h2 h3 => hp3 j h1 (by omega) h3))
  rintro _ hOT
  have hO : ObjP A m := fun q h0 h1 h2 => by have := hOT q h0 h1 h2; rw [Bool.and_eq_true] at this; exact this.1
  have hTT : ∀ q : Int, 0 ≤ q → q < A.ws.length → (g m q = 1 ∨ g m q = 2) → A.tabTag q = true := fun q h0 h1 h2 => by have := hOT q h0 h1 h2; rw [Bool.and_eq_true] at this; exact this.2
  have hcon : Ar.content A m = (A.tabsFrom m (m.length + 1) 0 A.falses && A.rootsOk m) := by unfold Ar.content; rw [(objs_iff hM.len).2 hO, Bool.true_and]
  clear hOT
  have hfl : A.falses.length = A.ws.length := by simp [Ar.falses]
  repeat' (fail_if_success apply gAt 7); (first | (apply gCall; apply L_call rfl rfl rfl rfl rfl; (· first | exact implValOk_c _ _ | exact leads_c (fr := 1) at_ at_ at_ at_ hw hm hM.len hh hs (fun h => valP_n (by assumption) h) (fun h1 h2 h3 => hWh _ (valP_n (by assumption) h1) h2 h3) (hof _) (.inl ⟨rfl, rfl⟩) | exact objectOk_c at_ at_ at_ at_ hw hm hc hh hs hM hof hPl om om om | exact head_c at_ at_ hw om om); rintro _ _ ⟨rfl, rfl⟩) | (apply gL; first | refine L_nil ?_ | refine yS ?_ | refine yX fun _ => ?_ | refine kV ?_ | (apply L_val rfl rfl rfl; (· first | (apply gBin; first | fail ) | fail | exact v_func rfl rfl)) | ((fail_if_success (refine L_known rfl ?_)); refine yW (fun h => ?_) fun h => ?_)) | (apply gW; first | refine W_seq ?_ | refine W_region ?_ | refine W_ret ?_ | refine W_skip ?_ | refine W_block ?_ | refine W_exit ?_ | refine W_cond1 rfl ?_ | refine W_cond0 rfl ?_ | refine cW (fun h => ?_) fun h => ?_) | (first | refine seqR.normal ?_ | refine seqR.ret ?_ | refine seqR.exit ?_ | refine blockR.normal ?_ | refine blockR.ret ?_ | refine blockR.here ?_ | refine blockR.exit rfl ?_ | refine loopR.ret ?_ | refine loopR.exit ?_ | refine midA.ret ?_ | refine midA.exit ?_) | fail)
  refine W_midA (α := List Int) (fun _ => [(1, .pointer (some ⟨b1, 0, none⟩))]) (fun kb => (b1, pObj bv) :: (bv, svObj ba bi A.ws.length bs bb) :: (bb, sObj kb) :: H) (fun _ => A.tabsFrom m (m.length + 1) 0 A.falses = true) ?_ ?_
  · repeat' (first | (apply gCall; apply L_call rfl rfl rfl rfl rfl; (· first | exact implValOk_c _ _ | exact leads_c (fr := 1) at_ at_ at_ at_ hw hm hM.len hh hs (fun h => valP_n (by assumption) h) (fun h1 h2 h3 => hWh _ (valP_n (by assumption) h1) h2 h3) (hof _) (.inl ⟨rfl, rfl⟩) | exact objectOk_c at_ at_ at_ at_ hw hm hc hh hs hM hof hPl om om om | exact head_c at_ at_ hw om om); rintro _ _ ⟨rfl, rfl⟩) | (apply gL; first | refine L_nil ?_ | refine yS ?_ | refine yX fun _ => ?_ | refine kV ?_ | (apply L_val rfl rfl rfl; (· first | (apply gBin; first | fail ) | fail | exact v_func rfl rfl)) | ((fail_if_success (refine L_known rfl ?_)); refine yW (fun h => ?_) fun h => ?_)) | (apply gW; first | refine W_seq ?_ | refine W_region ?_ | refine W_ret ?_ | refine W_skip ?_ | refine W_block ?_ | refine W_exit ?_ | refine W_cond1 rfl ?_ | refine W_cond0 rfl ?_ | refine cW (fun h => ?_) fun h => ?_) | (first | refine seqR.normal ?_ | refine seqR.ret ?_ | refine seqR.exit ?_ | refine blockR.normal ?_ | refine blockR.ret ?_ | refine blockR.here ?_ | refine blockR.exit rfl ?_ | refine loopR.ret ?_ | refine loopR.exit ?_ | refine midA.ret ?_ | refine midA.exit ?_) | fail)
    apply W_loopX (α := Int × List Bool × List Int) (fun y => [(1, .pointer (some ⟨b1, 0, none⟩)), (33, .slice (some ⟨bi, 0, none⟩) A.ws.length A.ws.length), (34, .int .i64 (A.ws.length : Int)), (35, .int .i64 y.1)]) (fun y => (b1, pObj bv) :: (bv, svObj ba bi A.ws.length bs bb) :: (bb, sObj y.2.2) :: H)
      (fun y => 0 ≤ y.1 ∧ y.1 ≤ A.ws.length ∧ y.2.1.length = A.ws.length ∧ LedK (A.ws.length : Int) y.2.1 y.2.2 ∧ ∃ f, A.tabsFrom m f y.1 y.2.1 = A.tabsFrom m (m.length + 1) 0 A.falses ∧ (m.length : Int) - y.1 < (f : Int)) (fun y => (A.ws.length - y.1).toNat) (0, A.falses, [])
    · exact sub_
    · exact cvt_
    · refine ⟨by dsimp only; omega, by dsimp only; omega, hfl, fun q h0 h1 => ?_, _, rfl, by dsimp only; omega⟩
      dsimp only
      unfold Ar.falses
      rw [List.getD_eq_getElem?_getD, List.getElem?_replicate]
      split <;> simp
    rintro ⟨p, led, kb⟩ ⟨hp, hp2, hl, hL, f, hf, hf2⟩
    dsimp only at hp hp2 hl hL hf hf2 ⊢
    repeat' (first | (apply gCall; apply L_call rfl rfl rfl rfl rfl; (· first | exact implValOk_c _ _ | exact leads_c (fr := 1) at_ at_ at_ at_ hw hm hM.len hh hs (fun h => valP_n (by assumption) h) (fun h1 h2 h3 => hWh _ (valP_n (by assumption) h1) h2 h3) (hof _) (.inl ⟨rfl, rfl⟩) | exact objectOk_c at_ at_ at_ at_ hw hm hc hh hs hM hof hPl om om om | exact head_c at_ at_ hw om om); rintro _ _ ⟨rfl, rfl⟩) | (apply gL; first | refine L_nil ?_ | refine yS ?_ | refine yX fun _ => ?_ | refine kV ?_ | (apply L_val rfl rfl rfl; (· first | (apply gBin; first | fail ) | fail | exact v_func rfl rfl)) | ((fail_if_success (refine L_known rfl ?_)); refine yW (fun h => ?_) fun h => ?_)) | (apply gW; first | refine W_seq ?_ | refine W_region ?_ | refine W_ret ?_ | refine W_skip ?_ | refine W_block ?_ | refine W_exit ?_ | refine W_cond1 rfl ?_ | refine W_cond0 rfl ?_ | refine cW (fun h => ?_) fun h => ?_) | (first | refine seqR.normal ?_ | refine seqR.ret ?_ | refine seqR.exit ?_ | refine blockR.normal ?_ | refine blockR.ret ?_ | refine blockR.here ?_ | refine blockR.exit rfl ?_ | refine loopR.ret ?_ | refine loopR.exit ?_ | refine midA.ret ?_ | refine midA.exit ?_) | fail)
    all_goals (first
      | (exfalso; omega)
      | (obtain ⟨f', rfl, e⟩ := tabs_step (A := A) (led := led) (show p < (m.length : Int) by omega) hf2
         rw [e, if_neg (fun c => by have := isM_iff.1 c.1; omega)] at hf
         apply loopR.mk (p + 1, led, kb)
         · exact sub_
         · exact cvt_
         · exact ⟨by dsimp only; omega, by dsimp only; omega, hl, hL, f', hf, by dsimp only; omega⟩
         · dsimp only; omega)
      | (rw [tabs_end (by omega)] at hf
         apply midA.mk kb
         · exact sub_
         · exact cvt_
         · exact hf.symm)
      | skip)
    all_goals (
      apply L_call rfl rfl rfl rfl rfl
      · exact Fn.conv (H' := (bv, svObj ba bi A.ws.length bs bb) :: (bb, sObj kb) :: (b1, pObj bv) :: H) cvt_ (tableOk_c at_ at_ hw hm hh hs hM hO hPl hp (by omega) (by omega) h (hTT p hp (by omega) (by omega)) hl hL)
      rintro _ _ ⟨rfl, kb', rfl, hk'⟩
      obtain ⟨f', rfl, e⟩ := tabs_step (A := A) (led := led) (show p < (m.length : Int) by omega) hf2
      rw [e, if_pos ⟨isM_iff.2 (by omega), h⟩] at hf
      cases htb : A.tab p led with
      | none =>
        rw [htb] at hf
        simp only [Option.isSome_none]
        repeat' (first | (apply gCall; apply L_call rfl rfl rfl rfl rfl; (· first | exact implValOk_c _ _ | exact leads_c (fr := 1) at_ at_ at_ at_ hw hm hM.len hh hs (fun h => valP_n (by assumption) h) (fun h1 h2 h3 => hWh _ (valP_n (by assumption) h1) h2 h3) (hof _) (.inl ⟨rfl, rfl⟩) | exact objectOk_c at_ at_ at_ at_ hw hm hc hh hs hM hof hPl om om om | exact head_c at_ at_ hw om om); rintro _ _ ⟨rfl, rfl⟩) | (apply gL; first | refine L_nil ?_ | refine yS ?_ | refine yX fun _ => ?_ | refine kV ?_ | (apply L_val rfl rfl rfl; (· first | (apply gBin; first | fail ) | fail | exact v_func rfl rfl)) | ((fail_if_success (refine L_known rfl ?_)); refine yW (fun h => ?_) fun h => ?_)) | (apply gW; first | refine W_seq ?_ | refine W_region ?_ | refine W_ret ?_ | refine W_skip ?_ | refine W_block ?_ | refine W_exit ?_ | refine W_cond1 rfl ?_ | refine W_cond0 rfl ?_ | refine cW (fun h => ?_) fun h => ?_) | (first | refine seqR.normal ?_ | refine seqR.ret ?_ | refine seqR.exit ?_ | refine blockR.normal ?_ | refine blockR.ret ?_ | refine blockR.here ?_ | refine blockR.exit rfl ?_ | refine loopR.ret ?_ | refine loopR.exit ?_ | refine midA.ret ?_ | refine midA.exit ?_) | fail)
        refine retR.ret _ _ (ret1 rfl rfl) cvt_ ⟨?_, _, rfl⟩
        rw [hcon, ← hf]; rfl
      | some l' =>
        obtain ⟨hl', hL'⟩ := hk' l' htb
        rw [htb] at hf
        simp only [Option.isSome_some]
        repeat' (first | (apply gCall; apply L_call rfl rfl rfl rfl rfl; (· first | exact implValOk_c _ _ | exact leads_c (fr := 1) at_ at_ at_ at_ hw hm hM.len hh hs (fun h => valP_n (by assumption) h) (fun h1 h2 h3 => hWh _ (valP_n (by assumption) h1) h2 h3) (hof _) (.inl ⟨rfl, rfl⟩) | exact objectOk_c at_ at_ at_ at_ hw hm hc hh hs hM hof hPl om om om | exact head_c at_ at_ hw om om); rintro _ _ ⟨rfl, rfl⟩) | (apply gL; first | refine L_nil ?_ | refine yS ?_ | refine yX fun _ => ?_ | refine kV ?_ | (apply L_val rfl rfl rfl; (· first | (apply gBin; first | fail ) | fail | exact v_func rfl rfl)) | ((fail_if_success (refine L_known rfl ?_)); refine yW (fun h => ?_) fun h => ?_)) | (apply gW; first | refine W_seq ?_ | refine W_region ?_ | refine W_ret ?_ | refine W_skip ?_ | refine W_block ?_ | refine W_exit ?_ | refine W_cond1 rfl ?_ | refine W_cond0 rfl ?_ | refine cW (fun h => ?_) fun h => ?_) | (first | refine seqR.normal ?_ | refine seqR.ret ?_ | refine seqR.exit ?_ | refine blockR.normal ?_ | refine blockR.ret ?_ | refine blockR.here ?_ | refine blockR.exit rfl ?_ | refine loopR.ret ?_ | refine loopR.exit ?_ | refine midA.ret ?_ | refine midA.exit ?_) | fail)
        apply loopR.mk (p + 1, l', kb')
        · exact sub_
        · exact cvt_
        · exact ⟨by dsimp only; omega, by dsimp only; omega, hl', hL', f', hf, by dsimp only; omega⟩
        · dsimp only; omega)
  rintro kb hT
  rw [hT, Bool.true_and] at hcon
  repeat' (first | (apply gCall; apply L_call rfl rfl rfl rfl rfl; (· first | exact implValOk_c _ _ | exact leads_c (fr := 1) at_ at_ at_ at_ hw hm hM.len hh hs (fun h => valP_n (by assumption) h) (fun h1 h2 h3 => hWh _ (valP_n (by assumption) h1) h2 h3) (hof _) (.inl ⟨rfl, rfl⟩) | exact objectOk_c at_ at_ at_ at_ hw hm hc hh hs hM hof hPl om om om | exact head_c at_ at_ hw om om); rintro _ _ ⟨rfl, rfl⟩) | (apply gL; first | refine L_nil ?_ | refine yS ?_ | refine yX fun _ => ?_ | refine kV ?_ | (apply L_val rfl rfl rfl; (· first | (apply gBin; first | fail ) | fail | exact v_func rfl rfl)) | ((fail_if_success (refine L_known rfl ?_)); refine yW (fun h => ?_) fun h => ?_)) | (apply gW; first | refine W_seq ?_ | refine W_region ?_ | refine W_ret ?_ | refine W_skip ?_ | refine W_block ?_ | refine W_exit ?_ | refine W_cond1 rfl ?_ | refine W_cond0 rfl ?_ | refine cW (fun h => ?_) fun h => ?_) | (first | refine seqR.normal ?_ | refine seqR.ret ?_ | refine seqR.exit ?_ | refine blockR.normal ?_ | refine blockR.ret ?_ | refine blockR.here ?_ | refine blockR.exit rfl ?_ | refine loopR.ret ?_ | refine loopR.exit ?_ | refine midA.ret ?_ | refine midA.exit ?_) | fail)
  apply L_call rfl rfl rfl rfl rfl
  · exact containsFunc_c at_ at_ at_ at_ at_ at_ hw hm hx hh hs hM hof hPl
  rintro _ _ ⟨rfl, rfl⟩
  repeat' (first | (apply gCall; apply L_call rfl rfl rfl rfl rfl; (· first | exact implValOk_c _ _ | exact leads_c (fr := 1) at_ at_ at_ at_ hw hm hM.len hh hs (fun h => valP_n (by assumption) h) (fun h1 h2 h3 => hWh _ (valP_n (by assumption) h1) h2 h3) (hof _) (.inl ⟨rfl, rfl⟩) | exact objectOk_c at_ at_ at_ at_ hw hm hc hh hs hM hof hPl om om om | exact head_c at_ at_ hw om om); rintro _ _ ⟨rfl, rfl⟩) | (apply gL; first | refine L_nil ?_ | refine yS ?_ | refine yX fun _ => ?_ | refine kV ?_ | (apply L_val rfl rfl rfl; (· first | (apply gBin; first | fail ) | fail | exact v_func rfl rfl)) | ((fail_if_success (refine L_known rfl ?_)); refine yW (fun h => ?_) fun h => ?_)) | (apply gW; first | refine W_seq ?_ | refine W_region ?_ | refine W_ret ?_ | refine W_skip ?_ | refine W_block ?_ | refine W_exit ?_ | refine W_cond1 rfl ?_ | refine W_cond0 rfl ?_ | refine cW (fun h => ?_) fun h => ?_) | (first | refine seqR.normal ?_ | refine seqR.ret ?_ | refine seqR.exit ?_ | refine blockR.normal ?_ | refine blockR.ret ?_ | refine blockR.here ?_ | refine blockR.exit rfl ?_ | refine loopR.ret ?_ | refine loopR.exit ?_ | refine midA.ret ?_ | refine midA.exit ?_) | fail)
  refine retR.ret _ _ (ret1 rfl rfl) cvt_ ⟨?_, _, rfl⟩
  rw [hcon]; simp
end Go.Proofs.Ytfhihnonafklbaa.Eng
