/- The reference's NextKey: the place of a key, the key behind it. -/
import Derived.Test.YtepddopgmhdllaaGreatY2
import Derived.Test.YtepddopgmhdllaaGreatY7
import Derived.Test.YtepddopgmhdllaaGreatN1
namespace Go.Proofs.YtepddopgmhdllaaGreat.Eng
open Go Go.RowKit Go.Proofs.YtepddopgmhdllaaGreat.Sl Go.Proofs.YtepddopgmhdllaaGreat.Ar Go.Proofs.YtepddopgmhdllaaGreat.Base
set_option linter.unusedVariables false
set_option linter.unusedSimpArgs false
set_option maxRecDepth 10000
variable {w0 : World} {H : HL} {C : Cn} {A B : Ar} {m : List Int}
theorem arV_len {F : Ar} {l : List (Int × Int)} (e : l.length = F.vs.length) : arV C ({ F with vs := l } : Ar) = arV C F := by
  show Value.agg #[_, _, _, _, _, _, _, _, _, .slice _ l.length _] = _
  rw [e]
set_option maxHeartbeats 1000000 in
theorem l6Place_c {b n t x : Int} (hA : At H C.bw (wObj C A)) (hw : Wf A.ws) (hm : A.ws.length ≤ 8000) (hb : 0 ≤ b) (hn : 0 ≤ n) (hbn : b + 4 * n < A.ws.length) (hK : ∀ i : Int, 0 ≤ i → i < n → KeyP A (rvT A.ws (b + 1 + 4 * i)) (rvN A.ws (b + 1 + 4 * i))) (hkt : KeyP A t x) (hKs : KeysP A b n) (hn9 : ∀ i : Int, 0 ≤ i → i < n → rvT A.ws (b + 1 + 4 * i) ≠ 9) :
    Fn Tryz.prog w0 98 #[arV C A, .int .i64 b, .int .i64 n, .agg #[.int .i64 t, .int .i64 x]] H fun v H' => v = .int .i64 (if (A.find b n t x).2 = true then (A.find b n t x).1 else -1) ∧ H' = H := by
  refine enter4 Tryz.func98 rfl rfl Tryz.ntmps98 rfl ?_
  repeat' (first | ((first | (apply gCall; apply L_call rfl rfl rfl rfl rfl) | (apply gQC; apply Q_call rfl rfl rfl rfl rfl)); (· first | exact l6Key_c at_ hw om om om om | exact l6Value_c at_ hw om om om om | exact l4Same_c at_ hw om (hK _ om om) hkt); try rintro _ _ ⟨rfl, rfl⟩) | (apply gL; first | refine L_nil ?_ | refine yS ?_ | refine yX fun _ => ?_ | refine yA fun _ => ?_ | (apply gSt; first | refine sR ?_ | refine sB ?_ | refine s1 ?_ | refine sW ?_ | refine sN ?_) | refine kV ?_ | (apply L_val rfl rfl rfl; (· first | (apply gBin; first | fail ) | fail | (apply v_ld rfl; (· exact at_); (· first | exact ld_rowV0 om om | exact ld_rowV1 om om); done))) | ((fail_if_success (refine L_known rfl ?_)); refine yW (fun h => ?_) fun h => ?_)) | (apply gW; first | refine W_seq ?_ | refine W_region ?_ | refine W_ret ?_ | refine W_skip ?_ | refine W_block ?_ | refine W_exit ?_ | refine W_cond1 rfl ?_ | refine W_cond0 rfl ?_ | refine cW (fun h => ?_) fun h => ?_ | refine wQ ?_) | (first | refine seqR.normal ?_ | refine seqR.ret ?_ | refine seqR.exit ?_ | refine blockR.normal ?_ | refine blockR.ret ?_ | refine blockR.here ?_ | refine blockR.exit rfl ?_ | refine loopR.ret ?_ | refine loopR.exit ?_) | (apply gQ; first | refine Q_nil ?_ | refine Q_skip rfl rfl rfl ?_ | refine kQ ?_ | (apply Q_val rfl rfl rfl; (· first | (apply gBin; first | fail ) | fail | (apply v_ld rfl; (· exact at_); (· first | exact ld_rowV0 om om | exact ld_rowV1 om om); done))) | ((fail_if_success (refine Q_known rfl ?_)); refine zW (fun h => ?_) fun h => ?_)) | fail)
  rename_i ba bx
  apply W_loopX (α := Int) (fun i => [(1, .int .i64 b), (2, .int .i64 n), (4, .pointer (some ⟨ba, 0, none⟩)), (7, .pointer (some ⟨bx, 0, none⟩)), (9, .int .i64 i)]) (fun _ => (bx, .cells #[.int .i64 t, .int .i64 x] 47 (0, 0)) :: (ba, aObj C A) :: H)
    (fun i => 0 ≤ i ∧ i ≤ n ∧ ∀ j : Int, 0 ≤ j → j < i → ¬ (rvT A.ws (b + 1 + 4 * j) ≠ 0 ∧ A.same (rvT A.ws (b + 1 + 4 * j)) (rvN A.ws (b + 1 + 4 * j)) t x = true)) (fun i => (n - i).toNat) 0
  · exact sub_
  · exact cvt_
  · exact ⟨by omega, hn, fun j a b => by omega⟩
  rintro i ⟨hi, hi2, hi3⟩
  by_cases hlt : i < n
  · by_cases hs : rvT A.ws (b + 1 + 4 * i) ≠ 0 ∧ A.same (rvT A.ws (b + 1 + 4 * i)) (rvN A.ws (b + 1 + 4 * i)) t x = true
    · obtain ⟨hs0, hs1⟩ := hs
      repeat' (first | exact absurd hlt h | exact absurd h hs0 | exact absurd hs1 (by rw [h]; decide) | first | ((first | (apply gCall; apply L_call rfl rfl rfl rfl rfl) | (apply gQC; apply Q_call rfl rfl rfl rfl rfl)); (· first | exact l6Key_c at_ hw om om om om | exact l6Value_c at_ hw om om om om | exact l4Same_c at_ hw om (hK _ om om) hkt); try rintro _ _ ⟨rfl, rfl⟩) | (apply gL; first | refine L_nil ?_ | refine yS ?_ | refine yX fun _ => ?_ | refine yA fun _ => ?_ | (apply gSt; first | refine sR ?_ | refine sB ?_ | refine s1 ?_ | refine sW ?_ | refine sN ?_) | refine kV ?_ | (apply L_val rfl rfl rfl; (· first | (apply gBin; first | fail ) | fail | (apply v_ld rfl; (· exact at_); (· first | exact ld_rowV0 om om | exact ld_rowV1 om om); done))) | ((fail_if_success (refine L_known rfl ?_)); refine yW (fun h => ?_) fun h => ?_)) | (apply gW; first | refine W_seq ?_ | refine W_region ?_ | refine W_ret ?_ | refine W_skip ?_ | refine W_block ?_ | refine W_exit ?_ | refine W_cond1 rfl ?_ | refine W_cond0 rfl ?_ | refine cW (fun h => ?_) fun h => ?_ | refine wQ ?_) | (first | refine seqR.normal ?_ | refine seqR.ret ?_ | refine seqR.exit ?_ | refine blockR.normal ?_ | refine blockR.ret ?_ | refine blockR.here ?_ | refine blockR.exit rfl ?_ | refine loopR.ret ?_ | refine loopR.exit ?_) | (apply gQ; first | refine Q_nil ?_ | refine Q_skip rfl rfl rfl ?_ | refine kQ ?_ | (apply Q_val rfl rfl rfl; (· first | (apply gBin; first | fail ) | fail | (apply v_ld rfl; (· exact at_); (· first | exact ld_rowV0 om om | exact ld_rowV1 om om); done))) | ((fail_if_success (refine Q_known rfl ?_)); refine zW (fun h => ?_) fun h => ?_)) | fail)
      refine retR.ret _ _ (ret1 rfl rfl) cv_ ⟨?_, rfl⟩
      rw [find_same hKs hi hlt hs0 (hn9 i hi hlt) (rvV _ _) hs1, if_pos rfl]
    · repeat' (first | exact absurd hlt h | (exfalso; exact hs ⟨by assumption, h⟩) | first | ((first | (apply gCall; apply L_call rfl rfl rfl rfl rfl) | (apply gQC; apply Q_call rfl rfl rfl rfl rfl)); (· first | exact l6Key_c at_ hw om om om om | exact l6Value_c at_ hw om om om om | exact l4Same_c at_ hw om (hK _ om om) hkt); try rintro _ _ ⟨rfl, rfl⟩) | (apply gL; first | refine L_nil ?_ | refine yS ?_ | refine yX fun _ => ?_ | refine yA fun _ => ?_ | (apply gSt; first | refine sR ?_ | refine sB ?_ | refine s1 ?_ | refine sW ?_ | refine sN ?_) | refine kV ?_ | (apply L_val rfl rfl rfl; (· first | (apply gBin; first | fail ) | fail | (apply v_ld rfl; (· exact at_); (· first | exact ld_rowV0 om om | exact ld_rowV1 om om); done))) | ((fail_if_success (refine L_known rfl ?_)); refine yW (fun h => ?_) fun h => ?_)) | (apply gW; first | refine W_seq ?_ | refine W_region ?_ | refine W_ret ?_ | refine W_skip ?_ | refine W_block ?_ | refine W_exit ?_ | refine W_cond1 rfl ?_ | refine W_cond0 rfl ?_ | refine cW (fun h => ?_) fun h => ?_ | refine wQ ?_) | (first | refine seqR.normal ?_ | refine seqR.ret ?_ | refine seqR.exit ?_ | refine blockR.normal ?_ | refine blockR.ret ?_ | refine blockR.here ?_ | refine blockR.exit rfl ?_ | refine loopR.ret ?_ | refine loopR.exit ?_) | (apply gQ; first | refine Q_nil ?_ | refine Q_skip rfl rfl rfl ?_ | refine kQ ?_ | (apply Q_val rfl rfl rfl; (· first | (apply gBin; first | fail ) | fail | (apply v_ld rfl; (· exact at_); (· first | exact ld_rowV0 om om | exact ld_rowV1 om om); done))) | ((fail_if_success (refine Q_known rfl ?_)); refine zW (fun h => ?_) fun h => ?_)) | fail)
      all_goals apply loopR.mk (i + 1)
      all_goals first | (exact sub_; done) | (exact cvt_; done) | (omega) | skip
      all_goals exact ⟨by omega, by omega, fun j a b => by
        by_cases e : j = i
        · subst e; exact hs
        · exact hi3 j a (by omega)⟩
  · repeat' (first | exact absurd h hlt | first | ((first | (apply gCall; apply L_call rfl rfl rfl rfl rfl) | (apply gQC; apply Q_call rfl rfl rfl rfl rfl)); (· first | exact l6Key_c at_ hw om om om om | exact l6Value_c at_ hw om om om om | exact l4Same_c at_ hw om (hK _ om om) hkt); try rintro _ _ ⟨rfl, rfl⟩) | (apply gL; first | refine L_nil ?_ | refine yS ?_ | refine yX fun _ => ?_ | refine yA fun _ => ?_ | (apply gSt; first | refine sR ?_ | refine sB ?_ | refine s1 ?_ | refine sW ?_ | refine sN ?_) | refine kV ?_ | (apply L_val rfl rfl rfl; (· first | (apply gBin; first | fail ) | fail | (apply v_ld rfl; (· exact at_); (· first | exact ld_rowV0 om om | exact ld_rowV1 om om); done))) | ((fail_if_success (refine L_known rfl ?_)); refine yW (fun h => ?_) fun h => ?_)) | (apply gW; first | refine W_seq ?_ | refine W_region ?_ | refine W_ret ?_ | refine W_skip ?_ | refine W_block ?_ | refine W_exit ?_ | refine W_cond1 rfl ?_ | refine W_cond0 rfl ?_ | refine cW (fun h => ?_) fun h => ?_ | refine wQ ?_) | (first | refine seqR.normal ?_ | refine seqR.ret ?_ | refine seqR.exit ?_ | refine blockR.normal ?_ | refine blockR.ret ?_ | refine blockR.here ?_ | refine blockR.exit rfl ?_ | refine loopR.ret ?_ | refine loopR.exit ?_) | (apply gQ; first | refine Q_nil ?_ | refine Q_skip rfl rfl rfl ?_ | refine kQ ?_ | (apply Q_val rfl rfl rfl; (· first | (apply gBin; first | fail ) | fail | (apply v_ld rfl; (· exact at_); (· first | exact ld_rowV0 om om | exact ld_rowV1 om om); done))) | ((fail_if_success (refine Q_known rfl ?_)); refine zW (fun h => ?_) fun h => ?_)) | fail)
    refine retR.ret _ _ (ret1 rfl rfl) cv_ ⟨?_, rfl⟩
    rw [if_neg]
    intro c
    by_cases hn0 : n = 0
    · unfold Ar.find at c; rw [if_pos (.inl hn0)] at c; cases c
    · obtain ⟨a, b, d, e⟩ := find_hit (by omega) c
      exact hi3 _ a (by omega) ⟨d, e⟩
/-- what the reference's next hands back -/
def NRes (C : Cn) (A : Ar) (o : Option Ar) (H : HL) (v : Value) (H' : HL) : Prop :=
  (∃ B, o = some B ∧ v = .tuple #[arV C B, .bool true] ∧ H' = (C.br, rObj C B) :: (C.bw, wObj C B) :: H) ∨ (o = none ∧ ∃ B, v = .tuple #[arV C B, .bool false] ∧ H' = (C.br, rObj C A) :: (C.bw, wObj C B) :: H)
set_option maxHeartbeats 8000000 in
theorem l6Next_t {b5 b10 : Nat} {b n z s u : Int} {H2 : HL} {o : Option Ar} (hS : SI B m) (hv : B.vs = A.vs) (hx : A.vs.length ≤ 1048576) (hs : 0 ≤ s ∧ s < (A.vs.length : Int)) (hu : 0 ≤ u ∧ u < (A.vs.length : Int)) (hsu : s ≠ u) (hb : 0 ≤ b) (hn : 0 ≤ n) (hbn : b + 4 * n < (B.ws.length : Int)) (hbk : 0 < n → BkP B m b ∧ n = rs (g B.ws b) / 4) (hz : -1 ≤ z ∧ z < n ∨ z = -1)
    (ho : o = some { (B.nxtK b n (z + 1)).1 with vs := (A.vs.set s.toNat (B.nxtK b n (z + 1)).2.1).set u.toNat (B.nxtK b n (z + 1)).2.2 }) :
    W Tryz.prog Tryz.f46.ntmps w0 (tl Tryz.f46 4) [(3, .int .i64 s), (4, .int .i64 u), (5, .pointer (some ⟨b5, 0, none⟩)), (10, .pointer (some ⟨b10, 0, none⟩)), (12, .int .i64 b), (13, .int .i64 n), (14, .int .i64 z)]
      ((b5, aObj C B) :: (b10, .cells #[.slice none 0 0, .int .i64 0, .int .i64 0, .int .i64 0, .bool false, .int .i64 0, .int .i64 0, .int .i64 0, .int .i64 0, .slice none 0 0] 29 (0, 0)) :: (C.br, rObj C A) :: (C.bw, wObj C B) :: H2)
      (retR Tryz.prog Tryz.f46.ntmps w0 Tryz.f46 (NRes C A o H2)) := by
  subst ho
  have hw := hS.wf
  have hln := hS.ln
  have hse := hS.se
  have hvl := congrArg List.length hv
  have hl1 : (A.vs.set s.toNat (0, 0)).length = A.vs.length := List.length_set
  have hl2 : ((A.vs.set s.toNat (0, 0)).set u.toNat (0, 0)).length = A.vs.length := by rw [List.length_set, List.length_set]
  have hl3 : ∀ v w : Int × Int, ((A.vs.set s.toNat v).set u.toNat w).length = A.vs.length := fun v w => by rw [List.length_set, List.length_set]
  refine W_tl rfl ?_
  repeat' (first | (apply gSt; apply L_stV rfl rfl rfl rfl rfl; (· exact up_); (· omega); (· omega)) | first | ((first | (apply gCall; apply L_call rfl rfl rfl rfl rfl) | (apply gQC; apply Q_call rfl rfl rfl rfl rfl)); (· first | exact l6Key_c at_ hw om om om om | exact l6Value_c at_ hw om om om om | exact l4Same_c at_ hw om (hK _ om om) hkt); try rintro _ _ ⟨rfl, rfl⟩) | (apply gL; first | refine L_nil ?_ | refine yS ?_ | refine yX fun _ => ?_ | refine yA fun _ => ?_ | (apply gSt; first | refine sR ?_ | refine sB ?_ | refine s1 ?_ | refine sW ?_ | refine sN ?_) | refine kV ?_ | (apply L_val rfl rfl rfl; (· first | (apply gBin; first | fail ) | fail | (apply v_ld rfl; (· exact at_); (· first | exact ld_rowV0 om om | exact ld_rowV1 om om); done))) | ((fail_if_success (refine L_known rfl ?_)); refine yW (fun h => ?_) fun h => ?_)) | (apply gW; first | refine W_seq ?_ | refine W_region ?_ | refine W_ret ?_ | refine W_skip ?_ | refine W_block ?_ | refine W_exit ?_ | refine W_cond1 rfl ?_ | refine W_cond0 rfl ?_ | refine cW (fun h => ?_) fun h => ?_ | refine wQ ?_) | (first | refine seqR.normal ?_ | refine seqR.ret ?_ | refine seqR.exit ?_ | refine blockR.normal ?_ | refine blockR.ret ?_ | refine blockR.here ?_ | refine blockR.exit rfl ?_ | refine loopR.ret ?_ | refine loopR.exit ?_) | (apply gQ; first | refine Q_nil ?_ | refine Q_skip rfl rfl rfl ?_ | refine kQ ?_ | (apply Q_val rfl rfl rfl; (· first | (apply gBin; first | fail ) | fail | (apply v_ld rfl; (· exact at_); (· first | exact ld_rowV0 om om | exact ld_rowV1 om om); done))) | ((fail_if_success (refine Q_known rfl ?_)); refine zW (fun h => ?_) fun h => ?_)) | fail)
  apply W_loopX (α := Int) (fun i => [(3, .int .i64 s), (4, .int .i64 u), (5, .pointer (some ⟨b5, 0, none⟩)), (10, .pointer (some ⟨b10, 0, none⟩)), (12, .int .i64 b), (13, .int .i64 n), (15, .int .i64 i)]) (fun _ => (b5, aObj C B) :: (b10, .cells #[.slice none 0 0, .int .i64 0, .int .i64 0, .int .i64 0, .bool false, .int .i64 0, .int .i64 0, .int .i64 0, .int .i64 0, .slice none 0 0] 29 (0, 0)) :: (C.br, .cells (rowV ((A.vs.set s.toNat (0, 0)).set u.toNat (0, 0)) C.rs) 47 (0, 0)) :: (C.bw, wObj C B) :: H2)
    (fun i => 0 ≤ i ∧ i ≤ n ∧ B.nxtK b n (z + 1) = B.nxtK b n i) (fun i => (n - i).toNat) (z + 1)
  · exact sub_
  · exact cvt_
  · exact ⟨by omega, by omega, rfl⟩
  rintro i ⟨hi, hi2, hi3⟩
  by_cases hlt : i < n
  · by_cases ha : B.alv b i = true
    · obtain ⟨ha0, ha1⟩ := of_decide_eq_true (show decide _ = true from ha)
      rw [hi3, nxtK_hit hlt ha]
      obtain ⟨hbp, hn2⟩ := hbk (by omega)
      obtain ⟨k1, k3⟩ := hbp.ks i hi (by omega)
      obtain ⟨⟨q0, q1⟩, q2, q3, q4⟩ := hS.slot hb hbp.b1 k1
      obtain ⟨mC, hC⟩ := hS.ld hb hbp.b1 k1
      have w0' : g (B.ld (b + (1 + 4 * i))).ws b = g B.ws b := by
        have := hC.kw b 0 hb hbp.b1 (by omega) (hs0 _) (by omega)
        simpa using this
      obtain ⟨⟨p0, p1⟩, p2, p3, p4⟩ := hC.si.slot hb (hC.k1 b hb hbp.b1) (q := 3 + 4 * i) (by rw [w0']; exact k3)
      have wC := hC.si.wf
      have lC := hC.ln
      have vC := hC.vs
      unfold Ar.nxtE
      have ea : b + (1 + 4 * i) = b + 1 + 4 * i := by omega
      have ec : b + (3 + 4 * i) = b + 3 + 4 * i := by omega
      rw [ea] at q1 q2 q3 q4
      rw [ea, ec] at p1 p2 p3 p4
      rw [ea] at wC lC vC
      rw [ea, ec]
      have vD := (ld_len (A := B.ld (b + 1 + 4 * i)) (b + 3 + 4 * i)).2
      have vCl := congrArg List.length vC
      have vDl := congrArg List.length vD
      have hl4 : ∀ v : Int × Int, (((A.vs.set s.toNat (0, 0)).set u.toNat (0, 0)).set s.toNat v).length = A.vs.length := fun v => by rw [List.length_set, List.length_set, List.length_set]
      have hl5 := hl4 (rvT B.ws (b + 1 + 4 * i), B.ldN (b + 1 + 4 * i))
      repeat' (first | exact absurd hlt h | exact absurd h ha0 | exact absurd h ha1 | (apply gSt; apply L_stV rfl rfl rfl rfl rfl; (· exact up_); (· omega); (· omega)) | (apply gCall; apply L_call rfl rfl rfl rfl rfl; (· first | exact l4LoadT (C := C) (A := B) (a := b + 1 + 4 * i) tk_ hw (by omega) q1 (by omega) q2 q3 q4 | exact l4LoadT (C := C) (A := B.ld (b + 1 + 4 * i)) (a := b + 3 + 4 * i) tk_ wC (by omega) p1 (by omega) p2 p3 p4); rintro _ _ ⟨rfl, rfl⟩) | first | ((first | (apply gCall; apply L_call rfl rfl rfl rfl rfl) | (apply gQC; apply Q_call rfl rfl rfl rfl rfl)); (· first | exact l6Key_c at_ hw om om om om | exact l6Value_c at_ hw om om om om | exact l4Same_c at_ hw om (hK _ om om) hkt); try rintro _ _ ⟨rfl, rfl⟩) | (apply gL; first | refine L_nil ?_ | refine yS ?_ | refine yX fun _ => ?_ | refine yA fun _ => ?_ | (apply gSt; first | refine sR ?_ | refine sB ?_ | refine s1 ?_ | refine sW ?_ | refine sN ?_) | refine kV ?_ | (apply L_val rfl rfl rfl; (· first | (apply gBin; first | fail ) | fail | (apply v_ld rfl; (· exact at_); (· first | exact ld_rowV0 om om | exact ld_rowV1 om om); done))) | ((fail_if_success (refine L_known rfl ?_)); refine yW (fun h => ?_) fun h => ?_)) | (apply gW; first | refine W_seq ?_ | refine W_region ?_ | refine W_ret ?_ | refine W_skip ?_ | refine W_block ?_ | refine W_exit ?_ | refine W_cond1 rfl ?_ | refine W_cond0 rfl ?_ | refine cW (fun h => ?_) fun h => ?_ | refine wQ ?_) | (first | refine seqR.normal ?_ | refine seqR.ret ?_ | refine seqR.exit ?_ | refine blockR.normal ?_ | refine blockR.ret ?_ | refine blockR.here ?_ | refine blockR.exit rfl ?_ | refine loopR.ret ?_ | refine loopR.exit ?_) | (apply gQ; first | refine Q_nil ?_ | refine Q_skip rfl rfl rfl ?_ | refine kQ ?_ | (apply Q_val rfl rfl rfl; (· first | (apply gBin; first | fail ) | fail | (apply v_ld rfl; (· exact at_); (· first | exact ld_rowV0 om om | exact ld_rowV1 om om); done))) | ((fail_if_success (refine Q_known rfl ?_)); refine zW (fun h => ?_) fun h => ?_)) | fail)
      refine retR.ret _ ((C.br, .cells (rowV ((((A.vs.set s.toNat (0, 0)).set u.toNat (0, 0)).set s.toNat (rvT B.ws (b + 1 + 4 * i), B.ldN (b + 1 + 4 * i))).set u.toNat (rvT (B.ld (b + 1 + 4 * i)).ws (b + 3 + 4 * i), (B.ld (b + 1 + 4 * i)).ldN (b + 3 + 4 * i))) C.rs) 47 (0, 0)) :: (C.bw, wObj C ((B.ld (b + 1 + 4 * i)).ld (b + 3 + 4 * i))) :: H2) (retCT rfl rfl at_ (by rfl) rfl) cvt_ (.inl ⟨_, rfl, ?_, ?_⟩)
      · rw [arV_len (F := (B.ld (b + 1 + 4 * i)).ld (b + 3 + 4 * i)) (l := (A.vs.set s.toNat (rvT B.ws (b + 1 + 4 * i), B.ldN (b + 1 + 4 * i))).set u.toNat (rvT (B.ld (b + 1 + 4 * i)).ws (b + 3 + 4 * i), (B.ld (b + 1 + 4 * i)).ldN (b + 3 + 4 * i))) (by rw [hl3]; omega)]
        first | done | rfl
      · rw [set_twice (show s.toNat ≠ u.toNat by omega)]
        first | done | rfl
    · have ha' : ¬ (rvT B.ws (b + 1 + 4 * i) ≠ 0 ∧ rvT B.ws (b + 3 + 4 * i) ≠ 0) := fun c => ha (decide_eq_true c)
      repeat' (first | exact absurd hlt h | (exfalso; exact ha' ⟨by assumption, h⟩) | first | ((first | (apply gCall; apply L_call rfl rfl rfl rfl rfl) | (apply gQC; apply Q_call rfl rfl rfl rfl rfl)); (· first | exact l6Key_c at_ hw om om om om | exact l6Value_c at_ hw om om om om | exact l4Same_c at_ hw om (hK _ om om) hkt); try rintro _ _ ⟨rfl, rfl⟩) | (apply gL; first | refine L_nil ?_ | refine yS ?_ | refine yX fun _ => ?_ | refine yA fun _ => ?_ | (apply gSt; first | refine sR ?_ | refine sB ?_ | refine s1 ?_ | refine sW ?_ | refine sN ?_) | refine kV ?_ | (apply L_val rfl rfl rfl; (· first | (apply gBin; first | fail ) | fail | (apply v_ld rfl; (· exact at_); (· first | exact ld_rowV0 om om | exact ld_rowV1 om om); done))) | ((fail_if_success (refine L_known rfl ?_)); refine yW (fun h => ?_) fun h => ?_)) | (apply gW; first | refine W_seq ?_ | refine W_region ?_ | refine W_ret ?_ | refine W_skip ?_ | refine W_block ?_ | refine W_exit ?_ | refine W_cond1 rfl ?_ | refine W_cond0 rfl ?_ | refine cW (fun h => ?_) fun h => ?_ | refine wQ ?_) | (first | refine seqR.normal ?_ | refine seqR.ret ?_ | refine seqR.exit ?_ | refine blockR.normal ?_ | refine blockR.ret ?_ | refine blockR.here ?_ | refine blockR.exit rfl ?_ | refine loopR.ret ?_ | refine loopR.exit ?_) | (apply gQ; first | refine Q_nil ?_ | refine Q_skip rfl rfl rfl ?_ | refine kQ ?_ | (apply Q_val rfl rfl rfl; (· first | (apply gBin; first | fail ) | fail | (apply v_ld rfl; (· exact at_); (· first | exact ld_rowV0 om om | exact ld_rowV1 om om); done))) | ((fail_if_success (refine Q_known rfl ?_)); refine zW (fun h => ?_) fun h => ?_)) | fail)
      all_goals apply loopR.mk (i + 1)
      all_goals first | (exact sub_; done) | (exact cvt_; done) | (omega) | exact ⟨by omega, by omega, by rw [hi3, nxtK_next hlt ha]⟩
  · rw [hi3, nxtK_end hlt]
    repeat' (first | exact absurd h hlt | first | ((first | (apply gCall; apply L_call rfl rfl rfl rfl rfl) | (apply gQC; apply Q_call rfl rfl rfl rfl rfl)); (· first | exact l6Key_c at_ hw om om om om | exact l6Value_c at_ hw om om om om | exact l4Same_c at_ hw om (hK _ om om) hkt); try rintro _ _ ⟨rfl, rfl⟩) | (apply gL; first | refine L_nil ?_ | refine yS ?_ | refine yX fun _ => ?_ | refine yA fun _ => ?_ | (apply gSt; first | refine sR ?_ | refine sB ?_ | refine s1 ?_ | refine sW ?_ | refine sN ?_) | refine kV ?_ | (apply L_val rfl rfl rfl; (· first | (apply gBin; first | fail ) | fail | (apply v_ld rfl; (· exact at_); (· first | exact ld_rowV0 om om | exact ld_rowV1 om om); done))) | ((fail_if_success (refine L_known rfl ?_)); refine yW (fun h => ?_) fun h => ?_)) | (apply gW; first | refine W_seq ?_ | refine W_region ?_ | refine W_ret ?_ | refine W_skip ?_ | refine W_block ?_ | refine W_exit ?_ | refine W_cond1 rfl ?_ | refine W_cond0 rfl ?_ | refine cW (fun h => ?_) fun h => ?_ | refine wQ ?_) | (first | refine seqR.normal ?_ | refine seqR.ret ?_ | refine seqR.exit ?_ | refine blockR.normal ?_ | refine blockR.ret ?_ | refine blockR.here ?_ | refine blockR.exit rfl ?_ | refine loopR.ret ?_ | refine loopR.exit ?_) | (apply gQ; first | refine Q_nil ?_ | refine Q_skip rfl rfl rfl ?_ | refine kQ ?_ | (apply Q_val rfl rfl rfl; (· first | (apply gBin; first | fail ) | fail | (apply v_ld rfl; (· exact at_); (· first | exact ld_rowV0 om om | exact ld_rowV1 om om); done))) | ((fail_if_success (refine Q_known rfl ?_)); refine zW (fun h => ?_) fun h => ?_)) | fail)
    refine retR.ret _ ((C.br, .cells (rowV ((A.vs.set s.toNat (0, 0)).set u.toNat (0, 0)) C.rs) 47 (0, 0)) :: (C.bw, wObj C B) :: H2) (retCT rfl rfl at_ (by rfl) rfl) cvt_ (.inl ⟨_, rfl, ?_, rfl⟩)
    rw [arV_len (F := B) (l := (A.vs.set s.toNat (0, 0)).set u.toNat (0, 0)) (by rw [hl3]; omega)]
    first | done | rfl
set_option maxHeartbeats 8000000 in
theorem l6Next_c {r k s u : Int} {H1 H2 : HL} (hT : Tk H C.br (rObj C A) H1) (hT2 : Tk H1 C.bw (wObj C A) H2) (hS : SI A m) (hr0 : 0 ≤ r) (hr1 : r < (A.vs.length : Int)) (hk0 : 0 ≤ k) (hk1 : k < (A.vs.length : Int)) (hs : 0 ≤ s ∧ s < (A.vs.length : Int)) (hu : 0 ≤ u ∧ u < (A.vs.length : Int)) (hsu : s ≠ u) (hx : A.vs.length ≤ 1048576) (h4 : rT A r = 4)
    (hkeys : rvT A.ws (rN A r + 2) = 8 → A.keysOk (A.where_ (rvN A.ws (rN A r + 2))) = true) :
    Fn Tryz.prog w0 46 #[arV C A, .int .i64 r, .int .i64 k, .int .i64 s, .int .i64 u] H (NRes C A (A.nextA (rN A r) (rT A k) (rN A k) s u) H2) := by
  refine Fn.conv (Cv.take hT (Cv.take hT2 Cv.refl)) ?_
  have hrf : isRef (rT A r) = true := by rw [h4]; decide
  obtain ⟨p0, p1', p2'⟩ := hS.rts r hr0 hr1 hrf
  have p1 := p2' hr1
  have p2 : hk (g A.ws (rN A r)) = 2 := by
    have := (hS.rtk r hr0 hr1).1 hrf
    rw [hS.where1 p0 p1, h4] at this; exact this
  obtain ⟨mB, hL, s1, s2, s3, s4, s5⟩ := hS.open_ p0 p1 p2
  have wB := hL.si.wf
  have hln := hS.ln
  have hse := hS.se
  have hlB := hL.ln
  have hvB := hL.vs
  have hvl := congrArg List.length hvB
  have hO := OpO.of (p := rN A r) hlB (by omega) s5
  have hK9 : KeysP (A.ld (rN A r + 2)) (A.bkO (rN A r)) (A.bnO (rN A r)) ∧ ∀ i : Int, 0 ≤ i → i < A.bnO (rN A r) → rvT (A.ld (rN A r + 2)).ws (A.bkO (rN A r) + 1 + 4 * i) ≠ 9 := by
    refine ⟨fun i a b => ?_, fun i a b => ?_⟩
    · obtain ⟨c, d, e⟩ := hO.bk (by omega)
      have := hS.open_keys p0 p1 p2 e (hkeys e)
      have e1 : A.bkO (rN A r) = A.ldN (rN A r + 2) := by unfold Ar.bkO; rw [if_neg (by omega)]
      rw [d, e1] at b ⊢
      exact this i a b
    · obtain ⟨c, d, e⟩ := hO.bk (by omega)
      exact (c.n9 i a (by omega)).1
  have hkey := (hL.si.rootKey (i := k) hk0 (by omega)).1
  have eT : rT (A.ld (rN A r + 2)) k = rT A k := by dsimp only [rT]; rw [hvB]
  have eN : rN (A.ld (rN A r + 2)) k = rN A k := by dsimp only [rN]; rw [hvB]
  rw [eT, eN] at hkey
  refine enter5 Tryz.func46 rfl rfl Tryz.ntmps46 rfl ?_
  repeat' (first | ((first | (apply gCall; apply L_call rfl rfl rfl rfl rfl) | (apply gQC; apply Q_call rfl rfl rfl rfl rfl)); (· first | exact l6Key_c at_ hw om om om om | exact l6Value_c at_ hw om om om om | exact l4Same_c at_ hw om (hK _ om om) hkt); try rintro _ _ ⟨rfl, rfl⟩) | (apply gL; first | refine L_nil ?_ | refine yS ?_ | refine yX fun _ => ?_ | refine yA fun _ => ?_ | (apply gSt; first | refine sR ?_ | refine sB ?_ | refine s1 ?_ | refine sW ?_ | refine sN ?_) | refine kV ?_ | (apply L_val rfl rfl rfl; (· first | (apply gBin; first | fail ) | fail | (apply v_ld rfl; (· exact at_); (· first | exact ld_rowV0 om om | exact ld_rowV1 om om); done))) | ((fail_if_success (refine L_known rfl ?_)); refine yW (fun h => ?_) fun h => ?_)) | (apply gW; first | refine W_seq ?_ | refine W_region ?_ | refine W_ret ?_ | refine W_skip ?_ | refine W_block ?_ | refine W_exit ?_ | refine W_cond1 rfl ?_ | refine W_cond0 rfl ?_ | refine cW (fun h => ?_) fun h => ?_ | refine wQ ?_) | (first | refine seqR.normal ?_ | refine seqR.ret ?_ | refine seqR.exit ?_ | refine blockR.normal ?_ | refine blockR.ret ?_ | refine blockR.here ?_ | refine blockR.exit rfl ?_ | refine loopR.ret ?_ | refine loopR.exit ?_) | (apply gQ; first | refine Q_nil ?_ | refine Q_skip rfl rfl rfl ?_ | refine kQ ?_ | (apply Q_val rfl rfl rfl; (· first | (apply gBin; first | fail ) | fail | (apply v_ld rfl; (· exact at_); (· first | exact ld_rowV0 om om | exact ld_rowV1 om om); done))) | ((fail_if_success (refine Q_known rfl ?_)); refine zW (fun h => ?_) fun h => ?_)) | fail)
  apply L_call rfl rfl rfl rfl rfl
  · exact l6Open_c (C := C) (A := A) (r := r) (p := rN A r) tk_ tk_ hS hr0 hr1 hx rfl p0 p1 p2
  rintro _ _ ⟨rfl, rfl⟩
  have eb : (if rvT A.ws (rN A r + 2) = 0 then 0 else A.ldN (rN A r + 2)) = A.bkO (rN A r) := rfl
  have en : (if rvT A.ws (rN A r + 2) = 0 then 0 else rs (g (A.ld (rN A r + 2)).ws (A.ldN (rN A r + 2))) / 4) = A.bnO (rN A r) := rfl
  rw [eb, en]
  have b0 := hO.b0
  have n0 := hO.n0
  have bl := hO.ln
  have hbk : 0 < A.bnO (rN A r) → BkP (A.ld (rN A r + 2)) mB (A.bkO (rN A r)) ∧ A.bnO (rN A r) = rs (g (A.ld (rN A r + 2)).ws (A.bkO (rN A r))) / 4 := fun c => ⟨(hO.bk c).1, (hO.bk c).2.1⟩
  repeat' ((fail_if_success apply gAt 3); (first | ((first | (apply gCall; apply L_call rfl rfl rfl rfl rfl) | (apply gQC; apply Q_call rfl rfl rfl rfl rfl)); (· first | exact l6Key_c at_ hw om om om om | exact l6Value_c at_ hw om om om om | exact l4Same_c at_ hw om (hK _ om om) hkt); try rintro _ _ ⟨rfl, rfl⟩) | (apply gL; first | refine L_nil ?_ | refine yS ?_ | refine yX fun _ => ?_ | refine yA fun _ => ?_ | (apply gSt; first | refine sR ?_ | refine sB ?_ | refine s1 ?_ | refine sW ?_ | refine sN ?_) | refine kV ?_ | (apply L_val rfl rfl rfl; (· first | (apply gBin; first | fail ) | fail | (apply v_ld rfl; (· exact at_); (· first | exact ld_rowV0 om om | exact ld_rowV1 om om); done))) | ((fail_if_success (refine L_known rfl ?_)); refine yW (fun h => ?_) fun h => ?_)) | (apply gW; first | refine W_seq ?_ | refine W_region ?_ | refine W_ret ?_ | refine W_skip ?_ | refine W_block ?_ | refine W_exit ?_ | refine W_cond1 rfl ?_ | refine W_cond0 rfl ?_ | refine cW (fun h => ?_) fun h => ?_ | refine wQ ?_) | (first | refine seqR.normal ?_ | refine seqR.ret ?_ | refine seqR.exit ?_ | refine blockR.normal ?_ | refine blockR.ret ?_ | refine blockR.here ?_ | refine blockR.exit rfl ?_ | refine loopR.ret ?_ | refine loopR.exit ?_) | (apply gQ; first | refine Q_nil ?_ | refine Q_skip rfl rfl rfl ?_ | refine kQ ?_ | (apply Q_val rfl rfl rfl; (· first | (apply gBin; first | fail ) | fail | (apply v_ld rfl; (· exact at_); (· first | exact ld_rowV0 om om | exact ld_rowV1 om om); done))) | ((fail_if_success (refine Q_known rfl ?_)); refine zW (fun h => ?_) fun h => ?_)) | fail))
  by_cases ht : rT A k = 0
  · have e : A.nextA (rN A r) (rT A k) (rN A k) s u = some { ((A.ld (rN A r + 2)).nxtK (A.bkO (rN A r)) (A.bnO (rN A r)) ((-1) + 1)).1 with vs := (A.vs.set s.toNat ((A.ld (rN A r + 2)).nxtK (A.bkO (rN A r)) (A.bnO (rN A r)) ((-1) + 1)).2.1).set u.toNat ((A.ld (rN A r + 2)).nxtK (A.bkO (rN A r)) (A.bnO (rN A r)) ((-1) + 1)).2.2 } := by
      unfold Ar.nextA Ar.nextK; rw [if_pos ht]; rfl
    repeat' (first | exact absurd ht h | ((fail_if_success apply gAtR 7); (first | ((first | (apply gCall; apply L_call rfl rfl rfl rfl rfl) | (apply gQC; apply Q_call rfl rfl rfl rfl rfl)); (· first | exact l6Key_c at_ hw om om om om | exact l6Value_c at_ hw om om om om | exact l4Same_c at_ hw om (hK _ om om) hkt); try rintro _ _ ⟨rfl, rfl⟩) | (apply gL; first | refine L_nil ?_ | refine yS ?_ | refine yX fun _ => ?_ | refine yA fun _ => ?_ | (apply gSt; first | refine sR ?_ | refine sB ?_ | refine s1 ?_ | refine sW ?_ | refine sN ?_) | refine kV ?_ | (apply L_val rfl rfl rfl; (· first | (apply gBin; first | fail ) | fail | (apply v_ld rfl; (· exact at_); (· first | exact ld_rowV0 om om | exact ld_rowV1 om om); done))) | ((fail_if_success (refine L_known rfl ?_)); refine yW (fun h => ?_) fun h => ?_)) | (apply gW; first | refine W_seq ?_ | refine W_region ?_ | refine W_ret ?_ | refine W_skip ?_ | refine W_block ?_ | refine W_exit ?_ | refine W_cond1 rfl ?_ | refine W_cond0 rfl ?_ | refine cW (fun h => ?_) fun h => ?_ | refine wQ ?_) | (first | refine seqR.normal ?_ | refine seqR.ret ?_ | refine seqR.exit ?_ | refine blockR.normal ?_ | refine blockR.ret ?_ | refine blockR.here ?_ | refine blockR.exit rfl ?_ | refine loopR.ret ?_ | refine loopR.exit ?_) | (apply gQ; first | refine Q_nil ?_ | refine Q_skip rfl rfl rfl ?_ | refine kQ ?_ | (apply Q_val rfl rfl rfl; (· first | (apply gBin; first | fail ) | fail | (apply v_ld rfl; (· exact at_); (· first | exact ld_rowV0 om om | exact ld_rowV1 om om); done))) | ((fail_if_success (refine Q_known rfl ?_)); refine zW (fun h => ?_) fun h => ?_)) | fail)))
    rename_i b5 b10
    exact W_sub (F := [(3, .int .i64 s), (4, .int .i64 u), (5, .pointer (some ⟨b5, 0, none⟩)), (10, .pointer (some ⟨b10, 0, none⟩)), (12, .int .i64 (A.bkO (rN A r))), (13, .int .i64 (A.bnO (rN A r))), (14, .int .i64 (-1))]) sub_ cvt_ (l6Next_t hL.si hvB hx hs hu hsu b0 n0 bl hbk (.inr rfl) e)
  · by_cases hf : ((A.ld (rN A r + 2)).find (A.bkO (rN A r)) (A.bnO (rN A r)) (rT A k) (rN A k)).2 = true
    · have hnp : 0 < A.bnO (rN A r) := by
        rcases Int.lt_or_le 0 (A.bnO (rN A r)) with c | c
        · exact c
        · have : A.bnO (rN A r) = 0 := by omega
          unfold Ar.find at hf; rw [if_pos (.inl this)] at hf; cases hf
      obtain ⟨f0, f1⟩ := find_in hnp hf
      have hpl : (if ((A.ld (rN A r + 2)).find (A.bkO (rN A r)) (A.bnO (rN A r)) (rT A k) (rN A k)).2 = true then ((A.ld (rN A r + 2)).find (A.bkO (rN A r)) (A.bnO (rN A r)) (rT A k) (rN A k)).1 else -1) = ((A.ld (rN A r + 2)).find (A.bkO (rN A r)) (A.bnO (rN A r)) (rT A k) (rN A k)).1 := if_pos hf
      have e : A.nextA (rN A r) (rT A k) (rN A k) s u = some { ((A.ld (rN A r + 2)).nxtK (A.bkO (rN A r)) (A.bnO (rN A r)) (((A.ld (rN A r + 2)).find (A.bkO (rN A r)) (A.bnO (rN A r)) (rT A k) (rN A k)).1 + 1)).1 with vs := (A.vs.set s.toNat ((A.ld (rN A r + 2)).nxtK (A.bkO (rN A r)) (A.bnO (rN A r)) (((A.ld (rN A r + 2)).find (A.bkO (rN A r)) (A.bnO (rN A r)) (rT A k) (rN A k)).1 + 1)).2.1).set u.toNat ((A.ld (rN A r + 2)).nxtK (A.bkO (rN A r)) (A.bnO (rN A r)) (((A.ld (rN A r + 2)).find (A.bkO (rN A r)) (A.bnO (rN A r)) (rT A k) (rN A k)).1 + 1)).2.2 } := by
        unfold Ar.nextA Ar.nextK; rw [if_neg ht, if_pos hf]
      repeat' (first | exact absurd h ht | (exfalso; omega) | (apply gQC; apply Q_call rfl rfl rfl rfl rfl; (· exact l6Place_c (C := C) (A := A.ld (rN A r + 2)) (b := A.bkO (rN A r)) (n := A.bnO (rN A r)) (t := rT A k) (x := rN A k) at_ wB (by omega) b0 n0 bl hO.ky hkey hK9.1 hK9.2); rw [hpl]) | ((fail_if_success apply gAtR 7); (first | ((first | (apply gCall; apply L_call rfl rfl rfl rfl rfl) | (apply gQC; apply Q_call rfl rfl rfl rfl rfl)); (· first | exact l6Key_c at_ hw om om om om | exact l6Value_c at_ hw om om om om | exact l4Same_c at_ hw om (hK _ om om) hkt); try rintro _ _ ⟨rfl, rfl⟩) | (apply gL; first | refine L_nil ?_ | refine yS ?_ | refine yX fun _ => ?_ | refine yA fun _ => ?_ | (apply gSt; first | refine sR ?_ | refine sB ?_ | refine s1 ?_ | refine sW ?_ | refine sN ?_) | refine kV ?_ | (apply L_val rfl rfl rfl; (· first | (apply gBin; first | fail ) | fail | (apply v_ld rfl; (· exact at_); (· first | exact ld_rowV0 om om | exact ld_rowV1 om om); done))) | ((fail_if_success (refine L_known rfl ?_)); refine yW (fun h => ?_) fun h => ?_)) | (apply gW; first | refine W_seq ?_ | refine W_region ?_ | refine W_ret ?_ | refine W_skip ?_ | refine W_block ?_ | refine W_exit ?_ | refine W_cond1 rfl ?_ | refine W_cond0 rfl ?_ | refine cW (fun h => ?_) fun h => ?_ | refine wQ ?_) | (first | refine seqR.normal ?_ | refine seqR.ret ?_ | refine seqR.exit ?_ | refine blockR.normal ?_ | refine blockR.ret ?_ | refine blockR.here ?_ | refine blockR.exit rfl ?_ | refine loopR.ret ?_ | refine loopR.exit ?_) | (apply gQ; first | refine Q_nil ?_ | refine Q_skip rfl rfl rfl ?_ | refine kQ ?_ | (apply Q_val rfl rfl rfl; (· first | (apply gBin; first | fail ) | fail | (apply v_ld rfl; (· exact at_); (· first | exact ld_rowV0 om om | exact ld_rowV1 om om); done))) | ((fail_if_success (refine Q_known rfl ?_)); refine zW (fun h => ?_) fun h => ?_)) | fail)))
      rename_i b5 b10 _
      exact W_sub (F := [(3, .int .i64 s), (4, .int .i64 u), (5, .pointer (some ⟨b5, 0, none⟩)), (10, .pointer (some ⟨b10, 0, none⟩)), (12, .int .i64 (A.bkO (rN A r))), (13, .int .i64 (A.bnO (rN A r))), (14, .int .i64 ((A.ld (rN A r + 2)).find (A.bkO (rN A r)) (A.bnO (rN A r)) (rT A k) (rN A k)).1)]) sub_ cvt_ (l6Next_t hL.si hvB hx hs hu hsu b0 n0 bl hbk (.inl ⟨by omega, f1⟩) e)
    · have e : A.nextA (rN A r) (rT A k) (rN A k) s u = none := by
        unfold Ar.nextA Ar.nextK; rw [if_neg ht, if_neg hf]
      repeat' (first | exact absurd h ht | (apply gQC; apply Q_call rfl rfl rfl rfl rfl; (· exact l6Place_c (C := C) (A := A.ld (rN A r + 2)) (b := A.bkO (rN A r)) (n := A.bnO (rN A r)) (t := rT A k) (x := rN A k) at_ wB (by omega) b0 n0 bl hO.ky hkey hK9.1 hK9.2); rw [if_neg hf]) | (exfalso; omega) | first | ((first | (apply gCall; apply L_call rfl rfl rfl rfl rfl) | (apply gQC; apply Q_call rfl rfl rfl rfl rfl)); (· first | exact l6Key_c at_ hw om om om om | exact l6Value_c at_ hw om om om om | exact l4Same_c at_ hw om (hK _ om om) hkt); try rintro _ _ ⟨rfl, rfl⟩) | (apply gL; first | refine L_nil ?_ | refine yS ?_ | refine yX fun _ => ?_ | refine yA fun _ => ?_ | (apply gSt; first | refine sR ?_ | refine sB ?_ | refine s1 ?_ | refine sW ?_ | refine sN ?_) | refine kV ?_ | (apply L_val rfl rfl rfl; (· first | (apply gBin; first | fail ) | fail | (apply v_ld rfl; (· exact at_); (· first | exact ld_rowV0 om om | exact ld_rowV1 om om); done))) | ((fail_if_success (refine L_known rfl ?_)); refine yW (fun h => ?_) fun h => ?_)) | (apply gW; first | refine W_seq ?_ | refine W_region ?_ | refine W_ret ?_ | refine W_skip ?_ | refine W_block ?_ | refine W_exit ?_ | refine W_cond1 rfl ?_ | refine W_cond0 rfl ?_ | refine cW (fun h => ?_) fun h => ?_ | refine wQ ?_) | (first | refine seqR.normal ?_ | refine seqR.ret ?_ | refine seqR.exit ?_ | refine blockR.normal ?_ | refine blockR.ret ?_ | refine blockR.here ?_ | refine blockR.exit rfl ?_ | refine loopR.ret ?_ | refine loopR.exit ?_) | (apply gQ; first | refine Q_nil ?_ | refine Q_skip rfl rfl rfl ?_ | refine kQ ?_ | (apply Q_val rfl rfl rfl; (· first | (apply gBin; first | fail ) | fail | (apply v_ld rfl; (· exact at_); (· first | exact ld_rowV0 om om | exact ld_rowV1 om om); done))) | ((fail_if_success (refine Q_known rfl ?_)); refine zW (fun h => ?_) fun h => ?_)) | fail)
      exact retR.ret _ ((C.br, rObj C A) :: (C.bw, wObj C (A.ld (rN A r + 2))) :: H2) (retCT rfl rfl at_ (by rfl) rfl) cvt_ (.inr ⟨e, A.ld (rN A r + 2), rfl, rfl⟩)
end Go.Proofs.YtepddopgmhdllaaGreat.Eng
