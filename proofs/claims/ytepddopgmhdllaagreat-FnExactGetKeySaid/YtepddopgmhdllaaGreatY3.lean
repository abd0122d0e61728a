/- The implementation's getKey. -/
import Derived.Test.YtepddopgmhdllaaGreatD5
import Derived.Test.YtepddopgmhdllaaGreatY1
import Derived.Test.YtepddopgmhdllaaGreatY3a
namespace Go.Proofs.YtepddopgmhdllaaGreat.Eng
open Go Go.RowKit Go.Proofs.YtepddopgmhdllaaGreat.Sl Go.Proofs.YtepddopgmhdllaaGreat.Ar Go.Proofs.YtepddopgmhdllaaGreat.Base
set_option linter.unusedVariables false
set_option linter.unusedSimpArgs false
set_option maxRecDepth 10000
variable {w0 : World} {H : HL} {C : Cn} {A : Ar} {ba : Nat} {m : List Int}
set_option maxHeartbeats 4000000 in
/-- a key's value is loaded -/
theorem igetKey_c {p t x : Int} (hS : SI A m) (hwc : A.ws.length ≤ C.wc) (hp0 : 0 ≤ p) (h1 : g m p = 1) (h2 : hk (g A.ws p) = 2) (hv : ValP t x) (h8 : t ≠ 8) (h9 : t ≠ 9)
    (hky : ∀ mB, SI (A.ld (p + 2)) mB → KeyP (A.ld (p + 2)) t x ∧ (kd t ≠ 0 → PlaceP (A.ld (p + 2)) x)) :
    Fn Tryz.prog w0 39 #[.pointer (some ⟨ba, 0, none⟩), .int .i64 p, .agg #[.int .i64 t, .int .i64 x]] ((ba, aObj C A) :: (C.bw, wObj C A) :: H) fun v H' => v = .agg #[.int .i64 (A.getK p t x).2.1, .int .i64 (A.getK p t x).2.2] ∧ H' = (ba, aObj C (A.getK p t x).1) :: (C.bw, wObj C (A.getK p t x).1) :: H := by
  obtain ⟨mB, hL, s1, s2, s3, s4, s5⟩ := hS.open_ hp0 h1 h2
  have hw := hS.wf
  have wB := hL.si.wf
  have hln := hS.ln
  have hse := hS.se
  have hlB := hL.ln
  have hlt := GI.lt hS hp0 (by rw [h1]; decide)
  obtain ⟨k1, k2⟩ := hky mB hL.si
  refine enter3 Tryz.func39 rfl rfl Tryz.ntmps39 rfl ?_
  repeat' (first | (apply gCall; apply L_call rfl rfl rfl rfl rfl; (· fail); rintro _ _ ⟨rfl, rfl⟩) | (apply gL; first | refine L_nil ?_ | refine yX fun _ => ?_ | refine yA fun _ => ?_ | (apply gSt; first | refine sR ?_ | refine sB ?_ | refine s1 ?_ | refine sW ?_ | refine sN ?_) | refine kV ?_) | (apply gW; first | refine W_seq ?_ | refine W_region ?_ | refine W_ret ?_ | refine W_skip ?_ | refine W_cond1 rfl ?_ | refine W_cond0 rfl ?_ | refine cW (fun h => ?_) fun h => ?_) | (first | refine seqR.normal ?_ | refine seqR.ret ?_) | fail)
  apply L_call rfl rfl rfl rfl rfl
  · exact iloadT (C := C) (A := A) tk_ tk_ hw (by omega) (by omega) (by omega) (by omega) s2 s3 s4 hwc
  rintro _ _ ⟨rfl, rfl⟩
  rcases s5 with e | ⟨e, hb, eN⟩
  · have eg : A.getK p t x = (A.ld (p + 2), 0, 0) := by unfold Ar.getK; rw [if_pos e]
    rw [eg]
    repeat' (first | exact absurd e h | first | (apply gCall; apply L_call rfl rfl rfl rfl rfl; (· fail); rintro _ _ ⟨rfl, rfl⟩) | (apply gL; first | refine L_nil ?_ | refine yX fun _ => ?_ | refine yA fun _ => ?_ | (apply gSt; first | refine sR ?_ | refine sB ?_ | refine s1 ?_ | refine sW ?_ | refine sN ?_) | refine kV ?_) | (apply gW; first | refine W_seq ?_ | refine W_region ?_ | refine W_ret ?_ | refine W_skip ?_ | refine W_cond1 rfl ?_ | refine W_cond0 rfl ?_ | refine cW (fun h => ?_) fun h => ?_) | (first | refine seqR.normal ?_ | refine seqR.ret ?_) | fail)
    refine retR.ret _ _ (retC rfl rfl at_ (by rfl)) cvt_ ⟨rfl, rfl⟩
  · have hne : ¬ rvT A.ws (p + 2) = 0 := by omega
    have b0 := hb.b0
    have hn1 := hb.n1
    have hbl := hb.ln
    have blt := GI.lt hL.si b0 (by rw [hb.b1]; decide)
    have hseB := hL.si.se
    have htoB := hL.si.to
    by_cases ht : t = 0
    · have hf : (A.ld (p + 2)).find (A.ldN (p + 2)) (rs (g (A.ld (p + 2)).ws (A.ldN (p + 2))) / 4) t x = (-1, false) := by unfold Ar.find; rw [if_pos (.inr ht)]
      have eg : A.getK p t x = (A.ld (p + 2), 0, 0) := by unfold Ar.getK; rw [if_neg hne, hf, if_neg (by decide)]
      rw [eg]
      have hx0 : x = 0 := by unfold ValP at hv; omega
      repeat' (first | exact absurd h hne | ((fail_if_success apply gAtR 4); (first | (apply gCall; apply L_call rfl rfl rfl rfl rfl; (· fail); rintro _ _ ⟨rfl, rfl⟩) | (apply gL; first | refine L_nil ?_ | refine yX fun _ => ?_ | refine yA fun _ => ?_ | (apply gSt; first | refine sR ?_ | refine sB ?_ | refine s1 ?_ | refine sW ?_ | refine sN ?_) | refine kV ?_) | (apply gW; first | refine W_seq ?_ | refine W_region ?_ | refine W_ret ?_ | refine W_skip ?_ | refine W_cond1 rfl ?_ | refine W_cond0 rfl ?_ | refine cW (fun h => ?_) fun h => ?_) | (first | refine seqR.normal ?_ | refine seqR.ret ?_) | fail)))
      repeat' (first | (apply gCall; apply L_call rfl rfl rfl rfl rfl; (· fail); rintro _ _ ⟨rfl, rfl⟩) | (apply gL; first | refine L_nil ?_ | refine yX fun _ => ?_ | refine yA fun _ => ?_ | (apply gSt; first | refine sR ?_ | refine sB ?_ | refine s1 ?_ | refine sW ?_ | refine sN ?_) | refine kV ?_) | (apply gW; first | refine W_seq ?_ | refine W_region ?_ | refine W_ret ?_ | refine W_skip ?_ | refine W_cond1 rfl ?_ | refine W_cond0 rfl ?_ | refine cW (fun h => ?_) fun h => ?_) | (first | refine seqR.normal ?_ | refine seqR.ret ?_) | fail)
      apply L_call rfl rfl rfl rfl rfl
      · exact entryNo_c (C := C) (A := A.ld (p + 2)) at_ at_ wB (by omega) htoB hseB b0 rfl (by omega) (by omega) (fun i a b => (hb.rv i a b).1) (fun i a b => (hb.ky i a b).1) (fun i a b => (hb.ky i a b).2) (.inl ht) (fun i a b => (hb.n9 i a b).1) k1 (by omega) (by omega) k2
      rintro _ _ ⟨⟨z, rfl⟩, rfl⟩
      repeat' (first | exact absurd rfl h | first | (apply gCall; apply L_call rfl rfl rfl rfl rfl; (· fail); rintro _ _ ⟨rfl, rfl⟩) | (apply gL; first | refine L_nil ?_ | refine yX fun _ => ?_ | refine yA fun _ => ?_ | (apply gSt; first | refine sR ?_ | refine sB ?_ | refine s1 ?_ | refine sW ?_ | refine sN ?_) | refine kV ?_) | (apply gW; first | refine W_seq ?_ | refine W_region ?_ | refine W_ret ?_ | refine W_skip ?_ | refine W_cond1 rfl ?_ | refine W_cond0 rfl ?_ | refine cW (fun h => ?_) fun h => ?_) | (first | refine seqR.normal ?_ | refine seqR.ret ?_) | fail)
      refine retR.ret _ _ (retC rfl rfl at_ (by rfl)) cvt_ ⟨rfl, rfl⟩
    · repeat' (first | exact absurd h hne | ((fail_if_success apply gAtR 4); (first | (apply gCall; apply L_call rfl rfl rfl rfl rfl; (· fail); rintro _ _ ⟨rfl, rfl⟩) | (apply gL; first | refine L_nil ?_ | refine yX fun _ => ?_ | refine yA fun _ => ?_ | (apply gSt; first | refine sR ?_ | refine sB ?_ | refine s1 ?_ | refine sW ?_ | refine sN ?_) | refine kV ?_) | (apply gW; first | refine W_seq ?_ | refine W_region ?_ | refine W_ret ?_ | refine W_skip ?_ | refine W_cond1 rfl ?_ | refine W_cond0 rfl ?_ | refine cW (fun h => ?_) fun h => ?_) | (first | refine seqR.normal ?_ | refine seqR.ret ?_) | fail)))
      repeat' (first | (apply gCall; apply L_call rfl rfl rfl rfl rfl; (· fail); rintro _ _ ⟨rfl, rfl⟩) | (apply gL; first | refine L_nil ?_ | refine yX fun _ => ?_ | refine yA fun _ => ?_ | (apply gSt; first | refine sR ?_ | refine sB ?_ | refine s1 ?_ | refine sW ?_ | refine sN ?_) | refine kV ?_) | (apply gW; first | refine W_seq ?_ | refine W_region ?_ | refine W_ret ?_ | refine W_skip ?_ | refine W_cond1 rfl ?_ | refine W_cond0 rfl ?_ | refine cW (fun h => ?_) fun h => ?_) | (first | refine seqR.normal ?_ | refine seqR.ret ?_) | fail)
      apply L_call rfl rfl rfl rfl rfl
      · exact entry_c (C := C) (A := A.ld (p + 2)) at_ at_ wB (by omega) htoB hseB b0 rfl (by omega) (by omega) (fun i a b => (hb.rv i a b).1) (fun i a b => (hb.ky i a b).1) (fun i a b => (hb.ky i a b).2) k1 ht hv h8 h9 k2
      rintro _ _ ⟨rfl, rfl⟩
      by_cases hf : ((A.ld (p + 2)).find (A.ldN (p + 2)) (rs (g (A.ld (p + 2)).ws (A.ldN (p + 2))) / 4) t x).2 = true
      · unfold Ar.getK
        rw [if_neg hne, if_pos hf]
        obtain ⟨f0, f1⟩ := find_in (by omega) hf
        have hq := (hb.ks _ f0 f1).2
        obtain ⟨q1, q2, q3, q4⟩ := hL.si.slot b0 hb.b1 hq
        repeat' (first | exact absurd hf (by rw [h]; decide) | ((fail_if_success apply gAtR 7); (first | (apply gCall; apply L_call rfl rfl rfl rfl rfl; (· fail); rintro _ _ ⟨rfl, rfl⟩) | (apply gL; first | refine L_nil ?_ | refine yX fun _ => ?_ | refine yA fun _ => ?_ | (apply gSt; first | refine sR ?_ | refine sB ?_ | refine s1 ?_ | refine sW ?_ | refine sN ?_) | refine kV ?_) | (apply gW; first | refine W_seq ?_ | refine W_region ?_ | refine W_ret ?_ | refine W_skip ?_ | refine W_cond1 rfl ?_ | refine W_cond0 rfl ?_ | refine cW (fun h => ?_) fun h => ?_) | (first | refine seqR.normal ?_ | refine seqR.ret ?_) | fail)))
        repeat' (first | (apply gCall; apply L_call rfl rfl rfl rfl rfl; (· fail); rintro _ _ ⟨rfl, rfl⟩) | (apply gL; first | refine L_nil ?_ | refine yX fun _ => ?_ | refine yA fun _ => ?_ | (apply gSt; first | refine sR ?_ | refine sB ?_ | refine s1 ?_ | refine sW ?_ | refine sN ?_) | refine kV ?_) | (apply gW; first | refine W_seq ?_ | refine W_region ?_ | refine W_ret ?_ | refine W_skip ?_ | refine W_cond1 rfl ?_ | refine W_cond0 rfl ?_ | refine cW (fun h => ?_) fun h => ?_) | (first | refine seqR.normal ?_ | refine seqR.ret ?_) | fail)
        apply L_call rfl rfl rfl rfl rfl
        · exact iloadT (C := C) (A := A.ld (p + 2)) tk_ tk_ wB (by omega) (by omega) (by omega) (by omega) q2 q3 q4 (by omega)
        rintro _ _ ⟨rfl, rfl⟩
        repeat' (first | (apply gCall; apply L_call rfl rfl rfl rfl rfl; (· fail); rintro _ _ ⟨rfl, rfl⟩) | (apply gL; first | refine L_nil ?_ | refine yX fun _ => ?_ | refine yA fun _ => ?_ | (apply gSt; first | refine sR ?_ | refine sB ?_ | refine s1 ?_ | refine sW ?_ | refine sN ?_) | refine kV ?_) | (apply gW; first | refine W_seq ?_ | refine W_region ?_ | refine W_ret ?_ | refine W_skip ?_ | refine W_cond1 rfl ?_ | refine W_cond0 rfl ?_ | refine cW (fun h => ?_) fun h => ?_) | (first | refine seqR.normal ?_ | refine seqR.ret ?_) | fail)
        refine retR.ret _ _ (retC rfl rfl at_ (by rfl)) cvt_ ⟨rfl, rfl⟩
      · have eg : A.getK p t x = (A.ld (p + 2), 0, 0) := by unfold Ar.getK; rw [if_neg hne, if_neg hf]
        rw [eg]
        repeat' (first | exact absurd h hf | first | (apply gCall; apply L_call rfl rfl rfl rfl rfl; (· fail); rintro _ _ ⟨rfl, rfl⟩) | (apply gL; first | refine L_nil ?_ | refine yX fun _ => ?_ | refine yA fun _ => ?_ | (apply gSt; first | refine sR ?_ | refine sB ?_ | refine s1 ?_ | refine sW ?_ | refine sN ?_) | refine kV ?_) | (apply gW; first | refine W_seq ?_ | refine W_region ?_ | refine W_ret ?_ | refine W_skip ?_ | refine W_cond1 rfl ?_ | refine W_cond0 rfl ?_ | refine cW (fun h => ?_) fun h => ?_) | (first | refine seqR.normal ?_ | refine seqR.ret ?_) | fail)
        refine retR.ret _ _ (retC rfl rfl at_ (by rfl)) cvt_ ⟨rfl, rfl⟩
end Go.Proofs.YtepddopgmhdllaaGreat.Eng
