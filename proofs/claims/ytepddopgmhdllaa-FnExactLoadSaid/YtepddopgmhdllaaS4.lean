/- The reference's tiles. -/
import Derived.Test.YtepddopgmhdllaaS3
namespace Go.Proofs.Ytepddopgmhdllaa.Eng
open Go Go.RowKit Go.Proofs.Ytepddopgmhdllaa.Sl Go.Proofs.Ytepddopgmhdllaa.Ar Go.Proofs.Ytepddopgmhdllaa.Base
set_option linter.unusedVariables false
set_option linter.unusedSimpArgs false
set_option maxRecDepth 10000
variable {w0 : World} {H : HL} {C : Cn} {A : Ar}
theorem numF (h : A.numbersP) : 1 ≤ A.start A.to ∧ A.start A.to ≤ A.top ∧ A.top ≤ A.ws.length ∧ 1 ≤ A.start (1 - A.to) ∧ (A.cyc = true → A.start (1 - A.to) ≤ A.old ∧ A.old ≤ A.ws.length) ∧ (512 ≤ A.ws.length ∧ A.ws.length ≤ 8000) ∧ (A.to = 0 ∨ A.to = 1) ∧ 256 ≤ A.semi ∧ A.semi ≤ 4000 := by
  obtain ⟨h1, h2, h3, h4, h5, h6, h7⟩ := h
  unfold Ar.n at h2
  have ht : A.to = 0 ∨ A.to = 1 := by omega
  refine ⟨?_, h6.1, ?_, ?_, fun hc => ?_, by omega, ht, h1.1, h1.2⟩
  · unfold Ar.start; rcases ht with e | e <;> rw [e] <;> omega
  · have := h6.2; rcases ht with e | e <;> rw [e] at this <;> omega
  · unfold Ar.start; rcases ht with e | e <;> rw [e] <;> omega
  · rw [if_pos hc] at h7
    have h8 := h7.1
    exact ⟨h8.1, by have := h8.2; rcases ht with e | e <;> rw [e] at this <;> omega⟩
abbrev aObjG (C : Cn) (A : Ar) (rp : Option Addr) (rc : Nat) : Obj := .cells #[.slice (some ⟨C.bw, 0, none⟩) A.ws.length C.wc, .int .i64 A.semi, .int .i64 A.to, .int .i64 A.top, .bool A.cyc, .int .i64 A.scan, .int .i64 A.old, .int .i64 A.copied, .int .i64 A.serial, .slice rp A.vs.length rc] 29 (0, 0)
abbrev aObj (C : Cn) (A : Ar) : Obj := aObjG C A (some ⟨C.br, 0, none⟩) C.rc
abbrev mObj (m : List Int) : Obj := .cells (rowA .i64 m []) 3 (0, 0)
abbrev bObj (m : List Bool) : Obj := .cells (rowB m []) 4 (0, 0)
theorem rsR (w : Int) : 0 ≤ rs w ∧ rs w ≤ 65535 := by unfold rs hs; split <;> omega
theorem rsR' {w : Int} (h : hOk w = true) : 1 ≤ rs w ∧ rs w ≤ 256 ∧ rs w = hs w ∧ rk w = hk w ∧ rn w = hn w := by
  have := (of_decide_eq_true (show decide (HeadP _ _ _) = true from h)).range
  unfold rs rk rn; rw [if_pos h, if_pos h, if_pos h]; omega
theorem fwR (w : Int) : 0 ≤ fw w ∧ fw w ≤ 2147483647 := by
  unfold fw; split
  · rename_i h; have := of_decide_eq_true h; omega
  · omega
theorem tile1_step {f : Nat} {p : Int} {m : List Int} (h1 : A.top - p < (f : Int)) (h2 : p < A.top) : ∃ f', f = f' + 1 ∧ A.tile1 f p m = if hOk (g A.ws p) = true ∧ p + hs (g A.ws p) + 1 ≤ A.top ∧ hn (g A.ws p) < A.serial then A.tile1 f' (p + hs (g A.ws p) + 1) (m.set p.toNat 1) else none := by
  cases f with
  | zero => omega
  | succ f => exact ⟨f, rfl, by rw [Ar.tile1, if_neg (by omega)]⟩
theorem tile1_end {f : Nat} {p : Int} {m : List Int} (h1 : A.top - p < (f : Int)) (h2 : p = A.top) : A.tile1 f p m = some m := by
  cases f with
  | zero => omega
  | succ f => rw [Ar.tile1, if_pos h2]
theorem tile2_step {f : Nat} {p : Int} {m : List Int} {led : List Bool} {sum : Int} (h1 : A.old - p < (f : Int)) (h2 : p < A.old) : ∃ f', f = f' + 1 ∧ A.tile2 f p m led sum = if hOk (g A.ws p) = true then
        if hn (g A.ws p) < A.serial ∧ p + hs (g A.ws p) + 1 ≤ A.old then A.tile2 f' (p + hs (g A.ws p) + 1) (m.set p.toNat 2) led sum else none
      else if isFw (g A.ws p) = true ∧ fw (g A.ws p) < A.n ∧ g m (fw (g A.ws p)) = 1 ∧ led.getD (fw (g A.ws p)).toNat false = false ∧ p + rs (g A.ws (fw (g A.ws p))) + 1 ≤ A.old then
        A.tile2 f' (p + rs (g A.ws (fw (g A.ws p))) + 1) (m.set p.toNat 3) (led.set (fw (g A.ws p)).toNat true) (sum + rs (g A.ws (fw (g A.ws p))) + 1)
      else none := by
  cases f with
  | zero => omega
  | succ f => exact ⟨f, rfl, by rw [Ar.tile2, if_neg (by omega)]; rfl⟩
theorem tile2_end {f : Nat} {p : Int} {m : List Int} {led : List Bool} {sum : Int} (h1 : A.old - p < (f : Int)) (h2 : p = A.old) : A.tile2 f p m led sum = some (m, sum) := by
  cases f with
  | zero => omega
  | succ f => rw [Ar.tile2, if_pos h2]
theorem isSomeIf {α : Type} {Q : Prop} [Decidable Q] {m : α} : (if Q then some m else none).isSome = decide Q := by split <;> simp [*]
theorem marks_none (h : A.tile1 (A.ws.length + 1) (A.start A.to) A.zeros = none) : A.marks = none := by unfold Ar.marks; rw [h]
theorem marks_still {m : List Int} (h : A.tile1 (A.ws.length + 1) (A.start A.to) A.zeros = some m) (hc : A.cyc = false) : A.marks = some m := by unfold Ar.marks; rw [h]; simp [hc]
theorem marks_none2 {m : List Int} (h : A.tile1 (A.ws.length + 1) (A.start A.to) A.zeros = some m) (hc : A.cyc = true) (h2 : A.tile2 (A.ws.length + 1) (A.start (1 - A.to)) m A.falses 0 = none) : A.marks = none := by unfold Ar.marks; rw [h]; simp [hc, h2]
theorem marks_some2 {m m' : List Int} {sum : Int} (h : A.tile1 (A.ws.length + 1) (A.start A.to) A.zeros = some m) (hc : A.cyc = true) (h2 : A.tile2 (A.ws.length + 1) (A.start (1 - A.to)) m A.falses 0 = some (m', sum)) :
    A.marks = if sum = A.copied ∧ (A.scan = A.top ∨ (0 ≤ A.scan ∧ A.scan ≤ (m'.length : Int) - 1 ∧ g m' A.scan = 1)) then some m' else none := by unfold Ar.marks; rw [h]; simp [hc, h2]
set_option maxHeartbeats 4000000 in
theorem l2Tile_c {bm : Nat} (hA : At H C.bw (wObj C A)) (hw : Wf A.ws) (hn : A.numbersP) :
    Fn Try.prog w0 92 #[arV C A, .slice (some ⟨bm, 0, none⟩) A.ws.length A.ws.length] ((bm, mObj A.zeros) :: H) fun v H' => v = .bool (A.marks).isSome ∧ ∃ m', H' = (bm, mObj m') :: H ∧ m'.length = A.ws.length ∧ ∀ m, A.marks = some m → m' = m := by
  obtain ⟨f1, f2, f3, f4, f5, f6, f7, f8, f9⟩ := numF hn
  refine enter2 Try.func92 rfl rfl Try.ntmps92 rfl ?_
  repeat' (fail_if_success apply gAt 1); (first | (apply gL; first | refine L_nil ?_ | refine yS ?_ | refine yX fun _ => ?_ | refine yA fun _ => ?_ | (apply gSt; first | refine sR ?_ | refine sB ?_ | refine s1 ?_ | refine sW ?_ | refine sN ?_) | (apply gMk; first | (apply L_mkcap rfl rfl rfl rfl rfl rfl; (· omega); (· omega); (· omega); intro _ _) | (apply L_makeI rfl rfl rfl rfl rfl rfl; (· omega); (· omega); intro _) | (apply L_makeB rfl rfl rfl rfl rfl rfl; (· omega); (· omega); intro _) | (apply L_makeV rfl rfl rfl rfl rfl rfl; (· omega); (· omega); intro _)) | (apply gCall; apply L_call rfl rfl rfl rfl rfl; (· first | exact l1In_c _ _ _ | exact specReadHead_c om om | exact specForwarded_c om om | exact l2Start_c om om | exact l2Look_c at_ hw om om); rintro _ _ ⟨rfl, rfl⟩) | refine kV ?_ | ((fail_if_success (refine L_known rfl ?_)); first | refine yN (fun h => ?_) fun h => ?_ | refine yP (fun h => ?_) fun h => ?_ | refine yB (fun h => ?_) fun h => ?_ | refine yK (fun h => ?_) fun h => ?_)) | (apply gW; first | refine W_seq ?_ | refine W_region ?_ | refine W_ret ?_ | refine W_skip ?_ | refine W_block ?_ | refine W_exit ?_ | refine W_cond1 rfl ?_ | refine W_cond0 rfl ?_ | refine cN (fun h => ?_) fun h => ?_ | refine cP (fun h => ?_) fun h => ?_ | refine cB (fun h => ?_) fun h => ?_ | refine cK (fun h => ?_) fun h => ?_) | (first | refine seqR.normal ?_ | refine seqR.ret ?_ | refine seqR.exit ?_ | refine blockR.normal ?_ | refine blockR.ret ?_ | refine blockR.here ?_ | refine blockR.exit rfl ?_ | refine loopR.ret ?_ | refine loopR.exit ?_ | refine midA.ret ?_ | refine midA.exit ?_) | fail)
  rename_i ba
  refine W_midA (α := List Int) (fun m => [(1, .slice (some ⟨bm, 0, none⟩) A.ws.length A.ws.length), (2, .pointer (some ⟨ba, 0, none⟩))]) (fun m => (ba, aObj C A) :: (bm, mObj m) :: H) (fun m => m.length = A.ws.length ∧ A.tile1 (A.ws.length + 1) (A.start A.to) A.zeros = some m) ?_ ?_
  · repeat' (first | (apply gL; first | refine L_nil ?_ | refine yS ?_ | refine yX fun _ => ?_ | refine yA fun _ => ?_ | (apply gSt; first | refine sR ?_ | refine sB ?_ | refine s1 ?_ | refine sW ?_ | refine sN ?_) | (apply gMk; first | (apply L_mkcap rfl rfl rfl rfl rfl rfl; (· omega); (· omega); (· omega); intro _ _) | (apply L_makeI rfl rfl rfl rfl rfl rfl; (· omega); (· omega); intro _) | (apply L_makeB rfl rfl rfl rfl rfl rfl; (· omega); (· omega); intro _) | (apply L_makeV rfl rfl rfl rfl rfl rfl; (· omega); (· omega); intro _)) | (apply gCall; apply L_call rfl rfl rfl rfl rfl; (· first | exact l1In_c _ _ _ | exact specReadHead_c om om | exact specForwarded_c om om | exact l2Start_c om om | exact l2Look_c at_ hw om om); rintro _ _ ⟨rfl, rfl⟩) | refine kV ?_ | ((fail_if_success (refine L_known rfl ?_)); first | refine yN (fun h => ?_) fun h => ?_ | refine yP (fun h => ?_) fun h => ?_ | refine yB (fun h => ?_) fun h => ?_ | refine yK (fun h => ?_) fun h => ?_)) | (apply gW; first | refine W_seq ?_ | refine W_region ?_ | refine W_ret ?_ | refine W_skip ?_ | refine W_block ?_ | refine W_exit ?_ | refine W_cond1 rfl ?_ | refine W_cond0 rfl ?_ | refine cN (fun h => ?_) fun h => ?_ | refine cP (fun h => ?_) fun h => ?_ | refine cB (fun h => ?_) fun h => ?_ | refine cK (fun h => ?_) fun h => ?_) | (first | refine seqR.normal ?_ | refine seqR.ret ?_ | refine seqR.exit ?_ | refine blockR.normal ?_ | refine blockR.ret ?_ | refine blockR.here ?_ | refine blockR.exit rfl ?_ | refine loopR.ret ?_ | refine loopR.exit ?_ | refine midA.ret ?_ | refine midA.exit ?_) | fail)
    apply W_loopX (α := Int × List Int) (fun y => [(1, .slice (some ⟨bm, 0, none⟩) A.ws.length A.ws.length), (2, .pointer (some ⟨ba, 0, none⟩)), (5, .int .i64 y.1)]) (fun y => (ba, aObj C A) :: (bm, mObj y.2) :: H)
      (fun y => (∃ f, A.tile1 f y.1 y.2 = A.tile1 (A.ws.length + 1) (A.start A.to) A.zeros ∧ A.top - y.1 < (f : Int)) ∧ y.2.length = A.ws.length ∧ 1 ≤ y.1 ∧ y.1 ≤ A.top) (fun y => (A.top - y.1).toNat) (A.start A.to, A.zeros)
    · exact sub_
    · exact cvt_
    · exact ⟨⟨_, rfl, by dsimp only; omega⟩, by simp [Ar.zeros], by dsimp only; omega, by dsimp only; omega⟩
    rintro ⟨p, m⟩ ⟨⟨f, hf, hf2⟩, hl, hp1, hp2⟩
    dsimp only at hf hf2 hl hp1 hp2 ⊢
    have hp := hw p
    have hr := rsR (g A.ws p)
    repeat' (first | (apply gL; first | refine L_nil ?_ | refine yS ?_ | refine yX fun _ => ?_ | refine yA fun _ => ?_ | (apply gSt; first | refine sR ?_ | refine sB ?_ | refine s1 ?_ | refine sW ?_ | refine sN ?_) | (apply gMk; first | (apply L_mkcap rfl rfl rfl rfl rfl rfl; (· omega); (· omega); (· omega); intro _ _) | (apply L_makeI rfl rfl rfl rfl rfl rfl; (· omega); (· omega); intro _) | (apply L_makeB rfl rfl rfl rfl rfl rfl; (· omega); (· omega); intro _) | (apply L_makeV rfl rfl rfl rfl rfl rfl; (· omega); (· omega); intro _)) | (apply gCall; apply L_call rfl rfl rfl rfl rfl; (· first | exact l1In_c _ _ _ | exact specReadHead_c om om | exact specForwarded_c om om | exact l2Start_c om om | exact l2Look_c at_ hw om om); rintro _ _ ⟨rfl, rfl⟩) | refine kV ?_ | ((fail_if_success (refine L_known rfl ?_)); first | refine yN (fun h => ?_) fun h => ?_ | refine yP (fun h => ?_) fun h => ?_ | refine yB (fun h => ?_) fun h => ?_ | refine yK (fun h => ?_) fun h => ?_)) | (apply gW; first | refine W_seq ?_ | refine W_region ?_ | refine W_ret ?_ | refine W_skip ?_ | refine W_block ?_ | refine W_exit ?_ | refine W_cond1 rfl ?_ | refine W_cond0 rfl ?_ | refine cN (fun h => ?_) fun h => ?_ | refine cP (fun h => ?_) fun h => ?_ | refine cB (fun h => ?_) fun h => ?_ | refine cK (fun h => ?_) fun h => ?_) | (first | refine seqR.normal ?_ | refine seqR.ret ?_ | refine seqR.exit ?_ | refine blockR.normal ?_ | refine blockR.ret ?_ | refine blockR.here ?_ | refine blockR.exit rfl ?_ | refine loopR.ret ?_ | refine loopR.exit ?_ | refine midA.ret ?_ | refine midA.exit ?_) | fail)
    · obtain ⟨f', rfl, e⟩ := tile1_step hf2 (by omega)
      rw [e, if_neg (fun c => h (of_decide_eq_true c.1))] at hf
      have e := marks_none hf.symm
      exact retR.ret _ _ (ret1 rfl rfl) cvt_ ⟨by rw [e]; rfl, m, rfl, hl, fun _ h => by rw [e] at h; cases h⟩
    · obtain ⟨f', rfl, e⟩ := tile1_step hf2 (by omega)
      rw [e, if_neg (fun c => by have := rsR' c.1; omega)] at hf
      have e := marks_none hf.symm
      exact retR.ret _ _ (ret1 rfl rfl) cvt_ ⟨by rw [e]; rfl, m, rfl, hl, fun _ h => by rw [e] at h; cases h⟩
    · obtain ⟨f', rfl, e⟩ := tile1_step hf2 (by omega)
      rw [e, if_neg (fun c => by have := rsR' c.1; omega)] at hf
      have e := marks_none hf.symm
      exact retR.ret _ _ (ret1 rfl rfl) cvt_ ⟨by rw [e]; rfl, m, rfl, hl, fun _ h => by rw [e] at h; cases h⟩
    · have h1 : HeadP (hk (g A.ws p)) (hs (g A.ws p)) (Ar.hn (g A.ws p)) := by assumption
      obtain ⟨f', rfl, e⟩ := tile1_step hf2 (by omega)
      have h4 := rsR' (decide_eq_true h1)
      rw [e, if_pos ⟨decide_eq_true h1, by omega, by omega⟩] at hf
      apply loopR.mk (_, _)
      · exact sub_
      · exact cvt_
      · refine ⟨⟨f', ?_, ?_⟩, ?_, ?_, ?_⟩
        · dsimp only; rw [h4.2.2.1]; exact hf
        · dsimp only; omega
        · dsimp only; simp [hl]
        · dsimp only; omega
        · dsimp only; omega
      · dsimp only; omega
    · apply midA.mk m
      · exact sub_
      · exact cvt_
      · exact ⟨hl, by rw [← hf]; exact tile1_end hf2 h⟩
  rintro m ⟨hl, hm⟩
  have hsm : 0 ≤ A.start (1 - A.to) := by omega
  repeat' (fail_if_success apply gAt 12); (first | (apply gL; first | refine L_nil ?_ | refine yS ?_ | refine yX fun _ => ?_ | refine yA fun _ => ?_ | (apply gSt; first | refine sR ?_ | refine sB ?_ | refine s1 ?_ | refine sW ?_ | refine sN ?_) | (apply gMk; first | (apply L_mkcap rfl rfl rfl rfl rfl rfl; (· omega); (· omega); (· omega); intro _ _) | (apply L_makeI rfl rfl rfl rfl rfl rfl; (· omega); (· omega); intro _) | (apply L_makeB rfl rfl rfl rfl rfl rfl; (· omega); (· omega); intro _) | (apply L_makeV rfl rfl rfl rfl rfl rfl; (· omega); (· omega); intro _)) | (apply gCall; apply L_call rfl rfl rfl rfl rfl; (· first | exact l1In_c _ _ _ | exact specReadHead_c om om | exact specForwarded_c om om | exact l2Start_c om om | exact l2Look_c at_ hw om om); rintro _ _ ⟨rfl, rfl⟩) | refine kV ?_ | ((fail_if_success (refine L_known rfl ?_)); first | refine yN (fun h => ?_) fun h => ?_ | refine yP (fun h => ?_) fun h => ?_ | refine yB (fun h => ?_) fun h => ?_ | refine yK (fun h => ?_) fun h => ?_)) | (apply gW; first | refine W_seq ?_ | refine W_region ?_ | refine W_ret ?_ | refine W_skip ?_ | refine W_block ?_ | refine W_exit ?_ | refine W_cond1 rfl ?_ | refine W_cond0 rfl ?_ | refine cN (fun h => ?_) fun h => ?_ | refine cP (fun h => ?_) fun h => ?_ | refine cB (fun h => ?_) fun h => ?_ | refine cK (fun h => ?_) fun h => ?_) | (first | refine seqR.normal ?_ | refine seqR.ret ?_ | refine seqR.exit ?_ | refine blockR.normal ?_ | refine blockR.ret ?_ | refine blockR.here ?_ | refine blockR.exit rfl ?_ | refine loopR.ret ?_ | refine loopR.exit ?_ | refine midA.ret ?_ | refine midA.exit ?_) | fail)
  · have e := marks_still hm h
    exact retR.ret _ _ (ret1 rfl rfl) cvt_ ⟨by rw [e]; rfl, m, rfl, hl, fun _ h => by rw [e] at h; cases h; rfl⟩
  rename_i bl
  have hc := h
  have f10 := f5 hc
  refine W_midA (α := List Int × Int) (fun y => [(1, .slice (some ⟨bm, 0, none⟩) A.ws.length A.ws.length), (2, .pointer (some ⟨ba, 0, none⟩)), (9, .int .i64 y.2)]) (fun y => (ba, aObj C A) :: (bm, mObj y.1) :: H) (fun y => y.1.length = A.ws.length ∧ A.tile2 (A.ws.length + 1) (A.start (1 - A.to)) m A.falses 0 = some (y.1, y.2)) ?_ ?_
  · repeat' (first | (apply gL; first | refine L_nil ?_ | refine yS ?_ | refine yX fun _ => ?_ | refine yA fun _ => ?_ | (apply gSt; first | refine sR ?_ | refine sB ?_ | refine s1 ?_ | refine sW ?_ | refine sN ?_) | (apply gMk; first | (apply L_mkcap rfl rfl rfl rfl rfl rfl; (· omega); (· omega); (· omega); intro _ _) | (apply L_makeI rfl rfl rfl rfl rfl rfl; (· omega); (· omega); intro _) | (apply L_makeB rfl rfl rfl rfl rfl rfl; (· omega); (· omega); intro _) | (apply L_makeV rfl rfl rfl rfl rfl rfl; (· omega); (· omega); intro _)) | (apply gCall; apply L_call rfl rfl rfl rfl rfl; (· first | exact l1In_c _ _ _ | exact specReadHead_c om om | exact specForwarded_c om om | exact l2Start_c om om | exact l2Look_c at_ hw om om); rintro _ _ ⟨rfl, rfl⟩) | refine kV ?_ | ((fail_if_success (refine L_known rfl ?_)); first | refine yN (fun h => ?_) fun h => ?_ | refine yP (fun h => ?_) fun h => ?_ | refine yB (fun h => ?_) fun h => ?_ | refine yK (fun h => ?_) fun h => ?_)) | (apply gW; first | refine W_seq ?_ | refine W_region ?_ | refine W_ret ?_ | refine W_skip ?_ | refine W_block ?_ | refine W_exit ?_ | refine W_cond1 rfl ?_ | refine W_cond0 rfl ?_ | refine cN (fun h => ?_) fun h => ?_ | refine cP (fun h => ?_) fun h => ?_ | refine cB (fun h => ?_) fun h => ?_ | refine cK (fun h => ?_) fun h => ?_) | (first | refine seqR.normal ?_ | refine seqR.ret ?_ | refine seqR.exit ?_ | refine blockR.normal ?_ | refine blockR.ret ?_ | refine blockR.here ?_ | refine blockR.exit rfl ?_ | refine loopR.ret ?_ | refine loopR.exit ?_ | refine midA.ret ?_ | refine midA.exit ?_) | fail)
    apply W_loopX (α := Int × List Int × List Bool × Int) (fun y => [(1, .slice (some ⟨bm, 0, none⟩) A.ws.length A.ws.length), (2, .pointer (some ⟨ba, 0, none⟩)), (8, .slice (some ⟨bl, 0, none⟩) A.ws.length A.ws.length), (9, .int .i64 y.2.2.2), (10, .int .i64 y.1)]) (fun y => (ba, aObj C A) :: (bl, bObj y.2.2.1) :: (bm, mObj y.2.1) :: H)
      (fun y => (∃ f, A.tile2 f y.1 y.2.1 y.2.2.1 y.2.2.2 = A.tile2 (A.ws.length + 1) (A.start (1 - A.to)) m A.falses 0 ∧ A.old - y.1 < (f : Int)) ∧ y.2.1.length = A.ws.length ∧ y.2.2.1.length = A.ws.length ∧ 1 ≤ y.1 ∧ y.1 ≤ A.old ∧ 0 ≤ y.2.2.2 ∧ y.2.2.2 ≤ y.1) (fun y => (A.old - y.1).toNat) (A.start (1 - A.to), m, A.falses, 0)
    · exact sub_
    · exact cvt_
    · exact ⟨⟨_, rfl, by dsimp only; omega⟩, hl, by simp [Ar.falses], by dsimp only; omega, by dsimp only; omega, by dsimp only; omega, by dsimp only; omega⟩
    rintro ⟨p, m1, led, sum⟩ ⟨⟨f, hf, hf2⟩, hl1, hl2, hp1, hp2, hs1, hs2⟩
    dsimp only at hf hf2 hl1 hl2 hp1 hp2 hs1 hs2 ⊢
    have hp := hw p
    have hr := rsR (g A.ws p)
    have hq := fwR (g A.ws p)
    have hr2 := rsR (g A.ws (fw (g A.ws p)))
    repeat' (first | (apply gL; first | refine L_nil ?_ | refine yS ?_ | refine yX fun _ => ?_ | refine yA fun _ => ?_ | (apply gSt; first | refine sR ?_ | refine sB ?_ | refine s1 ?_ | refine sW ?_ | refine sN ?_) | (apply gMk; first | (apply L_mkcap rfl rfl rfl rfl rfl rfl; (· omega); (· omega); (· omega); intro _ _) | (apply L_makeI rfl rfl rfl rfl rfl rfl; (· omega); (· omega); intro _) | (apply L_makeB rfl rfl rfl rfl rfl rfl; (· omega); (· omega); intro _) | (apply L_makeV rfl rfl rfl rfl rfl rfl; (· omega); (· omega); intro _)) | (apply gCall; apply L_call rfl rfl rfl rfl rfl; (· first | exact l1In_c _ _ _ | exact specReadHead_c om om | exact specForwarded_c om om | exact l2Start_c om om | exact l2Look_c at_ hw om om); rintro _ _ ⟨rfl, rfl⟩) | refine kV ?_ | ((fail_if_success (refine L_known rfl ?_)); first | refine yN (fun h => ?_) fun h => ?_ | refine yP (fun h => ?_) fun h => ?_ | refine yB (fun h => ?_) fun h => ?_ | refine yK (fun h => ?_) fun h => ?_)) | (apply gW; first | refine W_seq ?_ | refine W_region ?_ | refine W_ret ?_ | refine W_skip ?_ | refine W_block ?_ | refine W_exit ?_ | refine W_cond1 rfl ?_ | refine W_cond0 rfl ?_ | refine cN (fun h => ?_) fun h => ?_ | refine cP (fun h => ?_) fun h => ?_ | refine cB (fun h => ?_) fun h => ?_ | refine cK (fun h => ?_) fun h => ?_) | (first | refine seqR.normal ?_ | refine seqR.ret ?_ | refine seqR.exit ?_ | refine blockR.normal ?_ | refine blockR.ret ?_ | refine blockR.here ?_ | refine blockR.exit rfl ?_ | refine loopR.ret ?_ | refine loopR.exit ?_ | refine midA.ret ?_ | refine midA.exit ?_) | fail)
    · have h1 : ¬ HeadP (hk (g A.ws p)) (hs (g A.ws p)) (Ar.hn (g A.ws p)) := by assumption
      obtain ⟨f', rfl, e⟩ := tile2_step hf2 (by omega)
      rw [e, if_neg (show ¬ hOk (g A.ws p) = true from fun c => h1 (of_decide_eq_true c)), if_neg (fun c => h (of_decide_eq_true c.1))] at hf
      have e := marks_none2 hm hc hf.symm
      exact retR.ret _ _ (ret1 rfl rfl) cvt_ ⟨by rw [e]; rfl, m1, rfl, hl1, fun _ h => by rw [e] at h; cases h⟩
    · have h1 : ¬ HeadP (hk (g A.ws p)) (hs (g A.ws p)) (Ar.hn (g A.ws p)) := by assumption
      obtain ⟨f', rfl, e⟩ := tile2_step hf2 (by omega)
      rw [e, if_neg (show ¬ hOk (g A.ws p) = true from fun c => h1 (of_decide_eq_true c)), if_neg (fun c => by have := c.2.1; unfold Ar.n at this; omega)] at hf
      have e := marks_none2 hm hc hf.symm
      exact retR.ret _ _ (ret1 rfl rfl) cvt_ ⟨by rw [e]; rfl, m1, rfl, hl1, fun _ h => by rw [e] at h; cases h⟩
    · have h1 : ¬ HeadP (hk (g A.ws p)) (hs (g A.ws p)) (Ar.hn (g A.ws p)) := by assumption
      obtain ⟨f', rfl, e⟩ := tile2_step hf2 (by omega)
      rw [e, if_neg (show ¬ hOk (g A.ws p) = true from fun c => h1 (of_decide_eq_true c)), if_neg (fun c => h c.2.2.1)] at hf
      have e := marks_none2 hm hc hf.symm
      exact retR.ret _ _ (ret1 rfl rfl) cvt_ ⟨by rw [e]; rfl, m1, rfl, hl1, fun _ h => by rw [e] at h; cases h⟩
    · have h1 : ¬ HeadP (hk (g A.ws p)) (hs (g A.ws p)) (Ar.hn (g A.ws p)) := by assumption
      obtain ⟨f', rfl, e⟩ := tile2_step hf2 (by omega)
      rw [e, if_neg (show ¬ hOk (g A.ws p) = true from fun c => h1 (of_decide_eq_true c)), if_neg (fun c => by rw [c.2.2.2.1] at h; cases h)] at hf
      have e := marks_none2 hm hc hf.symm
      exact retR.ret _ _ (ret1 rfl rfl) cvt_ ⟨by rw [e]; rfl, m1, rfl, hl1, fun _ h => by rw [e] at h; cases h⟩
    · have h1 : ¬ HeadP (hk (g A.ws p)) (hs (g A.ws p)) (Ar.hn (g A.ws p)) := by assumption
      obtain ⟨f', rfl, e⟩ := tile2_step hf2 (by omega)
      rw [e, if_neg (show ¬ hOk (g A.ws p) = true from fun c => h1 (of_decide_eq_true c)), if_neg (fun c => by omega)] at hf
      have e := marks_none2 hm hc hf.symm
      exact retR.ret _ _ (ret1 rfl rfl) cvt_ ⟨by rw [e]; rfl, m1, rfl, hl1, fun _ h => by rw [e] at h; cases h⟩
    · have h1 : ¬ HeadP (hk (g A.ws p)) (hs (g A.ws p)) (Ar.hn (g A.ws p)) := by assumption
      have h2 : 9223372036854775808 ≤ g A.ws p ∧ g A.ws p ≤ 9223372036854775808 + 2147483647 := by assumption
      obtain ⟨f', rfl, e⟩ := tile2_step hf2 (by omega)
      rw [e, if_neg (show ¬ hOk (g A.ws p) = true from fun c => h1 (of_decide_eq_true c)), if_pos ⟨decide_eq_true h2, by unfold Ar.n; omega, by assumption, by assumption, by omega⟩] at hf
      apply loopR.mk (_, _, _, _)
      · exact sub_
      · exact cvt_
      · refine ⟨⟨f', hf, ?_⟩, ?_, ?_, ?_, ?_, ?_, ?_⟩
        · dsimp only; omega
        · dsimp only; simp [hl1]
        · dsimp only; simp [hl2]
        · dsimp only; omega
        · dsimp only; omega
        · dsimp only; omega
        · dsimp only; omega
      · dsimp only; omega
    · have h1 : HeadP (hk (g A.ws p)) (hs (g A.ws p)) (Ar.hn (g A.ws p)) := by assumption
      obtain ⟨f', rfl, e⟩ := tile2_step hf2 (by omega)
      have h3 := rsR' (w := g A.ws p) (decide_eq_true h1)
      rw [e, if_pos (show hOk (g A.ws p) = true from decide_eq_true h1), if_neg (fun c => by omega)] at hf
      have e := marks_none2 hm hc hf.symm
      exact retR.ret _ _ (ret1 rfl rfl) cvt_ ⟨by rw [e]; rfl, m1, rfl, hl1, fun _ h => by rw [e] at h; cases h⟩
    · have h1 : HeadP (hk (g A.ws p)) (hs (g A.ws p)) (Ar.hn (g A.ws p)) := by assumption
      obtain ⟨f', rfl, e⟩ := tile2_step hf2 (by omega)
      have h3 := rsR' (w := g A.ws p) (decide_eq_true h1)
      rw [e, if_pos (show hOk (g A.ws p) = true from decide_eq_true h1), if_neg (fun c => by omega)] at hf
      have e := marks_none2 hm hc hf.symm
      exact retR.ret _ _ (ret1 rfl rfl) cvt_ ⟨by rw [e]; rfl, m1, rfl, hl1, fun _ h => by rw [e] at h; cases h⟩
    · have h1 : HeadP (hk (g A.ws p)) (hs (g A.ws p)) (Ar.hn (g A.ws p)) := by assumption
      obtain ⟨f', rfl, e⟩ := tile2_step hf2 (by omega)
      have h3 := rsR' (w := g A.ws p) (decide_eq_true h1)
      rw [e, if_pos (show hOk (g A.ws p) = true from decide_eq_true h1), if_pos ⟨by omega, by omega⟩] at hf
      apply loopR.mk (_, _, _, _)
      · exact sub_
      · exact cvt_
      · refine ⟨⟨f', ?_, ?_⟩, ?_, ?_, ?_, ?_, ?_, ?_⟩
        · dsimp only; rw [h3.2.2.1]; exact hf
        · dsimp only; omega
        · dsimp only; simp [hl1]
        · dsimp only; exact hl2
        · dsimp only; omega
        · dsimp only; omega
        · dsimp only; omega
        · dsimp only; omega
      · dsimp only; omega
    · apply midA.mk (m1, sum)
      · exact sub_
      · exact cvt_
      · exact ⟨hl1, by rw [← hf]; exact tile2_end hf2 h⟩
  rintro ⟨m1, sum⟩ ⟨hl1, hm1⟩
  dsimp only at hl1 hm1 ⊢
  have e := marks_some2 hm hc hm1
  repeat' (first | (apply gL; first | refine L_nil ?_ | refine yS ?_ | refine yX fun _ => ?_ | refine yA fun _ => ?_ | (apply gSt; first | refine sR ?_ | refine sB ?_ | refine s1 ?_ | refine sW ?_ | refine sN ?_) | (apply gMk; first | (apply L_mkcap rfl rfl rfl rfl rfl rfl; (· omega); (· omega); (· omega); intro _ _) | (apply L_makeI rfl rfl rfl rfl rfl rfl; (· omega); (· omega); intro _) | (apply L_makeB rfl rfl rfl rfl rfl rfl; (· omega); (· omega); intro _) | (apply L_makeV rfl rfl rfl rfl rfl rfl; (· omega); (· omega); intro _)) | (apply gCall; apply L_call rfl rfl rfl rfl rfl; (· first | exact l1In_c _ _ _ | exact specReadHead_c om om | exact specForwarded_c om om | exact l2Start_c om om | exact l2Look_c at_ hw om om); rintro _ _ ⟨rfl, rfl⟩) | refine kV ?_ | ((fail_if_success (refine L_known rfl ?_)); first | refine yN (fun h => ?_) fun h => ?_ | refine yP (fun h => ?_) fun h => ?_ | refine yB (fun h => ?_) fun h => ?_ | refine yK (fun h => ?_) fun h => ?_)) | (apply gW; first | refine W_seq ?_ | refine W_region ?_ | refine W_ret ?_ | refine W_skip ?_ | refine W_block ?_ | refine W_exit ?_ | refine W_cond1 rfl ?_ | refine W_cond0 rfl ?_ | refine cN (fun h => ?_) fun h => ?_ | refine cP (fun h => ?_) fun h => ?_ | refine cB (fun h => ?_) fun h => ?_ | refine cK (fun h => ?_) fun h => ?_) | (first | refine seqR.normal ?_ | refine seqR.ret ?_ | refine seqR.exit ?_ | refine blockR.normal ?_ | refine blockR.ret ?_ | refine blockR.here ?_ | refine blockR.exit rfl ?_ | refine loopR.ret ?_ | refine loopR.exit ?_ | refine midA.ret ?_ | refine midA.exit ?_) | fail)
  all_goals (refine retR.ret _ _ (ret1 rfl rfl) cvt_ ⟨?_, m1, rfl, hl1, fun m' h' => by rw [e] at h'; split at h' <;> first | cases h'; rfl | cases h'⟩)
  all_goals (rw [e, isSomeIf])
  all_goals (first | rfl | exact bx om | exact b0 om | exact b1 om | exact bn om)
end Go.Proofs.Ytepddopgmhdllaa.Eng
