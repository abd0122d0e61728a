/- The reference's tiles. -/
import Derived.Test.YtfhihnonafklbaaBkS
namespace Go.Proofs.Ytfhihnonafklbaa.Eng
open Go Go.RowKit Go.Proofs.Ytfhihnonafklbaa.Sl Go.Proofs.Ytfhihnonafklbaa.Ar Go.Proofs.Ytfhihnonafklbaa.Base
set_option linter.unusedVariables false
set_option linter.unusedSimpArgs false
set_option maxRecDepth 10000
variable {w0 : World} {H : HL} {C : Cn} {A : Ar}
theorem numF (h : A.numbersP) : 1 ≤ A.start A.to ∧ A.start A.to ≤ A.top ∧ A.top ≤ A.ws.length ∧ 1 ≤ A.start (1 - A.to) ∧ (A.cyc = true → A.start (1 - A.to) ≤ A.old ∧ A.old ≤ A.ws.length) ∧ (512 ≤ A.ws.length ∧ A.ws.length ≤ 8000) ∧ (A.to = 0 ∨ A.to = 1) ∧ 256 ≤ A.semi ∧ A.semi ≤ 4000 := by
  obtain ⟨h1, h2, h3, h4, h5, h6, h7⟩ := h
  unfold Ar.n at h2
  have ht : A.to = 0 ∨ A.to = 1 := by omega
  refine ⟨?_, h6.1, ?_, ?_, fun hc => ?_, by omega, ht, h1.1, h1.2⟩
  · unfold Ar.start; rcases ht with e | e <;> rw [e] <;> omega
  · have := h6.2; rcases ht with e | e <;> rw [e] at this <;> omega
  · unfold Ar.start; rcases ht with e | e <;> rw [e] <;> omega
  · rw [if_pos hc] at h7
    have h8 := h7.1
    exact ⟨h8.1, by have := h8.2; rcases ht with e | e <;> rw [e] at this <;> omega⟩
abbrev aObjG (C : Cn) (A : Ar) (rp : Option Addr) (rc : Nat) : Obj := .cells #[.slice (some ⟨C.bw, 0, none⟩) A.ws.length C.wc, .int .i64 A.semi, .int .i64 A.to, .int .i64 A.top, .bool A.cyc, .int .i64 A.scan, .int .i64 A.old, .int .i64 A.copied, .int .i64 A.serial, .slice rp A.vs.length rc] 34 (0, 0)
abbrev aObj (C : Cn) (A : Ar) : Obj := aObjG C A (some ⟨C.br, 0, none⟩) C.rc
abbrev mObj (m : List Int) : Obj := .cells (rowA .i64 m []) 3 (0, 0)
abbrev bObj (m : List Bool) : Obj := .cells (rowB m []) 4 (0, 0)
theorem rsR (w : Int) : 0 ≤ rs w ∧ rs w ≤ 65535 := by unfold rs hs; split <;> omega
theorem rsR' {w : Int} (h : hOk w = true) : 1 ≤ rs w ∧ rs w ≤ 256 ∧ rs w = hs w ∧ rk w = hk w ∧ rn w = hn w := by
  have := (of_decide_eq_true (show decide (HeadP _ _ _) = true from h)).range
  unfold rs rk rn; rw [if_pos h, if_pos h, if_pos h]; omega
theorem fwR (w : Int) : 0 ≤ fw w ∧ fw w ≤ 2147483647 := by
  unfold fw; split
  · rename_i h; have := of_decide_eq_true h; omega
  · omega
theorem tile1_step {f : Nat} {p : Int} {m : List Int} (h1 : A.top - p < (f : Int)) (h2 : p < A.top) : ∃ f', f = f' + 1 ∧ A.tile1 f p m = if hOk (g A.ws p) = true ∧ p + hs (g A.ws p) + 1 ≤ A.top ∧ hn (g A.ws p) < A.serial then A.tile1 f' (p + hs (g A.ws p) + 1) (m.set p.toNat 1) else none := by
  cases f with
  | zero => omega
  | succ f => exact ⟨f, rfl, by rw [Ar.tile1, if_neg (by omega)]⟩
theorem tile1_end {f : Nat} {p : Int} {m : List Int} (h1 : A.top - p < (f : Int)) (h2 : p = A.top) : A.tile1 f p m = some m := by
  cases f with
  | zero => omega
  | succ f => rw [Ar.tile1, if_pos h2]
theorem tile2_step {f : Nat} {p : Int} {m : List Int} {led : List Bool} {sum : Int} (h1 : A.old - p < (f : Int)) (h2 : p < A.old) : ∃ f', f = f' + 1 ∧ A.tile2 f p m led sum = if hOk (g A.ws p) = true then
        if hn (g A.ws p) < A.serial ∧ p + hs (g A.ws p) + 1 ≤ A.old then A.tile2 f' (p + hs (g A.ws p) + 1) (m.set p.toNat 2) led sum else none
      else if isFw (g A.ws p) = true ∧ fw (g A.ws p) < A.n ∧ g m (fw (g A.ws p)) = 1 ∧ led.getD (fw (g A.ws p)).toNat false = false ∧ p + rs (g A.ws (fw (g A.ws p))) + 1 ≤ A.old then
        A.tile2 f' (p + rs (g A.ws (fw (g A.ws p))) + 1) (m.set p.toNat 3) (led.set (fw (g A.ws p)).toNat true) (sum + rs (g A.ws (fw (g A.ws p))) + 1)
      else none := by
  cases f with
  | zero => omega
  | succ f => exact ⟨f, rfl, by rw [Ar.tile2, if_neg (by omega)]; rfl⟩
theorem tile2_end {f : Nat} {p : Int} {m : List Int} {led : List Bool} {sum : Int} (h1 : A.old - p < (f : Int)) (h2 : p = A.old) : A.tile2 f p m led sum = some (m, sum) := by
  cases f with
  | zero => omega
  | succ f => rw [Ar.tile2, if_pos h2]
theorem isSomeIf {α : Type} {Q : Prop} [Decidable Q] {m : α} : (if Q then some m else none).isSome = decide Q := by split <;> simp [*]
theorem marks_none (h : A.tile1 (A.ws.length + 1) (A.start A.to) A.zeros = none) : A.marks = none := by unfold Ar.marks; rw [h]
theorem marks_still {m : List Int} (h : A.tile1 (A.ws.length + 1) (A.start A.to) A.zeros = some m) (hc : A.cyc = false) : A.marks = some m := by unfold Ar.marks; rw [h]; simp [hc]
theorem marks_none2 {m : List Int} (h : A.tile1 (A.ws.length + 1) (A.start A.to) A.zeros = some m) (hc : A.cyc = true) (h2 : A.tile2 (A.ws.length + 1) (A.start (1 - A.to)) m A.falses 0 = none) : A.marks = none := by unfold Ar.marks; rw [h]; simp [hc, h2]
theorem marks_some2 {m m' : List Int} {sum : Int} (h : A.tile1 (A.ws.length + 1) (A.start A.to) A.zeros = some m) (hc : A.cyc = true) (h2 : A.tile2 (A.ws.length + 1) (A.start (1 - A.to)) m A.falses 0 = some (m', sum)) :
    A.marks = if sum = A.copied ∧ (A.scan = A.top ∨ (0 ≤ A.scan ∧ A.scan ≤ (m'.length : Int) - 1 ∧ g m' A.scan = 1)) then some m' else none := by unfold Ar.marks; rw [h]; simp [hc, h2]
set_option maxHeartbeats 4000000 in
theorem l2Tile_c {bm : Nat} (hA : At H C.bw (wObj C A)) (hw : Wf A.ws) (hn : A.numbersP) :
    Fn Try.prog w0 31 #[arV C A, .slice (some ⟨bm, 0, none⟩) A.ws.length A.ws.length] ((bm, mObj A.zeros) :: H) fun v H' => v = .bool (A.marks).isSome ∧ ∃ m', H' = (bm, mObj m') :: H ∧ m'.length = A.ws.length ∧ ∀ m, A.marks = some m → m' = m := by
  obtain ⟨f1, f2, f3, f4, f5, f6, f7, f8, f9⟩ := numF hn
  refine enter2 Try.func31 rfl rfl Try.ntmps31 rfl ?_
  repeat' (fail_if_success apply gAt 1); (first | (apply gCall; apply L_call rfl rfl rfl rfl rfl; (· first | exact l1In_c _ _ _ | exact specReadHead_c om om | exact specForwarded_c om om | exact l2Start_c om om | exact l2Look_c at_ hw om om); rintro _ _ ⟨rfl, rfl⟩) | (apply gL; first | refine L_nil ?_ | refine yS ?_ | refine yX fun _ => ?_ | refine yA fun _ => ?_ | (apply gSt; first | refine sR ?_ | refine sB ?_ | refine s1 ?_ | refine sW ?_ | refine sN ?_) | (apply gMk; first | (apply L_mkcap rfl rfl rfl rfl rfl rfl; (· omega); (· omega); (· omega); intro _ _) | (apply L_makeI rfl rfl rfl rfl rfl rfl; (· omega); (· omega); intro _) | (apply L_makeB rfl rfl rfl rfl rfl rfl; (· omega); (· omega); intro _) | (apply L_makeV rfl rfl rfl rfl rfl rfl; (· omega); (· omega); intro _)) | refine kV ?_ | ((fail_if_success (refine L_known rfl ?_)); refine yW (fun h => ?_) fun h => ?_)) | (apply gW; first | refine W_seq ?_ | refine W_region ?_ | refine W_ret ?_ | refine W_skip ?_ | refine W_block ?_ | refine W_exit ?_ | refine W_cond1 rfl ?_ | refine W_cond0 rfl ?_ | refine cW (fun h => ?_) fun h => ?_) | (first | refine seqR.normal ?_ | refine seqR.ret ?_ | refine seqR.exit ?_ | refine blockR.normal ?_ | refine blockR.ret ?_ | refine blockR.here ?_ | refine blockR.exit rfl ?_ | refine loopR.ret ?_ | refine loopR.exit ?_ | refine midA.ret ?_ | refine midA.exit ?_) | fail)
  rename_i ba
  refine W_midA (α := List Int) (fun m => [(1, .slice (some ⟨bm, 0, none⟩) A.ws.length A.ws.length), (2, .pointer (some ⟨ba, 0, none⟩))]) (fun m => (ba, aObj C A) :: (bm, mObj m) :: H) (fun m => m.length = A.ws.length ∧ A.tile1 (A.ws.length + 1) (A.start A.to) A.zeros = some m) ?_ ?_
  · repeat' (first | (apply gCall; apply L_call rfl rfl rfl rfl rfl; (· first | exact l1In_c _ _ _ | exact specReadHead_c om om | exact specForwarded_c om om | exact l2Start_c om om | exact l2Look_c at_ hw om om); rintro _ _ ⟨rfl, rfl⟩) | (apply gL; first | refine L_nil ?_ | refine yS ?_ | refine yX fun _ => ?_ | refine yA fun _ => ?_ | (apply gSt; first | refine sR ?_ | refine sB ?_ | refine s1 ?_ | refine sW ?_ | refine sN ?_) | (apply gMk; first | (apply L_mkcap rfl rfl rfl rfl rfl rfl; (· omega); (· omega); (· omega); intro _ _) | (apply L_makeI rfl rfl rfl rfl rfl rfl; (· omega); (· omega); intro _) | (apply L_makeB rfl rfl rfl rfl rfl rfl; (· omega); (· omega); intro _) | (apply L_makeV rfl rfl rfl rfl rfl rfl; (· omega); (· omega); intro _)) | refine kV ?_ | ((fail_if_success (refine L_known rfl ?_)); refine yW (fun h => ?_) fun h => ?_)) | (apply gW; first | refine W_seq ?_ | refine W_region ?_ | refine W_ret ?_ | refine W_skip ?_ | refine W_block ?_ | refine W_exit ?_ | refine W_cond1 rfl ?_ | refine W_cond0 rfl ?_ | refine cW (fun h => ?_) fun h => ?_) | (first | refine seqR.normal ?_ | refine seqR.ret ?_ | refine seqR.exit ?_ | refine blockR.normal ?_ | refine blockR.ret ?_ | refine blockR.here ?_ | refine blockR.exit rfl ?_ | refine loopR.ret ?_ | refine loopR.exit ?_ | refine midA.ret ?_ | refine midA.exit ?_) | fail)
    apply W_loopX (α := Int × List Int) (fun y => [(1, .slice (some ⟨bm, 0, none⟩) A.ws.length A.ws.length), (2, .pointer (some ⟨ba, 0, none⟩)), (5, .int .i64 y.1)]) (fun y => (ba, aObj C A) :: (bm, mObj y.2) :: H)
      (fun y => (∃ f, A.tile1 f y.1 y.2 = A.tile1 (A.ws.length + 1) (A.start A.to) A.zeros ∧ A.top - y.1 < (f : Int)) ∧ y.2.length = A.ws.length ∧ 1 ≤ y.1 ∧ y.1 ≤ A.top) (fun y => (A.top - y.1).toNat) (A.start A.to, A.zeros)
    · exact sub_
    · exact cvt_
    · exact ⟨⟨_, rfl, by dsimp only; omega⟩, by simp [Ar.zeros], by dsimp only; omega, by dsimp only; omega⟩
    rintro ⟨p, m⟩ ⟨⟨f, hf, hf2⟩, hl, hp1, hp2⟩
    dsimp only at hf hf2 hl hp1 hp2 ⊢
    have hp := hw p
    have hr := rsR (g A.ws p)
    repeat' (first | (apply gCall; apply L_call rfl rfl rfl rfl rfl; (· first | exact l1In_c _ _ _ | exact specReadHead_c om om | exact specForwarded_c om om | exact l2Start_c om om | exact l2Look_c at_ hw om om); rintro _ _ ⟨rfl, rfl⟩) | (apply gL; first | refine L_nil ?_ | refine yS ?_ | refine yX fun _ => ?_ | refine yA fun _ => ?_ | (apply gSt; first | refine sR ?_ | refine sB ?_ | refine s1 ?_ | refine sW ?_ | refine sN ?_) | (apply gMk; first | (apply L_mkcap rfl rfl rfl rfl rfl rfl; (· omega); (· omega); (· omega); intro _ _) | (apply L_makeI rfl rfl rfl rfl rfl rfl; (· omega); (· omega); intro _) | (apply L_makeB rfl rfl rfl rfl rfl rfl; (· omega); (· omega); intro _) | (apply L_makeV rfl rfl rfl rfl rfl rfl; (· omega); (· omega); intro _)) | refine kV ?_ | ((fail_if_success (refine L_known rfl ?_)); refine yW (fun h => ?_) fun h => ?_)) | (apply gW; first | refine W_seq ?_ | refine W_region ?_ | refine W_ret ?_ | refine W_skip ?_ | refine W_block ?_ | refine W_exit ?_ | refine W_cond1 rfl ?_ | refine W_cond0 rfl ?_ | refine cW (fun h => ?_) fun h => ?_) | (first | refine seqR.normal ?_ | refine seqR.ret ?_ | refine seqR.exit ?_ | refine blockR.normal ?_ | refine blockR.ret ?_ | refine blockR.here ?_ | refine blockR.exit rfl ?_ | refine loopR.ret ?_ | refine loopR.exit ?_ | refine midA.ret ?_ | refine midA.exit ?_) | fail)
    · obtain ⟨f', rfl, e⟩ := tile1_step hf2 (by omega)
      rw [e, if_neg (fun c => h (of_decide_eq_true c.1))] at hf
      have e := marks_none hf.symm
      exact retR.ret _ _ (ret1 rfl rfl) cvt_ ⟨by rw [e]; rfl, m, rfl, hl, fun _ h => by rw [e] at h; cases h⟩
    · obtain ⟨f', rfl, e⟩ := tile1_step hf2 (by omega)
      rw [e, if_neg (fun c => by have := rsR' c.1; omega)] at hf
      have e := marks_none hf.symm
      exact retR.ret _ _ (ret1 rfl rfl) cvt_ ⟨by rw [e]; rfl, m, rfl, hl, fun _ h => by rw [e] at h; cases h⟩
    · obtain ⟨f', rfl, e⟩ := tile1_step hf2 (by omega)
      rw [e, if_neg (fun c => by have := rsR' c.1; omega)] at hf
      have e := marks_none hf.symm
      exact retR.ret _ _ (ret1 rfl rfl) cvt_ ⟨by rw [e]; rfl, m, rfl, hl, fun _ h => by rw [e] at h; cases h⟩
    · have h1 : HeadP (hk (g A.ws p)) (hs (g A.ws p)) (Ar.hn (g A.ws p)) := by assumption
      obtain ⟨f', rfl, e⟩ := tile1_step hf2 (by omega)
      have h4 := rsR' (decide_eq_true h1)
      rw [e, if_pos ⟨decide_eq_true h1, by omega, by omega⟩] at hf
      apply loopR.mk (_, _)
      · exact sub_
      · exact cvt_
      · refine ⟨⟨f', ?_, ?_⟩, ?_, ?_, ?_⟩
        · dsimp only; rw [h4.2.2.1]; exact hf
        · dsimp only; omega
        · dsimp only; simp [hl]
        · dsimp only; omega
        · dsimp only; omega
      · dsimp only; omega
    · apply midA.mk m
      · exact sub_
      · exact cvt_
      · exact ⟨hl, by rw [← hf]; exact tile1_end hf2 h⟩
  rintro m ⟨hl, hm⟩
  have hsm : 0 ≤ A.start (1 - A.to) := by omega
  repeat' (fail_if_success apply gAt 12); (first | (apply gCall; apply L_call rfl rfl rfl rfl rfl; (· first | exact l1In_c _ _ _ | exact specReadHead_c om om | exact specForwarded_c om om | exact l2Start_c om om | exact l2Look_c at_ hw om om); rintro _ _ ⟨rfl, rfl⟩) | (apply gL; first | refine L_nil ?_ | refine yS ?_ | refine yX fun _ => ?_ | refine yA fun _ => ?_ | (apply gSt; first | refine sR ?_ | refine sB ?_ | refine s1 ?_ | refine sW ?_ | refine sN ?_) | (apply gMk; first | (apply L_mkcap rfl rfl rfl rfl rfl rfl; (· omega); (· omega); (· omega); intro _ _) | (apply L_makeI rfl rfl rfl rfl rfl rfl; (· omega); (· omega); intro _) | (apply L_makeB rfl rfl rfl rfl rfl rfl; (· omega); (· omega); intro _) | (apply L_makeV rfl rfl rfl rfl rfl rfl; (· omega); (· omega); intro _)) | refine kV ?_ | ((fail_if_success (refine L_known rfl ?_)); refine yW (fun h => ?_) fun h => ?_)) | (apply gW; first | refine W_seq ?_ | refine W_region ?_ | refine W_ret ?_ | refine W_skip ?_ | refine W_block ?_ | refine W_exit ?_ | refine W_cond1 rfl ?_ | refine W_cond0 rfl ?_ | refine cW (fun h => ?_) fun h => ?_) | (first | refine seqR.normal ?_ | refine seqR.ret ?_ | refine seqR.exit ?_ | refine blockR.normal ?_ | refine blockR.ret ?_ | refine blockR.here ?_ | refine blockR.exit rfl ?_ | refine loopR.ret ?_ | refine loopR.exit ?_ | refine midA.ret ?_ | refine midA.exit ?_) | fail)
  · have e := marks_still hm h
    exact retR.ret _ _ (ret1 rfl rfl) cvt_ ⟨by rw [e]; rfl, m, rfl, hl, fun _ h => by rw [e] at h; cases h; rfl⟩
  rename_i bl
  have hc := h
  have f10 := f5 hc
  refine W_midA (α := List Int × Int) (fun y => [(1, .slice (some ⟨bm, 0, none⟩) A.ws.length A.ws.length), (2, .pointer (some ⟨ba, 0, none⟩)), (9, .int .i64 y.2)]) (fun y => (ba, aObj C A) :: (bm, mObj y.1) :: H) (fun y => y.1.length = A.ws.length ∧ A.tile2 (A.ws.length + 1) (A.start (1 - A.to)) m A.falses 0 = some (y.1, y.2)) ?_ ?_
  · repeat' (first | (apply gCall; apply L_call rfl rfl rfl rfl rfl; (· first | exact l1In_c _ _ _ | exact specReadHead_c om om | exact specForwarded_c om om | exact l2Start_c om om | exact l2Look_c at_ hw om om); rintro _ _ ⟨rfl, rfl⟩) | (apply gL; first | refine L_nil ?_ | refine yS ?_ | refine yX fun _ => ?_ | refine yA fun _ => ?_ | (apply gSt; first | refine sR ?_ | refine sB ?_ | refine s1 ?_ | refine sW ?_ | refine sN ?_) | (apply gMk; first | (apply L_mkcap rfl rfl rfl rfl rfl rfl; (· omega); (· omega); (· omega); intro _ _) | (apply L_makeI rfl rfl rfl rfl rfl rfl; (· omega); (· omega); intro _) | (apply L_makeB rfl rfl rfl rfl rfl rfl; (· omega); (· omega); intro _) | (apply L_makeV rfl rfl rfl rfl rfl rfl; (· omega); (· omega); intro _)) | refine kV ?_ | ((fail_if_success (refine L_known rfl ?_)); refine yW (fun h => ?_) fun h => ?_)) | (apply gW; first | refine W_seq ?_ | refine W_region ?_ | refine W_ret ?_ | refine W_skip ?_ | refine W_block ?_ | refine W_exit ?_ | refine W_cond1 rfl ?_ | refine W_cond0 rfl ?_ | refine cW (fun h => ?_) fun h => ?_) | (first | refine seqR.normal ?_ | refine seqR.ret ?_ | refine seqR.exit ?_ | refine blockR.normal ?_ | refine blockR.ret ?_ | refine blockR.here ?_ | refine blockR.exit rfl ?_ | refine loopR.ret ?_ | refine loopR.exit ?_ | refine midA.ret ?_ | refine midA.exit ?_) | fail)
    apply W_loopX (α := Int × List Int × List Bool × Int) (fun y => [(1, .slice (some ⟨bm, 0, none⟩) A.ws.length A.ws.length), (2, .pointer (some ⟨ba, 0, none⟩)), (8, .slice (some ⟨bl, 0, none⟩) A.ws.length A.ws.length), (9, .int .i64 y.2.2.2), (10, .int .i64 y.1)]) (fun y => (ba, aObj C A) :: (bl, bObj y.2.2.1) :: (bm, mObj y.2.1) :: H)
      (fun y => (∃ f, A.tile2 f y.1 y.2.1 y.2.2.1 y.2.2.2 = A.tile2 (A.ws.length + 1) (A.start (1 - A.to)) m A.falses 0 ∧ A.old - y.1 < (f : Int)) ∧ y.2.1.length = A.ws.length ∧ y.2.2.1.length = A.ws.length ∧ 1 ≤ y.1 ∧ y.1 ≤ A.old ∧ 0 ≤ y.2.2.2 ∧ y.2.2.2 ≤ y.1) (fun y => (A.old - y.1).toNat) (A.start (1 - A.to), m, A.falses, 0)
    · exact sub_
    · exact cvt_
    · exact ⟨⟨_, rfl, by dsimp only; omega⟩, hl, by simp [Ar.falses], by dsimp only; omega, by dsimp only; omega, by dsimp only; omega, by dsimp only; omega⟩
    rintro ⟨p, m1, led, sum⟩ ⟨⟨f, hf, hf2⟩, hl1, hl2, hp1, hp2, hs1, hs2⟩
    dsimp only at hf hf2 hl1 hl2 hp1 hp2 hs1 hs2 ⊢
    have hp := hw p
    have hr := rsR (g A.ws p)
    have hq := fwR (g A.ws p)
    have hr2 := rsR (g A.ws (fw (g A.ws p)))
    repeat' (first | (apply gCall; apply L_call rfl rfl rfl rfl rfl; (· first | exact l1In_c _ _ _ | exact specReadHead_c om om | exact specForwarded_c om om | exact l2Start_c om om | exact l2Look_c at_ hw om om); rintro _ _ ⟨rfl, rfl⟩) | (apply gL; first | refine L_nil ?_ | refine yS ?_ | refine yX fun _ => ?_ | refine yA fun _ => ?_ | (apply gSt; first | refine sR ?_ | refine sB ?_ | refine s1 ?_ | refine sW ?_ | refine sN ?_) | (apply gMk; first | (apply L_mkcap rfl rfl rfl rfl rfl rfl; (· omega); (· omega); (· omega); intro _ _) | (apply L_makeI rfl rfl rfl rfl rfl rfl; (· omega); (· omega); intro _) | (apply L_makeB rfl rfl rfl rfl rfl rfl; (· omega); (· omega); intro _) | (apply L_makeV rfl rfl rfl rfl rfl rfl; (· omega); (· omega); intro _)) | refine kV ?_ | ((fail_if_success (refine L_known rfl ?_)); refine yW (fun h => ?_) fun h => ?_)) | (apply gW; first | refine W_seq ?_ | refine W_region ?_ | refine W_ret ?_ | refine W_skip ?_ | refine W_block ?_ | refine W_exit ?_ | refine W_cond1 rfl ?_ | refine W_cond0 rfl ?_ | refine cW (fun h => ?_) fun h => ?_) | (first | refine seqR.normal ?_ | refine seqR.ret ?_ | refine seqR.exit ?_ | refine blockR.normal ?_ | refine blockR.ret ?_ | refine blockR.here ?_ | refine blockR.exit rfl ?_ | refine loopR.ret ?_ | refine loopR.exit ?_ | refine midA.ret ?_ | refine midA.exit ?_) | fail)
    · have h1 : ¬ HeadP (hk (g A.ws p)) (hs (g A.ws p)) (Ar.hn (g A.ws p)) := by assumption
      obtain ⟨f', rfl, e⟩ := tile2_step hf2 (by omega)
      rw [e, if_neg (show ¬ hOk (g A.ws p) = true from fun c => h1 (of_decide_eq_true c)), if_neg (fun c => h (of_decide_eq_true c.1))] at hf
      have e := marks_none2 hm hc hf.symm
      exact retR.ret _ _ (ret1 rfl rfl) cvt_ ⟨by rw [e]; rfl, m1, rfl, hl1, fun _ h => by rw [e] at h; cases h⟩
    · have h1 : ¬ HeadP (hk (g A.ws p)) (hs (g A.ws p)) (Ar.hn (g A.ws p)) := by assumption
      obtain ⟨f', rfl, e⟩ := tile2_step hf2 (by omega)
      rw [e, if_neg (show ¬ hOk (g A.ws p) = true from fun c => h1 (of_decide_eq_true c)), if_neg (fun c => by have := c.2.1; unfold Ar.n at this; omega)] at hf
      have e := marks_none2 hm hc hf.symm
      exact retR.ret _ _ (ret1 rfl rfl) cvt_ ⟨by rw [e]; rfl, m1, rfl, hl1, fun _ h => by rw [e] at h; cases h⟩
    · have h1 : ¬ HeadP (hk (g A.ws p)) (hs (g A.ws p)) (Ar.hn (g A.ws p)) := by assumption
      obtain ⟨f', rfl, e⟩ := tile2_step hf2 (by omega)
      rw [e, if_neg (show ¬ hOk (g A.ws p) = true from fun c => h1 (of_decide_eq_true c)), if_neg (fun c => h c.2.2.1)] at hf
      have e := marks_none2 hm hc hf.symm
      exact retR.ret _ _ (ret1 rfl rfl) cvt_ ⟨by rw [e]; rfl, m1, rfl, hl1, fun _ h => by rw [e] at h; cases h⟩
    · have h1 : ¬ HeadP (hk (g A.ws p)) (hs (g A.ws p)) (Ar.hn (g A.ws p)) := by assumption
      obtain ⟨f', rfl, e⟩ := tile2_step hf2 (by omega)
      rw [e, if_neg (show ¬ hOk (g A.ws p) = true from fun c => h1 (of_decide_eq_true c)), if_neg (fun c => by rw [c.2.2.2.1] at h; cases h)] at hf
      have e := marks_none2 hm hc hf.symm
      exact retR.ret _ _ (ret1 rfl rfl) cvt_ ⟨by rw [e]; rfl, m1, rfl, hl1, fun _ h => by rw [e] at h; cases h⟩
    · have h1 : ¬ HeadP (hk (g A.ws p)) (hs (g A.ws p)) (Ar.hn (g A.ws p)) := by assumption
      obtain ⟨f', rfl, e⟩ := tile2_step hf2 (by omega)
      rw [e, if_neg (show ¬ hOk (g A.ws p) = true from fun c => h1 (of_decide_eq_true c)), if_neg (fun c => by omega)] at hf
      have e := marks_none2 hm hc hf.symm
      exact retR.ret _ _ (ret1 rfl rfl) cvt_ ⟨by rw [e]; rfl, m1, rfl, hl1, fun _ h => by rw [e] at h; cases h⟩
    · have h1 : ¬ HeadP (hk (g A.ws p)) (hs (g A.ws p)) (Ar.hn (g A.ws p)) := by assumption
      have h2 : 9223372036854775808 ≤ g A.ws p ∧ g A.ws p ≤ 9223372036854775808 + 2147483647 := by assumption
      obtain ⟨f', rfl, e⟩ := tile2_step hf2 (by omega)
      rw [e, if_neg (show ¬ hOk (g A.ws p) = true from fun c => h1 (of_decide_eq_true c)), if_pos ⟨decide_eq_true h2, by unfold Ar.n; omega, by assumption, by assumption, by omega⟩] at hf
      apply loopR.mk (_, _, _, _)
      · exact sub_
      · exact cvt_
      · refine ⟨⟨f', hf, ?_⟩, ?_, ?_, ?_, ?_, ?_, ?_⟩
        · dsimp only; omega
        · dsimp only; simp [hl1]
        · dsimp only; simp [hl2]
        · dsimp only; omega
        · dsimp only; omega
        · dsimp only; omega
        · dsimp only; omega
      · dsimp only; omega
    · have h1 : HeadP (hk (g A.ws p)) (hs (g A.ws p)) (Ar.hn (g A.ws p)) := by assumption
      obtain ⟨f', rfl, e⟩ := tile2_step hf2 (by omega)
      have h3 := rsR' (w := g A.ws p) (decide_eq_true h1)
      rw [e, if_pos (show hOk (g A.ws p) = true from decide_eq_true h1), if_neg (fun c => by omega)] at hf
      have e := marks_none2 hm hc hf.symm
      exact retR.ret _ _ (ret1 rfl rfl) cvt_ ⟨by rw [e]; rfl, m1, rfl, hl1, fun _ h => by rw [e] at h; cases h⟩
    · have h1 : HeadP (hk (g A.ws p)) (hs (g A.ws p)) (Ar.hn (g A.ws p)) := by assumption
      obtain ⟨f', rfl, e⟩ := tile2_step hf2 (by omega)
      have h3 := rsR' (w := g A.ws p) (decide_eq_true h1)
      rw [e, if_pos (show hOk (g A.ws p) = true from decide_eq_true h1), if_neg (fun c => by omega)] at hf
      have e := marks_none2 hm hc hf.symm
      exact retR.ret _ _ (ret1 rfl rfl) cvt_ ⟨by rw [e]; rfl, m1, rfl, hl1, fun _ h => by rw [e] at h; cases h⟩
    · have h1 : HeadP (hk (g A.ws p)) (hs (g A.ws p)) (Ar.hn (g A.ws p)) := by assumption
      obtain ⟨f', rfl, e⟩ := tile2_step hf2 (by omega)
      have h3 := rsR' (w := g A.ws p) (decide_eq_true h1)
      rw [e, if_pos (show hOk (g A.ws p) = true from decide_eq_true h1), if_pos ⟨by omega, by omega⟩] at hf
      apply loopR.mk (_, _, _, _)
      · exact sub_
      · exact cvt_
      · refine ⟨⟨f', ?_, ?_⟩, ?_, ?_, ?_, ?_, ?_, ?_⟩
        · dsimp only; rw [h3.2.2.1]; exact hf
        · dsimp only; omega
        · dsimp only; simp [hl1]
        · dsimp only; exact hl2
        · dsimp only; omega
        · dsimp only; omega
        · dsimp only; omega
        · dsimp only; omega
      · dsimp only; omega
    · apply midA.mk (m1, sum)
      · exact sub_
      · exact cvt_
      · exact ⟨hl1, by rw [← hf]; exact tile2_end hf2 h⟩
  rintro ⟨m1, sum⟩ ⟨hl1, hm1⟩
  dsimp only at hl1 hm1 ⊢
  have e := marks_some2 hm hc hm1
  repeat' (first | (apply gCall; apply L_call rfl rfl rfl rfl rfl; (· first | exact l1In_c _ _ _ | exact specReadHead_c om om | exact specForwarded_c om om | exact l2Start_c om om | exact l2Look_c at_ hw om om); rintro _ _ ⟨rfl, rfl⟩) | (apply gL; first | refine L_nil ?_ | refine yS ?_ | refine yX fun _ => ?_ | refine yA fun _ => ?_ | (apply gSt; first | refine sR ?_ | refine sB ?_ | refine s1 ?_ | refine sW ?_ | refine sN ?_) | (apply gMk; first | (apply L_mkcap rfl rfl rfl rfl rfl rfl; (· omega); (· omega); (· omega); intro _ _) | (apply L_makeI rfl rfl rfl rfl rfl rfl; (· omega); (· omega); intro _) | (apply L_makeB rfl rfl rfl rfl rfl rfl; (· omega); (· omega); intro _) | (apply L_makeV rfl rfl rfl rfl rfl rfl; (· omega); (· omega); intro _)) | refine kV ?_ | ((fail_if_success (refine L_known rfl ?_)); refine yW (fun h => ?_) fun h => ?_)) | (apply gW; first | refine W_seq ?_ | refine W_region ?_ | refine W_ret ?_ | refine W_skip ?_ | refine W_block ?_ | refine W_exit ?_ | refine W_cond1 rfl ?_ | refine W_cond0 rfl ?_ | refine cW (fun h => ?_) fun h => ?_) | (first | refine seqR.normal ?_ | refine seqR.ret ?_ | refine seqR.exit ?_ | refine blockR.normal ?_ | refine blockR.ret ?_ | refine blockR.here ?_ | refine blockR.exit rfl ?_ | refine loopR.ret ?_ | refine loopR.exit ?_ | refine midA.ret ?_ | refine midA.exit ?_) | fail)
  all_goals (refine retR.ret _ _ (ret1 rfl rfl) cvt_ ⟨?_, m1, rfl, hl1, fun m' h' => by rw [e] at h'; split at h' <;> first | cases h'; rfl | cases h'⟩)
  all_goals (rw [e, isSomeIf])
  all_goals (first | rfl | exact bx om | exact b0 om | exact b1 om | exact bn om)
end Go.Proofs.Ytfhihnonafklbaa.Eng
namespace Go.Proofs.Ytfhihnonafklbaa.Eng
open Go Go.RowKit Go.Proofs.Ytfhihnonafklbaa.Sl Go.Proofs.Ytfhihnonafklbaa.Ar Go.Proofs.Ytfhihnonafklbaa.Base
set_option linter.unusedVariables false
set_option linter.unusedSimpArgs false
set_option maxRecDepth 10000
variable {w0 : World} {H : HL} {C : Cn} {A : Ar}
theorem numbers_cyc (hc : A.cyc = true) : A.numbers = decide ((256 ≤ A.semi ∧ A.semi ≤ 4000) ∧ A.n = 2 * A.semi ∧ (0 ≤ A.to ∧ A.to ≤ 1) ∧ (1 ≤ A.serial ∧ A.serial ≤ 1000000000) ∧ A.vs.length ≤ 24 ∧
  (A.start A.to ≤ A.top ∧ A.top ≤ (A.to + 1) * A.semi) ∧ ((A.start (1 - A.to) ≤ A.old ∧ A.old ≤ (2 - A.to) * A.semi) ∧ (0 ≤ A.copied ∧ A.copied ≤ A.old - A.start (1 - A.to)) ∧
      A.top + A.old - A.start (1 - A.to) - A.copied ≤ (A.to + 1) * A.semi)) := decide_eq_decide.2 (by unfold Ar.numbersP; rw [if_pos hc])
theorem numbers_still (hc : A.cyc = false) : A.numbers = decide ((256 ≤ A.semi ∧ A.semi ≤ 4000) ∧ A.n = 2 * A.semi ∧ (0 ≤ A.to ∧ A.to ≤ 1) ∧ (1 ≤ A.serial ∧ A.serial ≤ 1000000000) ∧ A.vs.length ≤ 24 ∧
  (A.start A.to ≤ A.top ∧ A.top ≤ (A.to + 1) * A.semi) ∧ A.scan = 0 ∧ A.old = 0 ∧ A.copied = 0) := decide_eq_decide.2 (by unfold Ar.numbersP; rw [if_neg (by simp [hc])])
set_option maxHeartbeats 2000000 in
theorem l2Numbers_c (hx : A.vs.length ≤ 1048576) :
    Fn Try.prog w0 30 #[arV C A] H fun v H' => v = .bool A.numbers ∧ H' = H := by
  have hm1 : 0 ≤ A.to ∧ A.to ≤ 1 ∧ 256 ≤ A.semi ∧ A.semi ≤ 4000 → 0 ≤ (2 - A.to) * A.semi ∧ (2 - A.to) * A.semi ≤ 8000 := by
    rintro ⟨h1, h2, h3, h4⟩
    have : A.to = 0 ∨ A.to = 1 := by omega
    rcases this with e | e <;> rw [e] <;> omega
  have hm2 : 0 ≤ A.to ∧ A.to ≤ 1 ∧ 256 ≤ A.semi ∧ A.semi ≤ 4000 → 1 ≤ A.start (1 - A.to) ∧ A.start (1 - A.to) ≤ 8000 := by
    rintro ⟨h1, h2, h3, h4⟩
    have : A.to = 0 ∨ A.to = 1 := by omega
    unfold Ar.start
    rcases this with e | e <;> rw [e] <;> omega
  have hm3 : 0 ≤ A.to ∧ A.to ≤ 1 ∧ 256 ≤ A.semi ∧ A.semi ≤ 4000 → 1 ≤ A.start A.to ∧ (A.to + 1) * A.semi ≤ 8000 := by
    rintro ⟨h1, h2, h3, h4⟩
    have : A.to = 0 ∨ A.to = 1 := by omega
    unfold Ar.start
    rcases this with e | e <;> rw [e] <;> omega
  refine enter1 Try.func30 rfl rfl Try.ntmps30 rfl ?_
  repeat' (first | ((first | (apply gCall; apply L_call rfl rfl rfl rfl rfl) | (apply gQC; apply Q_call rfl rfl rfl rfl rfl)); (· first | exact l1In_c _ _ _ | exact specIsRef_c _ _ | exact l1Kind_c _ | exact l2Start_c om om | exact l2End_c om om | exact l2Where_c at_ hw om om | exact l2Look_c at_ hw om om | exact l2Word_c at_ hw om om om | exact l1Read_c at_ hw om om om); try rintro _ _ ⟨rfl, rfl⟩) | (apply gL; first | refine L_nil ?_ | refine yS ?_ | refine yX fun _ => ?_ | refine kV ?_ | (apply L_val rfl rfl rfl; (· first | (apply gBin; first | fail | exact v_shr rfl rfl om (by show _ ≤ (64 : Int); omega)) | fail )) | ((fail_if_success (refine L_known rfl ?_)); refine yW (fun h => ?_) fun h => ?_)) | (apply gW; first | refine W_seq ?_ | refine W_region ?_ | refine W_ret ?_ | refine W_skip ?_ | refine W_block ?_ | refine W_exit ?_ | refine W_cond1 rfl ?_ | refine W_cond0 rfl ?_ | refine cW (fun h => ?_) fun h => ?_ | refine wQ ?_) | (first | refine seqR.normal ?_ | refine seqR.ret ?_ | refine seqR.exit ?_ | refine blockR.normal ?_ | refine blockR.ret ?_ | refine blockR.here ?_ | refine blockR.exit rfl ?_ | refine loopR.ret ?_ | refine loopR.exit ?_) | (apply gQ; first | refine Q_nil ?_ | refine Q_skip rfl rfl rfl ?_ | refine kQ ?_ | (apply Q_val rfl rfl rfl; (· first | (apply gBin; first | fail | exact v_shr rfl rfl om (by show _ ≤ (64 : Int); omega)) | fail )) | ((fail_if_success (refine Q_known rfl ?_)); refine zW (fun h => ?_) fun h => ?_)) | fail)
  all_goals refine retR.ret _ _ (ret1 rfl rfl) cv_ ⟨?_, rfl⟩
  all_goals (first | (rw [numbers_cyc (by assumption)]; unfold Ar.n) | (rw [numbers_still (by assumption)]; unfold Ar.n) | unfold Ar.numbers Ar.numbersP Ar.n)
  all_goals (first | rfl | exact bx om | exact b0 om | exact b1 om | exact bn om)
theorem l2Leads_c {bm : Nat} {m : List Int} {t n fr : Int} (hB : At H bm (mObj m)) (hA : At H C.bw (wObj C A)) (hw : Wf A.ws) (hl : m.length = A.ws.length) (hm : A.ws.length ≤ 8000) (hn : kd t ≠ 0 → 0 ≤ n)
    (h3 : kd t ≠ 0 → n < A.ws.length → g m n ≠ 0 → 0 ≤ A.where_ n ∧ A.where_ n < A.ws.length) :
    Fn Try.prog w0 37 #[arV C A, .slice (some ⟨bm, 0, none⟩) A.ws.length A.ws.length, .agg #[.int .i64 t, .int .i64 n], .int .i64 fr] H fun v H' => v = .bool (A.leads m t n fr) ∧ H' = H := by
  refine enter4 Try.func37 rfl rfl Try.ntmps37 rfl ?_
  repeat' (first | ((first | (apply gCall; apply L_call rfl rfl rfl rfl rfl) | (apply gQC; apply Q_call rfl rfl rfl rfl rfl)); (· first | exact l1In_c _ _ _ | exact specIsRef_c _ _ | exact l1Kind_c _ | exact l2Start_c om om | exact l2End_c om om | exact l2Where_c at_ hw om om | exact l2Look_c at_ hw om om | exact l2Word_c at_ hw om om om | exact l1Read_c at_ hw om om om); try rintro _ _ ⟨rfl, rfl⟩) | (apply gL; first | refine L_nil ?_ | refine yS ?_ | refine yX fun _ => ?_ | refine kV ?_ | (apply L_val rfl rfl rfl; (· first | (apply gBin; first | fail | exact v_shr rfl rfl om (by show _ ≤ (64 : Int); omega)) | fail )) | ((fail_if_success (refine L_known rfl ?_)); refine yW (fun h => ?_) fun h => ?_)) | (apply gW; first | refine W_seq ?_ | refine W_region ?_ | refine W_ret ?_ | refine W_skip ?_ | refine W_block ?_ | refine W_exit ?_ | refine W_cond1 rfl ?_ | refine W_cond0 rfl ?_ | refine cW (fun h => ?_) fun h => ?_ | refine wQ ?_) | (first | refine seqR.normal ?_ | refine seqR.ret ?_ | refine seqR.exit ?_ | refine blockR.normal ?_ | refine blockR.ret ?_ | refine blockR.here ?_ | refine blockR.exit rfl ?_ | refine loopR.ret ?_ | refine loopR.exit ?_) | (apply gQ; first | refine Q_nil ?_ | refine Q_skip rfl rfl rfl ?_ | refine kQ ?_ | (apply Q_val rfl rfl rfl; (· first | (apply gBin; first | fail | exact v_shr rfl rfl om (by show _ ≤ (64 : Int); omega)) | fail )) | ((fail_if_success (refine Q_known rfl ?_)); refine zW (fun h => ?_) fun h => ?_)) | fail)
  all_goals refine retR.ret _ _ (ret1 rfl rfl) cv_ ⟨?_, rfl⟩
  · unfold Ar.leads isRef; rw [if_neg (by simpa using h)]
  · unfold Ar.leads isRef; rw [if_pos (by simpa), if_neg (by omega)]
  all_goals (unfold Ar.leads isRef; rw [if_pos (by simpa), if_pos (by omega)]; unfold Ar.kn; (try unfold Ar.w))
  all_goals (first | rfl | exact bx om | exact b0 om | exact b1 om | exact bn om)
theorem l2StrOk_c {p size : Int} (hA : At H C.bw (wObj C A)) (hw : Wf A.ws) (hm : A.ws.length ≤ 8000) (hp : 0 ≤ p) (hs : 1 ≤ size) (hp2 : p + size < A.ws.length) :
    Fn Try.prog w0 63 #[arV C A, .int .i64 p, .int .i64 size] H fun v H' => v = .bool (A.strOk p size) ∧ H' = H := by
  refine enter3 Try.func63 rfl rfl Try.ntmps63 rfl ?_
  repeat' (first | ((first | (apply gCall; apply L_call rfl rfl rfl rfl rfl) | (apply gQC; apply Q_call rfl rfl rfl rfl rfl)); (· first | exact l1In_c _ _ _ | exact specIsRef_c _ _ | exact l1Kind_c _ | exact l2Start_c om om | exact l2End_c om om | exact l2Where_c at_ hw om om | exact l2Look_c at_ hw om om | exact l2Word_c at_ hw om om om | exact l1Read_c at_ hw om om om); try rintro _ _ ⟨rfl, rfl⟩) | (apply gL; first | refine L_nil ?_ | refine yS ?_ | refine yX fun _ => ?_ | refine kV ?_ | (apply L_val rfl rfl rfl; (· first | (apply gBin; first | fail | exact v_shr rfl rfl om (by show _ ≤ (64 : Int); omega)) | fail )) | ((fail_if_success (refine L_known rfl ?_)); refine yW (fun h => ?_) fun h => ?_)) | (apply gW; first | refine W_seq ?_ | refine W_region ?_ | refine W_ret ?_ | refine W_skip ?_ | refine W_block ?_ | refine W_exit ?_ | refine W_cond1 rfl ?_ | refine W_cond0 rfl ?_ | refine cW (fun h => ?_) fun h => ?_ | refine wQ ?_) | (first | refine seqR.normal ?_ | refine seqR.ret ?_ | refine seqR.exit ?_ | refine blockR.normal ?_ | refine blockR.ret ?_ | refine blockR.here ?_ | refine blockR.exit rfl ?_ | refine loopR.ret ?_ | refine loopR.exit ?_) | (apply gQ; first | refine Q_nil ?_ | refine Q_skip rfl rfl rfl ?_ | refine kQ ?_ | (apply Q_val rfl rfl rfl; (· first | (apply gBin; first | fail | exact v_shr rfl rfl om (by show _ ≤ (64 : Int); omega)) | fail )) | ((fail_if_success (refine Q_known rfl ?_)); refine zW (fun h => ?_) fun h => ?_)) | fail)
  all_goals refine retR.ret _ _ (ret1 rfl rfl) cv_ ⟨?_, rfl⟩
  all_goals (unfold Ar.strOk Ar.w)
  all_goals (first | rfl | exact bx om | exact b0 om | exact b1 om | exact bn om)
theorem used_step {b n : Int} {f : Nat} {i u : Int} (h : i < n) (hf : n - i < (f : Int)) : ∃ f', f = f' + 1 ∧ A.usedFrom b n f i u = A.usedFrom b n f' (i + 1) (if g A.ws (b + 1 + 4 * i) ≠ 0 then u + 1 else u) := by
  cases f with
  | zero => omega
  | succ f => exact ⟨f, rfl, by rw [Ar.usedFrom, if_pos h]⟩
theorem used_end {b n : Int} {f : Nat} {i u : Int} (h : ¬ i < n) : A.usedFrom b n f i u = u := by
  cases f with
  | zero => rfl
  | succ f => rw [Ar.usedFrom, if_neg h]
theorem l2Used_c {b : Int} (hA : At H C.bw (wObj C A)) (hw : Wf A.ws) (hm : A.ws.length ≤ 8000) (hp : 0 ≤ b) (hp2 : b + rs (g A.ws b) < A.ws.length) :
    Fn Try.prog w0 65 #[arV C A, .int .i64 b] H fun v H' => v = .tuple #[.int .i64 (A.used b), .int .i64 (A.entries b)] ∧ H' = H := by
  have hr := rsR (g A.ws b)
  have he : A.entries b = rs (g A.ws b) / 4 := rfl
  refine enter2 Try.func65 rfl rfl Try.ntmps65 rfl ?_
  repeat' (first | ((first | (apply gCall; apply L_call rfl rfl rfl rfl rfl) | (apply gQC; apply Q_call rfl rfl rfl rfl rfl)); (· first | exact l1In_c _ _ _ | exact specIsRef_c _ _ | exact l1Kind_c _ | exact l2Start_c om om | exact l2End_c om om | exact l2Where_c at_ hw om om | exact l2Look_c at_ hw om om | exact l2Word_c at_ hw om om om | exact l1Read_c at_ hw om om om); try rintro _ _ ⟨rfl, rfl⟩) | (apply gL; first | refine L_nil ?_ | refine yS ?_ | refine yX fun _ => ?_ | refine kV ?_ | (apply L_val rfl rfl rfl; (· first | (apply gBin; first | fail | exact v_shr rfl rfl om (by show _ ≤ (64 : Int); omega)) | fail )) | ((fail_if_success (refine L_known rfl ?_)); refine yW (fun h => ?_) fun h => ?_)) | (apply gW; first | refine W_seq ?_ | refine W_region ?_ | refine W_ret ?_ | refine W_skip ?_ | refine W_block ?_ | refine W_exit ?_ | refine W_cond1 rfl ?_ | refine W_cond0 rfl ?_ | refine cW (fun h => ?_) fun h => ?_ | refine wQ ?_) | (first | refine seqR.normal ?_ | refine seqR.ret ?_ | refine seqR.exit ?_ | refine blockR.normal ?_ | refine blockR.ret ?_ | refine blockR.here ?_ | refine blockR.exit rfl ?_ | refine loopR.ret ?_ | refine loopR.exit ?_) | (apply gQ; first | refine Q_nil ?_ | refine Q_skip rfl rfl rfl ?_ | refine kQ ?_ | (apply Q_val rfl rfl rfl; (· first | (apply gBin; first | fail | exact v_shr rfl rfl om (by show _ ≤ (64 : Int); omega)) | fail )) | ((fail_if_success (refine Q_known rfl ?_)); refine zW (fun h => ?_) fun h => ?_)) | fail)
  rename_i ba
  apply W_loopX (α := Int × Int) (fun y => [(1, .int .i64 b), (2, .pointer (some ⟨ba, 0, none⟩)), (6, .int .i64 (A.entries b)), (7, .int .i64 y.2), (8, .int .i64 y.1)]) (fun y => (ba, aObj C A) :: H)
      (fun y => (∃ f, A.usedFrom b (A.entries b) f y.1 y.2 = A.used b ∧ A.entries b - y.1 < (f : Int)) ∧ 0 ≤ y.1 ∧ y.1 ≤ A.entries b ∧ 0 ≤ y.2 ∧ y.2 ≤ y.1) (fun y => (A.entries b - y.1).toNat) (0, 0)
  · exact sub_
  · exact cvt_
  · exact ⟨⟨_, rfl, by dsimp only; omega⟩, by dsimp only; omega, by dsimp only; omega, by dsimp only; omega, by dsimp only; omega⟩
  rintro ⟨i, u⟩ ⟨⟨f, hf, hf2⟩, hi, hi2, hu, hu2⟩
  dsimp only at hf hf2 hi hi2 hu hu2 ⊢
  repeat' (first | ((first | (apply gCall; apply L_call rfl rfl rfl rfl rfl) | (apply gQC; apply Q_call rfl rfl rfl rfl rfl)); (· first | exact l1In_c _ _ _ | exact specIsRef_c _ _ | exact l1Kind_c _ | exact l2Start_c om om | exact l2End_c om om | exact l2Where_c at_ hw om om | exact l2Look_c at_ hw om om | exact l2Word_c at_ hw om om om | exact l1Read_c at_ hw om om om); try rintro _ _ ⟨rfl, rfl⟩) | (apply gL; first | refine L_nil ?_ | refine yS ?_ | refine yX fun _ => ?_ | refine kV ?_ | (apply L_val rfl rfl rfl; (· first | (apply gBin; first | fail | exact v_shr rfl rfl om (by show _ ≤ (64 : Int); omega)) | fail )) | ((fail_if_success (refine L_known rfl ?_)); refine yW (fun h => ?_) fun h => ?_)) | (apply gW; first | refine W_seq ?_ | refine W_region ?_ | refine W_ret ?_ | refine W_skip ?_ | refine W_block ?_ | refine W_exit ?_ | refine W_cond1 rfl ?_ | refine W_cond0 rfl ?_ | refine cW (fun h => ?_) fun h => ?_ | refine wQ ?_) | (first | refine seqR.normal ?_ | refine seqR.ret ?_ | refine seqR.exit ?_ | refine blockR.normal ?_ | refine blockR.ret ?_ | refine blockR.here ?_ | refine blockR.exit rfl ?_ | refine loopR.ret ?_ | refine loopR.exit ?_) | (apply gQ; first | refine Q_nil ?_ | refine Q_skip rfl rfl rfl ?_ | refine kQ ?_ | (apply Q_val rfl rfl rfl; (· first | (apply gBin; first | fail | exact v_shr rfl rfl om (by show _ ≤ (64 : Int); omega)) | fail )) | ((fail_if_success (refine Q_known rfl ?_)); refine zW (fun h => ?_) fun h => ?_)) | fail)
  · obtain ⟨f', rfl, e⟩ := used_step (A := A) (b := b) (u := u) (show i < A.entries b by assumption) hf2
    rw [e, if_pos h] at hf
    apply loopR.mk (_, _)
    · exact sub_
    · exact cvt_
    · exact ⟨⟨f', hf, by dsimp only; omega⟩, by dsimp only; omega, by dsimp only; omega, by dsimp only; omega, by dsimp only; omega⟩
    · dsimp only; omega
  · obtain ⟨f', rfl, e⟩ := used_step (A := A) (b := b) (u := u) (show i < A.entries b by assumption) hf2
    rw [e, if_neg (by omega)] at hf
    apply loopR.mk (_, _)
    · exact sub_
    · exact cvt_
    · exact ⟨⟨f', hf, by dsimp only; omega⟩, by dsimp only; omega, by dsimp only; omega, by dsimp only; omega, by dsimp only; omega⟩
    · dsimp only; omega
  · rw [used_end h] at hf
    refine retR.ret _ _ (ret2 rfl rfl rfl) cv_ ⟨?_, rfl⟩
    rw [hf]
end Go.Proofs.Ytfhihnonafklbaa.Eng
namespace Go.Proofs.Ytfhihnonafklbaa.Eng
open Go Go.RowKit Go.Proofs.Ytfhihnonafklbaa.Sl Go.Proofs.Ytfhihnonafklbaa.Ar Go.Proofs.Ytfhihnonafklbaa.Base
set_option linter.unusedVariables false
set_option linter.unusedSimpArgs false
set_option maxRecDepth 10000
variable {w0 : World} {H : HL} {C : Cn} {A : Ar}
theorem g_mem {l : List Int} {i : Int} (h0 : 0 ≤ i) (h : i < (l.length : Int)) : g l i ∈ l := by
  have hl : i.toNat < l.length := by omega
  unfold g
  rw [List.getD_eq_getElem?_getD, List.getElem?_eq_getElem hl]
  exact List.getElem_mem hl
theorem g_ex {l : List Int} {s : Int} (h : s ∈ l) : ∃ i : Int, 0 ≤ i ∧ i < (l.length : Int) ∧ g l i = s := by
  obtain ⟨n, hn, e⟩ := List.getElem_of_mem h
  refine ⟨(n : Int), by omega, by omega, ?_⟩
  unfold g
  rw [List.getD_eq_getElem?_getD, Int.toNat_natCast, List.getElem?_eq_getElem hn]
  exact e
theorem sers_step {m had : List Int} {f : Nat} {p : Int} (h : p < (m.length : Int)) (hf : (m.length : Int) - p < (f : Int)) : ∃ f', f = f' + 1 ∧ A.sersFrom m f p had =
    if (g m p = 1 ∨ g m p = 2) ∧ rn (g A.ws p) ≠ 0 then (if rn (g A.ws p) ∈ had then false else A.sersFrom m f' (p + 1) (had ++ [rn (g A.ws p)])) else A.sersFrom m f' (p + 1) had := by
  cases f with
  | zero => omega
  | succ f => exact ⟨f, rfl, by rw [Ar.sersFrom, if_pos h]; rfl⟩
theorem sers_end {m had : List Int} {f : Nat} {p : Int} (h : ¬ p < (m.length : Int)) : A.sersFrom m f p had = true := by
  cases f with
  | zero => rfl
  | succ f => rw [Ar.sersFrom, if_neg h]
set_option maxHeartbeats 2000000 in
theorem l2Serials_c {bm : Nat} {m : List Int} (hB : At H bm (mObj m)) (hA : At H C.bw (wObj C A)) (hw : Wf A.ws) (hl : m.length = A.ws.length) (hm : A.ws.length ≤ 8000) :
    Fn Try.prog w0 32 #[arV C A, .slice (some ⟨bm, 0, none⟩) A.ws.length A.ws.length] H fun v H' => v = .bool (A.sers m) ∧ H' = H := by
  refine enter2 Try.func32 rfl rfl Try.ntmps32 rfl ?_
  repeat' (first | ((first | (apply gCall; apply L_call rfl rfl rfl rfl rfl) | (apply gQC; apply Q_call rfl rfl rfl rfl rfl)); (· first | exact l1In_c _ _ _ | exact l2Where_c at_ hw om om | exact l2Look_c at_ hw om om | exact l2Word_c at_ hw om om om | exact l1Read_c at_ hw om om om); try rintro _ _ ⟨rfl, rfl⟩) | (apply gL; first | refine L_nil ?_ | refine yS ?_ | refine yX fun _ => ?_ | refine yA fun _ => ?_ | (apply gSt; first | refine sR ?_ | refine sB ?_ | refine s1 ?_ | refine sW ?_ | refine sN ?_) | (apply gBs; first | (refine L_bs0 rfl rfl rfl rfl (fun _ => ?_)) | (refine L_bs1 rfl rfl rfl rfl rfl rfl rfl (fun _ => ?_))) | (apply gApp; apply L_appI rfl rfl rfl rfl rfl rfl; (· exact at_); (· exact tk_); (· rfl); (· omega); intro _ _) | refine kV ?_ | ((fail_if_success (refine L_known rfl ?_)); refine yW (fun h => ?_) fun h => ?_)) | (apply gW; first | refine W_seq ?_ | refine W_region ?_ | refine W_ret ?_ | refine W_skip ?_ | refine W_block ?_ | refine W_exit ?_ | refine W_cond1 rfl ?_ | refine W_cond0 rfl ?_ | refine cW (fun h => ?_) fun h => ?_ | refine wQ ?_) | (first | refine seqR.normal ?_ | refine seqR.ret ?_ | refine seqR.exit ?_ | refine blockR.normal ?_ | refine blockR.ret ?_ | refine blockR.here ?_ | refine blockR.exit rfl ?_ | refine loopR.ret ?_ | refine loopR.exit ?_ | refine midA.ret ?_ | refine midA.exit ?_) | (apply gQ; first | refine Q_nil ?_ | refine Q_skip rfl rfl rfl ?_ | refine kQ ?_ | ((fail_if_success (refine Q_known rfl ?_)); refine zW (fun h => ?_) fun h => ?_)) | fail)
  rename_i ba _
  apply W_loopX (α := Int × List Int × List Value × Nat) (fun y => [(1, .slice (some ⟨bm, 0, none⟩) A.ws.length A.ws.length), (2, .pointer (some ⟨ba, 0, none⟩)), (5, .slice (some ⟨y.2.2.2, 0, none⟩) y.2.1.length (y.2.1.length + y.2.2.1.length)), (6, .int .i64 y.1)]) (fun y => (y.2.2.2, .cells (rowA .i64 y.2.1 y.2.2.1) 3 (0, 0)) :: (ba, aObj C A) :: H)
      (fun y => (∃ f, A.sersFrom m f y.1 y.2.1 = A.sers m ∧ (m.length : Int) - y.1 < (f : Int)) ∧ 0 ≤ y.1 ∧ y.1 ≤ A.ws.length ∧ (y.2.1.length : Int) ≤ y.1) (fun y => (A.ws.length - y.1).toNat) (0, [], [], _)
  · exact sub_
  · exact cvt_
  · exact ⟨⟨_, rfl, by dsimp only; omega⟩, by dsimp only; omega, by dsimp only; omega, by simp⟩
  rintro ⟨p, had, sp, bh⟩ ⟨⟨f, hf, hf2⟩, hp, hp2, hh⟩
  dsimp only at hf hf2 hp hp2 hh ⊢
  repeat' (fail_if_success apply gAt 5); (first | ((first | (apply gCall; apply L_call rfl rfl rfl rfl rfl) | (apply gQC; apply Q_call rfl rfl rfl rfl rfl)); (· first | exact l1In_c _ _ _ | exact l2Where_c at_ hw om om | exact l2Look_c at_ hw om om | exact l2Word_c at_ hw om om om | exact l1Read_c at_ hw om om om); try rintro _ _ ⟨rfl, rfl⟩) | (apply gL; first | refine L_nil ?_ | refine yS ?_ | refine yX fun _ => ?_ | refine yA fun _ => ?_ | (apply gSt; first | refine sR ?_ | refine sB ?_ | refine s1 ?_ | refine sW ?_ | refine sN ?_) | (apply gBs; first | (refine L_bs0 rfl rfl rfl rfl (fun _ => ?_)) | (refine L_bs1 rfl rfl rfl rfl rfl rfl rfl (fun _ => ?_))) | (apply gApp; apply L_appI rfl rfl rfl rfl rfl rfl; (· exact at_); (· exact tk_); (· rfl); (· omega); intro _ _) | refine kV ?_ | ((fail_if_success (refine L_known rfl ?_)); refine yW (fun h => ?_) fun h => ?_)) | (apply gW; first | refine W_seq ?_ | refine W_region ?_ | refine W_ret ?_ | refine W_skip ?_ | refine W_block ?_ | refine W_exit ?_ | refine W_cond1 rfl ?_ | refine W_cond0 rfl ?_ | refine cW (fun h => ?_) fun h => ?_ | refine wQ ?_) | (first | refine seqR.normal ?_ | refine seqR.ret ?_ | refine seqR.exit ?_ | refine blockR.normal ?_ | refine blockR.ret ?_ | refine blockR.here ?_ | refine blockR.exit rfl ?_ | refine loopR.ret ?_ | refine loopR.exit ?_ | refine midA.ret ?_ | refine midA.exit ?_) | (apply gQ; first | refine Q_nil ?_ | refine Q_skip rfl rfl rfl ?_ | refine kQ ?_ | ((fail_if_success (refine Q_known rfl ?_)); refine zW (fun h => ?_) fun h => ?_)) | fail)
  · refine W_midA (α := Unit) (fun y => [(1, .slice (some ⟨bm, 0, none⟩) A.ws.length A.ws.length), (2, .pointer (some ⟨ba, 0, none⟩)), (5, .slice (some ⟨bh, 0, none⟩) had.length (had.length + sp.length)), (6, .int .i64 p)]) (fun y => (bh, .cells (rowA .i64 had sp) 3 (0, 0)) :: (ba, aObj C A) :: H) (fun _ => g m p = 1 ∨ g m p = 2) ?_ ?_
    · repeat' (first | ((first | (apply gCall; apply L_call rfl rfl rfl rfl rfl) | (apply gQC; apply Q_call rfl rfl rfl rfl rfl)); (· first | exact l1In_c _ _ _ | exact l2Where_c at_ hw om om | exact l2Look_c at_ hw om om | exact l2Word_c at_ hw om om om | exact l1Read_c at_ hw om om om); try rintro _ _ ⟨rfl, rfl⟩) | (apply gL; first | refine L_nil ?_ | refine yS ?_ | refine yX fun _ => ?_ | refine yA fun _ => ?_ | (apply gSt; first | refine sR ?_ | refine sB ?_ | refine s1 ?_ | refine sW ?_ | refine sN ?_) | (apply gBs; first | (refine L_bs0 rfl rfl rfl rfl (fun _ => ?_)) | (refine L_bs1 rfl rfl rfl rfl rfl rfl rfl (fun _ => ?_))) | (apply gApp; apply L_appI rfl rfl rfl rfl rfl rfl; (· exact at_); (· exact tk_); (· rfl); (· omega); intro _ _) | refine kV ?_ | ((fail_if_success (refine L_known rfl ?_)); refine yW (fun h => ?_) fun h => ?_)) | (apply gW; first | refine W_seq ?_ | refine W_region ?_ | refine W_ret ?_ | refine W_skip ?_ | refine W_block ?_ | refine W_exit ?_ | refine W_cond1 rfl ?_ | refine W_cond0 rfl ?_ | refine cW (fun h => ?_) fun h => ?_ | refine wQ ?_) | (first | refine seqR.normal ?_ | refine seqR.ret ?_ | refine seqR.exit ?_ | refine blockR.normal ?_ | refine blockR.ret ?_ | refine blockR.here ?_ | refine blockR.exit rfl ?_ | refine loopR.ret ?_ | refine loopR.exit ?_ | refine midA.ret ?_ | refine midA.exit ?_) | (apply gQ; first | refine Q_nil ?_ | refine Q_skip rfl rfl rfl ?_ | refine kQ ?_ | ((fail_if_success (refine Q_known rfl ?_)); refine zW (fun h => ?_) fun h => ?_)) | fail)
      · obtain ⟨f', rfl, e⟩ := sers_step (A := A) (had := had) (show p < (m.length : Int) by omega) hf2
        rw [e, if_neg (by omega)] at hf
        apply loopR.mk (p + 1, had, _, _)
        · exact sub_
        · exact cvt_
        · exact ⟨⟨f', hf, by dsimp only; omega⟩, by dsimp only; omega, by dsimp only; omega, by dsimp only; (try simp only [List.length_append, List.length_cons, List.length_nil]); omega⟩
        · dsimp only; omega
      · apply midA.mk ()
        · exact sub_
        · exact cvt_
        · omega
      · apply midA.mk ()
        · exact sub_
        · exact cvt_
        · omega
    rintro _ hM
    obtain ⟨f', rfl, e⟩ := sers_step (A := A) (had := had) (show p < (m.length : Int) by omega) hf2
    repeat' (first | ((first | (apply gCall; apply L_call rfl rfl rfl rfl rfl) | (apply gQC; apply Q_call rfl rfl rfl rfl rfl)); (· first | exact l1In_c _ _ _ | exact l2Where_c at_ hw om om | exact l2Look_c at_ hw om om | exact l2Word_c at_ hw om om om | exact l1Read_c at_ hw om om om); try rintro _ _ ⟨rfl, rfl⟩) | (apply gL; first | refine L_nil ?_ | refine yS ?_ | refine yX fun _ => ?_ | refine yA fun _ => ?_ | (apply gSt; first | refine sR ?_ | refine sB ?_ | refine s1 ?_ | refine sW ?_ | refine sN ?_) | (apply gBs; first | (refine L_bs0 rfl rfl rfl rfl (fun _ => ?_)) | (refine L_bs1 rfl rfl rfl rfl rfl rfl rfl (fun _ => ?_))) | (apply gApp; apply L_appI rfl rfl rfl rfl rfl rfl; (· exact at_); (· exact tk_); (· rfl); (· omega); intro _ _) | refine kV ?_ | ((fail_if_success (refine L_known rfl ?_)); refine yW (fun h => ?_) fun h => ?_)) | (apply gW; first | refine W_seq ?_ | refine W_region ?_ | refine W_ret ?_ | refine W_skip ?_ | refine W_block ?_ | refine W_exit ?_ | refine W_cond1 rfl ?_ | refine W_cond0 rfl ?_ | refine cW (fun h => ?_) fun h => ?_ | refine wQ ?_) | (first | refine seqR.normal ?_ | refine seqR.ret ?_ | refine seqR.exit ?_ | refine blockR.normal ?_ | refine blockR.ret ?_ | refine blockR.here ?_ | refine blockR.exit rfl ?_ | refine loopR.ret ?_ | refine loopR.exit ?_ | refine midA.ret ?_ | refine midA.exit ?_) | (apply gQ; first | refine Q_nil ?_ | refine Q_skip rfl rfl rfl ?_ | refine kQ ?_ | ((fail_if_success (refine Q_known rfl ?_)); refine zW (fun h => ?_) fun h => ?_)) | fail)
    · rw [e, if_neg (by omega)] at hf
      apply loopR.mk (p + 1, had, _, _)
      · exact sub_
      · exact cvt_
      · exact ⟨⟨f', hf, by dsimp only; omega⟩, by dsimp only; omega, by dsimp only; omega, by dsimp only; (try simp only [List.length_append, List.length_cons, List.length_nil]); omega⟩
      · dsimp only; omega
    · rename_i hs0 _
      apply W_loopX (α := Int) (fun y => [(1, .slice (some ⟨bm, 0, none⟩) A.ws.length A.ws.length), (2, .pointer (some ⟨ba, 0, none⟩)), (5, .slice (some ⟨bh, 0, none⟩) had.length (had.length + sp.length)), (6, .int .i64 p), (7, .int .i64 (rn (g A.ws p))), (8, .int .i64 y)]) (fun y => (bh, .cells (rowA .i64 had sp) 3 (0, 0)) :: (ba, aObj C A) :: H)
        (fun y => 0 ≤ y ∧ y ≤ had.length ∧ ∀ j, 0 ≤ j → j < y → g had j ≠ rn (g A.ws p)) (fun y => (had.length - y).toNat) 0
      · exact sub_
      · exact cvt_
      · exact ⟨by omega, by omega, fun j h1 h2 => by omega⟩
      rintro i ⟨hi, hi2, hi3⟩
      repeat' (first | ((first | (apply gCall; apply L_call rfl rfl rfl rfl rfl) | (apply gQC; apply Q_call rfl rfl rfl rfl rfl)); (· first | exact l1In_c _ _ _ | exact l2Where_c at_ hw om om | exact l2Look_c at_ hw om om | exact l2Word_c at_ hw om om om | exact l1Read_c at_ hw om om om); try rintro _ _ ⟨rfl, rfl⟩) | (apply gL; first | refine L_nil ?_ | refine yS ?_ | refine yX fun _ => ?_ | refine yA fun _ => ?_ | (apply gSt; first | refine sR ?_ | refine sB ?_ | refine s1 ?_ | refine sW ?_ | refine sN ?_) | (apply gBs; first | (refine L_bs0 rfl rfl rfl rfl (fun _ => ?_)) | (refine L_bs1 rfl rfl rfl rfl rfl rfl rfl (fun _ => ?_))) | (apply gApp; apply L_appI rfl rfl rfl rfl rfl rfl; (· exact at_); (· exact tk_); (· rfl); (· omega); intro _ _) | refine kV ?_ | ((fail_if_success (refine L_known rfl ?_)); refine yW (fun h => ?_) fun h => ?_)) | (apply gW; first | refine W_seq ?_ | refine W_region ?_ | refine W_ret ?_ | refine W_skip ?_ | refine W_block ?_ | refine W_exit ?_ | refine W_cond1 rfl ?_ | refine W_cond0 rfl ?_ | refine cW (fun h => ?_) fun h => ?_ | refine wQ ?_) | (first | refine seqR.normal ?_ | refine seqR.ret ?_ | refine seqR.exit ?_ | refine blockR.normal ?_ | refine blockR.ret ?_ | refine blockR.here ?_ | refine blockR.exit rfl ?_ | refine loopR.ret ?_ | refine loopR.exit ?_ | refine midA.ret ?_ | refine midA.exit ?_) | (apply gQ; first | refine Q_nil ?_ | refine Q_skip rfl rfl rfl ?_ | refine kQ ?_ | ((fail_if_success (refine Q_known rfl ?_)); refine zW (fun h => ?_) fun h => ?_)) | fail)
      · rename_i h2
        have hmem : rn (g A.ws p) ∈ had := by rw [← h]; exact g_mem hi (by omega)
        rw [e, if_pos ⟨hM, by omega⟩, if_pos hmem] at hf
        refine retR.ret _ _ (ret1 rfl rfl) cv_ ⟨?_, rfl⟩
        rw [← hf]
      · apply loopR.mk (i + 1)
        · exact sub_
        · exact cvt_
        · exact ⟨by omega, by omega, fun j h1 h2 => by
            by_cases hj : j = i
            · subst hj; exact h
            · exact hi3 j h1 (by omega)⟩
        · (try dsimp only); omega
      · have hmem : ¬ rn (g A.ws p) ∈ had := fun hx => by
          obtain ⟨j, h1, h2, h3⟩ := g_ex hx
          exact hi3 j h1 (by omega) h3
        rw [e, if_pos ⟨hM, by omega⟩, if_neg hmem] at hf
        apply loopR.mk (p + 1, had ++ [rn (g A.ws p)], _, _)
        · exact sub_
        · exact cvt_
        · exact ⟨⟨f', hf, by dsimp only; omega⟩, by dsimp only; omega, by dsimp only; omega, by dsimp only; (try simp only [List.length_append, List.length_cons, List.length_nil]); omega⟩
        · dsimp only; omega
  · rw [sers_end (by omega)] at hf
    refine retR.ret _ _ (ret1 rfl rfl) cv_ ⟨?_, rfl⟩
    rw [← hf]
theorem l6Key_c {b i : Int} (hA : At H C.bw (wObj C A)) (hw : Wf A.ws) (hm : A.ws.length ≤ 8000) (hb : 0 ≤ b) (hi : 0 ≤ i) (hp : b + 2 + 4 * i < A.ws.length) :
    Fn Try.prog w0 66 #[arV C A, .int .i64 b, .int .i64 i] H fun v H' => v = .agg #[.int .i64 (rvT A.ws (b + 1 + 4 * i)), .int .i64 (rvN A.ws (b + 1 + 4 * i))] ∧ H' = H := by
  refine enter3 Try.func66 rfl rfl Try.ntmps66 rfl ?_
  repeat' (first | ((first | (apply gCall; apply L_call rfl rfl rfl rfl rfl) | (apply gQC; apply Q_call rfl rfl rfl rfl rfl)); (· first | exact l1In_c _ _ _ | exact l2Where_c at_ hw om om | exact l2Look_c at_ hw om om | exact l2Word_c at_ hw om om om | exact l1Read_c at_ hw om om om); try rintro _ _ ⟨rfl, rfl⟩) | (apply gL; first | refine L_nil ?_ | refine yS ?_ | refine yX fun _ => ?_ | refine yA fun _ => ?_ | (apply gSt; first | refine sR ?_ | refine sB ?_ | refine s1 ?_ | refine sW ?_ | refine sN ?_) | (apply gBs; first | (refine L_bs0 rfl rfl rfl rfl (fun _ => ?_)) | (refine L_bs1 rfl rfl rfl rfl rfl rfl rfl (fun _ => ?_))) | (apply gApp; apply L_appI rfl rfl rfl rfl rfl rfl; (· exact at_); (· exact tk_); (· rfl); (· omega); intro _ _) | refine kV ?_ | ((fail_if_success (refine L_known rfl ?_)); refine yW (fun h => ?_) fun h => ?_)) | (apply gW; first | refine W_seq ?_ | refine W_region ?_ | refine W_ret ?_ | refine W_skip ?_ | refine W_block ?_ | refine W_exit ?_ | refine W_cond1 rfl ?_ | refine W_cond0 rfl ?_ | refine cW (fun h => ?_) fun h => ?_ | refine wQ ?_) | (first | refine seqR.normal ?_ | refine seqR.ret ?_ | refine seqR.exit ?_ | refine blockR.normal ?_ | refine blockR.ret ?_ | refine blockR.here ?_ | refine blockR.exit rfl ?_ | refine loopR.ret ?_ | refine loopR.exit ?_ | refine midA.ret ?_ | refine midA.exit ?_) | (apply gQ; first | refine Q_nil ?_ | refine Q_skip rfl rfl rfl ?_ | refine kQ ?_ | ((fail_if_success (refine Q_known rfl ?_)); refine zW (fun h => ?_) fun h => ?_)) | fail)
  all_goals (refine retR.ret _ _ (retC rfl rfl at_ (by rfl)) cv_ ⟨?_, rfl⟩)
  all_goals rfl
theorem coOk_iff {p : Int} : A.coOk p = true ↔ ((0 ≤ sg (g A.ws (p + 1)) ∧ sg (g A.ws (p + 1)) ≤ 4) ∧ (0 ≤ sg (g A.ws (p + 2)) ∧ sg (g A.ws (p + 2)) ≤ 60) ∧ (0 ≤ sg (g A.ws (p + 3)) ∧ sg (g A.ws (p + 3)) ≤ sg (g A.ws (p + 2))) ∧
    (0 ≤ sg (g A.ws (p + 4)) ∧ sg (g A.ws (p + 4)) ≤ 4095) ∧ (rvT A.ws (p + 5) = 0 ∨ rvT A.ws (p + 5) = 6)) ∧ ∀ i : Int, 0 ≤ i → i < 60 → i < sg (g A.ws (p + 2)) ∨ g A.ws (p + 7 + 2 * i) = 0 := by
  unfold Ar.coOk Ar.w
  simp only [Bool.and_eq_true, decide_eq_true_eq, List.all_eq_true, List.mem_range, Bool.or_eq_true]
  constructor
  · rintro ⟨h1, h2⟩
    refine ⟨h1, fun i hi hi2 => ?_⟩
    have := h2 i.toNat (by omega)
    rwa [Int.toNat_of_nonneg hi] at this
  · rintro ⟨h1, h2⟩
    exact ⟨h1, fun n hn => h2 n (by omega) (by omega)⟩
theorem coOk_f1 {p : Int} (h : ¬ ((0 ≤ sg (g A.ws (p + 1)) ∧ sg (g A.ws (p + 1)) ≤ 4) ∧ (0 ≤ sg (g A.ws (p + 2)) ∧ sg (g A.ws (p + 2)) ≤ 60) ∧ (0 ≤ sg (g A.ws (p + 3)) ∧ sg (g A.ws (p + 3)) ≤ sg (g A.ws (p + 2))) ∧
    (0 ≤ sg (g A.ws (p + 4)) ∧ sg (g A.ws (p + 4)) ≤ 4095) ∧ (rvT A.ws (p + 5) = 0 ∨ rvT A.ws (p + 5) = 6))) : false = A.coOk p := by
  cases e : A.coOk p with
  | false => rfl
  | true => exact absurd (coOk_iff.1 e).1 h
theorem coOk_f2 {p i : Int} (h0 : 0 ≤ i) (h1 : i < 60) (h2 : ¬ i < sg (g A.ws (p + 2))) (h3 : ¬ g A.ws (p + 7 + 2 * i) = 0) : false = A.coOk p := by
  cases e : A.coOk p with
  | false => rfl
  | true => rcases (coOk_iff.1 e).2 i h0 h1 with h | h
            · exact absurd h h2
            · exact absurd h h3
theorem l2CoOk_c {p : Int} (hA : At H C.bw (wObj C A)) (hw : Wf A.ws) (hm : A.ws.length ≤ 8000) (hp : 0 ≤ p) (hp2 : p + 126 < A.ws.length) :
    Fn Try.prog w0 64 #[arV C A, .int .i64 p] H fun v H' => v = .bool (A.coOk p) ∧ H' = H := by
  refine enter2 Try.func64 rfl rfl Try.ntmps64 rfl ?_
  repeat' (fail_if_success apply gAt 5); (first | ((first | (apply gCall; apply L_call rfl rfl rfl rfl rfl) | (apply gQC; apply Q_call rfl rfl rfl rfl rfl)); (· first | exact l1In_c _ _ _ | exact l2Where_c at_ hw om om | exact l2Look_c at_ hw om om | exact l2Word_c at_ hw om om om | exact l1Read_c at_ hw om om om); try rintro _ _ ⟨rfl, rfl⟩) | (apply gL; first | refine L_nil ?_ | refine yS ?_ | refine yX fun _ => ?_ | refine yA fun _ => ?_ | (apply gSt; first | refine sR ?_ | refine sB ?_ | refine s1 ?_ | refine sW ?_ | refine sN ?_) | (apply gBs; first | (refine L_bs0 rfl rfl rfl rfl (fun _ => ?_)) | (refine L_bs1 rfl rfl rfl rfl rfl rfl rfl (fun _ => ?_))) | (apply gApp; apply L_appI rfl rfl rfl rfl rfl rfl; (· exact at_); (· exact tk_); (· rfl); (· omega); intro _ _) | refine kV ?_ | ((fail_if_success (refine L_known rfl ?_)); refine yW (fun h => ?_) fun h => ?_)) | (apply gW; first | refine W_seq ?_ | refine W_region ?_ | refine W_ret ?_ | refine W_skip ?_ | refine W_block ?_ | refine W_exit ?_ | refine W_cond1 rfl ?_ | refine W_cond0 rfl ?_ | refine cW (fun h => ?_) fun h => ?_ | refine wQ ?_) | (first | refine seqR.normal ?_ | refine seqR.ret ?_ | refine seqR.exit ?_ | refine blockR.normal ?_ | refine blockR.ret ?_ | refine blockR.here ?_ | refine blockR.exit rfl ?_ | refine loopR.ret ?_ | refine loopR.exit ?_ | refine midA.ret ?_ | refine midA.exit ?_) | (apply gQ; first | refine Q_nil ?_ | refine Q_skip rfl rfl rfl ?_ | refine kQ ?_ | ((fail_if_success (refine Q_known rfl ?_)); refine zW (fun h => ?_) fun h => ?_)) | fail)
  all_goals (try (refine retR.ret _ _ (ret1 rfl rfl) cv_ ⟨?_, rfl⟩; exact congrArg Value.bool (coOk_f1 (by omega))))
  rename_i ba _ _ _ bv
  refine W_midA (α := Unit) (fun y => [(1, .int .i64 p), (2, .pointer (some ⟨ba, 0, none⟩)), (6, .int .i64 (sg (g A.ws (p + 2))))]) (fun y => (ba, aObj C A) :: H) (fun _ => rvT A.ws (p + 5) = 0 ∨ rvT A.ws (p + 5) = 6) ?_ ?_
  · repeat' (first | ((first | (apply gCall; apply L_call rfl rfl rfl rfl rfl) | (apply gQC; apply Q_call rfl rfl rfl rfl rfl)); (· first | exact l1In_c _ _ _ | exact l2Where_c at_ hw om om | exact l2Look_c at_ hw om om | exact l2Word_c at_ hw om om om | exact l1Read_c at_ hw om om om); try rintro _ _ ⟨rfl, rfl⟩) | (apply gL; first | refine L_nil ?_ | refine yS ?_ | refine yX fun _ => ?_ | refine yA fun _ => ?_ | (apply gSt; first | refine sR ?_ | refine sB ?_ | refine s1 ?_ | refine sW ?_ | refine sN ?_) | (apply gBs; first | (refine L_bs0 rfl rfl rfl rfl (fun _ => ?_)) | (refine L_bs1 rfl rfl rfl rfl rfl rfl rfl (fun _ => ?_))) | (apply gApp; apply L_appI rfl rfl rfl rfl rfl rfl; (· exact at_); (· exact tk_); (· rfl); (· omega); intro _ _) | refine kV ?_ | ((fail_if_success (refine L_known rfl ?_)); refine yW (fun h => ?_) fun h => ?_)) | (apply gW; first | refine W_seq ?_ | refine W_region ?_ | refine W_ret ?_ | refine W_skip ?_ | refine W_block ?_ | refine W_exit ?_ | refine W_cond1 rfl ?_ | refine W_cond0 rfl ?_ | refine cW (fun h => ?_) fun h => ?_ | refine wQ ?_) | (first | refine seqR.normal ?_ | refine seqR.ret ?_ | refine seqR.exit ?_ | refine blockR.normal ?_ | refine blockR.ret ?_ | refine blockR.here ?_ | refine blockR.exit rfl ?_ | refine loopR.ret ?_ | refine loopR.exit ?_ | refine midA.ret ?_ | refine midA.exit ?_) | (apply gQ; first | refine Q_nil ?_ | refine Q_skip rfl rfl rfl ?_ | refine kQ ?_ | ((fail_if_success (refine Q_known rfl ?_)); refine zW (fun h => ?_) fun h => ?_)) | fail)
    all_goals (try (refine retR.ret _ _ (ret1 rfl rfl) cv_ ⟨?_, rfl⟩; exact congrArg Value.bool (coOk_f1 (by omega))))
    all_goals (apply midA.mk ()
               · exact sub_
               · exact cvt_
               · omega)
  rintro _ hv
  repeat' (first | ((first | (apply gCall; apply L_call rfl rfl rfl rfl rfl) | (apply gQC; apply Q_call rfl rfl rfl rfl rfl)); (· first | exact l1In_c _ _ _ | exact l2Where_c at_ hw om om | exact l2Look_c at_ hw om om | exact l2Word_c at_ hw om om om | exact l1Read_c at_ hw om om om); try rintro _ _ ⟨rfl, rfl⟩) | (apply gL; first | refine L_nil ?_ | refine yS ?_ | refine yX fun _ => ?_ | refine yA fun _ => ?_ | (apply gSt; first | refine sR ?_ | refine sB ?_ | refine s1 ?_ | refine sW ?_ | refine sN ?_) | (apply gBs; first | (refine L_bs0 rfl rfl rfl rfl (fun _ => ?_)) | (refine L_bs1 rfl rfl rfl rfl rfl rfl rfl (fun _ => ?_))) | (apply gApp; apply L_appI rfl rfl rfl rfl rfl rfl; (· exact at_); (· exact tk_); (· rfl); (· omega); intro _ _) | refine kV ?_ | ((fail_if_success (refine L_known rfl ?_)); refine yW (fun h => ?_) fun h => ?_)) | (apply gW; first | refine W_seq ?_ | refine W_region ?_ | refine W_ret ?_ | refine W_skip ?_ | refine W_block ?_ | refine W_exit ?_ | refine W_cond1 rfl ?_ | refine W_cond0 rfl ?_ | refine cW (fun h => ?_) fun h => ?_ | refine wQ ?_) | (first | refine seqR.normal ?_ | refine seqR.ret ?_ | refine seqR.exit ?_ | refine blockR.normal ?_ | refine blockR.ret ?_ | refine blockR.here ?_ | refine blockR.exit rfl ?_ | refine loopR.ret ?_ | refine loopR.exit ?_ | refine midA.ret ?_ | refine midA.exit ?_) | (apply gQ; first | refine Q_nil ?_ | refine Q_skip rfl rfl rfl ?_ | refine kQ ?_ | ((fail_if_success (refine Q_known rfl ?_)); refine zW (fun h => ?_) fun h => ?_)) | fail)
  apply W_loopX (α := Int) (fun y => [(1, .int .i64 p), (2, .pointer (some ⟨ba, 0, none⟩)), (11, .int .i64 y)]) (fun y => (ba, aObj C A) :: H)
    (fun y => sg (g A.ws (p + 2)) ≤ y ∧ y ≤ 60 ∧ ∀ j, sg (g A.ws (p + 2)) ≤ j → j < y → g A.ws (p + 7 + 2 * j) = 0) (fun y => (60 - y).toNat) (sg (g A.ws (p + 2)))
  · exact sub_
  · exact cvt_
  · exact ⟨by omega, by omega, fun j h1 h2 => by omega⟩
  rintro i ⟨hi, hi2, hi3⟩
  repeat' (first | ((first | (apply gCall; apply L_call rfl rfl rfl rfl rfl) | (apply gQC; apply Q_call rfl rfl rfl rfl rfl)); (· first | exact l1In_c _ _ _ | exact l2Where_c at_ hw om om | exact l2Look_c at_ hw om om | exact l2Word_c at_ hw om om om | exact l1Read_c at_ hw om om om); try rintro _ _ ⟨rfl, rfl⟩) | (apply gL; first | refine L_nil ?_ | refine yS ?_ | refine yX fun _ => ?_ | refine yA fun _ => ?_ | (apply gSt; first | refine sR ?_ | refine sB ?_ | refine s1 ?_ | refine sW ?_ | refine sN ?_) | (apply gBs; first | (refine L_bs0 rfl rfl rfl rfl (fun _ => ?_)) | (refine L_bs1 rfl rfl rfl rfl rfl rfl rfl (fun _ => ?_))) | (apply gApp; apply L_appI rfl rfl rfl rfl rfl rfl; (· exact at_); (· exact tk_); (· rfl); (· omega); intro _ _) | refine kV ?_ | ((fail_if_success (refine L_known rfl ?_)); refine yW (fun h => ?_) fun h => ?_)) | (apply gW; first | refine W_seq ?_ | refine W_region ?_ | refine W_ret ?_ | refine W_skip ?_ | refine W_block ?_ | refine W_exit ?_ | refine W_cond1 rfl ?_ | refine W_cond0 rfl ?_ | refine cW (fun h => ?_) fun h => ?_ | refine wQ ?_) | (first | refine seqR.normal ?_ | refine seqR.ret ?_ | refine seqR.exit ?_ | refine blockR.normal ?_ | refine blockR.ret ?_ | refine blockR.here ?_ | refine blockR.exit rfl ?_ | refine loopR.ret ?_ | refine loopR.exit ?_ | refine midA.ret ?_ | refine midA.exit ?_) | (apply gQ; first | refine Q_nil ?_ | refine Q_skip rfl rfl rfl ?_ | refine kQ ?_ | ((fail_if_success (refine Q_known rfl ?_)); refine zW (fun h => ?_) fun h => ?_)) | fail)
  · refine retR.ret _ _ (ret1 rfl rfl) cv_ ⟨?_, rfl⟩
    exact congrArg Value.bool (coOk_f2 (i := i) (by omega) (by omega) (by omega) h)
  · apply loopR.mk (i + 1)
    · exact sub_
    · exact cvt_
    · exact ⟨by omega, by omega, fun j h1 h2 => by
        by_cases hj : j = i
        · subst hj; exact h
        · exact hi3 j h1 (by omega)⟩
    · (try dsimp only); omega
  · refine retR.ret _ _ (ret1 rfl rfl) cv_ ⟨?_, rfl⟩
    rw [coOk_iff.2 ⟨by omega, fun j h1 h2 => by
      by_cases hj : j < sg (g A.ws (p + 2))
      · exact .inl hj
      · exact .inr (hi3 j (by omega) (by omega))⟩]
end Go.Proofs.Ytfhihnonafklbaa.Eng
