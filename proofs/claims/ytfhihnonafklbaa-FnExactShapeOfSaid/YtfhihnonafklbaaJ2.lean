/- Plain: the implementation's steps of ArenaOk tell what the reference's tell. -/
import Derived.Test.YtfhihnonafklbaaBkI11
namespace Go.Proofs.Ytfhihnonafklbaa.Eng
open Go Go.RowKit Go.Proofs.Ytfhihnonafklbaa.Sl Go.Proofs.Ytfhihnonafklbaa.Ar Go.Proofs.Ytfhihnonafklbaa.Base
set_option linter.unusedVariables false
set_option linter.unusedSimpArgs false
variable {A : Ar}
theorem MI_zeros : MI A A.zeros := ⟨by simp [Ar.zeros], fun q _ => .inl (zeros_g q), fun q _ e => (by rw [zeros_g] at e; omega), fun q _ e => (by rw [zeros_g] at e; omega), fun q _ e => (by rw [zeros_g] at e; omega)⟩
theorem MI_of (hn : A.numbersP) {m : List Int} (h : A.marks = some m) : MI A m ∧ ((∃ q : Int, 0 ≤ q ∧ (g m q = 2 ∨ g m q = 3)) → A.cyc = true) := by
  obtain ⟨f1, f2, f3, f4, f5, f6, f7, f8, f9⟩ := numF hn
  unfold Ar.marks at h
  split at h
  · cases h
  rename_i m1 e1
  have h1 := tile1_inv _ _ _ _ MI_zeros (fun q _ => by rw [zeros_g]; omega) (by omega) (Int.le_refl _) e1
  split at h
  · cases h
    exact ⟨h1.1, fun ⟨q, hq, e⟩ => by have := h1.2 q hq; omega⟩
  · rename_i hc
    have hc : A.cyc = true := by simpa using hc
    have f10 := f5 hc
    split at h
    · cases h
    rename_i m2 s2 e2
    split at h
    · cases h
      refine ⟨tile2_inv (fun q r a b c d => ?_) _ _ _ _ _ _ _ h1.1 (by omega) (Int.le_refl _) e2, fun _ => hc⟩
      have ho : A.old ≤ (2 - A.to) * A.semi := by
        have := hn.2.2.2.2.2.2; rw [if_pos hc] at this; exact this.1.2
      have ht := hn.2.2.2.2.2.1.2
      unfold Ar.start at a c
      rcases f7 with e | e <;> rw [e] at a c ho ht <;> omega
    · cases h
theorem oldP (hn : A.numbersP) (hc : A.cyc = true) : A.old ≤ (2 - A.to) * A.semi := by
  have := hn.2.2.2.2.2.2; rw [if_pos hc] at this; exact this.1.2
theorem hof_of {m : List Int} (hI : MI A m) (n : Int) : g m n = 0 ∨ g m n = 1 ∨ g m n = 2 ∨ g m n = 3 := by
  rcases Int.le_total 0 n with h | h
  · exact hI.of n h
  · have := hI.of 0 (by omega)
    have e : g m n = g m 0 := by unfold g; rw [show n.toNat = 0 by omega]; rfl
    rw [e]; exact this
/-- what the first seven numbers of an arena are to be -/
def Ar.num1P (A : Ar) : Prop :=
  (256 ≤ A.semi ∧ A.semi ≤ 4000) ∧ (A.ws.length : Int) = 2 * A.semi ∧ (0 ≤ A.to ∧ A.to ≤ 1) ∧ (A.start A.to ≤ A.top ∧ A.top ≤ (A.to + 1) * A.semi) ∧ (1 ≤ A.serial ∧ A.serial ≤ 1000000000) ∧ A.vs.length ≤ 24
theorem num1_of (h : A.numbersP) : Ar.num1P A := ⟨h.1, h.2.1, h.2.2.1, h.2.2.2.2.2.1, h.2.2.2.1, h.2.2.2.2.1⟩
theorem num1F (h : Ar.num1P A) : 1 ≤ A.start A.to ∧ A.start A.to ≤ A.top ∧ A.top ≤ A.ws.length ∧ 1 ≤ A.start (1 - A.to) ∧ (512 ≤ A.ws.length ∧ A.ws.length ≤ 8000) ∧ (A.to = 0 ∨ A.to = 1) ∧ 256 ≤ A.semi ∧ A.semi ≤ 4000 ∧ (1 - A.to + 1) * A.semi ≤ A.ws.length ∧ 0 ≤ (1 - A.to + 1) * A.semi ∧ (A.to + 1) * A.semi ≤ A.ws.length := by
  obtain ⟨h1, h2, h3, h4, h5, h6⟩ := h
  have ht : A.to = 0 ∨ A.to = 1 := by omega
  refine ⟨?_, h4.1, ?_, ?_, by omega, ht, h1.1, h1.2, ?_, ?_, ?_⟩
  · unfold Ar.start; rcases ht with e | e <;> rw [e] <;> omega
  · have := h4.2; rcases ht with e | e <;> rw [e] at this <;> omega
  · unfold Ar.start; rcases ht with e | e <;> rw [e] <;> omega
  · rcases ht with e | e <;> rw [e] <;> omega
  · rcases ht with e | e <;> rw [e] <;> omega
  · rcases ht with e | e <;> rw [e] <;> omega
theorem ok_parts (h : A.ok = true) : A.numbersP ∧ ∃ m, A.marks = some m ∧ A.sers m = true ∧ Ar.content A m = true := by
  unfold Ar.ok at h
  rw [Bool.and_eq_true] at h
  refine ⟨of_decide_eq_true (show decide _ = true from h.1), ?_⟩
  have h2 := h.2
  cases e : A.marks with
  | none => rw [e] at h2; cases h2
  | some m =>
    rw [e] at h2
    simp only [Bool.and_eq_true] at h2
    exact ⟨m, rfl, h2.1.1.1, by unfold Ar.content; rw [h2.1.1.2, h2.1.2, h2.2]; rfl⟩
theorem ok_content (hn : A.numbersP) {m : List Int} (h1 : A.marks = some m) (h2 : A.sers m = true) : A.ok = Ar.content A m := by
  unfold Ar.ok Ar.content
  rw [show A.numbers = true from decide_eq_true hn, h1]
  dsimp only
  rw [h2]
  simp [Bool.and_assoc]
theorem ok_f (h : A.ok = true → False) : false = A.ok := by
  cases e : A.ok with
  | false => rfl
  | true => exact absurd e h
theorem had_zeros : Had A A.zeros [] := fun s _ => ⟨fun h => (by cases h), fun ⟨q, _, h2, _⟩ => by unfold M12 at h2; rw [zeros_g] at h2; omega⟩
theorem uniq_zeros : UniqS A A.zeros := fun p q _ _ h => by unfold M12 at h; rw [zeros_g] at h; omega
theorem tile1_of_marks {m : List Int} (h : A.marks = some m) : ∃ m1, A.tile1 (A.ws.length + 1) (A.start A.to) A.zeros = some m1 ∧ (A.cyc = false → m = m1) ∧ (A.cyc = true → A.tile2 (A.ws.length + 1) (A.start (1 - A.to)) m1 A.falses 0 = some (m, A.copied) ∧ (A.scan = A.top ∨ (0 ≤ A.scan ∧ A.scan ≤ (m.length : Int) - 1 ∧ g m A.scan = 1))) := by
  cases e1 : A.tile1 (A.ws.length + 1) (A.start A.to) A.zeros with
  | none => rw [marks_none e1] at h; cases h
  | some m1 =>
    refine ⟨m1, rfl, fun hc => ?_, fun hc => ?_⟩
    · rw [marks_still e1 hc] at h; cases h; rfl
    · cases e2 : A.tile2 (A.ws.length + 1) (A.start (1 - A.to)) m1 A.falses 0 with
      | none => rw [marks_none2 e1 hc e2] at h; cases h
      | some x =>
        obtain ⟨m2, s2⟩ := x
        rw [marks_some2 e1 hc e2] at h
        split at h
        · rename_i hx
          cases h
          exact ⟨by first | (rw [hx.1]) | (rw [e2, hx.1]) | (rw [← hx.1]) | (rw [e2, ← hx.1]), hx.2⟩
        · cases h
theorem K1 (h : A.ok = true) : ∃ m1 ks, A.hd1 (A.ws.length + 1) (A.start A.to) A.zeros [] = some (m1, ks) := by
  obtain ⟨hn, m, hm, hs, -⟩ := ok_parts h
  obtain ⟨f1, f2, f3, f4, f5, f6, f7, f8, f9⟩ := numF hn
  obtain ⟨m1, h1, h2, h3⟩ := tile1_of_marks hm
  have hU := sers_iff.1 hs
  have hzl : A.zeros.length = A.ws.length := by simp [Ar.zeros]
  have hk := tile1_keep _ _ _ _ (by omega) (by rw [hzl]; omega) h1
  have hU1 : UniqS A m1 := by
    cases hc : A.cyc with
    | false => rw [← h2 hc]; exact hU
    | true =>
      have f10 := f5 hc
      have hk2 := tile2_keep _ _ _ _ _ _ _ (by omega) (by rw [hk.1, hzl]; omega) (h3 hc).1
      have hI := tile1_inv _ _ _ _ MI_zeros (fun q _ => by rw [zeros_g]; omega) (by omega) (Int.le_refl _) h1
      refine uniq_sub (fun q hq hM => ?_) hU
      have h12 : g m1 q = 1 := by rcases hM with e | e; exact e; exact absurd e (hI.2 q hq).1
      have ho := hI.1.one q hq h12
      unfold M12
      rw [hk2.2 q hq (by
        have h4 := oldP hn hc
        have h5 := hn.2.2.2.2.2.1.2
        have h6 := ho.1
        have h7 := ho.2.1
        unfold Ar.start at h6 ⊢
        rcases f7 with e | e <;> rw [e] at h4 h5 h6 ⊢ <;> omega)]
      exact hM
  obtain ⟨ks, e⟩ := hd1_bw _ _ _ [] _ (by omega) (by rw [hzl]; omega) (fun q _ _ => zeros_g q) had_zeros uniq_zeros h1 hU1
  exact ⟨m1, ks, e⟩
theorem hd1_all {m1 ks : List Int} (hn : Ar.num1P A) (h : A.hd1 (A.ws.length + 1) (A.start A.to) A.zeros [] = some (m1, ks)) :
    A.tile1 (A.ws.length + 1) (A.start A.to) A.zeros = some m1 ∧ Had A m1 ks ∧ UniqS A m1 ∧ m1.length = A.ws.length ∧ (∀ q : Int, 0 ≤ q → (q < A.start A.to ∨ A.top ≤ q) → g m1 q = 0) ∧ MI A m1 ∧ ∀ q : Int, 0 ≤ q → g m1 q ≠ 2 ∧ g m1 q ≠ 3 := by
  obtain ⟨f1, f2, f3, f4, f6, f7, f8, f9, -⟩ := num1F hn
  have hzl : A.zeros.length = A.ws.length := by simp [Ar.zeros]
  obtain ⟨h1, h2, h3⟩ := hd1_fw _ _ _ _ _ _ (by omega) (by rw [hzl]; omega) (fun q _ _ => zeros_g q) had_zeros uniq_zeros h
  have hk := tile1_keep _ _ _ _ (by omega) (by rw [hzl]; omega) h1
  have hI := tile1_inv _ _ _ _ MI_zeros (fun q _ => by rw [zeros_g]; omega) (by omega) (Int.le_refl _) h1
  exact ⟨h1, h2, h3, by rw [hk.1, hzl], fun q hq hq2 => by rw [hk.2 q hq hq2, zeros_g], hI.1, hI.2⟩
theorem K2 {m ks : List Int} (hn : A.numbersP) (hc : A.cyc = false) (h : A.hd1 (A.ws.length + 1) (A.start A.to) A.zeros [] = some (m, ks)) : A.marks = some m ∧ A.sers m = true := by
  obtain ⟨h1, h2, h3, -⟩ := hd1_all (num1_of hn) h
  exact ⟨marks_still h1 hc, sers_iff.2 h3⟩
theorem hd2_sum : ∀ (f : Nat) (p : Int) (m ks led : List Int) (s : Int) (x : List Int × List Int × Int), p ≤ A.old → A.hd2 f p m ks led s = some x → s ≤ x.2.2 ∧ x.2.2 - s ≤ A.old - p := by
  intro f
  induction f with
  | zero => intro p m ks led s x _ h; cases h
  | succ f ih =>
    intro p m ks led s x hp h
    rw [Ar.hd2] at h
    split at h
    · cases h; dsimp only; omega
    split at h
    · split at h
      · rename_i hc
        have hb := (rsR (g A.ws (fw (g A.ws p)))).1
        have h5 : p + rs (g A.ws (fw (g A.ws p))) + 1 ≤ A.old := hc.2.2.2
        have := ih _ _ _ _ _ _ (by unfold Ar.sz Ar.w; omega) h
        unfold Ar.sz Ar.w at this
        omega
      · cases h
    · split at h
      · rename_i hc
        have hb := hsR _ hc.1
        have := ih _ _ _ _ _ _ hc.2.1 h
        unfold Ar.w at this hb
        omega
      · cases h
theorem disj (hn : Ar.num1P A) (ho : A.old ≤ (1 - A.to + 1) * A.semi) {q : Int} (h0 : A.start (1 - A.to) ≤ q) (h1 : q < A.old) : q < A.start A.to ∨ A.top ≤ q := by
  have ht := (num1F hn).2.2.2.2.2.1
  have h5 := hn.2.2.2.1.2
  unfold Ar.start at h0 ⊢
  rcases ht with e | e <;> rw [e] at h0 ho h5 ⊢ <;> omega
theorem led_falses : LedK (A.ws.length : Int) A.falses [] := fun q h0 h1 => by
  unfold Ar.falses
  rw [List.getD_eq_getElem?_getD, List.getElem?_replicate]
  split <;> simp
theorem K3 {m1 ks1 m2 ks2 : List Int} (h1P : Ar.num1P A) (hc : A.cyc = true) (h : A.hd1 (A.ws.length + 1) (A.start A.to) A.zeros [] = some (m1, ks1)) (hs1 : 1 ≤ A.scan) (hs2 : A.scan ≤ A.top) (hs3 : A.scan = A.top ∨ g m1 A.scan = 1)
    (ho1 : A.start (1 - A.to) ≤ A.old) (ho2 : A.old ≤ (1 - A.to + 1) * A.semi) (h2 : A.hd2 (A.ws.length + 1) (A.start (1 - A.to)) m1 ks1 [] 0 = some (m2, ks2, A.copied)) (hl : A.top + (A.old - A.start (1 - A.to) - A.copied) ≤ (A.to + 1) * A.semi) :
    A.numbersP ∧ A.marks = some m2 ∧ A.sers m2 = true := by
  have hF := num1F h1P
  obtain ⟨e1, e2, e3, e4, e5, e6, e7⟩ := hd1_all h1P h
  have hsum := hd2_sum _ _ _ _ _ _ _ ho1 h2
  dsimp only at hsum
  have hfl : A.falses.length = A.ws.length := by simp [Ar.falses]
  obtain ⟨t1, t2, t3⟩ := hd2_fw _ _ _ _ _ _ A.falses _ _ _ (by omega) (by rw [e4]; omega) e4 hfl led_falses (fun q h0 h1 => e5 q (by omega) (disj h1P ho2 h0 h1)) e2 e3 h2
  have hk := tile2_keep _ _ _ _ _ _ _ (by omega) (by rw [e4]; omega) t1
  have hsem : (1 - A.to + 1) * A.semi = (2 - A.to) * A.semi := by congr 1; omega
  refine ⟨⟨h1P.1, h1P.2.1, h1P.2.2.1, h1P.2.2.2.2.1, h1P.2.2.2.2.2, h1P.2.2.2.1, ?_⟩, ?_, sers_iff.2 t3⟩
  · rw [if_pos hc]; exact ⟨⟨ho1, by omega⟩, ⟨by omega, by omega⟩, by omega⟩
  · rw [marks_some2 e1 hc t1, if_pos]
    refine ⟨rfl, ?_⟩
    rcases hs3 with e | e
    · exact .inl e
    · right
      have hlt := g_range (m := m1) (q := A.scan) (by omega) (by omega)
      refine ⟨by omega, by rw [hk.1]; omega, ?_⟩
      have ho := e6.one A.scan (by omega) e
      rw [hk.2 A.scan (by omega) (by
        have h5 := h1P.2.2.2.1.2
        have h6 := ho.1
        have h7 := ho.2.1
        unfold Ar.start at h6 ⊢
        rcases hF.2.2.2.2.2.1 with e | e <;> rw [e] at h5 h6 ho2 ⊢ <;> omega)]
      exact e
theorem K4 {m1 ks1 : List Int} (hok : A.ok = true) (hc : A.cyc = true) (h : A.hd1 (A.ws.length + 1) (A.start A.to) A.zeros [] = some (m1, ks1)) :
    (1 ≤ A.scan ∧ A.scan ≤ A.top) ∧ (A.scan = A.top ∨ g m1 A.scan = 1) ∧ (A.start (1 - A.to) ≤ A.old ∧ A.old ≤ (1 - A.to + 1) * A.semi) ∧ (∃ m2 ks2, A.hd2 (A.ws.length + 1) (A.start (1 - A.to)) m1 ks1 [] 0 = some (m2, ks2, A.copied)) ∧ A.top + (A.old - A.start (1 - A.to) - A.copied) ≤ (A.to + 1) * A.semi := by
  obtain ⟨hn, m, hm, hs, -⟩ := ok_parts hok
  have h1P := num1_of hn
  have hF := num1F h1P
  obtain ⟨e1, e2, e3, e4, e5, e6, e7⟩ := hd1_all h1P h
  obtain ⟨m1', d1, -, d3⟩ := tile1_of_marks hm
  rw [e1] at d1; cases d1
  obtain ⟨d4, d5⟩ := d3 hc
  have hl := hn.2.2.2.2.2.2
  rw [if_pos hc] at hl
  have hsem : (1 - A.to + 1) * A.semi = (2 - A.to) * A.semi := by congr 1; omega
  have ho2 : A.old ≤ (1 - A.to + 1) * A.semi := by rw [hsem]; exact hl.1.2
  have hk := tile2_keep _ _ _ _ _ _ _ (by omega) (by rw [e4]; omega) d4
  have hfl : A.falses.length = A.ws.length := by simp [Ar.falses]
  have hU := sers_iff.1 hs
  have hb := hd2_bw _ _ _ ks1 _ A.falses [] _ _ (by omega) (by rw [e4]; omega) e4 hfl led_falses (fun q h0 h1 => e5 q (by omega) (disj h1P ho2 h0 h1)) e2 e3 d4 hU
  have hscan : A.scan = A.top ∨ (1 ≤ A.scan ∧ A.scan < A.top ∧ g m1 A.scan = 1) := by
    rcases d5 with e | ⟨a, b, c⟩
    · exact .inl e
    · right
      have hI := (MI_of hn hm).1
      have ho := hI.one A.scan a c
      refine ⟨by omega, ho.2.1, ?_⟩
      rw [← hk.2 A.scan a (by
        have h5 := h1P.2.2.2.1.2
        have h6 := ho.1
        have h7 := ho.2.1
        unfold Ar.start at h6 ⊢
        rcases hF.2.2.2.2.2.1 with e | e <;> rw [e] at h5 h6 ho2 ⊢ <;> omega)]
      exact c
  refine ⟨by omega, by omega, ⟨hl.1.1, ho2⟩, ?_, by omega⟩
  obtain ⟨ks2, hb⟩ := hb
  exact ⟨m, ks2, hb⟩
end Go.Proofs.Ytfhihnonafklbaa.Eng
