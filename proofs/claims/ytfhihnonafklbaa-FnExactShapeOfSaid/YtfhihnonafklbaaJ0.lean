/- Plain: the implementation's tiling tells what the reference's marks and serials tell. -/
import Derived.Test.YtfhihnonafklbaaBkI6
namespace Go.Proofs.Ytfhihnonafklbaa.Eng
open Go Go.RowKit Go.Proofs.Ytfhihnonafklbaa.Sl Go.Proofs.Ytfhihnonafklbaa.Ar Go.Proofs.Ytfhihnonafklbaa.Base
set_option linter.unusedVariables false
set_option linter.unusedSimpArgs false
variable {A : Ar}
def M12 (m : List Int) (q : Int) : Prop := g m q = 1 ∨ g m q = 2
/-- serials that are not 0 are of one object each -/
def UniqS (A : Ar) (m : List Int) : Prop := ∀ p q : Int, 0 ≤ p → 0 ≤ q → M12 m p → M12 m q → rn (g A.ws p) ≠ 0 → rn (g A.ws p) = rn (g A.ws q) → p = q
/-- the set of serials that were seen -/
def Had (A : Ar) (m ks : List Int) : Prop := ∀ s : Int, s ≠ 0 → (s ∈ ks ↔ ∃ q : Int, 0 ≤ q ∧ M12 m q ∧ rn (g A.ws q) = s)
theorem mem_putS {ks : List Int} {k s : Int} : s ∈ putS ks k ↔ s = k ∨ s ∈ ks := by
  unfold putS; split
  · rename_i h; exact ⟨.inr, fun e => e.elim (fun e => e ▸ h) id⟩
  · simp [or_comm]
theorem M12_lt {m : List Int} {q : Int} (h : M12 m q) (h0 : 0 ≤ q) : q < (m.length : Int) := g_range (by unfold M12 at h; omega) h0
theorem set_g {m : List Int} {p v q : Int} (hp : 0 ≤ p) (hl : p < (m.length : Int)) (hq : 0 ≤ q) : g (m.set p.toNat v) q = if q = p then v else g m q := g_set hp hl hq
theorem had_set {m ks : List Int} {p v : Int} (hp : 0 ≤ p) (hl : p < (m.length : Int)) (h0 : g m p = 0) (hv : v = 1 ∨ v = 2) (hH : Had A m ks) : Had A (m.set p.toNat v) (putS ks (rn (g A.ws p))) := by
  intro s hs
  rw [mem_putS, hH s hs]
  constructor
  · rintro (e | ⟨q, h1, h2, h3⟩)
    · exact ⟨p, hp, by unfold M12; rw [set_g hp hl hp, if_pos rfl]; exact hv, e.symm⟩
    · refine ⟨q, h1, ?_, h3⟩
      unfold M12 at h2 ⊢; rw [set_g hp hl h1]; split
      · exact hv
      · exact h2
  · rintro ⟨q, h1, h2, h3⟩
    unfold M12 at h2; rw [set_g hp hl h1] at h2
    by_cases e : q = p
    · subst e; exact .inl h3.symm
    · rw [if_neg e] at h2; exact .inr ⟨q, h1, h2, h3⟩
theorem uniq_set {m ks : List Int} {p v : Int} (hp : 0 ≤ p) (hl : p < (m.length : Int)) (h0 : g m p = 0) (hH : Had A m ks) (hU : UniqS A m) (hn : ¬ (rn (g A.ws p) ≠ 0 ∧ rn (g A.ws p) ∈ ks)) : UniqS A (m.set p.toNat v) := by
  intro a b ha hb h1 h2 h3 h4
  unfold M12 at h1 h2
  rw [set_g hp hl ha] at h1; rw [set_g hp hl hb] at h2
  by_cases ea : a = p
  · by_cases eb : b = p
    · rw [ea, eb]
    · subst ea; rw [if_neg eb] at h2
      exact absurd ⟨h3, (hH _ h3).2 ⟨b, hb, h2, h4.symm⟩⟩ hn
  · rw [if_neg ea] at h1
    by_cases eb : b = p
    · subst eb
      exact absurd ⟨h4 ▸ h3, (hH _ (h4 ▸ h3)).2 ⟨a, ha, h1, h4⟩⟩ hn
    · rw [if_neg eb] at h2; exact hU a b ha hb h1 h2 h3 h4
theorem had3 {m ks : List Int} {p : Int} (hp : 0 ≤ p) (hl : p < (m.length : Int)) (h0 : g m p = 0) (hH : Had A m ks) : Had A (m.set p.toNat 3) ks := by
  intro s hs
  rw [hH s hs]
  have key : ∀ q : Int, 0 ≤ q → (M12 (m.set p.toNat 3) q ↔ M12 m q) := fun q hq => by
    unfold M12; rw [set_g hp hl hq]; split
    · rename_i e; subst e; omega
    · exact Iff.rfl
  exact ⟨fun ⟨q, a, b, c⟩ => ⟨q, a, (key q a).2 b, c⟩, fun ⟨q, a, b, c⟩ => ⟨q, a, (key q a).1 b, c⟩⟩
theorem uniq3 {m : List Int} {p : Int} (hp : 0 ≤ p) (hl : p < (m.length : Int)) (h0 : g m p = 0) (hU : UniqS A m) : UniqS A (m.set p.toNat 3) := by
  have key : ∀ q : Int, 0 ≤ q → M12 (m.set p.toNat 3) q → M12 m q := fun q hq => by
    unfold M12; rw [set_g hp hl hq]; split
    · rename_i e; subst e; omega
    · exact id
  exact fun a b ha hb h1 h2 => hU a b ha hb (key a ha h1) (key b hb h2)
/-- marks are kept -/
theorem tile1_keep : ∀ (f : Nat) (p : Int) (m m' : List Int), 0 ≤ p → A.top ≤ (m.length : Int) → A.tile1 f p m = some m' → m'.length = m.length ∧ ∀ q : Int, 0 ≤ q → (q < p ∨ A.top ≤ q) → g m' q = g m q := by
  intro f
  induction f with
  | zero => intro p m m' _ _ h; cases h
  | succ f ih =>
    intro p m m' hp hl h
    rw [Ar.tile1] at h
    split at h
    · cases h; exact ⟨rfl, fun q _ _ => rfl⟩
    split at h
    · rename_i hc
      have hb := hsR _ hc.1
      have hpl : p < (m.length : Int) := by omega
      have := ih _ _ _ (by omega) (by simpa using hl) h
      refine ⟨by rw [this.1]; simp, fun q hq h1 => ?_⟩
      rw [this.2 q hq (by omega), set_g hp hpl hq, if_neg (by omega)]
    · cases h
theorem tile2_keep : ∀ (f : Nat) (p : Int) (m m' : List Int) (led : List Bool) (s s' : Int), 0 ≤ p → A.old ≤ (m.length : Int) → A.tile2 f p m led s = some (m', s') → m'.length = m.length ∧ ∀ q : Int, 0 ≤ q → (q < p ∨ A.old ≤ q) → g m' q = g m q := by
  intro f
  induction f with
  | zero => intro p m m' led s s' _ _ h; cases h
  | succ f ih =>
    intro p m m' led s s' hp hl h
    rw [Ar.tile2] at h
    split at h
    · cases h; exact ⟨rfl, fun q _ _ => rfl⟩
    split at h
    · rename_i hc
      have hb := hsR _ hc
      split at h
      · rename_i h2
        have hpl : p < (m.length : Int) := by omega
        have := ih _ _ _ _ _ _ (by omega) (by simpa using hl) h
        refine ⟨by rw [this.1]; simp, fun q hq h1 => ?_⟩
        rw [this.2 q hq (by omega), set_g hp hpl hq, if_neg (by omega)]
      · cases h
    · split at h
      · rename_i h2
        have hb := (rsR (g A.ws (fw (g A.ws p)))).1
        have h5 : p + rs (g A.ws (fw (g A.ws p))) + 1 ≤ A.old := h2.2.2.2.2
        have hpl : p < (m.length : Int) := by omega
        have := ih _ _ _ _ _ _ (by unfold Ar.sz Ar.w; omega) (by simpa using hl) h
        refine ⟨by rw [this.1]; simp, fun q hq h1 => ?_⟩
        rw [this.2 q hq (by unfold Ar.sz Ar.w; omega), set_g hp hpl hq, if_neg (by omega)]
      · cases h
theorem uniq_sub {m m' : List Int} (h : ∀ q : Int, 0 ≤ q → M12 m q → M12 m' q) (hU : UniqS A m') : UniqS A m := fun a b ha hb h1 h2 => hU a b ha hb (h a ha h1) (h b hb h2)
theorem rn_hn {w : Int} (h : hOk w = true) : rn w = hn w := (rsR' h).2.2.2.2
/-- what the implementation finds in the half in use -/
theorem hd1_fw : ∀ (f : Nat) (p : Int) (m ks m' ks' : List Int), 0 ≤ p → A.top ≤ (m.length : Int) → (∀ q : Int, p ≤ q → q < A.top → g m q = 0) → Had A m ks → UniqS A m → A.hd1 f p m ks = some (m', ks') → A.tile1 f p m = some m' ∧ Had A m' ks' ∧ UniqS A m' := by
  intro f
  induction f with
  | zero => intro p m ks m' ks' _ _ _ _ _ h; cases h
  | succ f ih =>
    intro p m ks m' ks' hp hl hz hH hU h
    rw [Ar.hd1] at h
    rw [Ar.tile1]
    split at h
    · rename_i e; cases h; rw [if_pos e]; exact ⟨rfl, hH, hU⟩
    rename_i e
    rw [if_neg e]
    split at h
    · rename_i hc
      obtain ⟨h1, h2, h3, h4⟩ := hc
      have hb := hsR _ h1
      rw [if_pos ⟨h1, h2, h3⟩]
      have hpl : p < (m.length : Int) := by omega
      have hr := rn_hn h1
      unfold Ar.w at h4 h
      rw [← hr] at h4 h
      refine ih _ _ _ _ _ (by omega) (by simpa using hl) (fun q hq hq2 => ?_) (had_set hp hpl (hz p (by omega) (by omega)) (.inl rfl) hH) (uniq_set hp hpl (hz p (by omega) (by omega)) hH hU h4) h
      rw [set_g hp hpl (by omega), if_neg (by omega)]; exact hz q (by omega) hq2
    · cases h
theorem hd1_bw : ∀ (f : Nat) (p : Int) (m ks m' : List Int), 0 ≤ p → A.top ≤ (m.length : Int) → (∀ q : Int, p ≤ q → q < A.top → g m q = 0) → Had A m ks → UniqS A m → A.tile1 f p m = some m' → UniqS A m' → ∃ ks', A.hd1 f p m ks = some (m', ks') := by
  intro f
  induction f with
  | zero => intro p m ks m' _ _ _ _ _ h; cases h
  | succ f ih =>
    intro p m ks m' hp hl hz hH hU h hU'
    rw [Ar.tile1] at h
    rw [Ar.hd1]
    split at h
    · rename_i e; cases h; rw [if_pos e]; exact ⟨_, rfl⟩
    rename_i e
    rw [if_neg e]
    split at h
    · rename_i hc
      obtain ⟨h1, h2, h3⟩ := hc
      have hb := hsR _ h1
      have hpl : p < (m.length : Int) := by omega
      have hr := rn_hn h1
      have hz0 := hz p (by omega) (by omega)
      have hk := tile1_keep _ _ _ _ (by omega) (by simpa using hl) h
      have h4 : ¬ (hn (A.w p) ≠ 0 ∧ hn (A.w p) ∈ ks) := by
        rintro ⟨c1, c2⟩
        unfold Ar.w at c1 c2
        rw [← hr] at c1 c2
        obtain ⟨q, d1, d2, d3⟩ := (hH _ c1).1 c2
        have hqp : q ≠ p := fun e => by subst e; unfold M12 at d2; omega
        have hqs : q < p ∨ A.top ≤ q := by
          rcases Int.lt_or_le q p with c | c
          · exact .inl c
          · rcases Int.lt_or_le q A.top with c3 | c3
            · have := hz q c c3; unfold M12 at d2; omega
            · exact .inr c3
        refine hqp (hU' p q hp d1 ?_ ?_ c1 d3.symm).symm
        · unfold M12; rw [hk.2 p hp (by omega), set_g hp hpl hp, if_pos rfl]; exact .inl rfl
        · unfold M12 at d2 ⊢; rw [hk.2 q d1 (by omega), set_g hp hpl d1, if_neg hqp]; exact d2
      rw [if_pos ⟨h1, h2, h3, h4⟩]
      unfold Ar.w at h2 h4 hb ⊢
      rw [← hr] at h4 ⊢
      refine ih _ _ _ _ (by omega) (by simpa using hl) (fun q hq hq2 => ?_) (had_set hp hpl hz0 (.inl rfl) hH) (uniq_set hp hpl hz0 hH hU h4) h hU'
      rw [set_g hp hpl (by omega), if_neg (by omega)]; exact hz q (by omega) hq2
    · cases h
def LedK (n : Int) (led : List Bool) (ks : List Int) : Prop := ∀ q : Int, 0 ≤ q → q < n → (led.getD q.toNat false = true ↔ q ∈ ks)
theorem led_set {led : List Bool} {ks : List Int} {k : Int} (hl : LedK (led.length : Int) led ks) (h0 : 0 ≤ k) (h1 : k < (led.length : Int)) : LedK (led.length : Int) (led.set k.toNat true) (putS ks k) := by
  intro q hq hq2
  rw [mem_putS, ← hl q hq hq2]
  simp only [List.getD_eq_getElem?_getD, List.getElem?_set]
  by_cases e : k.toNat = q.toNat
  · have : q = k := by omega
    subst this
    rw [if_pos rfl, if_pos (by omega)]; simp
  · rw [if_neg e]
    exact ⟨.inr, fun h => h.elim (fun h => absurd (by rw [h]) e) id⟩
theorem hd2_fw : ∀ (f : Nat) (p : Int) (m ks m' ks' : List Int) (led : List Bool) (lk : List Int) (s s' : Int), 0 ≤ p → A.old ≤ (m.length : Int) → m.length = A.ws.length → led.length = A.ws.length → LedK (A.ws.length : Int) led lk → (∀ q : Int, p ≤ q → q < A.old → g m q = 0) → Had A m ks → UniqS A m → A.hd2 f p m ks lk s = some (m', ks', s') → A.tile2 f p m led s = some (m', s') ∧ Had A m' ks' ∧ UniqS A m' := by
  intro f
  induction f with
  | zero => intro p m ks m' ks' led lk s s' _ _ _ _ _ _ _ _ h; cases h
  | succ f ih =>
    intro p m ks m' ks' led lk s s' hp hl hml hll hL hz hH hU h
    rw [Ar.hd2] at h
    rw [Ar.tile2]
    split at h
    · rename_i e; cases h; rw [if_pos e]; exact ⟨rfl, hH, hU⟩
    rename_i e
    rw [if_neg e]
    split at h
    · rename_i hfw
      rw [if_neg (fun c => by rw [hOk_fw c] at hfw; cases hfw)]
      split at h
      · rename_i hc
        obtain ⟨h1, h2, h3, h4⟩ := hc
        have hb := (rsR (g A.ws (fw (g A.ws p)))).1
        have hf0 := (fwR (g A.ws p)).1
        have h5 : p + rs (g A.ws (fw (g A.ws p))) + 1 ≤ A.old := h4
        have h6 : fw (g A.ws p) < (A.ws.length : Int) := h1
        have hpl : p < (m.length : Int) := by omega
        have hld : led.getD (fw (A.w p)).toNat false = false := by
          cases e2 : led.getD (fw (A.w p)).toNat false with
          | false => rfl
          | true => exact absurd ((hL _ hf0 h6).1 e2) h3
        rw [if_pos ⟨hfw, h1, h2, hld, h4⟩]
        refine ih _ _ _ _ _ _ _ _ _ (by unfold Ar.sz Ar.w; omega) (by simpa using hl) (by simpa using hml) (by simpa using hll) ?_ (fun q hq hq2 => ?_) (had3 hp hpl (hz p (by omega) (by omega)) hH) (uniq3 hp hpl (hz p (by omega) (by omega)) hU) h
        · have := led_set (led := led) (ks := lk) (k := fw (A.w p)) (by rw [hll]; exact hL) hf0 (by rw [hll]; exact h6)
          rwa [hll] at this
        · have h7 : p + rs (g A.ws (fw (g A.ws p))) + 1 ≤ q := hq
          rw [set_g hp hpl (by omega), if_neg (by omega)]; exact hz q (by omega) hq2
      · cases h
    · split at h
      · rename_i hc
        obtain ⟨h1, h2, h3, h4⟩ := hc
        have hb := hsR _ h1
        rw [if_pos h1, if_pos ⟨h3, h2⟩]
        have hpl : p < (m.length : Int) := by omega
        have hr := rn_hn h1
        unfold Ar.w at h4 h
        rw [← hr] at h4 h
        refine ih _ _ _ _ _ _ _ _ _ (by omega) (by simpa using hl) (by simpa using hml) hll hL (fun q hq hq2 => ?_) (had_set hp hpl (hz p (by omega) (by omega)) (.inr rfl) hH) (uniq_set hp hpl (hz p (by omega) (by omega)) hH hU h4) h
        rw [set_g hp hpl (by omega), if_neg (by omega)]; exact hz q (by omega) hq2
      · cases h
theorem hd2_bw : ∀ (f : Nat) (p : Int) (m ks m' : List Int) (led : List Bool) (lk : List Int) (s s' : Int), 0 ≤ p → A.old ≤ (m.length : Int) → m.length = A.ws.length → led.length = A.ws.length → LedK (A.ws.length : Int) led lk → (∀ q : Int, p ≤ q → q < A.old → g m q = 0) → Had A m ks → UniqS A m → A.tile2 f p m led s = some (m', s') → UniqS A m' → ∃ ks', A.hd2 f p m ks lk s = some (m', ks', s') := by
  intro f
  induction f with
  | zero => intro p m ks m' led lk s s' _ _ _ _ _ _ _ _ h; cases h
  | succ f ih =>
    intro p m ks m' led lk s s' hp hl hml hll hL hz hH hU h hU'
    rw [Ar.tile2] at h
    rw [Ar.hd2]
    split at h
    · rename_i e; cases h; rw [if_pos e]; exact ⟨_, rfl⟩
    rename_i e
    rw [if_neg e]
    split at h
    · rename_i h1
      rw [if_neg (by rw [hOk_fw h1]; decide)]
      split at h
      · rename_i hc
        obtain ⟨h3, h2⟩ := hc
        have hb := hsR _ h1
        have hpl : p < (m.length : Int) := by omega
        have hr := rn_hn h1
        have hz0 := hz p (by omega) (by omega)
        have hk := tile2_keep _ _ _ _ _ _ _ (by omega) (by simpa using hl) h
        have h4 : ¬ (hn (A.w p) ≠ 0 ∧ hn (A.w p) ∈ ks) := by
          rintro ⟨c1, c2⟩
          unfold Ar.w at c1 c2
          rw [← hr] at c1 c2
          obtain ⟨q, d1, d2, d3⟩ := (hH _ c1).1 c2
          have hqp : q ≠ p := fun e => by subst e; unfold M12 at d2; omega
          have hqs : q < p ∨ A.old ≤ q := by
            rcases Int.lt_or_le q p with c | c
            · exact .inl c
            · rcases Int.lt_or_le q A.old with c3 | c3
              · have := hz q c c3; unfold M12 at d2; omega
              · exact .inr c3
          refine hqp (hU' p q hp d1 ?_ ?_ c1 d3.symm).symm
          · unfold M12; rw [hk.2 p hp (by omega), set_g hp hpl hp, if_pos rfl]; exact .inr rfl
          · unfold M12 at d2 ⊢; rw [hk.2 q d1 (by omega), set_g hp hpl d1, if_neg hqp]; exact d2
        rw [if_pos ⟨h1, h2, h3, h4⟩]
        unfold Ar.w at h2 h4 hb ⊢
        rw [← hr] at h4 ⊢
        refine ih _ _ _ _ _ _ _ _ (by omega) (by simpa using hl) (by simpa using hml) hll hL (fun q hq hq2 => ?_) (had_set hp hpl hz0 (.inr rfl) hH) (uniq_set hp hpl hz0 hH hU h4) h hU'
        rw [set_g hp hpl (by omega), if_neg (by omega)]; exact hz q (by omega) hq2
      · cases h
    · split at h
      · rename_i h0 hc
        obtain ⟨hfw, h1, h2, h3, h4⟩ := hc
        rw [if_pos hfw]
        have hb := (rsR (g A.ws (fw (g A.ws p)))).1
        have hf0 := (fwR (g A.ws p)).1
        have h5 : p + rs (g A.ws (fw (g A.ws p))) + 1 ≤ A.old := h4
        have h6 : fw (g A.ws p) < (A.ws.length : Int) := h1
        have hpl : p < (m.length : Int) := by omega
        have hnk : ¬ fw (A.w p) ∈ lk := fun c => by
          have := (hL _ hf0 h6).2 c
          rw [show led.getD (fw (g A.ws p)).toNat false = false from h3] at this; cases this
        rw [if_pos ⟨h1, h2, hnk, h4⟩]
        refine ih _ _ _ _ _ _ _ _ (by unfold Ar.sz Ar.w; omega) (by simpa using hl) (by simpa using hml) (by simpa using hll) ?_ (fun q hq hq2 => ?_) (had3 hp hpl (hz p (by omega) (by omega)) hH) (uniq3 hp hpl (hz p (by omega) (by omega)) hU) h hU'
        · have := led_set (led := led) (ks := lk) (k := fw (A.w p)) (by rw [hll]; exact hL) hf0 (by rw [hll]; exact h6)
          rwa [hll] at this
        · have h7 : p + rs (g A.ws (fw (g A.ws p))) + 1 ≤ q := hq
          rw [set_g hp hpl (by omega), if_neg (by omega)]; exact hz q (by omega) hq2
      · cases h
/-- serials: the reference's way -/
theorem sers_iff {m : List Int} : A.sers m = true ↔ UniqS A m := by
  have key : ∀ (f : Nat) (p : Int) (had : List Int), (m.length : Int) - p < (f : Int) → 0 ≤ p → (∀ s : Int, s ≠ 0 → (s ∈ had ↔ ∃ q : Int, 0 ≤ q ∧ q < p ∧ M12 m q ∧ rn (g A.ws q) = s)) →
      (∀ a b : Int, 0 ≤ a → 0 ≤ b → a < p → b < p → M12 m a → M12 m b → rn (g A.ws a) ≠ 0 → rn (g A.ws a) = rn (g A.ws b) → a = b) → (A.sersFrom m f p had = true ↔ UniqS A m) := by
    intro f
    induction f with
    | zero =>
      intro p had h hp hH hU
      rw [Ar.sersFrom]
      exact ⟨fun _ a b ha hb h1 h2 => hU a b ha hb (by have := M12_lt h1 ha; omega) (by have := M12_lt h2 hb; omega) h1 h2, fun _ => rfl⟩
    | succ f ih =>
      intro p had h hp hH hU
      by_cases hpl : p < (m.length : Int)
      · obtain ⟨f', e1, e⟩ := sers_step (A := A) (had := had) hpl h
        cases e1
        rw [e]
        split
        · rename_i hc
          split
          · rename_i hm
            refine ⟨fun c => (by cases c), fun hU' => ?_⟩
            obtain ⟨q, d1, d2, d3, d4⟩ := (hH _ hc.2).1 hm
            have := hU' q p d1 hp d3 hc.1 (d4 ▸ hc.2) d4
            omega
          · rename_i hm
            refine ih _ _ (by omega) (by omega) (fun s hs => ?_) (fun a b ha hb h1 h2 h3 h4 h5 h6 => ?_)
            · rw [List.mem_append, hH s hs, List.mem_singleton]
              constructor
              · rintro (⟨q, d1, d2, d3⟩ | d)
                · exact ⟨q, d1, by omega, d3⟩
                · exact ⟨p, hp, by omega, hc.1, d.symm⟩
              · rintro ⟨q, d1, d2, d3, d4⟩
                by_cases eq : q = p
                · subst eq; exact .inr d4.symm
                · exact .inl ⟨q, d1, by omega, d3, d4⟩
            · by_cases ea : a = p
              · by_cases eb : b = p
                · rw [ea, eb]
                · subst ea; exact absurd ((hH _ h5).2 ⟨b, hb, by omega, h4, h6.symm⟩) hm
              · by_cases eb : b = p
                · subst eb; exact absurd ((hH _ (h6 ▸ h5)).2 ⟨a, ha, by omega, h3, h6⟩) hm
                · exact hU a b ha hb (by omega) (by omega) h3 h4 h5 h6
        · rename_i hc
          refine ih _ _ (by omega) (by omega) (fun s hs => ?_) (fun a b ha hb h1 h2 h3 h4 h5 h6 => ?_)
          · rw [hH s hs]
            constructor
            · rintro ⟨q, d1, d2, d3⟩; exact ⟨q, d1, by omega, d3⟩
            · rintro ⟨q, d1, d2, d3, d4⟩
              refine ⟨q, d1, ?_, d3, d4⟩
              have : q ≠ p := fun eq => by subst eq; exact hc ⟨d3, d4 ▸ hs⟩
              omega
          · have ha : a ≠ p := fun e => by subst e; exact hc ⟨h3, h5⟩
            have hb' : b ≠ p := fun e => by subst e; exact hc ⟨h4, h6 ▸ h5⟩
            exact hU a b (by omega) hb (by omega) (by omega) h3 h4 h5 h6
      · rw [sers_end hpl]
        exact ⟨fun _ a b ha hb h1 h2 => hU a b ha hb (by have := M12_lt h1 ha; omega) (by have := M12_lt h2 hb; omega) h1 h2, fun _ => rfl⟩
  unfold Ar.sers
  exact key _ _ _ (by omega) (by omega) (fun s hs => ⟨fun h => (by cases h), fun ⟨q, d1, d2, _⟩ => by omega⟩) (fun a b ha hb h1 => by omega)
end Go.Proofs.Ytfhihnonafklbaa.Eng
