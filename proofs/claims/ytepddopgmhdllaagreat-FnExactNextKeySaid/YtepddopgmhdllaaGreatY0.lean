/- Plain: a slot is loaded; what a value that leads somewhere is to keys. -/
import Derived.Test.YtepddopgmhdllaaGreatBkG
import Derived.Test.YtepddopgmhdllaaGreatBkI
namespace Go.Proofs.YtepddopgmhdllaaGreat.Eng
open Go Go.RowKit Go.Proofs.YtepddopgmhdllaaGreat.Sl Go.Proofs.YtepddopgmhdllaaGreat.Ar Go.Proofs.YtepddopgmhdllaaGreat.Base
set_option linter.unusedVariables false
set_option linter.unusedSimpArgs false
variable {A : Ar} {m : List Int}
/-- what is marked 1 lies where it lies -/
theorem SI.where1 (h : SI A m) {n : Int} (h0 : 0 ≤ n) (h1 : g m n = 1) : A.where_ n = n := by
  have ok := (h.one n h0 h1).2.1
  unfold Ar.where_; rw [if_neg (by show ¬ isFw (g A.ws n) = true; rw [hOk_fw ok]; decide)]
/-- what stands behind a slot that is loaded -/
structure LdP (A : Ar) (m : List Int) (p q : Int) (B : Ar) (mB : List Int) : Prop where
  si : SI B mB
  k1 : ∀ x : Int, 0 ≤ x → g m x = 1 → g mB x = 1
  kw : ∀ x j : Int, 0 ≤ x → g m x = 1 → 0 ≤ j → j ≤ hs (g A.ws x) → x + j ≠ p + q + 1 → g B.ws (x + j) = g A.ws (x + j)
  to : B.to = A.to
  se : B.semi = A.semi
  cy : B.cyc = A.cyc
  vs : B.vs = A.vs
  ln : B.ws.length = A.ws.length
  sr : B.serial = A.serial
  rr : rv B.ws (p + q) = true ∧ rvT B.ws (p + q) = rvT A.ws (p + q)
  rn : isRef (rvT A.ws (p + q)) = true → 0 ≤ A.ldN (p + q) ∧ g mB (A.ldN (p + q)) = 1 ∧ hk (g B.ws (A.ldN (p + q))) = kd (rvT A.ws (p + q)) ∧ rvN B.ws (p + q) = A.ldN (p + q)
theorem SI.ld (h : SI A m) {p q : Int} (hp0 : 0 ≤ p) (hp : g m p = 1) (hq : q ∈ slots (hk (g A.ws p)) (hs (g A.ws p))) : ∃ mB, LdP A m p q (A.ld (p + q)) mB := by
  obtain ⟨o1, o2, o3, o4⟩ := h.one p hp0 hp
  have hqr := slotsR o2 hq
  obtain ⟨s1, s2⟩ := h.slo p q hp0 (.inl hp) hq
  cases hc : A.cyc with
  | false =>
    have e : A.ld (p + q) = A := by unfold Ar.ld; rw [if_neg (by rw [hc]; decide)]
    have en : A.ldN (p + q) = rvN A.ws (p + q) := by unfold Ar.ldN; rw [if_neg (by rw [hc]; decide)]
    rw [e]
    refine ⟨m, h, fun _ _ a => a, fun _ _ _ _ _ _ _ => rfl, rfl, rfl, rfl, rfl, rfl, rfl, ⟨s1, rfl⟩, fun hr => ?_⟩
    obtain ⟨a, b, d⟩ := s2 hr
    have d1 := d hp (fun c => by rw [hc] at c; cases c)
    rw [en]
    refine ⟨a, d1, ?_, rfl⟩
    have := (h.slk p q hp0 (.inl hp) hq).2 hr
    rwa [h.where1 a d1] at this
  | true =>
    have hr : isRef (rvT A.ws (p + q)) = true → 0 ≤ rvN A.ws (p + q) ∧ g m (rvN A.ws (p + q)) ≠ 0 := fun c => ⟨(s2 c).1, (s2 c).2.1⟩
    obtain ⟨m2, g2, kp, c1, c2⟩ := h.fwd (fun x d => by have := d hc; have := SI.lt h hc; omega) hr
    obtain ⟨e1, e2, e3, e4, e5, e6, e7⟩ := fwd_same (A := A) (rvT A.ws (p + q)) (rvN A.ws (p + q))
    have w0 : g (A.fwd (rvT A.ws (p + q)) (rvN A.ws (p + q))).1.ws p = g A.ws p := by
      have := kp.kw p 0 hp0 hp (by omega) (hs0 _)
      simpa using this
    have wq : ∀ j : Int, 0 ≤ j → j ≤ hs (g A.ws p) → g (A.fwd (rvT A.ws (p + q)) (rvN A.ws (p + q))).1.ws (p + j) = g A.ws (p + j) := fun j a b => kp.kw p j hp0 hp a b
    obtain ⟨r1, r2, r3⟩ := rv_congr (wq q (by omega) (by omega)) (by rw [Int.add_assoc]; exact wq (q + 1) (by omega) (by omega))
    have hslk := (h.slk p q hp0 (.inl hp) hq).2
    have hcc : isRef (rvT A.ws (p + q)) = true → hk (g (A.fwd (rvT A.ws (p + q)) (rvN A.ws (p + q))).1.ws (A.fwd (rvT A.ws (p + q)) (rvN A.ws (p + q))).2) = kd (rvT A.ws (p + q)) := fun hr' => by
      obtain ⟨x1, x2, x3⟩ := c1 hr'
      have x4 := x3 0 (by omega) (hs0 _)
      rw [Int.add_zero, Int.add_zero] at x4
      rw [x4]; exact hslk hr'
    have hset := g2.setS (p := p) (q := q) (n' := (A.fwd (rvT A.ws (p + q)) (rvN A.ws (p + q))).2) hp0 (kp.k1 _ hp0 hp) (by rw [w0]; exact hq)
      (by rw [r2]; intro hr'; exact ⟨(c1 hr').1, (c1 hr').2.1, hcc hr'⟩) (by rw [r2, r3]; exact c2)
    have e : A.ld (p + q) = A.fwS (p + q) := by unfold Ar.ld; rw [if_pos hc]
    have en : A.ldN (p + q) = (A.fwd (rvT A.ws (p + q)) (rvN A.ws (p + q))).2 := by unfold Ar.ldN; rw [if_pos hc]
    rw [e]
    unfold Ar.fwS
    have hln := kp.ln
    have htt : rvT A.ws (p + q) = rvT A.ws (p + q) := rfl
    generalize hF : (A.fwd (rvT A.ws (p + q)) (rvN A.ws (p + q))) = F at *
    have hln2 := g2.ln
    have hse2 := g2.se
    have hlt2 := g2.lt hp0 (by rw [kp.k1 _ hp0 hp]; omega)
    have hone2 := g2.one _ hp0 (kp.k1 _ hp0 hp)
    rw [w0] at hone2
    have hv2 := g2.hv
    have hrm2 := g2.rm
    have hS2 := S2_0 F.1.ws m2 F.1.ws.length
    have gs : ∀ y : Int, 0 ≤ y → g (F.1.ws.set (p + q + 1).toNat (w64 F.2)) y = if y = p + q + 1 then w64 F.2 else g F.1.ws y := fun y hy => by
      rw [g_set (by omega) (by omega) hy]
    refine ⟨m2, ?_, fun x a b => kp.k1 x a b, fun x j a b d e' hne => ?_, e1, e2, e3, e7, by dsimp only; rw [List.length_set, hln], e6, ?_, fun hr' => ?_⟩
    · have hv' : (({ F.1 with ws := F.1.ws.set (p + q + 1).toNat (w64 F.2) } : Ar).vs.length : Int) = (A.vs.length : Int) := by show (F.1.vs.length : Int) = _; rw [e7]
      show GI _ m2 (({ F.1 with ws := F.1.ws.set (p + q + 1).toNat (w64 F.2) } : Ar).vs.length : Int) _
      rw [hv']
      refine hset.mono ?_
      rintro x y - - - d
      refine .inl (fun c => ?_)
      have := d (by show F.1.cyc = true; rw [e3]; exact c)
      have h4 : F.1.scan = A.scan := e4
      show x + y < A.scan
      rw [← h4]; exact this
    · show g (F.1.ws.set (p + q + 1).toNat (w64 F.2)) (x + j) = _
      rw [gs _ (by omega), if_neg hne]; exact kp.kw x j a b d e'
    · have hs1 := hset.slo p q hp0 (.inl (kp.k1 _ hp0 hp)) (by show q ∈ slots (hk (g (F.1.ws.set _ _) p)) (hs (g (F.1.ws.set _ _) p)); rw [gs _ hp0, if_neg (by omega), w0]; exact hq)
      refine ⟨hs1.1, ?_⟩
      have h0 : rv (F.1.ws.set (p + q + 1).toNat (w64 F.2)) (p + q) = true := hs1.1
      show rvT (F.1.ws.set (p + q + 1).toNat (w64 F.2)) (p + q) = _
      unfold rvT
      rw [h0, s1, gs (p + q) (by omega), if_neg (by omega : ¬ p + q = p + q + 1), wq q (by omega) (by omega)]
    · rw [en]
      obtain ⟨x1, x2, -⟩ := c1 hr'
      have hne : F.2 ≠ p + q + 1 := fun c => by
        have := g2.dis p F.2 hp0 (by omega) (.inl ⟨kp.k1 _ hp0 hp, x2⟩)
        rw [w0] at this; omega
      have hs1 := hset.slo p q hp0 (.inl (kp.k1 _ hp0 hp)) (by show q ∈ slots (hk (g (F.1.ws.set _ _) p)) (hs (g (F.1.ws.set _ _) p)); rw [gs _ hp0, if_neg (by omega), w0]; exact hq)
      refine ⟨x1, x2, ?_, ?_⟩
      · show hk (g (F.1.ws.set (p + q + 1).toNat (w64 F.2)) F.2) = _
        rw [gs _ x1, if_neg hne]; exact hcc hr'
      · have h0 : rv (F.1.ws.set (p + q + 1).toNat (w64 F.2)) (p + q) = true := hs1.1
        have hx := g2.lt x1 (by rw [x2]; omega)
        show rvN (F.1.ws.set (p + q + 1).toNat (w64 F.2)) (p + q) = _
        unfold rvN
        rw [h0, gs (p + q + 1) (by omega), if_pos rfl, if_pos rfl]
        exact sg_w64 (by omega)
/-- what a value that leads somewhere is to keys -/
theorem SI.keyP (h : SI A m) {t n : Int} (hr : isRef t = true → 0 ≤ n ∧ g m n ≠ 0 ∧ hk (g A.ws (A.where_ n)) = kd t) : KeyP A t n ∧ (kd t ≠ 0 → PlaceP A n) := by
  have hv := h.hv
  have hse := h.se
  have hln := h.ln
  have hrm := h.rm
  have hS0 := S2_0 A.ws m A.ws.length
  have hkr : kd t ≠ 0 → isRef t = true := fun c => decide_eq_true c
  have hw : kd t ≠ 0 → (0 ≤ A.where_ n ∧ (g m (A.where_ n) = 1 ∨ g m (A.where_ n) = 2)) ∧ PlaceP A n := fun c => by
    obtain ⟨a, b, d⟩ := hr (hkr c)
    rcases h.of n a with e | e | e | e
    · exact absurd e b
    · have ew := h.where1 a e
      refine ⟨by rw [ew]; exact ⟨a, .inl e⟩, ?_⟩
      unfold PlaceP; rw [ew]; split <;> rfl
    · obtain ⟨x1, x2, x3⟩ := h.two n a e
      have ew : A.where_ n = n := by unfold Ar.where_; rw [if_neg (by show ¬ isFw (g A.ws n) = true; rw [hOk_fw x2]; decide)]
      refine ⟨by rw [ew]; exact ⟨a, .inr e⟩, ?_⟩
      unfold PlaceP; rw [ew]; split <;> rfl
    · obtain ⟨x1, x2, x3, x4⟩ := h.thr n a e
      have ew : A.where_ n = fw (g A.ws n) := by unfold Ar.where_; rw [if_pos (by show isFw (g A.ws n) = true; exact x3)]
      have f0 : 0 ≤ fw (g A.ws n) := by have := h.wf n.toNat; unfold isFw at x3; unfold fw; rw [g_toNat] at x3 ⊢; have := of_decide_eq_true x3; omega
      refine ⟨by rw [ew]; exact ⟨f0, .inl x4⟩, ?_⟩
      unfold PlaceP
      have hi : inB n (A.start (1 - A.to)) ((1 - A.to + 1) * A.semi - 1) = true := by
        have e2 : (1 - A.to + 1) * A.semi = (2 - A.to) * A.semi := by congr 1; omega
        refine decide_eq_true ?_
        show A.start (1 - A.to) ≤ n ∧ n ≤ _
        unfold Ar.start
        rw [e2]
        omega
      rw [if_pos hi]
  refine ⟨⟨fun c => ?_, fun c => ?_⟩, fun c => (hw c).2⟩
  · obtain ⟨a, b, d⟩ := hr (hkr c)
    obtain ⟨w0, w1⟩ := (hw c).1
    have l1 := GI.lt h a b
    have l2 := GI.lt h w0 (by rcases w1 with e | e <;> rw [e] <;> decide)
    omega
  · have c' : kd t ≠ 0 := by rw [c]; decide
    obtain ⟨a, b, d⟩ := hr (hkr c')
    obtain ⟨w0, w1⟩ := (hw c').1
    rw [c] at d
    obtain ⟨t1, t2, t3⟩ := h.txt _ w0 w1 d
    have hb : A.where_ n + hs (g A.ws (A.where_ n)) + 1 ≤ (A.ws.length : Int) := by
      rcases w1 with e | e
      · have := (h.one _ w0 e).2.2.1; omega
      · have := (h.two _ w0 e).2.2; omega
    exact ⟨w0, by omega, t1, t2, by omega⟩
/-- a Root is right as a key -/
theorem SI.rootKey (h : SI A m) {i : Int} (h0 : 0 ≤ i) (h1 : i < (A.vs.length : Int)) : KeyP A (rT A i) (rN A i) ∧ (kd (rT A i) ≠ 0 → PlaceP A (rN A i)) :=
  h.keyP fun c => ⟨(h.rts i h0 h1 c).1, (h.rts i h0 h1 c).2.1, (h.rtk i h0 h1).1 c⟩
/-- so is a slot of an object -/
theorem SI.slotKey (h : SI A m) {p q : Int} (hp0 : 0 ≤ p) (hp : g m p = 1) (hq : q ∈ slots (hk (g A.ws p)) (hs (g A.ws p))) : KeyP A (rvT A.ws (p + q)) (rvN A.ws (p + q)) ∧ (kd (rvT A.ws (p + q)) ≠ 0 → PlaceP A (rvN A.ws (p + q))) :=
  h.keyP fun c => ⟨((h.slo p q hp0 (.inl hp) hq).2 c).1, ((h.slo p q hp0 (.inl hp) hq).2 c).2.1, (h.slk p q hp0 (.inl hp) hq).2 c⟩
end Go.Proofs.YtepddopgmhdllaaGreat.Eng
