/- Plain: hashes, sameness and the places of keys stay when a slot is loaded. -/
import Derived.Test.YtepddopgmhdllaaGreatY1
namespace Go.Proofs.YtepddopgmhdllaaGreat.Eng
open Go Go.RowKit Go.Proofs.YtepddopgmhdllaaGreat.Sl Go.Proofs.YtepddopgmhdllaaGreat.Ar Go.Proofs.YtepddopgmhdllaaGreat.Base
set_option linter.unusedVariables false
set_option linter.unusedSimpArgs false
variable {A B : Ar} {m : List Int} {k : Int} {D : Int → Prop}
/-- a value that leads somewhere -/
def Vld (A : Ar) (m : List Int) (t n : Int) : Prop := isRef t = true → 0 ≤ n ∧ g m n ≠ 0 ∧ hk (g A.ws (A.where_ n)) = kd t
/-- what stays of where values lead -/
structure Eqv (A : Ar) (m : List Int) (B : Ar) : Prop where
  inj : ∀ r s : Int, 0 ≤ r → 0 ≤ s → g m r ≠ 0 → g m s ≠ 0 → (B.where_ r = B.where_ s ↔ A.where_ r = A.where_ s)
  hd : ∀ r : Int, 0 ≤ r → g m r ≠ 0 → g B.ws (B.where_ r) = g A.ws (A.where_ r)
  tx : ∀ r : Int, 0 ≤ r → g m r ≠ 0 → hk (g A.ws (A.where_ r)) = 1 → B.text (B.where_ r) = A.text (A.where_ r)
theorem Eqv.refl : Eqv A m A := ⟨fun _ _ _ _ _ _ => Iff.rfl, fun _ _ _ => rfl, fun _ _ _ _ => rfl⟩
theorem GI.wh (h : GI A m k D) {n : Int} (a : 0 ≤ n) (b : g m n ≠ 0) : 0 ≤ A.where_ n ∧ (g m (A.where_ n) = 1 ∨ g m (A.where_ n) = 2) ∧ (g m n = 1 ∨ g m n = 2 → A.where_ n = n) ∧ (g m n = 3 → A.where_ n = fw (g A.ws n) ∧ g m (A.where_ n) = 1) := by
  rcases h.of n a with e | e | e | e
  · exact absurd e b
  · have ew : A.where_ n = n := by unfold Ar.where_; rw [if_neg (by show ¬ isFw (g A.ws n) = true; rw [hOk_fw (h.one n a e).2.1]; decide)]
    rw [ew]; exact ⟨a, .inl e, fun _ => rfl, fun c => by omega⟩
  · have ew : A.where_ n = n := by unfold Ar.where_; rw [if_neg (by show ¬ isFw (g A.ws n) = true; rw [hOk_fw (h.two n a e).2.1]; decide)]
    rw [ew]; exact ⟨a, .inr e, fun _ => rfl, fun c => by omega⟩
  · obtain ⟨x1, x2, x3, x4⟩ := h.thr n a e
    have ew : A.where_ n = fw (g A.ws n) := by unfold Ar.where_; rw [if_pos (by show isFw (g A.ws n) = true; exact x3)]
    rw [ew]; exact ⟨(fwR _).1, .inl x4, fun c => by omega, fun _ => ⟨rfl, x4⟩⟩
theorem text_of {p q : Int} (h : ∀ j : Int, 0 ≤ j → j ≤ hs (g A.ws p) → g B.ws (q + j) = g A.ws (p + j)) (ht : 0 ≤ sg (g A.ws (p + 1)) ∧ sg (g A.ws (p + 1)) ≤ 160 ∧ hs (g A.ws p) = 1 + (sg (g A.ws (p + 1)) + 7) / 8) : B.text q = A.text p := by
  have e1 : g B.ws (q + 1) = g A.ws (p + 1) := h 1 (by omega) (by omega)
  have el : B.textLen q = A.textLen p := by show sg (g B.ws (q + 1)) = sg (g A.ws (p + 1)); rw [e1]
  unfold Ar.text
  rw [el]
  refine List.map_congr_left fun i hi => ?_
  have hi := List.mem_range.1 hi
  have hl : A.textLen p = sg (g A.ws (p + 1)) := rfl
  have := h (2 + (i : Int) / 8) (by omega) (by omega)
  rw [← Int.add_assoc, ← Int.add_assoc] at this
  show g B.ws _ / _ % 256 = g A.ws _ / _ % 256
  rw [this]
theorem GI.eqv_cpy (h : GI A m k D) (hD : ∀ x, D x → x ≤ A.top) {n : Int} (hn : 0 ≤ n) (h2 : g m n = 2) : Eqv A m (A.cpy n) := by
  obtain ⟨m', h', gm, hl, htp, kw, kh⟩ := h.cpy hD hn h2
  obtain ⟨n1, n2, n3⟩ := h.two n hn h2
  have hrs := (rsR' n2).2.2.1
  have hln := h.ln
  have hz0 := hsR _ n2
  have hrm := h.rm
  have hv := h.hv
  have hse := h.se
  have htp := h.tp
  have hlt := h.lt hn (by omega)
  have hm2 := S2_mem (ws := A.ws) hn h2 A.ws.length (by omega)
  have t0 : g m A.top = 0 := by
    rcases h.of A.top (by omega) with e | e | e | e
    · exact e
    · have := h.one _ (by omega) e; have := hs0 (g A.ws A.top); omega
    · have := h.two _ (by omega) e; have := hs0 (g A.ws A.top); omega
    · have := h.thr _ (by omega) e; omega
  have gw : ∀ j : Int, 0 ≤ j → j ≠ n → ¬ (A.top ≤ j ∧ j < A.top + (hs (g A.ws n) + 1)) → g (A.cpy n).ws j = g A.ws j := by
    intro j hj c1 c2
    show g ((copyW A.ws A.top n (rs (g A.ws n) + 1)).set n.toNat (9223372036854775808 + A.top)) j = _
    rw [hrs, g_set hn (by rw [length_copyW]; omega) hj, if_neg c1, g_copyW hj]
    by_cases c3 : j < (A.ws.length : Int)
    · rw [if_pos c3, if_neg c2]
    · rw [if_neg c3, g_out (by omega)]
  have wn : (A.cpy n).where_ n = A.top := by
    have e1 : g (A.cpy n).ws n = 9223372036854775808 + A.top := by
      show g ((copyW A.ws A.top n (rs (g A.ws n) + 1)).set n.toNat (9223372036854775808 + A.top)) n = _
      rw [g_set hn (by rw [length_copyW]; omega) hn, if_pos rfl]
    have h1 := h'.thr n hn (by rw [gm n hn, if_neg (by rintro rfl; omega), if_pos rfl])
    unfold Ar.where_
    rw [if_pos (show isFw (g (A.cpy n).ws n) = true from h1.2.2.1)]
    show fw (g (A.cpy n).ws n) = _
    have := h1.2.2.1
    unfold fw; rw [if_pos this, e1]; omega
  have wr : ∀ r : Int, 0 ≤ r → g m r ≠ 0 → r ≠ n → (A.cpy n).where_ r = A.where_ r := fun r hr h0 hrn => by
    have e : g (A.cpy n).ws r = g A.ws r := by
      refine gw r hr hrn fun c => ?_
      rcases h.of r hr with e | e | e | e
      · exact h0 e
      · have := h.one _ hr e; have := hs0 (g A.ws r); omega
      · have := h.two _ hr e; have := hs0 (g A.ws r); omega
      · have := h.thr _ hr e; omega
    show (if isFw (g (A.cpy n).ws r) = true then fw (g (A.cpy n).ws r) else r) = (if isFw (g A.ws r) = true then fw (g A.ws r) else r)
    rw [e]
  have nn : ∀ r : Int, 0 ≤ r → g m r ≠ 0 → r ≠ n → A.where_ r ≠ n ∧ A.where_ r ≠ A.top := fun r hr h0 hrn => by
    obtain ⟨a, b, c, d⟩ := h.wh hr h0
    refine ⟨fun e => ?_, fun e => by rw [e] at b; omega⟩
    rcases h.of r hr with f | f | f | f
    · exact h0 f
    · exact hrn (by rw [← e]; exact (c (.inl f)).symm)
    · exact hrn (by rw [← e]; exact (c (.inr f)).symm)
    · have := (d f).2; rw [e] at this; omega
  have wn0 : A.where_ n = n := (h.wh hn (by omega)).2.2.1 (.inr h2)
  refine ⟨fun r s hr hs a b => ?_, fun r hr h0 => ?_, fun r hr h0 h1 => ?_⟩
  · by_cases c : r = n
    · by_cases d : s = n
      · subst c; subst d; exact ⟨fun _ => rfl, fun _ => rfl⟩
      · subst c
        rw [wn, wr s hs b d, wn0]
        exact ⟨fun e => absurd e.symm (nn s hs b d).2, fun e => absurd e.symm (nn s hs b d).1⟩
    · by_cases d : s = n
      · subst d
        rw [wn, wr r hr a c, wn0]
        exact ⟨fun e => absurd e (nn r hr a c).2, fun e => absurd e (nn r hr a c).1⟩
      · rw [wr r hr a c, wr s hs b d]
  · have := kh r 0 hr h0 (by omega) (hs0 _); simpa using this
  · obtain ⟨a, b, c, d⟩ := h.wh hr h0
    exact text_of (fun j x y => kh r j hr h0 x y) (h.txt _ a b h1)
theorem GI.eqv_fwd (h : GI A m k D) (hD : ∀ x, D x → x ≤ A.top) {t n : Int} (hr : isRef t = true → 0 ≤ n ∧ g m n ≠ 0) : Eqv A m (A.fwd t n).1 := by
  unfold Ar.fwd
  split
  · rename_i c
    obtain ⟨hn, h0⟩ := hr c.1
    split
    · exact Eqv.refl
    · rename_i d
      rcases h.of n hn with e | e | e | e
      · exact absurd e h0
      · have := h.inTo1 hn e; rw [c.2] at this; cases this
      · exact h.eqv_cpy hD hn e
      · exact absurd (h.thr n hn e).2.2.1 d
  · exact Eqv.refl
/-- a place that is marked lies in no object -/
theorem GI.ne_slot (h : GI A m k D) {p q x : Int} (hp0 : 0 ≤ p) (hp : g m p = 1) (hq : q ∈ slots (hk (g A.ws p)) (hs (g A.ws p))) (hx : 0 ≤ x) (h0 : g m x ≠ 0) : x ≠ p + q + 1 := by
  obtain ⟨o1, o2, o3, o4⟩ := h.one p hp0 hp
  have hqr := slotsR o2 hq
  have hv := h.hv
  have hse := h.se
  have hrm := h.rm
  have hS0 := S2_0 A.ws m A.ws.length
  intro e
  rcases h.of x hx with f | f | f | f
  · exact h0 f
  · have := h.dis p x hp0 (by omega) (.inl ⟨hp, f⟩); omega
  · have := h.two x hx f; have := hs0 (g A.ws x); omega
  · have := h.thr x hx f; omega
theorem GI.eqv_set (h : GI A m k D) {p q : Int} (hp0 : 0 ≤ p) (hp : g m p = 1) (hq : q ∈ slots (hk (g A.ws p)) (hs (g A.ws p))) (w : Int) : Eqv A m { A with ws := A.ws.set (p + q + 1).toNat w } := by
  obtain ⟨o1, o2, o3, o4⟩ := h.one p hp0 hp
  have hqr := slotsR o2 hq
  have hv := h.hv
  have hse := h.se
  have hrm := h.rm
  have hln := h.ln
  have hS0 := S2_0 A.ws m A.ws.length
  have gs : ∀ j : Int, 0 ≤ j → g (A.ws.set (p + q + 1).toNat w) j = if j = p + q + 1 then w else g A.ws j := fun j hj => g_set (by omega) (by omega) hj
  have ew : ∀ r : Int, 0 ≤ r → g m r ≠ 0 → ({ A with ws := A.ws.set (p + q + 1).toNat w } : Ar).where_ r = A.where_ r := fun r hr h0 => by
    show (if isFw (g (A.ws.set (p + q + 1).toNat w) r) = true then fw (g (A.ws.set (p + q + 1).toNat w) r) else r) = (if isFw (g A.ws r) = true then fw (g A.ws r) else r)
    rw [gs r hr, if_neg (h.ne_slot hp0 hp hq hr h0)]
  refine ⟨fun r s hr hs a b => by rw [ew r hr a, ew s hs b], fun r hr h0 => ?_, fun r hr h0 h1 => ?_⟩
  · obtain ⟨a, b, c, d⟩ := h.wh hr h0
    rw [ew r hr h0]
    show g (A.ws.set (p + q + 1).toNat w) _ = _
    rw [gs _ a, if_neg (h.ne_slot hp0 hp hq a (by omega))]
  · obtain ⟨a, b, c, d⟩ := h.wh hr h0
    rw [ew r hr h0]
    refine text_of (fun j x y => ?_) (h.txt _ a b h1)
    show g (A.ws.set (p + q + 1).toNat w) _ = _
    rw [gs _ (by omega), if_neg]
    intro e
    have hkp : hk (g A.ws p) ≠ 1 := by
      intro c1
      rw [c1] at hq
      have h1 := slotsIn (show q ∈ slotsFrom _ _ _ from hq)
      have h2 : from_ 1 (hs (g A.ws p)) = hs (g A.ws p) + 1 := by simp [from_]
      omega
    have hne : A.where_ r ≠ p := fun c => hkp (by rw [← c]; exact h1)
    rcases b with f | f
    · rcases Int.lt_or_le (A.where_ r) p with c | c
      · have := h.dis _ p a c (.inl ⟨f, hp⟩); omega
      · have := h.dis p _ hp0 (by omega) (.inl ⟨hp, f⟩); omega
    · have := h.two _ a f; omega
theorem Eqv.trans {C : Ar} {m' : List Int} (a : Eqv A m B) (b : Eqv B m' C) (hm : ∀ q : Int, 0 ≤ q → g m q ≠ 0 → g m' q ≠ 0) : Eqv A m C :=
  ⟨fun r s hr hs c d => (b.inj r s hr hs (hm r hr c) (hm s hs d)).trans (a.inj r s hr hs c d), fun r hr c => (b.hd r hr (hm r hr c)).trans (a.hd r hr c),
   fun r hr c d => (b.tx r hr (hm r hr c) (by rw [a.hd r hr c]; exact d)).trans (a.tx r hr c d)⟩
/-- a slot is loaded: what values lead to stays -/
theorem SI.eqv_ld (h : SI A m) {p q : Int} (hp0 : 0 ≤ p) (hp : g m p = 1) (hq : q ∈ slots (hk (g A.ws p)) (hs (g A.ws p))) :
    Eqv A m (A.ld (p + q)) ∧ (isRef (rvT A.ws (p + q)) = true → ∀ j : Int, 0 ≤ j → j ≤ hs (g A.ws (A.where_ (rvN A.ws (p + q)))) → A.ldN (p + q) + j ≠ p + q + 1 → g (A.ld (p + q)).ws (A.ldN (p + q) + j) = g A.ws (A.where_ (rvN A.ws (p + q)) + j)) := by
  obtain ⟨s1, s2⟩ := h.slo p q hp0 (.inl hp) hq
  obtain ⟨o1, o2, o3, o4⟩ := h.one p hp0 hp
  have hqr := slotsR o2 hq
  cases hc : A.cyc with
  | false =>
    have e : A.ld (p + q) = A := by unfold Ar.ld; rw [if_neg (by rw [hc]; decide)]
    have en : A.ldN (p + q) = rvN A.ws (p + q) := by unfold Ar.ldN; rw [if_neg (by rw [hc]; decide)]
    rw [e, en]
    refine ⟨Eqv.refl, fun hr j a b _ => ?_⟩
    obtain ⟨x, y, z⟩ := s2 hr
    have d1 := z hp (fun c => by rw [hc] at c; cases c)
    rw [h.where1 x d1]
  | true =>
    have hr : isRef (rvT A.ws (p + q)) = true → 0 ≤ rvN A.ws (p + q) ∧ g m (rvN A.ws (p + q)) ≠ 0 := fun c => ⟨(s2 c).1, (s2 c).2.1⟩
    have hD : ∀ x, (A.cyc = true → x < A.scan) → x ≤ A.top := fun x d => by have := d hc; have := SI.lt h hc; omega
    obtain ⟨m2, g2, kp, c1, c2⟩ := h.fwd (fun x d => hD x d) hr
    have q1 := GI.eqv_fwd h (fun x d => hD x d) hr
    have w0 : g (A.fwd (rvT A.ws (p + q)) (rvN A.ws (p + q))).1.ws p = g A.ws p := by
      have := kp.kw p 0 hp0 hp (by omega) (hs0 _)
      simpa using this
    have e : A.ld (p + q) = A.fwS (p + q) := by unfold Ar.ld; rw [if_pos hc]
    have en : A.ldN (p + q) = (A.fwd (rvT A.ws (p + q)) (rvN A.ws (p + q))).2 := by unfold Ar.ldN; rw [if_pos hc]
    have q2 := g2.eqv_set (p := p) (q := q) hp0 (kp.k1 _ hp0 hp) (by rw [w0]; exact hq) (w64 (A.fwd (rvT A.ws (p + q)) (rvN A.ws (p + q))).2)
    rw [e, en]
    refine ⟨q1.trans q2 kp.k0, fun hr' j a b hne => ?_⟩
    obtain ⟨x1, x2, x3⟩ := c1 hr'
    show g (List.set _ _ _) _ = _
    have hln := g2.ln
    have hse := g2.se
    have hlt := g2.one p hp0 (kp.k1 _ hp0 hp)
    have hv := g2.hv
    have hrm := g2.rm
    have hS0 := S2_0 (A.fwd (rvT A.ws (p + q)) (rvN A.ws (p + q))).1.ws m2 (A.fwd (rvT A.ws (p + q)) (rvN A.ws (p + q))).1.ws.length
    rw [w0] at hlt
    rw [g_set (by omega) (by omega) (by omega), if_neg hne]
    exact x3 j a b
theorem Eqv.same (e : Eqv A m B) {t n t' n' : Int} (h : Vld A m t n) (h' : Vld A m t' n') : B.same t n t' n' = A.same t n t' n' := by
  unfold Ar.same
  by_cases c : t = t'
  · rw [if_pos c, if_pos c]
    by_cases d : isRef t = true
    · rw [if_pos d, if_pos d]
      obtain ⟨a1, a2, a3⟩ := h d
      obtain ⟨b1, b2, b3⟩ := h' (c ▸ d)
      by_cases f : t = 3
      · rw [if_pos f, if_pos f, e.tx n a1 a2 (by rw [a3, f]; rfl), e.tx n' b1 b2 (by rw [b3, ← c, f]; rfl)]
      · rw [if_neg f, if_neg f]
        exact decide_eq_decide.2 (e.inj n n' a1 b1 a2 b2)
    · rw [if_neg d, if_neg d]
  · rw [if_neg c, if_neg c]
theorem Eqv.hash (e : Eqv A m B) {t n : Int} (h : Vld A m t n) (ht : t ≠ 0) (h9 : t ≠ 9) (hv : ValP t n) : B.hash t n = A.hash t n := by
  unfold Ar.hash
  by_cases c1 : t = 1
  · rw [if_pos c1, if_pos c1]
  by_cases c2 : t = 2
  · rw [if_neg c1, if_neg c1, if_pos c2, if_pos c2]
  by_cases c7 : t = 7
  · rw [if_neg c1, if_neg c1, if_neg c2, if_neg c2, if_pos c7, if_pos c7]
  rw [if_neg c1, if_neg c1, if_neg c2, if_neg c2, if_neg c7, if_neg c7]
  have hr : isRef t = true := by
    unfold ValP at hv
    refine decide_eq_true (?_ : kd t ≠ 0)
    have : kd t ≠ 0 ∨ t = 0 ∨ t = 1 ∨ t = 2 ∨ t = 7 := by
      by_cases f : kd t ≠ 0
      · exact .inl f
      · have := mt kindOf_ne.2 f; right; omega
    omega
  obtain ⟨a1, a2, a3⟩ := h hr
  by_cases c3 : t = 3
  · rw [if_pos c3, if_pos c3, e.tx n a1 a2 (by rw [a3, c3]; rfl)]
  · rw [if_neg c3, if_neg c3]
    show rn (g B.ws (B.where_ n)) = rn (g A.ws (A.where_ n))
    rw [e.hd n a1 a2]
theorem Eqv.find (e : Eqv A m B) {b b' n t x : Int} (hn : 0 < n) (hk : ∀ i : Int, 0 ≤ i → i < n → rvT B.ws (b' + 1 + 4 * i) = rvT A.ws (b + 1 + 4 * i) ∧ rvN B.ws (b' + 1 + 4 * i) = rvN A.ws (b + 1 + 4 * i) ∧ Vld A m (rvT A.ws (b + 1 + 4 * i)) (rvN A.ws (b + 1 + 4 * i)))
    (hx : Vld A m t x) (h9 : t ≠ 9) (hv : ValP t x) : B.find b' n t x = A.find b n t x := by
  unfold Ar.find
  by_cases c : n = 0 ∨ t = 0
  · rw [if_pos c, if_pos c]
  · rw [if_neg c, if_neg c, e.hash hx (fun c' => c (.inr c')) h9 hv]
    have key : ∀ (f : Nat) (i : Int), 0 ≤ i → i < n → B.findFrom b' n t x f i = A.findFrom b n t x f i := by
      intro f
      induction f with
      | zero => intro i _ _; rfl
      | succ f ih =>
        intro i i0 i1
        obtain ⟨k1, k2, k3⟩ := hk i i0 i1
        rw [Ar.findFrom, Ar.findFrom]
        unfold Ar.keyT Ar.keyN
        rw [k1, k2, e.same k3 hx, ih _ (Int.emod_nonneg _ (by omega)) (Int.emod_lt_of_pos _ hn)]
    exact key _ _ (Int.emod_nonneg _ (by omega)) (Int.emod_lt_of_pos _ hn)
/-- what is the same is found at the same place -/
theorem same_congr {t n t' n' : Int} (h : A.same t n t' n' = true) : t = t' ∧ (t ≠ 0 → t ≠ 9 → ValP t n → A.hash t n = A.hash t' n') ∧ ∀ s y : Int, A.same s y t n = A.same s y t' n' := by
  unfold Ar.same at h
  split at h
  · rename_i c
    subst c
    refine ⟨rfl, ?_, ?_⟩
    · intro h0 h9 hv
      split at h
      · split at h
        · rename_i c3
          have := of_decide_eq_true h
          unfold Ar.hash
          have hr : ¬ t = 1 ∧ ¬ t = 2 ∧ ¬ t = 7 := by omega
          rw [if_neg hr.1, if_neg hr.1, if_neg hr.2.1, if_neg hr.2.1, if_neg hr.2.2, if_neg hr.2.2, if_pos c3, if_pos c3, this]
        · rename_i d c3
          have := of_decide_eq_true h
          unfold Ar.hash
          have hr : ¬ t = 1 ∧ ¬ t = 2 ∧ ¬ t = 7 := by
            refine ⟨?_, ?_, ?_⟩ <;> rintro rfl <;> exact absurd d (by decide)
          rw [if_neg hr.1, if_neg hr.1, if_neg hr.2.1, if_neg hr.2.1, if_neg hr.2.2, if_neg hr.2.2, if_neg c3, if_neg c3, this]
      · have := of_decide_eq_true h
        rw [this]
    · intro s y
      unfold Ar.same
      by_cases c : s = t
      · rw [if_pos c, if_pos c]
        subst c
        split at h
        · rename_i d
          rw [if_pos d, if_pos d]
          split at h
          · rename_i f; rw [if_pos f, if_pos f, of_decide_eq_true h]
          · rename_i f; rw [if_neg f, if_neg f, of_decide_eq_true h]
        · rename_i d
          rw [if_neg d, if_neg d, of_decide_eq_true h]
      · rw [if_neg c, if_neg c]
  · cases h
/-- keys of a block lie where they are looked for -/
def KeysP (B : Ar) (b n : Int) : Prop := ∀ i : Int, 0 ≤ i → i < n → rvT B.ws (b + 1 + 4 * i) ≠ 0 → B.find b n (rvT B.ws (b + 1 + 4 * i)) (rvN B.ws (b + 1 + 4 * i)) = (i, true)
theorem find_hit {b n t x : Int} (hn : 0 < n) (h : (A.find b n t x).2 = true) : 0 ≤ (A.find b n t x).1 ∧ (A.find b n t x).1 < n ∧ A.keyT b (A.find b n t x).1 ≠ 0 ∧ A.same (A.keyT b (A.find b n t x).1) (A.keyN b (A.find b n t x).1) t x = true := by
  have key : ∀ (f : Nat) (i : Int), (A.findFrom b n t x f i).2 = true → A.keyT b (A.findFrom b n t x f i).1 ≠ 0 ∧ A.same (A.keyT b (A.findFrom b n t x f i).1) (A.keyN b (A.findFrom b n t x f i).1) t x = true := by
    intro f
    induction f with
    | zero => intro i c; cases c
    | succ f ih =>
      intro i c
      rw [Ar.findFrom] at c ⊢
      split at c
      · cases c
      · rename_i d
        rw [if_neg d]
        split at c
        · rename_i d2; rw [if_pos d2]; exact ⟨d, d2⟩
        · rename_i d2; rw [if_neg d2]; exact ih _ c
  refine ⟨(find_in hn h).1, (find_in hn h).2, ?_⟩
  unfold Ar.find at h ⊢
  split at h
  · cases h
  · rename_i c
    rw [if_neg c]
    exact key _ _ h
theorem find_same {b n t x i : Int} (hk : KeysP A b n) (i0 : 0 ≤ i) (i1 : i < n) (h0 : rvT A.ws (b + 1 + 4 * i) ≠ 0) (h9 : rvT A.ws (b + 1 + 4 * i) ≠ 9) (hv : ValP (rvT A.ws (b + 1 + 4 * i)) (rvN A.ws (b + 1 + 4 * i))) (hs : A.same (rvT A.ws (b + 1 + 4 * i)) (rvN A.ws (b + 1 + 4 * i)) t x = true) : A.find b n t x = (i, true) := by
  obtain ⟨a, c, d⟩ := same_congr hs
  rw [← hk i i0 i1 h0]
  unfold Ar.find
  rw [← a]
  by_cases e : n = 0 ∨ rvT A.ws (b + 1 + 4 * i) = 0
  · rw [if_pos e, if_pos e]
  · rw [if_neg e, if_neg e]
    have hh := c h0 h9 hv
    rw [← a] at hh
    rw [hh]
    have key : ∀ (f : Nat) (j : Int), A.findFrom b n (rvT A.ws (b + 1 + 4 * i)) x f j = A.findFrom b n (rvT A.ws (b + 1 + 4 * i)) (rvN A.ws (b + 1 + 4 * i)) f j := by
      intro f
      induction f with
      | zero => intro j; rfl
      | succ f ih =>
        intro j
        rw [Ar.findFrom, Ar.findFrom]
        have := d (A.keyT b j) (A.keyN b j)
        rw [← a] at this
        rw [this, ih]
    exact key _ _
theorem keysP_of {b : Int} (h : A.keysOk b = true) : KeysP A b (rs (g A.ws b) / 4) := by
  intro i i0 i1 h0
  unfold Ar.keysOk at h
  rw [List.all_eq_true] at h
  have := h i.toNat (List.mem_range.2 (by show i.toNat < (rs (g A.ws b) / 4).toNat; omega))
  rw [Int.toNat_of_nonneg i0] at this
  simp only [Bool.or_eq_true, decide_eq_true_eq] at this
  exact this.resolve_left h0
/-- a table is opened: its keys lie where they are looked for -/
theorem SI.open_keys (h : SI A m) {p : Int} (h0 : 0 ≤ p) (h1 : g m p = 1) (h2 : hk (g A.ws p) = 2) (h8 : rvT A.ws (p + 2) = 8) (hkeys : A.keysOk (A.where_ (rvN A.ws (p + 2))) = true) : KeysP (A.ld (p + 2)) (A.ldN (p + 2)) (rs (g (A.ld (p + 2)).ws (A.ldN (p + 2))) / 4) := by
  obtain ⟨o1, o2, o3, o4⟩ := h.one p h0 h1
  have hz : SizeP (hk (g A.ws p)) (hs (g A.ws p)) := (of_decide_eq_true (show decide (HeadP _ _ _) = true from o2)).1
  have h3 : hs (g A.ws p) = 3 := by rw [h2] at hz; unfold SizeP at hz; omega
  have hq : 2 ∈ slots (hk (g A.ws p)) (hs (g A.ws p)) := by rw [h2, h3]; decide
  obtain ⟨q1, q2⟩ := h.eqv_ld h0 h1 hq
  obtain ⟨mB, hL⟩ := h.ld h0 h1 hq
  have hr8 : isRef (rvT A.ws (p + 2)) = true := by rw [h8]; decide
  obtain ⟨a, b, c, d⟩ := hL.rn hr8
  obtain ⟨s1, s2⟩ := h.slo p 2 h0 (.inl h1) hq
  obtain ⟨s3, s4, s5⟩ := s2 hr8
  have hkb := (h.slk p 2 h0 (.inl h1) hq).2 hr8
  obtain ⟨w1, w2, -, -⟩ := GI.wh h s3 s4
  have q2 := q2 hr8
  have bk := hL.si.bk a b (by rw [c, h8]; rfl)
  rw [h8] at hkb c
  have k3 : kd 8 = 3 := rfl
  rw [k3] at hkb c
  have w0 : g (A.ld (p + 2)).ws p = g A.ws p := by have := hL.kw p 0 h0 h1 (by omega) (hs0 _) (by omega); simpa using this
  have p1 := hL.k1 p h0 h1
  have hnp : A.ldN (p + 2) ≠ p := fun e => by rw [e, w0, h2] at c; omega
  have hsl2 : (2 : Int) ∈ slots (hk (g (A.ld (p + 2)).ws p)) (hs (g (A.ld (p + 2)).ws p)) := by rw [w0]; exact hq
  have hd0 : A.ldN (p + 2) ≠ p + 2 + 1 := GI.ne_slot hL.si h0 p1 hsl2 a (by omega)
  have e0 := q2 0 (by omega) (hs0 _) (by omega)
  rw [Int.add_zero, Int.add_zero] at e0
  have hfar : A.ldN (p + 2) + hs (g (A.ld (p + 2)).ws (A.ldN (p + 2))) + 1 ≤ p ∨ p + 3 + 1 ≤ A.ldN (p + 2) := by
    rcases Int.lt_or_le (A.ldN (p + 2)) p with f | f
    · exact .inl (GI.dis hL.si _ p a f (.inl ⟨b, p1⟩))
    · right
      have := GI.dis hL.si p _ h0 (show p < A.ldN (p + 2) by omega) (.inl ⟨p1, b⟩)
      rw [w0, h3] at this; omega
  rw [e0] at hfar
  generalize hb : A.where_ (rvN A.ws (p + 2)) = bw at *
  have hn := bk.n1
  have hrs : rs (g A.ws bw) = hs (g A.ws bw) := by
    have : hOk (g A.ws bw) = true := by rcases w2 with f | f; exact (h.one _ w1 f).2.1; exact (h.two _ w1 f).2.1
    exact (rsR' this).2.2.1
  have hks := bk.ks
  rw [e0] at hn hks ⊢
  have hK := keysP_of hkeys
  have hV : ∀ i : Int, 0 ≤ i → i < rs (g A.ws bw) / 4 → rvT (A.ld (p + 2)).ws (A.ldN (p + 2) + 1 + 4 * i) = rvT A.ws (bw + 1 + 4 * i) ∧ rvN (A.ld (p + 2)).ws (A.ldN (p + 2) + 1 + 4 * i) = rvN A.ws (bw + 1 + 4 * i) ∧ Vld A m (rvT A.ws (bw + 1 + 4 * i)) (rvN A.ws (bw + 1 + 4 * i)) ∧ rvT A.ws (bw + 1 + 4 * i) ≠ 9 := fun i i0 i1 => by
    have ei : bw + 1 + 4 * i = bw + (1 + 4 * i) := by omega
    have ej : A.ldN (p + 2) + 1 + 4 * i = A.ldN (p + 2) + (1 + 4 * i) := by omega
    have hqi := (hks i i0 i1).1
    rw [ei, ej]
    have x1 := q2 (1 + 4 * i) (by omega) (by omega) (by omega)
    have x2 := q2 (1 + 4 * i + 1) (by omega) (by omega) (by omega)
    rw [← Int.add_assoc (A.ldN (p + 2)) (1 + 4 * i) 1, ← Int.add_assoc bw (1 + 4 * i) 1] at x2
    obtain ⟨-, y2, y3⟩ := rv_congr x1 x2
    have z1 := (h.slo bw _ w1 w2 hqi).2
    have z2 := h.slk bw _ w1 w2 hqi
    have z3 := z2.1
    rw [hkb] at z3
    exact ⟨y2, y3, fun c => ⟨(z1 c).1, (z1 c).2.1, z2.2 c⟩, fun c => by unfold SlT at z3; omega⟩
  intro i i0 i1 hne
  obtain ⟨y1, y2, y3, y4⟩ := hV i i0 i1
  rw [y1] at hne ⊢
  rw [y2, q1.find (b := bw) (by omega) (fun j j0 j1 => ⟨(hV j j0 j1).1, (hV j j0 j1).2.1, (hV j j0 j1).2.2.1⟩) y3 y4 (rvV _ _)]
  exact hK i i0 i1 hne
end Go.Proofs.YtepddopgmhdllaaGreat.Eng
