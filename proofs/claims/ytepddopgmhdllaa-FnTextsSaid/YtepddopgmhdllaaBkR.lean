/- Plain: what keeps a right arena right: how its halves are tiled, its serials, what its objects hold. -/
import Derived.Test.YtepddopgmhdllaaBkG
import Derived.Test.YtepddopgmhdllaaBkQ
namespace Go.Proofs.Ytepddopgmhdllaa.Eng
open Go Go.RowKit Go.Proofs.Ytepddopgmhdllaa.Sl Go.Proofs.Ytepddopgmhdllaa.Ar Go.Proofs.Ytepddopgmhdllaa.Base
set_option linter.unusedVariables false
set_option linter.unusedSimpArgs false
variable {A B : Ar} {m m' : List Int} {k : Int} {D : Int → Prop}
/-- the words of an object of the kinds that have neither entries nor a stack: its head, its first two words, its last -/
def ConW (w a b z : Int) : Prop :=
  (hk w = 1 ∨ hk w = 2 ∨ hk w = 4 ∨ hk w = 5) ∧ (hk w = 1 → sg a % 8 = 0 ∨ z / 2 ^ (8 * (sg a % 8)).toNat = 0) ∧ (hk w = 2 → a = 0 ∧ b = 0) ∧ (hk w = 4 → 0 ≤ sg a ∧ sg a ≤ 255)
def Con (A : Ar) (p : Int) : Prop := ConW (g A.ws p) (g A.ws (p + 1)) (g A.ws (p + 2)) (g A.ws (p + hs (g A.ws p)))
def Nx (A : Ar) (m : List Int) (q : Int) : Prop := q ≤ A.old ∧ (q = A.old ∨ g m q = 2 ∨ g m q = 3)
def Zz (A : Ar) (m : List Int) (p : Int) : Int := if g m p = 3 then hs (g A.ws (fw (g A.ws p))) else hs (g A.ws p)
structure TX (A : Ar) (m : List Int) : Prop where
  st : A.to * A.semi + 1 = A.top ∨ g m (A.to * A.semi + 1) = 1
  cf : A.cyc = false → A.scan = 0 ∧ A.old = 0 ∧ A.copied = 0
  od : A.cyc = true → (1 - A.to) * A.semi + 1 ≤ A.old ∧ A.old ≤ (2 - A.to) * A.semi
  c0 : 0 ≤ A.copied
  ce : A.cyc = true → A.copied + S2 A.ws m A.ws.length = A.old - ((1 - A.to) * A.semi + 1)
  s2 : A.cyc = true → Nx A m ((1 - A.to) * A.semi + 1)
  c2 : A.cyc = true → ∀ p : Int, 0 ≤ p → g m p = 2 → Nx A m (p + hs (g A.ws p) + 1)
  c3 : A.cyc = true → ∀ p : Int, 0 ≤ p → g m p = 3 → Nx A m (p + hs (g A.ws (fw (g A.ws p))) + 1)
  ij : ∀ p q : Int, 0 ≤ p → 0 ≤ q → g m p = 3 → g m q = 3 → fw (g A.ws p) = fw (g A.ws q) → p = q
  sr : ∀ p : Int, 0 ≤ p → (g m p = 1 ∨ g m p = 2) → hn (g A.ws p) < A.serial
  su : ∀ p q : Int, 0 ≤ p → 0 ≤ q → p ≠ q → (g m p = 1 ∨ g m p = 2) → (g m q = 1 ∨ g m q = 2) → hn (g A.ws p) ≠ 0 → hn (g A.ws p) ≠ hn (g A.ws q)
  l2 : ∀ p q : Int, 0 ≤ p → g m p = 2 → q ∈ slots (hk (g A.ws p)) (hs (g A.ws p)) → isRef (rvT A.ws (p + q)) = true → g m (rvN A.ws (p + q)) = 2 ∨ g m (rvN A.ws (p + q)) = 3
  co : ∀ p : Int, 0 ≤ p → (g m p = 1 ∨ g m p = 2) → Con A p
  dj : A.cyc = true → ∀ p q : Int, 0 ≤ p → p < q → (g m p = 2 ∨ g m p = 3) → (g m q = 2 ∨ g m q = 3) → p + Zz A m p + 1 ≤ q
theorem GI.top_free (h : GI A m k D) : g m A.top ≠ 1 ∧ g m A.top ≠ 2 ∧ g m A.top ≠ 3 := by
  have hv := h.hv
  have hse := h.se
  have htp := h.tp
  have hrm := h.rm
  have hS0 := S2_0 A.ws m A.ws.length
  refine ⟨fun c => ?_, fun c => ?_, fun c => ?_⟩
  · have := h.one _ (by omega) c; have := hs0 (g A.ws A.top); omega
  · have := h.two _ (by omega) c; have := hs0 (g A.ws A.top); have := S2_mem (ws := A.ws) (m := m) (x := A.top) (by omega) c A.ws.length (by have := h.lt (n := A.top) (by omega) (by omega); omega); omega
  · have := h.thr _ (by omega) c; omega
theorem cpy_gw (h : GI A m k D) {n : Int} (hn : 0 ≤ n) (h2 : g m n = 2) : ∀ j : Int, 0 ≤ j → g (A.cpy n).ws j = if j = n then 9223372036854775808 + A.top else if A.top ≤ j ∧ j < A.top + (hs (g A.ws n) + 1) then g A.ws (n + (j - A.top)) else g A.ws j := by
  have n2 := (h.two n hn h2).2.1
  have hrs := (rsR' n2).2.2.1
  have hl := h.lt hn (by omega)
  have hz0 := hsR _ n2
  have hrm := h.rm
  have hv := h.hv
  have hse := h.se
  have hln := h.ln
  have hm2 := S2_mem (ws := A.ws) hn h2 A.ws.length (by omega)
  intro j hj
  show g ((copyW A.ws A.top n (rs (g A.ws n) + 1)).set n.toNat (9223372036854775808 + A.top)) j = _
  rw [hrs, g_set hn (by rw [length_copyW]; omega) hj, g_copyW hj]
  by_cases c : j = n
  · rw [if_pos c, if_pos c]
  · rw [if_neg c, if_neg c]
    by_cases c2 : j < (A.ws.length : Int)
    · rw [if_pos c2]
    · rw [if_neg c2, if_neg (by omega), g_out (by omega)]
/-- an object is copied -/
theorem TX.cpy (x : TX A m) (h : GI A m k D) {n : Int} (hn : 0 ≤ n) (h2 : g m n = 2) (hc : A.cyc = true) (gm : ∀ q : Int, 0 ≤ q → g m' q = if q = A.top then 1 else if q = n then 3 else g m q) : TX (A.cpy n) m' := by
  obtain ⟨n1, n2, n3⟩ := h.two n hn h2
  have hv := h.hv
  have hz0 := hsR _ n2
  have hrs := (rsR' n2).2.2.1
  have hS := S2_mem (ws := A.ws) hn h2 A.ws.length (by have := h.ln; omega)
  have hrm := h.rm
  have hcp := h.cp
  have hln := h.ln
  have hse := h.se
  have htp := h.tp
  have gw := cpy_gw h hn h2
  obtain ⟨t1, t2, t3⟩ := h.top_free
  have hnt : n ≠ A.top := fun e => t2 (e ▸ h2)
  have k1 : ∀ q : Int, 0 ≤ q → g m q = 1 → g m' q = 1 := fun q hq e => by
    rw [gm q hq, if_neg (fun c => by rw [c] at e; exact t1 e), if_neg (fun c => by rw [c] at e; omega)]; exact e
  have k23 : ∀ q : Int, 0 ≤ q → (g m q = 2 ∨ g m q = 3) → g m' q = 2 ∨ g m' q = 3 := fun q hq e => by
    rw [gm q hq, if_neg (fun c => by rw [c] at e; omega)]
    split
    · exact .inr rfl
    · exact e
  have w1 : ∀ q j : Int, 0 ≤ q → g m q = 1 → 0 ≤ j → j ≤ hs (g A.ws q) → g (A.cpy n).ws (q + j) = g A.ws (q + j) := by
    intro q j hq e hj hj2
    have := h.one q hq e
    rw [gw _ (by omega), if_neg (by omega), if_neg (by omega)]
  have w2 : ∀ q j : Int, 0 ≤ q → g m q = 2 → q ≠ n → 0 ≤ j → j ≤ hs (g A.ws q) → g (A.cpy n).ws (q + j) = g A.ws (q + j) := by
    intro q j hq e hqn hj hj2
    have := h.two q hq e
    have hd : q + hs (g A.ws q) + 1 ≤ n ∨ n < q := by
      rcases Int.lt_or_le q n with c | c
      · exact .inl (h.dis q n hq c (.inr ⟨e, h2⟩))
      · right; omega
    rw [gw _ (by omega), if_neg (by omega), if_neg (by omega)]
  have w3 : ∀ q : Int, 0 ≤ q → g m q = 3 → g (A.cpy n).ws q = g A.ws q := by
    intro q hq e
    have := h.thr q hq e
    rw [gw q hq, if_neg (fun c => by rw [c] at e; omega), if_neg (by omega)]
  have w1' : ∀ q : Int, 0 ≤ q → g m q = 1 → g (A.cpy n).ws q = g A.ws q := fun q hq e => by have := w1 q 0 hq e (by omega) (hs0 _); simpa using this
  have w2' : ∀ q : Int, 0 ≤ q → g m q = 2 → q ≠ n → g (A.cpy n).ws q = g A.ws q := fun q hq e c => by have := w2 q 0 hq e c (by omega) (hs0 _); simpa using this
  have wt : ∀ j : Int, 0 ≤ j → j ≤ hs (g A.ws n) → g (A.cpy n).ws (A.top + j) = g A.ws (n + j) := by
    intro j hj hj2
    rw [gw _ (by omega), if_neg (by omega), if_pos (by omega)]; congr 1; omega
  have wt0 : g (A.cpy n).ws A.top = g A.ws n := by have := wt 0 (by omega) (by omega); simpa using this
  have hwl : (A.cpy n).ws.length = A.ws.length := by show (List.set _ _ _).length = _; rw [List.length_set, length_copyW]
  have hS2 : S2 (A.cpy n).ws m' (A.cpy n).ws.length = S2 A.ws m A.ws.length - (hs (g A.ws n) + 1) := by
    rw [hwl, S2_upd hn h2 (by rw [gm n hn, if_neg hnt, if_pos rfl]; omega) (fun q hq hqn => ⟨?_, fun e => w2' q hq e hqn⟩), if_pos (by omega)]
    rw [gm q hq, if_neg hqn]
    split
    · rename_i c; subst c; omega
    · exact Iff.rfl
  have nx : ∀ q : Int, 0 ≤ q → Nx A m q → Nx (A.cpy n) m' q := fun q hq ⟨a, b⟩ => ⟨a, b.imp id (k23 q hq)⟩
  -- what is marked 1 or 2 was, where it was copied from
  have org : ∀ p : Int, 0 ≤ p → (g m' p = 1 ∨ g m' p = 2) → ∃ r : Int, 0 ≤ r ∧ (g m r = 1 ∨ g m r = 2) ∧ (∀ j : Int, 0 ≤ j → j ≤ hs (g A.ws r) → g (A.cpy n).ws (p + j) = g A.ws (r + j)) ∧ ((p = A.top ∧ r = n) ∨ (p = r ∧ r ≠ n)) := by
    intro p hp e
    by_cases cp : p = A.top
    · subst cp; exact ⟨n, hn, .inr h2, wt, .inl ⟨rfl, rfl⟩⟩
    · rw [gm p hp, if_neg cp] at e
      by_cases cn : p = n
      · rw [if_pos cn] at e; omega
      · rw [if_neg cn] at e
        refine ⟨p, hp, e, fun j hj hj2 => ?_, .inr ⟨rfl, cn⟩⟩
        rcases e with e | e
        · exact w1 p j hp e hj hj2
        · exact w2 p j hp e cn hj hj2
  have org0 : ∀ p r : Int, (∀ j : Int, 0 ≤ j → j ≤ hs (g A.ws r) → g (A.cpy n).ws (p + j) = g A.ws (r + j)) → g (A.cpy n).ws p = g A.ws r := fun p r e => by have := e 0 (by omega) (hs0 _); simpa using this
  have hto : (A.cpy n).to = A.to := rfl
  have hsm : (A.cpy n).semi = A.semi := rfl
  have hcy : (A.cpy n).cyc = A.cyc := rfl
  have htop : (A.cpy n).top = A.top + (hs (g A.ws n) + 1) := by show A.top + (rs (g A.ws n) + 1) = _; rw [hrs]
  have hcop : (A.cpy n).copied = A.copied + (hs (g A.ws n) + 1) := by show A.copied + (rs (g A.ws n) + 1) = _; rw [hrs]
  have hold : (A.cpy n).old = A.old := rfl
  have hp1 : (A.cpy n).to * (A.cpy n).semi = A.to * A.semi := rfl
  have hp2 : (1 - (A.cpy n).to) * (A.cpy n).semi = (1 - A.to) * A.semi := rfl
  have eft : isFw (9223372036854775808 + A.top) = true := decide_eq_true (by omega)
  refine ⟨?_, fun c => (by rw [hcy, hc] at c; cases c), fun c => x.od c, by have := x.c0; omega, fun c => ?_, fun c => nx _ (by omega) (x.s2 c), fun c p hp e => ?_, fun c p hp e => ?_, fun p q hp hq e1 e2 e3 => ?_, fun p hp e => ?_, fun p q hp hq hpq e1 e2 e3 => ?_, fun p q hp e hq hr => ?_, fun p hp e => ?_, fun c p q hp hpq e1 e2 => ?_⟩
  · rcases x.st with e | e
    · right; rw [hto, hsm, e, gm _ (by omega), if_pos rfl]
    · exact .inr (k1 _ (by omega) e)
  · rw [hS2, hcop, hold, hto, hsm]; have := x.ce c; omega
  · rw [gm p hp] at e
    split at e
    · omega
    · split at e
      · omega
      · rename_i c1 c2
        rw [w2' p hp e c2]
        exact nx _ (by have := hs0 (g A.ws p); omega) (x.c2 c p hp e)
  · rw [gm p hp] at e
    split at e
    · omega
    · split at e
      · rename_i c1 c2
        subst c2
        have e1 : g (A.cpy p).ws p = 9223372036854775808 + A.top := by rw [gw p hp, if_pos rfl]
        have e3 : fw (g (A.cpy p).ws p) = A.top := by unfold fw; rw [e1, if_pos eft]; omega
        rw [e3, wt0]
        exact nx _ (by omega) (x.c2 c p hp h2)
      · rename_i c1 c2
        obtain ⟨a, b, d, f⟩ := h.thr p hp e
        rw [w3 p hp e, w1' _ (fwR _).1 f]
        exact nx _ (by have := hs0 (g A.ws (fw (g A.ws p))); omega) (x.c3 c p hp e)
  · rw [gm p hp] at e1
    rw [gm q hq] at e2
    have en : g (A.cpy n).ws n = 9223372036854775808 + A.top := by rw [gw n hn, if_pos rfl]
    have ef : fw (g (A.cpy n).ws n) = A.top := by unfold fw; rw [en, if_pos eft]; omega
    split at e1
    · omega
    · split at e2
      · omega
      · by_cases c1 : p = n
        · by_cases c2 : q = n
          · rw [c1, c2]
          · rw [if_neg c2] at e2
            rw [c1, ef, w3 q hq e2] at e3
            have := (h.thr q hq e2).2.2.2
            rw [← e3] at this
            exact absurd this t1
        · rw [if_neg c1] at e1
          by_cases c2 : q = n
          · rw [c2, ef, w3 p hp e1] at e3
            have := (h.thr p hp e1).2.2.2
            rw [e3] at this
            exact absurd this t1
          · rw [if_neg c2] at e2
            rw [w3 p hp e1, w3 q hq e2] at e3
            exact x.ij p q hp hq e1 e2 e3
  · obtain ⟨r, hr, er, hj, -⟩ := org p hp e
    rw [org0 p r hj]
    exact x.sr r hr er
  · obtain ⟨r, hr, er, hj, c1⟩ := org p hp e1
    obtain ⟨s, hs', es, hj', c2⟩ := org q hq e2
    rw [org0 p r hj] at e3 ⊢
    rw [org0 q s hj']
    refine x.su r s hr hs' ?_ er es e3
    rintro rfl
    omega
  · rw [gm p hp] at e
    split at e
    · omega
    · split at e
      · omega
      · rename_i c1 c2
        rw [w2' p hp e c2] at hq
        have hqr := slotsR (h.two p hp e).2.1 hq
        obtain ⟨r1, r2, r3⟩ := rv_congr (ws := A.ws) (ws' := (A.cpy n).ws) (a := p + q) (b := p + q) (w2 p q hp e c2 (by omega) (by omega)) (by rw [Int.add_assoc]; exact w2 p (q + 1) hp e c2 (by omega) (by omega))
        rw [r2] at hr
        rw [r3]
        have hs3 := ((h.slo p q hp (.inr e) hq).2 hr).1
        exact k23 _ hs3 (x.l2 p q hp e hq hr)
  · obtain ⟨r, hr, er, hj, -⟩ := org p hp e
    have hok : hOk (g A.ws r) = true := by
      rcases er with er | er
      · exact (h.one r hr er).2.1
      · exact (h.two r hr er).2.1
    have hz := hsR _ hok
    have e0 := org0 p r hj
    unfold Con
    rw [e0, hj 1 (by omega) hz.1, hj (hs (g A.ws r)) (by omega) (Int.le_refl _)]
    have hc := x.co r hr er
    unfold Con at hc
    by_cases h21 : 2 ≤ hs (g A.ws r)
    · rw [hj 2 (by omega) h21]; exact hc
    · refine ⟨hc.1, hc.2.1, fun h2 => ?_, hc.2.2.2⟩
      have hzz : SizeP (hk (g A.ws r)) (hs (g A.ws r)) := (of_decide_eq_true (show decide (HeadP _ _ _) = true from hok)).1
      unfold SizeP at hzz
      omega
  · have old : ∀ r : Int, 0 ≤ r → (g m' r = 2 ∨ g m' r = 3) → (g m r = 2 ∨ g m r = 3) := by
      intro r hr e
      rw [gm r hr] at e
      split at e
      · omega
      · split at e
        · rename_i d; rw [d]; exact .inl h2
        · exact e
    have hz : Zz (A.cpy n) m' p = Zz A m p := by
      unfold Zz
      have e1' := e1
      rw [gm p hp] at e1' ⊢
      by_cases d1 : p = A.top
      · rw [if_pos d1] at e1'; omega
      · rw [if_neg d1] at e1' ⊢
        by_cases d2 : p = n
        · rw [d2, if_pos rfl, if_pos rfl, if_neg (by omega)]
          have en : g (A.cpy n).ws n = 9223372036854775808 + A.top := by rw [gw n hn, if_pos rfl]
          have ef : fw (g (A.cpy n).ws n) = A.top := by unfold fw; rw [en, if_pos eft]; omega
          rw [ef, wt0]
        · rw [if_neg d2] at e1' ⊢
          rcases e1' with d | d
          · rw [if_neg (by omega), if_neg (by omega), w2' p hp d d2]
          · rw [if_pos d, if_pos d, w3 p hp d, w1' _ (fwR _).1 (h.thr p hp d).2.2.2]
    rw [hz]
    exact x.dj c p q hp hpq (old p hp e1) (old q (by omega) e2)
/-- a slot of an object of the half in use is written -/
theorem TX.setS (x : TX A m) (h : GI A m k D) {p q n' : Int} (hp0 : 0 ≤ p) (hp : g m p = 1) (hq : q ∈ slots (hk (g A.ws p)) (hs (g A.ws p))) : TX { A with ws := A.ws.set (p + q + 1).toNat (w64 n') } m := by
  obtain ⟨o1, o2, o3, o4⟩ := h.one p hp0 hp
  have hqr := slotsR o2 hq
  have hv := h.hv
  have hse := h.se
  have hln := h.ln
  have hrm := h.rm
  have hS0 := S2_0 A.ws m A.ws.length
  have gw : ∀ j : Int, 0 ≤ j → g (A.ws.set (p + q + 1).toNat (w64 n')) j = if j = p + q + 1 then w64 n' else g A.ws j := fun j hj => g_set (by omega) (by omega) hj
  have hwl : (A.ws.set (p + q + 1).toNat (w64 n')).length = A.ws.length := List.length_set
  generalize A.ws.set (p + q + 1).toNat (w64 n') = ws' at *
  have w1 : ∀ r j : Int, 0 ≤ r → g m r = 1 → r ≠ p → 0 ≤ j → j ≤ hs (g A.ws r) → g ws' (r + j) = g A.ws (r + j) := by
    intro r j hr e hrp hj hj2
    rw [gw _ (by omega), if_neg]
    rcases Int.lt_or_le r p with c | c
    · have := h.dis r p hr c (.inl ⟨e, hp⟩); omega
    · have := h.dis p r hp0 (by omega) (.inl ⟨hp, e⟩); omega
  have w2 : ∀ r j : Int, 0 ≤ r → g m r = 2 → 0 ≤ j → j ≤ hs (g A.ws r) → g ws' (r + j) = g A.ws (r + j) := by
    intro r j hr e hj hj2
    have := h.two r hr e
    rw [gw _ (by omega), if_neg (by omega)]
  have w3 : ∀ r : Int, 0 ≤ r → g m r = 3 → g ws' r = g A.ws r := by
    intro r hr e
    have := h.thr r hr e
    rw [gw r hr, if_neg (by omega)]
  have wh : ∀ r : Int, 0 ≤ r → (g m r = 1 ∨ g m r = 2) → g ws' r = g A.ws r := by
    intro r hr e
    have := hs0 (g A.ws r)
    rcases e with e | e
    · by_cases c : r = p
      · subst c; rw [gw _ hr, if_neg (by omega)]
      · have := w1 r 0 hr e c (by omega) (by omega); simpa using this
    · have := w2 r 0 hr e (by omega) (by omega); simpa using this
  have hs2 : S2 ws' m ws'.length = S2 A.ws m A.ws.length := by rw [hwl]; exact S2_congr (fun r hr e => wh r hr (.inr e)) _
  refine ⟨x.st, x.cf, x.od, x.c0, fun c => by rw [hs2]; exact x.ce c, x.s2, fun c r hr e => ?_, fun c r hr e => ?_, fun r s hr hs e1 e2 e3 => ?_, fun r hr e => ?_, fun r s hr hs hrs e1 e2 e3 => ?_, fun r q' hr e hq' hrf => ?_, fun r hr e => ?_, fun c r s hr hrs e1 e2 => ?_⟩ <;> (try dsimp only at *)
  · rw [wh r hr (.inr e)]; exact x.c2 c r hr e
  · rw [w3 r hr e, wh _ (fwR _).1 (.inl (h.thr r hr e).2.2.2)]; exact x.c3 c r hr e
  · rw [w3 r hr e1, w3 s hs e2] at e3; exact x.ij r s hr hs e1 e2 e3
  · rw [wh r hr e]; exact x.sr r hr e
  · rw [wh r hr e1] at e3 ⊢; rw [wh s hs e2]; exact x.su r s hr hs hrs e1 e2 e3
  · rw [wh r hr (.inr e)] at hq'
    have hqr' := slotsR (h.two r hr e).2.1 hq'
    obtain ⟨r1, r2, r3⟩ := rv_congr (ws := A.ws) (ws' := ws') (w2 r q' hr e (by omega) (by omega)) (by rw [Int.add_assoc]; exact w2 r (q' + 1) hr e (by omega) (by omega))
    rw [r2] at hrf
    rw [r3]
    exact x.l2 r q' hr e hq' hrf
  · have hc := x.co r hr e
    have hok : hOk (g A.ws r) = true := by
      rcases e with e | e
      · exact (h.one r hr e).2.1
      · exact (h.two r hr e).2.1
    have hz := hsR _ hok
    have hzz : SizeP (hk (g A.ws r)) (hs (g A.ws r)) := (of_decide_eq_true (show decide (HeadP _ _ _) = true from hok)).1
    unfold Con at hc ⊢
    dsimp only
    rw [wh r hr e]
    by_cases c : r = p
    · subst c
      have n1 : hk (g A.ws r) ≠ 1 := fun c1 => by
        rw [c1] at hq
        have : from_ 1 (hs (g A.ws r)) = hs (g A.ws r) + 1 := by simp [from_]
        unfold slots at hq
        rw [this, slotsFrom, if_neg (by omega)] at hq
        cases hq
      have q2 : hk (g A.ws r) = 2 ∨ hk (g A.ws r) = 4 → 2 ≤ q := fun c1 => by
        have : from_ (hk (g A.ws r)) (hs (g A.ws r)) = 2 := by unfold from_; rw [if_pos c1]
        unfold slots at hq
        rw [this] at hq
        exact (slotsIn hq).1
      refine ⟨hc.1, fun c1 => absurd c1 n1, fun c1 => ?_, fun c1 => ?_⟩
      · have := q2 (.inl c1)
        rw [gw (r + 1) (by omega), if_neg (by omega), gw (r + 2) (by omega), if_neg (by omega)]
        exact hc.2.2.1 c1
      · have := q2 (.inr c1)
        rw [gw (r + 1) (by omega), if_neg (by omega)]
        exact hc.2.2.2 c1
    · have ww : ∀ j : Int, 0 ≤ j → j ≤ hs (g A.ws r) → g ws' (r + j) = g A.ws (r + j) := by
        intro j hj hj2
        rcases e with e | e
        · exact w1 r j hr e c hj hj2
        · exact w2 r j hr e hj hj2
      rw [ww 1 (by omega) hz.1, ww (hs (g A.ws r)) (by omega) (Int.le_refl _)]
      by_cases h21 : 2 ≤ hs (g A.ws r)
      · rw [ww 2 (by omega) h21]; exact hc
      · exact ⟨hc.1, hc.2.1, fun h2 => by unfold SizeP at hzz; omega, hc.2.2.2⟩
  · have hz : Zz { A with ws := ws' } m r = Zz A m r := by
      unfold Zz
      dsimp only
      rcases e1 with d | d
      · rw [if_neg (by omega), if_neg (by omega), wh r hr (.inr d)]
      · rw [if_pos d, if_pos d, w3 r hr d, wh _ (fwR _).1 (.inl (h.thr r hr d).2.2.2)]
    rw [hz]
    exact x.dj c r s hr hrs e1 e2
theorem TX.over (x : TX A m) : TX A.over m := by
  unfold Ar.over
  split
  · exact { x with cf := fun _ => ⟨rfl, rfl, rfl⟩, od := fun c => (by cases c), c0 := Int.le_refl _, ce := fun c => (by cases c), s2 := fun c => (by cases c), c2 := fun c => (by cases c), c3 := fun c => (by cases c), dj := fun c => (by cases c) }
  · exact x
/-- objects one behind the other take all of the stretch -/
theorem S2_gap {ws m : List Int} {p y : Int} (hp : 0 ≤ p) (h2 : g m p = 2) (hy : p < y) (h : ∀ q : Int, p < q → q < y → g m q ≠ 2) : ∀ n : Nat, p < (n : Int) → (n : Int) ≤ y → S2 ws m n = S2 ws m p.toNat + (hs (g ws p) + 1) := by
  intro n
  induction n with
  | zero => intro a; omega
  | succ n ih =>
    intro a b
    rw [S2]
    by_cases e : (n : Int) = p
    · rw [e, if_pos h2, show n = p.toNat by omega]
    · rw [if_neg (h n (by omega) (by omega)), ih (by omega) (by omega)]; omega
theorem S2_chain {ws m : List Int} {top : Int} (hc : ∀ q : Int, 0 ≤ q → g m q = 2 → q + hs (g ws q) + 1 ≤ top ∧ (q + hs (g ws q) + 1 = top ∨ g m (q + hs (g ws q) + 1) = 2) ∧ ∀ r : Int, q < r → g m r = 2 → q + hs (g ws q) + 1 ≤ r) :
    ∀ (f : Nat) (x : Int), top - x < (f : Int) → 0 ≤ x → (x = top ∨ g m x = 2) → x ≤ top → S2 ws m top.toNat = S2 ws m x.toNat + (top - x) := by
  intro f
  induction f with
  | zero => intro x h; omega
  | succ f ih =>
    intro x hf hx h hxt
    by_cases e : x = top
    · rw [e]; omega
    · have h2 := h.resolve_left e
      obtain ⟨a, b, c⟩ := hc x hx h2
      have := hs0 (g ws x)
      have i1 := ih (x + hs (g ws x) + 1) (by omega) (by omega) b a
      have i2 := S2_gap (ws := ws) hx h2 (y := x + hs (g ws x) + 1) (by omega) (fun q q1 q2 e2 => by have := c q q1 e2; omega) (x + hs (g ws x) + 1).toNat (by omega) (by omega)
      rw [i1, i2]; omega
theorem TX.fl0 (x : TX A m) (h : SI A m) (hc : A.cyc = false) : TX A.fl0 (flM m) := by
  have hv := h.hv
  have hse := h.se
  have hln := h.ln
  have htp := h.tp
  have hrm := h.rm
  have hS0 := S2_0 A.ws m A.ws.length
  have f1 : ∀ q : Int, g (flM m) q = 2 ↔ g m q = 1 := fun q => by rw [g_flM]; split <;> omega
  have f0 : ∀ q : Int, g (flM m) q ≠ 1 ∧ g (flM m) q ≠ 3 := fun q => by rw [g_flM]; split <;> omega
  have e1 : (1 - (1 - A.to)) * A.semi = A.to * A.semi := by rw [show 1 - (1 - A.to) = A.to by omega]
  have e2 : (2 - (1 - A.to)) * A.semi = (A.to + 1) * A.semi := by rw [show 2 - (1 - A.to) = A.to + 1 by omega]
  have hsum : S2 A.ws (flM m) A.ws.length = A.top - (A.to * A.semi + 1) := by
    have hch := S2_chain (ws := A.ws) (m := flM m) (top := A.top) (fun q hq e => by
      have o := h.one q hq ((f1 q).1 e)
      exact ⟨o.2.2.1, o.2.2.2.imp id (fun d => (f1 _).2 d), fun r hr er => h.dis q r hq hr (.inl ⟨(f1 q).1 e, (f1 r).1 er⟩)⟩)
      (A.top - (A.to * A.semi + 1) + 1).toNat (A.to * A.semi + 1) (by omega) (by omega) (x.st.imp id (fun d => (f1 _).2 d)) htp
    have hz : S2 A.ws (flM m) (A.to * A.semi + 1).toNat = 0 := by
      have : ∀ n : Nat, (n : Int) ≤ A.to * A.semi + 1 → S2 A.ws (flM m) n = 0 := by
        intro n
        induction n with
        | zero => intro _; rfl
        | succ n ih =>
          intro hn
          rw [S2, ih (by omega), if_neg (fun c => by have := h.one n (by omega) ((f1 _).1 c); omega)]; rfl
      exact this _ (by omega)
    have ht : ∀ n : Nat, A.top ≤ (n : Int) → S2 A.ws (flM m) n = S2 A.ws (flM m) A.top.toNat := by
      intro n
      induction n with
      | zero => intro hn; rw [show A.top.toNat = 0 by omega]
      | succ n ih =>
        intro hn
        by_cases c : A.top = ((n + 1 : Nat) : Int)
        · rw [show A.top.toNat = n + 1 by omega]
        · rw [S2, ih (by omega), if_neg (fun d => by have o := h.one n (by omega) ((f1 _).1 d); have := hs0 (g A.ws n); omega)]; omega
    rw [ht _ (by omega), hch, hz]; omega
  refine ⟨.inl rfl, fun c => (by cases c), fun _ => ?_, Int.le_refl _, fun _ => ?_, fun _ => ?_, fun _ p hp e => ?_, fun _ p hp e => absurd e (f0 p).2, fun p q hp hq e1 => absurd e1 (f0 p).2, fun p hp e => ?_, fun p q hp hq hpq a b c => ?_, fun p q hp e hq hr => ?_, fun p hp e => ?_, fun _ p q hp hpq a b => ?_⟩
  · show (1 - (1 - A.to)) * A.semi + 1 ≤ A.top ∧ A.top ≤ (2 - (1 - A.to)) * A.semi
    rw [e1, e2]; omega
  · show 0 + S2 A.ws (flM m) A.ws.length = A.top - ((1 - (1 - A.to)) * A.semi + 1)
    rw [e1]; omega
  · show (1 - (1 - A.to)) * A.semi + 1 ≤ A.top ∧ ((1 - (1 - A.to)) * A.semi + 1 = A.top ∨ _)
    rw [e1]
    refine ⟨htp, x.st.imp id (fun d => .inl ?_)⟩
    show g (flM m) ((1 - (1 - A.to)) * A.semi + 1) = 2
    rw [e1]; exact (f1 _).2 d
  · have o := h.one p hp ((f1 p).1 e)
    exact ⟨o.2.2.1, o.2.2.2.imp id (fun d => .inl ((f1 _).2 d))⟩
  · exact x.sr p hp (.inl ((f1 p).1 (e.resolve_left (f0 p).1)))
  · exact x.su p q hp hq hpq (.inl ((f1 p).1 (a.resolve_left (f0 p).1))) (.inl ((f1 q).1 (b.resolve_left (f0 q).1))) c
  · have hm1 := (f1 p).1 e
    obtain ⟨s1, s2⟩ := h.slo p q hp (.inl hm1) hq
    exact .inl ((f1 _).2 ((s2 hr).2.2 hm1 (fun c => by rw [hc] at c; cases c)))
  · exact x.co p hp (.inl ((f1 p).1 (e.resolve_left (f0 p).1)))
  · have a' := a.resolve_right (f0 p).2
    have b' := b.resolve_right (f0 q).2
    unfold Zz
    rw [if_neg (f0 p).2]
    exact h.dis p q hp hpq (.inl ⟨(f1 p).1 a', (f1 q).1 b'⟩)
end Go.Proofs.Ytepddopgmhdllaa.Eng
namespace Go.Proofs.Ytepddopgmhdllaa.Eng
open Go Go.RowKit Go.Proofs.Ytepddopgmhdllaa.Sl Go.Proofs.Ytepddopgmhdllaa.Ar Go.Proofs.Ytepddopgmhdllaa.Base
set_option linter.unusedVariables false
set_option linter.unusedSimpArgs false
variable {A B : Ar} {m m' : List Int} {k : Int} {D : Int → Prop}
theorem TX.fwd (x : TX A m) (h : GI A m k D) (hc : A.cyc = true) (hD : ∀ x, D x → x ≤ A.top) {t n : Int} (hr : isRef t = true → 0 ≤ n ∧ g m n ≠ 0) :
    ∃ m', GI (A.fwd t n).1 m' k D ∧ Kp A m (A.fwd t n).1 m' ∧ (isRef t = true → 0 ≤ (A.fwd t n).2 ∧ g m' (A.fwd t n).2 = 1 ∧ ∀ j : Int, 0 ≤ j → j ≤ hs (g A.ws (A.where_ n)) → g (A.fwd t n).1.ws ((A.fwd t n).2 + j) = g A.ws (A.where_ n + j)) ∧ (isRef t ≠ true → (A.fwd t n).2 = n) ∧ TX (A.fwd t n).1 m' ∧
      (∀ q : Int, 0 ≤ q → g m q = 3 → g m' q = 3 ∧ g (A.fwd t n).1.ws q = g A.ws q) ∧ (isRef t = true → (g m n = 2 ∨ g m n = 3) → g m' n = 3 ∧ fw (g (A.fwd t n).1.ws n) = (A.fwd t n).2) := by
  by_cases ht : isRef t = true
  · obtain ⟨hn, h0⟩ := hr ht
    have ew1 : (g m n = 1 ∨ g m n = 2) → A.where_ n = n := fun e => by
      have hok : hOk (g A.ws n) = true := by
        rcases e with e | e
        · exact (h.one n hn e).2.1
        · exact (h.two n hn e).2.1
      unfold Ar.where_; rw [if_neg (by show ¬ isFw (g A.ws n) = true; rw [hOk_fw hok]; decide)]
    rcases h.of n hn with e | e | e | e
    · exact absurd e h0
    · have e2 : A.fwd t n = (A, n) := by unfold Ar.fwd; rw [if_neg (by rw [h.inTo1 hn e]; simp)]
      rw [e2]
      exact ⟨m, h, Kp.rfl', fun _ => ⟨hn, e, fun j _ _ => by rw [ew1 (.inl e)]⟩, fun c => absurd ht c, x, fun q _ c => ⟨c, rfl⟩, fun _ c => by omega⟩
    · have e2 : A.fwd t n = (A.cpy n, A.top) := by unfold Ar.fwd; rw [if_pos ⟨ht, h.inTo0 hn (.inl e)⟩, if_neg (by rw [hOk_fw (h.two n hn e).2.1]; decide)]
      obtain ⟨m1, h1, gm, hl, htp, kw, kh⟩ := h.cpy hD hn e
      have x1 := x.cpy h hn e hc gm
      have hv := h.hv
      have hse := h.se
      have htp0 := h.tp
      obtain ⟨t1, t2, t3⟩ := h.top_free
      have gw := cpy_gw h hn e
      have hnt : n ≠ A.top := fun c => by rw [c] at e; exact t2 e
      have h3 : g m1 n = 3 := by rw [gm n hn, if_neg hnt, if_pos rfl]
      have eft : isFw (9223372036854775808 + A.top) = true := by
        have := h.rm; have := S2_0 A.ws m A.ws.length
        exact decide_eq_true (by omega)
      have en : g (A.cpy n).ws n = 9223372036854775808 + A.top := by rw [gw n hn, if_pos rfl]
      have ef : fw (g (A.cpy n).ws n) = A.top := by unfold fw; rw [en, if_pos eft]; omega
      have ew : (A.cpy n).where_ n = A.top := by
        unfold Ar.where_; rw [if_pos (by show isFw (g (A.cpy n).ws n) = true; rw [en]; exact eft)]; exact ef
      rw [e2]
      refine ⟨m1, h1, ⟨fun q hq c => ?_, fun q hq c => ?_, kw, kh, htp, hl, rfl, rfl, rfl, rfl, rfl, rfl, rfl⟩, fun _ => ⟨by dsimp only; omega, ?_, fun j a b => ?_⟩, fun c => absurd ht c, x1, fun q hq c => ?_, fun _ _ => ⟨h3, ef⟩⟩
      · rw [gm q hq]; split
        · omega
        · split
          · omega
          · exact c
      · rw [gm q hq]; split
        · rfl
        · rw [if_neg (by rintro rfl; omega)]; exact c
      · dsimp only; rw [gm _ (by omega), if_pos rfl]
      · have hk := kh n j hn (by omega) a b
        rw [ew] at hk; exact hk
      · have hth := h.thr q hq c
        refine ⟨?_, ?_⟩
        · rw [gm q hq, if_neg (fun d => by rw [d] at c; exact t3 c), if_neg (fun d => by rw [d] at c; omega)]; exact c
        · have hm2 := S2_mem (ws := A.ws) hn e A.ws.length (by have := h.lt hn (by omega); omega)
          have := h.rm
          dsimp only
          rw [gw q hq, if_neg (fun d => by rw [d] at c; omega), if_neg (by omega)]
    · have h3 := h.thr n hn e
      have e2 : A.fwd t n = (A, fw (g A.ws n)) := by unfold Ar.fwd; rw [if_pos ⟨ht, h.inTo0 hn (.inr e)⟩, if_pos h3.2.2.1]
      have ew : A.where_ n = fw (g A.ws n) := by unfold Ar.where_; rw [if_pos (show isFw (g A.ws n) = true from h3.2.2.1)]
      rw [e2]
      exact ⟨m, h, Kp.rfl', fun _ => ⟨(fwR _).1, h3.2.2.2, fun j _ _ => by rw [ew]⟩, fun c => absurd ht c, x, fun q _ c => ⟨c, rfl⟩, fun _ _ => ⟨e, rfl⟩⟩
  · have e2 : A.fwd t n = (A, n) := by unfold Ar.fwd; rw [if_neg (fun c => ht c.1)]
    rw [e2]
    exact ⟨m, h, Kp.rfl', fun c => absurd c ht, fun _ => rfl, x, fun q _ c => ⟨c, rfl⟩, fun c => absurd c ht⟩
/-- none of an object's slots is a reference -/
def Pure (A : Ar) (p : Int) : Prop := ∀ q : Int, q ∈ slots (hk (g A.ws p)) (hs (g A.ws p)) → isRef (rvT A.ws (p + q)) = false
/-- what stays of the objects of the half in use -/
structure Kx (A : Ar) (m : List Int) (A' : Ar) (m' : List Int) : Prop where
  k1 : ∀ p : Int, 0 ≤ p → g m p = 1 → g m' p = 1 ∧ g A'.ws p = g A.ws p
  kp : ∀ p : Int, 0 ≤ p → g m p = 1 → Pure A p → ∀ j : Int, 0 ≤ j → j ≤ hs (g A.ws p) → g A'.ws (p + j) = g A.ws (p + j)
  vs : A'.vs = A.vs
  sr : A'.serial = A.serial
theorem Kx.refl : Kx A m A m := ⟨fun _ _ e => ⟨e, rfl⟩, fun _ _ _ _ _ _ _ => rfl, rfl, rfl⟩
theorem Pure.congr {A' : Ar} {p p' : Int} (h : Pure A p) (hok : hOk (g A.ws p) = true) (e : ∀ j : Int, 0 ≤ j → j ≤ hs (g A.ws p) → g A'.ws (p' + j) = g A.ws (p + j)) : Pure A' p' := by
  intro q hq
  have e0 : g A'.ws p' = g A.ws p := by have := e 0 (by omega) (hs0 _); simpa using this
  rw [e0] at hq
  have hqr := slotsR hok hq
  obtain ⟨r1, r2, r3⟩ := rv_congr (ws := A.ws) (ws' := A'.ws) (a := p + q) (b := p' + q) (e q (by omega) (by omega)) (by rw [Int.add_assoc, Int.add_assoc]; exact e (q + 1) (by omega) (by omega))
  rw [r2]; exact h q hq
theorem Kx.trans {A1 A2 : Ar} {m1 m2 : List Int} (hok : ∀ p : Int, 0 ≤ p → g m p = 1 → hOk (g A.ws p) = true) (a : Kx A m A1 m1) (b : Kx A1 m1 A2 m2) : Kx A m A2 m2 := by
  refine ⟨fun p hp e => ?_, fun p hp e hpu j h0 h1 => ?_, b.vs.trans a.vs, b.sr.trans a.sr⟩
  · obtain ⟨c, d⟩ := a.k1 p hp e
    obtain ⟨c', d'⟩ := b.k1 p hp c
    exact ⟨c', d'.trans d⟩
  · obtain ⟨c, d⟩ := a.k1 p hp e
    have hk := a.kp p hp e hpu
    exact (b.kp p hp c (hpu.congr (hok p hp e) hk) j h0 (by rw [d]; exact h1)).trans (hk j h0 h1)
theorem Kp.kx (h : Kp A m B m') : Kx A m B m' :=
  ⟨fun p hp e => ⟨h.k1 p hp e, by have := h.kw p 0 hp e (by omega) (hs0 _); simpa using this⟩, fun p hp e _ j a b => h.kw p j hp e a b, h.vs, h.sr⟩
/-- a slot of the object at Scan is gone over -/
theorem SL.stepX {i : Int} (h : SL A B m i) (x : TX B m) (hc : A.cyc = true) (h0 : 0 ≤ i) (h1 : i < (A.sls.length : Int)) : ∃ m'', SL A (B.fwS (A.scan + g A.sls i)) m'' (i + 1) ∧ TX (B.fwS (A.scan + g A.sls i)) m'' ∧ Kx B m (B.fwS (A.scan + g A.sls i)) m'' := by
  obtain ⟨hr, hq, hl⟩ := h.slot h0 h1
  have hm := g_mem h0 h1
  have hp0 : 0 ≤ A.scan := by rw [← h.sc]; exact h.gi.s0
  obtain ⟨m2, g2, kp, c1, c2, x2, -, -⟩ := x.fwd h.gi (h.cy.trans hc) (h.hD (by omega)) hl
  obtain ⟨e1, e2, e3, e4, e5, e6, e7⟩ := fwd_same (A := B) (rvT B.ws (A.scan + g A.sls i)) (rvN B.ws (A.scan + g A.sls i))
  have hb := h.hw
  have w0 : g (B.fwd (rvT B.ws (A.scan + g A.sls i)) (rvN B.ws (A.scan + g A.sls i))).1.ws A.scan = g A.ws A.scan := by
    have := kp.kw A.scan 0 hp0 h.k1 (by omega) (hs0 _)
    rw [← hb]; simpa using this
  have wq : ∀ j : Int, 0 ≤ j → j ≤ hs (g A.ws A.scan) → g (B.fwd (rvT B.ws (A.scan + g A.sls i)) (rvN B.ws (A.scan + g A.sls i))).1.ws (A.scan + j) = g B.ws (A.scan + j) := fun j a b => kp.kw A.scan j hp0 h.k1 a (by rw [hb]; exact b)
  obtain ⟨r1, r2, r3⟩ := rv_congr (wq (g A.sls i) (by omega) (by omega)) (by rw [Int.add_assoc]; exact wq (g A.sls i + 1) (by omega) (by omega))
  have hmem : g A.sls i ∈ slots (hk (g (B.fwd (rvT B.ws (A.scan + g A.sls i)) (rvN B.ws (A.scan + g A.sls i))).1.ws A.scan)) (hs (g (B.fwd (rvT B.ws (A.scan + g A.sls i)) (rvN B.ws (A.scan + g A.sls i))).1.ws A.scan)) := by rw [w0, ← sls_eq h.ok]; exact hm
  have hset := g2.setS (p := A.scan) (q := g A.sls i) (n' := (B.fwd (rvT B.ws (A.scan + g A.sls i)) (rvN B.ws (A.scan + g A.sls i))).2) hp0 (kp.k1 _ hp0 h.k1) hmem
    (by
      rw [r2]
      intro hr'
      obtain ⟨x1, x2, x3⟩ := c1 hr'
      refine ⟨x1, x2, ?_⟩
      have x4 := x3 0 (by omega) (hs0 _)
      rw [Int.add_zero, Int.add_zero] at x4
      rw [x4]
      exact (h.gi.slk A.scan (g A.sls i) hp0 (.inl h.k1) (by rw [hb, ← sls_eq h.ok]; exact hm)).2 hr') (by rw [r2, r3]; exact c2)
  have xset := x2.setS g2 (p := A.scan) (q := g A.sls i) (n' := (B.fwd (rvT B.ws (A.scan + g A.sls i)) (rvN B.ws (A.scan + g A.sls i))).2) hp0 (kp.k1 _ hp0 h.k1) hmem
  have ht := kp.tp
  have hln := kp.ln
  have hkx := kp.kx
  have hwf := h.gi.wf
  have hrB := hr
  have hlt := (g2.lt hp0 (by rw [kp.k1 _ hp0 h.k1]; omega)).2
  have hln2 := g2.ln
  have hone := g2.one _ hp0 (kp.k1 _ hp0 h.k1)
  have hv := g2.hv
  have hrm := g2.rm
  have hS0 := S2_0 (B.fwd (rvT B.ws (A.scan + g A.sls i)) (rvN B.ws (A.scan + g A.sls i))).1.ws m2 (B.fwd (rvT B.ws (A.scan + g A.sls i)) (rvN B.ws (A.scan + g A.sls i))).1.ws.length
  rw [w0] at hone
  have hpure : Pure B A.scan → (B.fwd (rvT B.ws (A.scan + g A.sls i)) (rvN B.ws (A.scan + g A.sls i))).2 = rvN B.ws (A.scan + g A.sls i) := fun hp => c2 (by
    have := hp (g A.sls i) (by rw [hb, ← sls_eq h.ok]; exact hm)
    rw [this]; decide)
  have hdis : ∀ p : Int, 0 ≤ p → g m p = 1 → p ≠ A.scan → ∀ j : Int, 0 ≤ j → j ≤ hs (g B.ws p) → p + j ≠ A.scan + g A.sls i + 1 := fun p hp e hne j a b => by
    rcases Int.lt_or_le p A.scan with c | c
    · have := h.gi.dis p A.scan hp c (.inl ⟨e, h.k1⟩); omega
    · have := h.gi.dis A.scan p hp0 (by omega) (.inl ⟨h.k1, e⟩)
      rw [hb] at this
      omega
  unfold Ar.fwS
  generalize hF : (B.fwd (rvT B.ws (A.scan + g A.sls i)) (rvN B.ws (A.scan + g A.sls i))) = F at *
  have gset : ∀ j : Int, 0 ≤ j → g (F.1.ws.set (A.scan + g A.sls i + 1).toNat (w64 F.2)) j = if j = A.scan + g A.sls i + 1 then w64 F.2 else g F.1.ws j := fun j hj => g_set (by omega) (by omega) hj
  refine ⟨m2, ⟨hset.mono ?_, kp.k1 _ hp0 h.k1, ?_, by have := h.sz; dsimp only; omega, h.ok, by dsimp only; rw [List.length_set, hln, h.ln], e1.trans h.to, e2.trans h.se, e3.trans h.cy, e4.trans h.sc, e5.trans h.ol, e6.trans h.sr, e7.trans h.vs⟩, xset, ⟨fun p hp e => ?_, fun p hp e hpu j a b => ?_, e7, e6⟩⟩
  · rintro p q - - - (d | ⟨j, a, b, d⟩)
    · exact .inl (.inl d)
    · by_cases c : j = i
      · subst c; exact .inr d
      · exact .inl (.inr ⟨j, a, by omega, d⟩)
  · dsimp only
    rw [gset _ hp0, if_neg (by omega), w0]
  · obtain ⟨a, b⟩ := hkx.k1 p hp e
    refine ⟨a, ?_⟩
    dsimp only
    rw [gset p hp, if_neg ?_]
    · exact b
    · by_cases c : p = A.scan
      · omega
      · have := hdis p hp e c 0 (by omega) (hs0 _); simpa using this
  · dsimp only
    rw [gset _ (by omega)]
    by_cases c : p = A.scan
    · subst c
      split
      · rename_i d
        rw [hpure hpu, d]
        have := (rv_w64 hwf hrB).2
        exact this
      · exact hkx.kp _ hp e hpu j a b
    · rw [if_neg (hdis p hp e c j a b)]
      exact hkx.kp p hp e hpu j a b
theorem fwI_allX : ∀ (f : Nat) (i : Int) (B : Ar) (m' : List Int), SL A B m' i → TX B m' → A.cyc = true → 0 ≤ i → i ≤ (A.sls.length : Int) → (A.sls.length : Int) - i < (f : Int) → ∃ m'', SL A (Ar.fwI A.scan A.sls f i B) m'' (A.sls.length : Int) ∧ TX (Ar.fwI A.scan A.sls f i B) m'' ∧ Kx B m' (Ar.fwI A.scan A.sls f i B) m'' := by
  intro f
  induction f with
  | zero => intro i B m' _ _ _ _ _ h; omega
  | succ f ih =>
    intro i B m' h x hc h0 h1 h2
    rw [Ar.fwI]
    split
    · rename_i c
      obtain ⟨m2, g2, x2, k2⟩ := h.stepX x hc h0 c
      obtain ⟨m3, g3, x3, k3⟩ := ih _ _ _ g2 x2 hc (by omega) (by omega) (by omega)
      exact ⟨m3, g3, x3, Kx.trans (fun p hp e => (h.gi.one p hp e).2.1) k2 k3⟩
    · rename_i c
      have : i = (A.sls.length : Int) := by omega
      subst this; exact ⟨m', h, x, Kx.refl⟩
theorem SI.fwOX (h : SI A m) (x : TX A m) (hc : A.cyc = true) (hs : A.scan ≠ A.top) : ∃ m', SI A.fwO m' ∧ TX A.fwO m' ∧ Kx A m A.fwO m' ∧ A.scan + 2 ≤ A.fwO.scan ∧ A.fwO.to = A.to ∧ A.fwO.semi = A.semi := by
  obtain ⟨m2, g2, x2, k2⟩ := fwI_allX (A.sls.length + 1) 0 A m (SL.zero h hc hs) x hc (by omega) (by omega) (by omega)
  have hd := g2.done hc
  have hh := hsR _ g2.ok
  have hrs := (rsR' g2.ok).2.2.1
  have hcy : (Ar.fwI A.scan A.sls (A.sls.length + 1) 0 A).cyc = true := g2.cy.trans hc
  refine ⟨m2, hd, ?_, ⟨k2.k1, k2.kp, k2.vs, k2.sr⟩, by unfold Ar.fwO; dsimp only; omega, g2.to, g2.se⟩
  exact { x2 with cf := fun c => by have c : (Ar.fwI A.scan A.sls (A.sls.length + 1) 0 A).cyc = false := c; rw [hcy] at c; cases c }
theorem Kx.over (h : Kx A m B m') : Kx A m B.over m' := by
  obtain ⟨o1, o2, o3, o4, o5⟩ := over_same (A := B)
  refine ⟨fun p hp e => ?_, fun p hp e hpu j a b => ?_, o4.trans h.vs, ?_⟩
  · rw [o3]; exact h.k1 p hp e
  · rw [o3]; exact h.kp p hp e hpu j a b
  · unfold Ar.over; split <;> exact h.sr
theorem stp_allX : ∀ (f : Nat) (A : Ar) (m : List Int) (d n : Int), SI A m → TX A m → (A.cyc = true → A.scan ≠ A.top) → ∃ m', SI (Ar.stp f A d n).1 m' ∧ TX (Ar.stp f A d n).1 m' ∧ Kx A m (Ar.stp f A d n).1 m' := by
  intro f
  induction f with
  | zero => intro A m d n h x hs; exact ⟨m, h, x, Kx.refl⟩
  | succ f ih =>
    intro A m d n h x hs
    rw [Ar.stp]
    by_cases hc : A.cyc = true ∧ d < n
    · rw [if_pos hc]
      obtain ⟨m2, g2, x2, k2, -⟩ := h.fwOX x hc.1 (hs hc.1)
      obtain ⟨m3, g3, x3, k3⟩ := ih A.fwO.over m2 (d + 1) n g2.over x2.over (fun c => by obtain ⟨a, b⟩ := over_ne c; rw [a]; exact b)
      exact ⟨m3, g3, x3, Kx.trans (fun p hp e => (h.one p hp e).2.1) k2.over k3⟩
    · rw [if_neg hc]; exact ⟨m, h, x, Kx.refl⟩
/-- two arenas whose Roots lead to the same -/
structure RR (A A' : Ar) : Prop where
  vl : A'.vs.length = A.vs.length
  tg : ∀ i : Int, 0 ≤ i → i < (A.vs.length : Int) → rT A' i = rT A i
  nr : ∀ i : Int, 0 ≤ i → i < (A.vs.length : Int) → isRef (rT A i) ≠ true → rN A' i = rN A i
  hd : ∀ i : Int, 0 ≤ i → i < (A.vs.length : Int) → isRef (rT A i) = true → g A'.ws (rN A' i) = g A.ws (rN A i)
  cn : ∀ i : Int, 0 ≤ i → i < (A.vs.length : Int) → isRef (rT A i) = true → Pure A (rN A i) → Pure A' (rN A' i) ∧ ∀ j : Int, 0 ≤ j → j ≤ hs (g A.ws (rN A i)) → g A'.ws (rN A' i + j) = g A.ws (rN A i + j)
  ij : ∀ i j : Int, 0 ≤ i → i < (A.vs.length : Int) → 0 ≤ j → j < (A.vs.length : Int) → isRef (rT A i) = true → isRef (rT A j) = true → rN A' i = rN A' j → rN A i = rN A j
  sr : A'.serial = A.serial
theorem RR.refl : RR A A := ⟨rfl, fun _ _ _ => rfl, fun _ _ _ _ => rfl, fun _ _ _ _ => rfl, fun _ _ _ _ h => ⟨h, fun _ _ _ => rfl⟩, fun _ _ _ _ _ _ _ _ e => e, rfl⟩
theorem RR.trans {A1 A2 : Ar} (a : RR A A1) (b : RR A1 A2) : RR A A2 := by
  have l1 : ∀ i : Int, i < (A.vs.length : Int) → i < (A1.vs.length : Int) := fun i h => by rw [a.vl]; exact h
  refine ⟨b.vl.trans a.vl, fun i h0 h1 => (b.tg i h0 (l1 i h1)).trans (a.tg i h0 h1), fun i h0 h1 hr => ?_, fun i h0 h1 hr => ?_, fun i h0 h1 hr hp => ?_, fun i j h0 h1 g0 g1 hr gr e => ?_, b.sr.trans a.sr⟩
  · exact (b.nr i h0 (l1 i h1) (by rw [a.tg i h0 h1]; exact hr)).trans (a.nr i h0 h1 hr)
  · exact (b.hd i h0 (l1 i h1) (by rw [a.tg i h0 h1]; exact hr)).trans (a.hd i h0 h1 hr)
  · obtain ⟨p1, c1⟩ := a.cn i h0 h1 hr hp
    obtain ⟨p2, c2⟩ := b.cn i h0 (l1 i h1) (by rw [a.tg i h0 h1]; exact hr) p1
    refine ⟨p2, fun j x y => (c2 j x ?_).trans (c1 j x y)⟩
    rw [a.hd i h0 h1 hr]; exact y
  · exact a.ij i j h0 h1 g0 g1 hr gr (b.ij i j h0 (l1 i h1) g0 (l1 j g1) (by rw [a.tg i h0 h1]; exact hr) (by rw [a.tg j g0 g1]; exact gr) e)
theorem Kx.rr (h : SI A m) (x : Kx A m B m') : RR A B := by
  have eT : ∀ i, rT B i = rT A i := fun i => by show (B.vs.getD _ _).1 = _; rw [x.vs]
  have eN : ∀ i, rN B i = rN A i := fun i => by show (B.vs.getD _ _).2 = _; rw [x.vs]
  have r1 : ∀ i : Int, 0 ≤ i → i < (A.vs.length : Int) → isRef (rT A i) = true → 0 ≤ rN A i ∧ g m (rN A i) = 1 := fun i h0 h1 hr => by
    have := h.rts i h0 h1 hr
    exact ⟨this.1, this.2.2 h1⟩
  refine ⟨by rw [x.vs], fun i _ _ => eT i, fun i _ _ _ => eN i, fun i h0 h1 hr => ?_, fun i h0 h1 hr hp => ?_, fun i j _ _ _ _ _ _ e => by rw [eN, eN] at e; exact e, x.sr⟩
  · rw [eN]; exact (x.k1 _ (r1 i h0 h1 hr).1 (r1 i h0 h1 hr).2).2
  · have hk := x.kp _ (r1 i h0 h1 hr).1 (r1 i h0 h1 hr).2 hp
    rw [eN]
    exact ⟨hp.congr (h.one _ (r1 i h0 h1 hr).1 (r1 i h0 h1 hr).2).2.1 hk, hk⟩
theorem SI.stpX (h : SI A m) (x : TX A m) (f : Nat) (n : Int) : ∃ m', SI (Ar.stp f A.over 0 n).1 m' ∧ TX (Ar.stp f A.over 0 n).1 m' ∧ RR A (Ar.stp f A.over 0 n).1 := by
  obtain ⟨m3, g3, x3, k3⟩ := stp_allX f A.over m 0 n h.over x.over (fun c => by obtain ⟨a, b⟩ := over_ne c; rw [a]; exact b)
  have k0 : Kx A m A.over m := Kx.over Kx.refl
  exact ⟨m3, g3, x3, Kx.rr h (Kx.trans (fun p hp e => (h.one p hp e).2.1) k0 k3)⟩
end Go.Proofs.Ytepddopgmhdllaa.Eng
namespace Go.Proofs.Ytepddopgmhdllaa.Eng
open Go Go.RowKit Go.Proofs.Ytepddopgmhdllaa.Sl Go.Proofs.Ytepddopgmhdllaa.Ar Go.Proofs.Ytepddopgmhdllaa.Base
set_option linter.unusedVariables false
set_option linter.unusedSimpArgs false
variable {A B : Ar} {m m' : List Int} {k : Int} {D : Int → Prop}
structure RLX (A : Ar) (m : List Int) (B : Ar) (m' : List Int) (i : Int) : Prop where
  rl : RL A.fl0 B m' i
  tx : TX B m'
  tg : ∀ j : Int, 0 ≤ j → j < (A.vs.length : Int) → rT B j = rT A j
  nr : ∀ j : Int, 0 ≤ j → j < (A.vs.length : Int) → isRef (rT A j) ≠ true → rN B j = rN A j
  un : ∀ j : Int, i ≤ j → 0 ≤ j → j < (A.vs.length : Int) → rN B j = rN A j
  pr : ∀ j : Int, 0 ≤ j → j < i → j < (A.vs.length : Int) → isRef (rT A j) = true → g m' (rN A j) = 3 ∧ fw (g B.ws (rN A j)) = rN B j
  kh : ∀ r : Int, 0 ≤ r → g m r = 1 → g m' r ≠ 0 ∧ ∀ j : Int, 0 ≤ j → j ≤ hs (g A.ws r) → g B.ws (B.where_ r + j) = g A.ws (r + j)
  sr : B.serial = A.serial
theorem RLX.zero (h : SI A m) (x : TX A m) (hc : A.cyc = false) : RLX A m A.fl0 (flM m) 0 := by
  refine ⟨RL.zero h hc, x.fl0 h hc, fun _ _ _ => rfl, fun _ _ _ _ => rfl, fun _ _ _ _ => rfl, fun j a b => by omega, fun r hr e => ⟨by rw [g_flM, if_pos e]; omega, fun j _ _ => ?_⟩, rfl⟩
  have ew : A.fl0.where_ r = r := by unfold Ar.where_; rw [if_neg (by show ¬ isFw (g A.ws r) = true; rw [hOk_fw (h.one r hr e).2.1]; decide)]
  rw [ew]; rfl
theorem RLX.step {i : Int} (h : RLX A m B m' i) (hs : SI A m) (h0 : 0 ≤ i) (h1 : i < (A.vs.length : Int)) : ∃ m'', RLX A m (B.fwR i) m'' (i + 1) := by
  have hrl := h.rl
  have hv : B.vs.length = A.vs.length := hrl.vl
  have hr := fun hr => (hrl.gi.rts i h0 (by omega) hr)
  obtain ⟨m2, g2, kp, c1, c2, x2, q3, f3⟩ := h.tx.fwd hrl.gi hrl.cy (fun x hx => by have := hrl.tp; omega) (t := rT B i) (n := rN B i) (fun hk => ⟨(hr hk).1, (hr hk).2.1⟩)
  obtain ⟨e1, e2, e3, e4, e5, e6, e7⟩ := fwd_same (A := B) (rT B i) (rN B i)
  have hg : ∀ j : Int, 0 ≤ j → (B.fwR i).vs.getD j.toNat (0, 0) = if j = i then (rT B i, (B.fwd (rT B i) (rN B i)).2) else B.vs.getD j.toNat (0, 0) := fun j hj => getD_set2 h0 (by omega) hj
  have hvl : (B.fwR i).vs.length = B.vs.length := List.length_set
  have eTi : rT (B.fwR i) i = rT B i := by show ((B.fwR i).vs.getD i.toNat (0, 0)).1 = _; rw [hg i h0, if_pos rfl]
  have eNi : rN (B.fwR i) i = (B.fwd (rT B i) (rN B i)).2 := by show ((B.fwR i).vs.getD i.toNat (0, 0)).2 = _; rw [hg i h0, if_pos rfl]
  have eTj : ∀ j : Int, 0 ≤ j → j ≠ i → rT (B.fwR i) j = rT B j := fun j hj c => by show ((B.fwR i).vs.getD j.toNat (0, 0)).1 = _; rw [hg j hj, if_neg c]
  have eNj : ∀ j : Int, 0 ≤ j → j ≠ i → rN (B.fwR i) j = rN B j := fun j hj c => by show ((B.fwR i).vs.getD j.toNat (0, 0)).2 = _; rw [hg j hj, if_neg c]
  have eT : ∀ j : Int, 0 ≤ j → rT (B.fwR i) j = rT B j := fun j hj => by
    by_cases c : j = i
    · subst c; exact eTi
    · exact eTj j hj c
  have hrts : ∀ j : Int, 0 ≤ j → j < ((B.fwR i).vs.length : Int) → isRef (rT (B.fwR i) j) = true → 0 ≤ rN (B.fwR i) j ∧ g m2 (rN (B.fwR i) j) ≠ 0 ∧ (j < i + 1 → g m2 (rN (B.fwR i) j) = 1) := by
    intro j j0 j1 hk
    rw [eT j j0] at hk
    by_cases c : j = i
    · subst c
      have := c1 hk
      rw [eNi]
      exact ⟨this.1, by omega, fun _ => this.2.1⟩
    · rw [hvl] at j1
      obtain ⟨s3, s4, s5⟩ := hrl.gi.rts j j0 j1 hk
      rw [eNj j j0 c]
      exact ⟨s3, kp.k0 _ s3 s4, fun d => kp.k1 _ s3 (s5 (by omega))⟩
  have hrtk : ∀ j : Int, 0 ≤ j → j < ((B.fwR i).vs.length : Int) → (isRef (rT (B.fwR i) j) = true → hk (g (B.fwR i).ws ((B.fwR i).where_ (rN (B.fwR i) j))) = kd (rT (B.fwR i) j)) ∧ ValP (rT (B.fwR i) j) (rN (B.fwR i) j) ∧ rT (B.fwR i) j ≠ 8 := by
    intro j j0 j1
    by_cases c : j = i
    · subst c
      obtain ⟨s1, s2, s3⟩ := hrl.gi.rtk j h0 (by omega)
      rw [eTi, eNi]
      refine ⟨fun hk1 => ?_, ?_, s3⟩
      · obtain ⟨x1, x2, x3⟩ := c1 hk1
        have x4 := x3 0 (by omega) (hs0 _)
        rw [Int.add_zero, Int.add_zero] at x4
        have ew : (B.fwR j).where_ (B.fwd (rT B j) (rN B j)).2 = (B.fwd (rT B j) (rN B j)).2 := by
          unfold Ar.where_; rw [if_neg (by show ¬ isFw (g (B.fwd (rT B j) (rN B j)).1.ws _) = true; rw [hOk_fw (g2.one _ x1 x2).2.1]; decide)]
        rw [ew]
        show hk (g (B.fwd (rT B j) (rN B j)).1.ws _) = _
        rw [x4]; exact s1 hk1
      · by_cases hk1 : isRef (rT B j) = true
        · obtain ⟨x1, x2, -⟩ := c1 hk1
          have := (g2.lt x1 (by omega)).1
          have hk := kindOf_ne.1 (of_decide_eq_true (show decide (kd _ ≠ 0) = true from hk1))
          unfold ValP at s2 ⊢
          omega
        · rw [c2 hk1]; exact s2
    · rw [hvl] at j1
      obtain ⟨s1, s2, s3⟩ := hrl.gi.rtk j j0 j1
      rw [eTj j j0 c, eNj j j0 c]
      refine ⟨fun hk1 => ?_, s2, s3⟩
      obtain ⟨s4, s5, -⟩ := hrl.gi.rts j j0 j1 hk1
      have x4 := kp.kh _ 0 s4 s5 (by omega) (hs0 _)
      rw [Int.add_zero, Int.add_zero] at x4
      exact (congrArg hk x4).trans (s1 hk1)
  refine ⟨m2, ⟨{ g2 with rts := hrts, rtk := hrtk }, e3.trans hrl.cy, e4.trans hrl.sc, kp.ln.trans hrl.ln, by rw [hvl]; exact hrl.vl, e1.trans hrl.to, e2.trans hrl.se, by have := kp.tp; have := hrl.tp; show A.fl0.scan ≤ (B.fwd (rT B i) (rN B i)).1.top; omega⟩, ⟨x2.st, x2.cf, x2.od, x2.c0, x2.ce, x2.s2, x2.c2, x2.c3, x2.ij, x2.sr, x2.su, x2.l2, x2.co, x2.dj⟩, fun j a b => (eT j a).trans (h.tg j a b), fun j a b hn => ?_, fun j a b c => ?_, fun j a b c hk => ?_, fun r a e => ?_, e6.trans h.sr⟩
  · by_cases c : j = i
    · subst c; rw [eNi, c2 (by rw [h.tg j a b]; exact hn)]; exact h.nr j a b hn
    · rw [eNj j a c]; exact h.nr j a b hn
  · rw [eNj j b (by omega)]; exact h.un j (by omega) b c
  · by_cases d : j = i
    · subst d
      have hkB : isRef (rT B j) = true := by rw [h.tg j a c]; exact hk
      have hun := h.un j (Int.le_refl _) a c
      have hroot := hs.rts j a c hk
      have hm1 : g m (rN A j) = 1 := hroot.2.2 c
      have hne := (h.kh _ hroot.1 hm1).1
      have ho := hs.one _ hroot.1 hm1
      have hv := hs.hv
      have hse := hs.se
      have hrm := hs.rm
      have hS0 := S2_0 A.ws m A.ws.length
      have hh := hs0 (g A.ws (rN A j))
      have h23 : g m' (rN B j) = 2 ∨ g m' (rN B j) = 3 := by
        rw [hun]
        rcases hrl.gi.of _ hroot.1 with e | e | e | e
        · exact absurd e hne
        · exfalso
          have o := hrl.gi.one _ hroot.1 e
          have hto : B.to = 1 - A.to := hrl.to
          have hsm : B.semi = A.semi := hrl.se
          have hv2 := hrl.gi.hv
          have hr2 := hrl.gi.rm
          have hS2 := S2_0 B.ws m' B.ws.length
          have hh2 := hs0 (g B.ws (rN A j))
          have e1 : B.to * B.semi = (1 - A.to) * A.semi := by rw [hto, hsm]
          have e2 : (B.to + 1) * B.semi = (2 - A.to) * A.semi := by rw [hto, hsm, show 1 - A.to + 1 = 2 - A.to by omega]
          omega
        · exact .inl e
        · exact .inr e
      obtain ⟨p1, p2⟩ := f3 hkB h23
      rw [hun] at p1 p2
      rw [eNi]
      refine ⟨p1, ?_⟩
      show fw (g (B.fwd (rT B j) (rN B j)).1.ws (rN A j)) = _
      rw [hun]
      exact p2
    · obtain ⟨p1, p2⟩ := h.pr j a (by omega) c hk
      have hroot := hs.rts j a c hk
      obtain ⟨p3, p4⟩ := q3 _ hroot.1 p1
      refine ⟨p3, ?_⟩
      rw [eNj j a d]
      show fw (g (B.fwd (rT B i) (rN B i)).1.ws (rN A j)) = _
      rw [p4]; exact p2
  · obtain ⟨p1, p2⟩ := h.kh r a e
    have p0 := p2 0 (by omega) (hs0 _)
    rw [Int.add_zero, Int.add_zero] at p0
    refine ⟨kp.k0 _ a p1, fun j j0 j1 => ?_⟩
    exact (kp.kh r j a p1 j0 (by rw [p0]; exact j1)).trans (p2 j j0 j1)
theorem flR_allX (hs : SI A m) : ∀ (f : Nat) (i : Int) (B : Ar) (m' : List Int), RLX A m B m' i → 0 ≤ i → i ≤ (A.vs.length : Int) → (A.vs.length : Int) - i < (f : Int) → ∃ m'', RLX A m (Ar.flR f i B) m'' (A.vs.length : Int) := by
  intro f
  induction f with
  | zero => intro i B m' _ _ _ h; omega
  | succ f ih =>
    intro i B m' h h0 h1 h2
    have hvl : B.vs.length = A.vs.length := h.rl.vl
    rw [Ar.flR]
    split
    · rename_i c
      obtain ⟨m2, g2⟩ := h.step hs h0 (by omega)
      exact ih _ _ _ g2 (by omega) (by omega) (by omega)
    · rename_i c
      have : i = (A.vs.length : Int) := by omega
      subst this; exact ⟨m', h⟩
theorem RR.over {B : Ar} (h : RR A B) : RR A B.over := by
  obtain ⟨o1, o2, o3, o4, o5⟩ := over_same (A := B)
  have eT : ∀ i, rT B.over i = rT B i := fun i => by show (B.over.vs.getD _ _).1 = _; rw [o4]
  have eN : ∀ i, rN B.over i = rN B i := fun i => by show (B.over.vs.getD _ _).2 = _; rw [o4]
  have hp : ∀ p, Pure B p → Pure B.over p := fun p h => by unfold Pure at *; rw [o3]; exact h
  refine ⟨by rw [o4]; exact h.vl, fun i a b => by rw [eT]; exact h.tg i a b, fun i a b c => by rw [eN]; exact h.nr i a b c, fun i a b c => by rw [eN, o3]; exact h.hd i a b c, fun i a b c d => ?_, fun i j a b c d e f x => by rw [eN, eN] at x; exact h.ij i j a b c d e f x, ?_⟩
  · obtain ⟨p1, p2⟩ := h.cn i a b c d
    rw [eN, o3]; exact ⟨hp _ p1, p2⟩
  · unfold Ar.over; split <;> exact h.sr
theorem SI.flipX (h : SI A m) (x : TX A m) (hc : A.cyc = false) : ∃ m', SI A.flip m' ∧ TX A.flip m' ∧ RR A A.flip := by
  obtain ⟨m2, g2⟩ := flR_allX h (A.vs.length + 1) 0 A.fl0 _ (RLX.zero h x hc) (by omega) (by omega) (by omega)
  have hvl : (Ar.flR (A.vs.length + 1) 0 A.fl0).vs.length = A.vs.length := g2.rl.vl
  refine ⟨m2, g2.rl.done.over, g2.tx.over, RR.over ?_⟩
  have place : ∀ i : Int, 0 ≤ i → i < (A.vs.length : Int) → isRef (rT A i) = true → 0 ≤ rN A i ∧ g m (rN A i) = 1 ∧ (Ar.flR (A.vs.length + 1) 0 A.fl0).where_ (rN A i) = rN (Ar.flR (A.vs.length + 1) 0 A.fl0) i := by
    intro i a b hr
    have hroot := h.rts i a b hr
    obtain ⟨p1, p2⟩ := g2.pr i a b b hr
    have ht := g2.rl.gi.thr _ hroot.1 p1
    refine ⟨hroot.1, hroot.2.2 b, ?_⟩
    unfold Ar.where_; rw [if_pos (show isFw (g _ (rN A i)) = true from ht.2.2.1)]
    exact p2
  refine ⟨hvl, g2.tg, g2.nr, fun i a b hr => ?_, fun i a b hr hp => ?_, fun i j a b c d hr hr' e => ?_, g2.sr⟩
  · obtain ⟨p1, p2, p3⟩ := place i a b hr
    have := (g2.kh _ p1 p2).2 0 (by omega) (hs0 _)
    rw [p3] at this; simpa using this
  · obtain ⟨p1, p2, p3⟩ := place i a b hr
    have := (g2.kh _ p1 p2).2
    rw [p3] at this
    exact ⟨hp.congr (h.one _ p1 p2).2.1 this, this⟩
  · obtain ⟨p1, p2⟩ := g2.pr i a b b hr
    obtain ⟨q1, q2⟩ := g2.pr j c d d hr'
    exact g2.tx.ij _ _ (h.rts i a b hr).1 (h.rts j c d hr').1 p1 q1 (by rw [p2, q2, e])
theorem SI.finX (h : SI A m) (x : TX A m) : ∃ m', SI A.fin.1 m' ∧ TX A.fin.1 m' ∧ RR A A.fin.1 ∧ A.fin.1.cyc = false := by
  obtain ⟨m1, h1, x1, r1⟩ := h.stpX x 8001 8000
  obtain ⟨m2, h2, c2, -⟩ := h.fin
  exact ⟨m1, h1, x1, r1, c2⟩
theorem SI.colX (h : SI A m) (x : TX A m) : ∃ m', SI A.col m' ∧ TX A.col m' ∧ RR A A.col ∧ A.col.cyc = false := by
  obtain ⟨m1, h1, x1, r1, c1⟩ := h.finX x
  obtain ⟨m2, h2, x2, r2⟩ := h1.flipX x1 c1
  obtain ⟨m3, h3, x3, r3, c3⟩ := h2.finX x2
  exact ⟨m3, h3, x3, (r1.trans r2).trans r3, c3⟩
end Go.Proofs.Ytepddopgmhdllaa.Eng
namespace Go.Proofs.Ytepddopgmhdllaa.Eng
open Go Go.RowKit Go.Proofs.Ytepddopgmhdllaa.Sl Go.Proofs.Ytepddopgmhdllaa.Ar Go.Proofs.Ytepddopgmhdllaa.Base
set_option linter.unusedVariables false
set_option linter.unusedSimpArgs false
variable {A : Ar} {m : List Int}
theorem S2_stop {ws m : List Int} {y : Int} (hy : 0 ≤ y) (h : ∀ q : Int, y ≤ q → g m q ≠ 2) : ∀ n : Nat, y ≤ (n : Int) → S2 ws m n = S2 ws m y.toNat := by
  intro n
  induction n with
  | zero => intro a; rw [show y.toNat = 0 by omega]
  | succ n ih =>
    intro a
    by_cases e : (n : Int) + 1 = y
    · rw [show y.toNat = n + 1 by omega]
    · rw [S2, if_neg (h n (by omega)), ih (by omega)]; omega
theorem S2_none' {ws m : List Int} {p y : Int} (hp : 0 ≤ p) (h : ∀ q : Int, p ≤ q → q < y → g m q ≠ 2) : ∀ n : Nat, p ≤ (n : Int) → (n : Int) ≤ y → S2 ws m n = S2 ws m p.toNat := by
  intro n
  induction n with
  | zero => intro a _; rw [show p.toNat = 0 by omega]
  | succ n ih =>
    intro a b
    by_cases e : (n : Int) + 1 = p
    · rw [show p.toNat = n + 1 by omega]
    · rw [S2, if_neg (h n (by omega) (by omega)), ih (by omega) (by omega)]; omega
theorem S2_low {ws m : List Int} {x : Int} (hx : 0 ≤ x) (h : ∀ q : Int, 0 ≤ q → q < x → g m q ≠ 2) : ∀ n : Nat, (n : Int) ≤ x → S2 ws m n = 0 := by
  intro n
  induction n with
  | zero => intro _; rfl
  | succ n ih => intro a; rw [S2, if_neg (h n (by omega) (by omega)), ih (by omega)]; rfl
theorem tile1_ok (h : SI A m) (x : TX A m) : ∀ (f : Nat) (p : Int) (mm : List Int), A.to * A.semi + 1 ≤ p → (p = A.top ∨ g m p = 1) → p ≤ A.top → A.top - p < (f : Int) → mm.length = A.ws.length → (∀ q : Int, 0 ≤ q → g mm q = if q < p ∧ g m q = 1 then 1 else 0) →
    ∃ m1, A.tile1 f p mm = some m1 ∧ m1.length = A.ws.length ∧ ∀ q : Int, 0 ≤ q → g m1 q = if g m q = 1 then 1 else 0 := by
  have hv := h.hv
  have hse := h.se
  have hln := h.ln
  intro f
  induction f with
  | zero => intro p mm _ _ a b; omega
  | succ f ih =>
    intro p mm hp hpt hpl hf hl hm
    rw [Ar.tile1]
    by_cases e : p = A.top
    · rw [if_pos e]
      refine ⟨mm, rfl, hl, fun q hq => ?_⟩
      rw [hm q hq]
      by_cases c : g m q = 1
      · have := h.one q hq c
        have := hs0 (g A.ws q)
        rw [if_pos ⟨by omega, c⟩, if_pos c]
      · rw [if_neg (fun d => c d.2), if_neg c]
    · have h1 := hpt.resolve_left e
      obtain ⟨o1, o2, o3, o4⟩ := h.one p (by omega) h1
      have hh := hs0 (g A.ws p)
      have hlt := (GI.lt h (n := p) (by omega) (by omega)).2
      rw [if_neg e, if_pos (show hOk (g A.ws p) = true ∧ p + hs (g A.ws p) + 1 ≤ A.top ∧ hn (g A.ws p) < A.serial from ⟨o2, o3, x.sr p (by omega) (.inl h1)⟩)]
      refine ih (p + hs (g A.ws p) + 1) _ (by omega) o4 o3 (by omega) (by rw [List.length_set]; exact hl) (fun q hq => ?_)
      rw [gset (by omega) (by omega) q hq, hm q hq]
      by_cases c : q = p
      · rw [if_pos c, if_pos ⟨by omega, by rw [c]; exact h1⟩]
      · rw [if_neg c]
        by_cases d : g m q = 1
        · by_cases c2 : q < p
          · rw [if_pos ⟨c2, d⟩, if_pos ⟨by omega, d⟩]
          · have := h.dis p q (by omega) (by omega) (.inl ⟨h1, d⟩)
            rw [if_neg (by omega), if_neg (by omega)]
        · rw [if_neg (fun y => d y.2), if_neg (fun y => d y.2)]
theorem getD_setB {l : List Bool} {i j : Int} (h0 : 0 ≤ i) (h1 : i < (l.length : Int)) (hj : 0 ≤ j) : (l.set i.toNat true).getD j.toNat false = if j = i then true else l.getD j.toNat false := by
  rw [List.getD_eq_getElem?_getD, List.getElem?_set]
  by_cases e : j = i
  · rw [if_pos e, if_pos (by omega), if_pos (by omega)]; rfl
  · rw [if_neg e, if_neg (by omega), ← List.getD_eq_getElem?_getD]
theorem tile2_ok (h : SI A m) (x : TX A m) (hc : A.cyc = true) : ∀ (f : Nat) (p : Int) (mm : List Int) (led : List Bool) (s : Int), (1 - A.to) * A.semi + 1 ≤ p → Nx A m p → A.old - p < (f : Int) → mm.length = A.ws.length → led.length = A.ws.length →
    (∀ q : Int, 0 ≤ q → g mm q = if g m q = 1 then 1 else if q < p then g m q else 0) → (∀ q : Int, 0 ≤ q → (led.getD q.toNat false = true ↔ ∃ r : Int, 0 ≤ r ∧ r < p ∧ g m r = 3 ∧ fw (g A.ws r) = q)) →
    s + S2 A.ws m p.toNat = p - ((1 - A.to) * A.semi + 1) → ∃ m2, A.tile2 f p mm led s = some (m2, A.copied) ∧ m2.length = A.ws.length ∧ ∀ q : Int, 0 ≤ q → g m2 q = g m q := by
  have hv := h.hv
  have hse := h.se
  have hln := h.ln
  have hod := x.od hc
  have ce := x.ce hc
  have hno : ∀ q : Int, A.old ≤ q → g m q ≠ 2 ∧ g m q ≠ 3 := fun q hq => ⟨fun e => by
    have := (x.c2 hc q (by omega) e).1; have := hs0 (g A.ws q); omega, fun e => by
    have := (x.c3 hc q (by omega) e).1; have := hs0 (g A.ws (fw (g A.ws q))); omega⟩
  intro f
  induction f with
  | zero => intro p mm led s _ a b; have := a.1; omega
  | succ f ih =>
    intro p mm led s hp hN hf hl hl2 hm hled hsu
    have hp0 : 0 ≤ p := by omega
    rw [Ar.tile2]
    by_cases e : p = A.old
    · rw [if_pos e]
      have hS := S2_stop (ws := A.ws) (m := m) (y := A.old) (by omega) (fun q hq => (hno q hq).1) A.ws.length (by omega)
      refine ⟨mm, ?_, hl, fun q hq => ?_⟩
      · rw [e] at hsu; congr 2; omega
      · rw [hm q hq]
        by_cases c : g m q = 1
        · rw [if_pos c, c]
        · rw [if_neg c]
          split
          · rfl
          · have := hno q (by omega); have := h.of q hq; omega
    · have hm2 := hN.2.resolve_left e
      have hlt := (GI.lt h (n := p) hp0 (by omega)).2
      have h00 := hs0 (g A.ws p)
      have gs := fun v => gset (m := mm) (p := p) (v := v) hp0 (by omega)
      rw [if_neg e]
      rcases hm2 with e2 | e3
      · obtain ⟨w1, w2, w3⟩ := h.two p hp0 e2
        have hnx := x.c2 hc p hp0 e2
        have hz : Zz A m p = hs (g A.ws p) := by unfold Zz; rw [if_neg (by omega)]
        have gap : ∀ q : Int, p < q → q < p + hs (g A.ws p) + 1 → g m q ≠ 2 ∧ g m q ≠ 3 := fun q a b => ⟨fun c => by
          have := x.dj hc p q hp0 a (.inl e2) (.inl c); omega, fun c => by
          have := x.dj hc p q hp0 a (.inl e2) (.inr c); omega⟩
        rw [if_pos (show hOk (g A.ws p) = true from w2), if_pos (show hn (g A.ws p) < A.serial ∧ p + hs (g A.ws p) + 1 ≤ A.old from ⟨x.sr p hp0 (.inr e2), hnx.1⟩)]
        refine ih (p + hs (g A.ws p) + 1) _ _ _ (by omega) hnx (by omega) (by rw [List.length_set]; exact hl) hl2 (fun q hq => ?_) (fun q hq => ?_) ?_
        · rw [gs 2 q hq, hm q hq]
          by_cases c : q = p
          · rw [if_pos c, c, if_neg (by omega), if_pos (by omega), e2]
          · rw [if_neg c]
            by_cases d : g m q = 1
            · rw [if_pos d, if_pos d]
            · rw [if_neg d, if_neg d]
              by_cases c2 : q < p
              · rw [if_pos c2, if_pos (by omega)]
              · rw [if_neg c2]
                by_cases c3 : q < p + hs (g A.ws p) + 1
                · rw [if_pos c3]; have := gap q (by omega) c3; have := h.of q hq; omega
                · rw [if_neg c3]
        · rw [hled q hq]
          constructor
          · rintro ⟨r, a, b, c, d⟩; exact ⟨r, a, by omega, c, d⟩
          · rintro ⟨r, a, b, c, d⟩
            refine ⟨r, a, ?_, c, d⟩
            rcases Int.lt_or_le r p with y | y
            · exact y
            · by_cases y2 : r = p
              · rw [y2] at c; omega
              · exact absurd c (gap r (by omega) b).2
        · have := S2_gap (ws := A.ws) hp0 e2 (y := p + hs (g A.ws p) + 1) (by omega) (fun q a b => (gap q a b).1) (p + hs (g A.ws p) + 1).toNat (by omega) (by omega)
          rw [this]; omega
      · obtain ⟨w1, w2, w3, w4⟩ := h.thr p hp0 e3
        have hnx := x.c3 hc p hp0 e3
        have hz : Zz A m p = hs (g A.ws (fw (g A.ws p))) := by unfold Zz; rw [if_pos e3]
        have hf0 := (fwR (g A.ws p)).1
        have ho := (h.one _ hf0 w4).2.1
        have hrs := (rsR' ho).2.2.1
        have hsz : A.sz (fw (A.w p)) = hs (g A.ws (fw (g A.ws p))) := hrs
        have h01 := hs0 (g A.ws (fw (g A.ws p)))
        have hfl := (GI.lt h hf0 (by rw [w4]; omega)).2
        have gap : ∀ q : Int, p < q → q < p + hs (g A.ws (fw (g A.ws p))) + 1 → g m q ≠ 2 ∧ g m q ≠ 3 := fun q a b => ⟨fun c => by
          have := x.dj hc p q hp0 a (.inr e3) (.inl c); omega, fun c => by
          have := x.dj hc p q hp0 a (.inr e3) (.inr c); omega⟩
        have hled' : led.getD (fw (g A.ws p)).toNat false = false := by
          cases hb : led.getD (fw (g A.ws p)).toNat false with
          | false => rfl
          | true =>
            obtain ⟨r, a, b, c, d⟩ := (hled _ hf0).1 hb
            have := x.ij r p a hp0 c e3 d
            omega
        rw [if_neg (show ¬ hOk (g A.ws p) = true from fun c => by rw [hOk_fw c] at w3; cases w3), if_pos (show isFw (g A.ws p) = true ∧ fw (g A.ws p) < A.n ∧ g mm (fw (g A.ws p)) = 1 ∧ led.getD (fw (g A.ws p)).toNat false = false ∧ p + A.sz (fw (A.w p)) + 1 ≤ A.old from
          ⟨w3, hfl, by rw [hm _ hf0, if_pos w4], hled', by rw [hsz]; exact hnx.1⟩), hsz]
        refine ih (p + hs (g A.ws (fw (g A.ws p))) + 1) _ _ _ (by omega) hnx (by omega) (by rw [List.length_set]; exact hl) (by rw [List.length_set]; exact hl2) (fun q hq => ?_) (fun q hq => ?_) ?_
        · rw [gs 3 q hq, hm q hq]
          by_cases c : q = p
          · rw [if_pos c, c, if_neg (by omega), if_pos (by omega), e3]
          · rw [if_neg c]
            by_cases d : g m q = 1
            · rw [if_pos d, if_pos d]
            · rw [if_neg d, if_neg d]
              by_cases c2 : q < p
              · rw [if_pos c2, if_pos (by omega)]
              · rw [if_neg c2]
                by_cases c3 : q < p + hs (g A.ws (fw (g A.ws p))) + 1
                · rw [if_pos c3]; have := gap q (by omega) c3; have := h.of q hq; omega
                · rw [if_neg c3]
        · show (led.set (fw (g A.ws p)).toNat true).getD q.toNat false = true ↔ _
          rw [getD_setB hf0 (by omega) hq]
          constructor
          · split
            · rename_i c; intro _; exact ⟨p, hp0, by omega, e3, c.symm⟩
            · intro c
              obtain ⟨r, a, b, c, d⟩ := (hled q hq).1 c
              exact ⟨r, a, by omega, c, d⟩
          · rintro ⟨r, a, b, c, d⟩
            split
            · rfl
            · rename_i y
              refine (hled q hq).2 ⟨r, a, ?_, c, d⟩
              rcases Int.lt_or_le r p with z | z
              · exact z
              · by_cases y2 : r = p
                · rw [y2] at d; exact absurd d.symm y
                · exact absurd c (gap r (by omega) b).2
        · have := S2_none' (ws := A.ws) (m := m) hp0 (y := p + hs (g A.ws (fw (g A.ws p))) + 1) (fun q a b => by
            by_cases c : q = p
            · rw [c]; omega
            · exact (gap q (by omega) b).1) (p + hs (g A.ws (fw (g A.ws p))) + 1).toNat (by omega) (by omega)
          rw [this]; omega
theorem num_ok (h : SI A m) (x : TX A m) (hs : 1 ≤ A.serial ∧ A.serial ≤ 1000000000) (hr : A.vs.length ≤ 24) : A.numbersP := by
  have hv := h.hv
  have hse := h.se
  have hln := h.ln
  have hS := S2_0 A.ws m A.ws.length
  have hrm := h.rm
  have htp := h.tp
  refine ⟨hse, hln, by rcases h.to with e | e <;> omega, hs, hr, ?_, ?_⟩
  · unfold Ar.start; omega
  · split
    · rename_i c
      have := x.od c
      have := x.ce c
      have := x.c0
      unfold Ar.start; omega
    · rename_i c
      exact x.cf (by simpa using c)
theorem marks_ok (h : SI A m) (x : TX A m) (hst : A.cyc = false → ∀ q : Int, 0 ≤ q → g m q ≠ 2 ∧ g m q ≠ 3) : A.marks = some m := by
  have hv := h.hv
  have hse := h.se
  have hln := h.ln
  have htp := h.tp
  have hrm := h.rm
  have hml := h.ml
  have hS := S2_0 A.ws m A.ws.length
  have h1 : ∀ q : Int, 0 ≤ q → g m q = 1 → A.to * A.semi + 1 ≤ q := fun q a b => (h.one q a b).1
  obtain ⟨m1, e1, l1, g1⟩ := tile1_ok h x (A.ws.length + 1) (A.start A.to) A.zeros (by unfold Ar.start; omega) (by unfold Ar.start; exact x.st.imp id id) (by unfold Ar.start; omega) (by unfold Ar.start; omega) (by simp [Ar.zeros]) (fun q hq => by
    rw [zeros_g, if_neg]
    rintro ⟨a, b⟩
    have := h1 q hq b
    unfold Ar.start at a; omega)
  cases hc : A.cyc with
  | false =>
    rw [marks_still e1 hc]
    congr 1
    refine list_g (by rw [l1, hml]) (fun q hq => ?_)
    rw [g1 q hq]
    split
    · rename_i c; exact c.symm
    · have := h.of q hq; have := hst hc q hq; omega
  | true =>
    have hod := x.od hc
    have ce := x.ce hc
    obtain ⟨m2, e2, l2, g2⟩ := tile2_ok h x hc (A.ws.length + 1) (A.start (1 - A.to)) m1 A.falses 0 (by unfold Ar.start; omega) (by unfold Ar.start; exact x.s2 hc) (by unfold Ar.start; omega) l1 (by simp [Ar.falses]) (fun q hq => by
      rw [g1 q hq]
      split
      · rfl
      · split
        · rename_i a b
          have := h.of q hq
          by_cases c2 : g m q = 2
          · have := (h.two q hq c2).1; unfold Ar.start at b; omega
          · by_cases c3 : g m q = 3
            · have := (h.thr q hq c3).1; unfold Ar.start at b; omega
            · omega
        · rfl) (fun q hq => by
      rw [show A.falses.getD q.toNat false = false by simp [Ar.falses, List.getD_eq_getElem?_getD, List.getElem?_replicate]; split <;> rfl]
      constructor
      · intro c; cases c
      · rintro ⟨r, a, b, c, -⟩
        have := (h.thr r a c).1; unfold Ar.start at b; omega) (by
      rw [S2_low (x := A.start (1 - A.to)) (by unfold Ar.start; omega) (fun q a b c => by have := (h.two q a c).1; unfold Ar.start at b; omega) _ (by unfold Ar.start; omega)]
      unfold Ar.start; omega)
    rw [marks_some2 e1 hc e2]
    have em : m2 = m := list_g (by rw [l2, hml]) g2
    subst em
    rw [if_pos]
    refine ⟨rfl, (h.sc hc).imp id fun c => ⟨h.s0, ?_, c⟩⟩
    have := (GI.lt h h.s0 (by omega)).2
    omega
theorem uniq_ok (h : SI A m) (x : TX A m) : UniqS A m := by
  intro p q hp hq h1 h2 h3 h4
  have ok : ∀ r : Int, 0 ≤ r → M12 m r → hOk (g A.ws r) = true := fun r hr e => by
    rcases e with e | e
    · exact (h.one r hr e).2.1
    · exact (h.two r hr e).2.1
  have r1 := rn_hn (ok p hp h1)
  have r2 := rn_hn (ok q hq h2)
  by_cases e : p = q
  · exact e
  · exact absurd (by rw [← r1, ← r2]; exact h4) (x.su p q hp hq e h1 h2 (by rw [← r1]; exact h3))
theorem leads_ok (h : SI A m) (x : TX A m) {t n fr : Int} (hk : isRef t = true → 0 ≤ n ∧ (g m n = 1 ∧ fr ≠ 3 ∨ (g m n = 2 ∨ g m n = 3) ∧ fr ≠ 1) ∧ hk (g A.ws (A.where_ n)) = kd t) : A.leads m t n fr = true := by
  unfold Ar.leads
  split
  · rename_i hr
    obtain ⟨h0, h1, h2⟩ := hk hr
    have hlt := GI.lt h h0 (by omega)
    rw [if_pos (by rw [h.ml]; exact hlt.2)]
    refine decide_eq_true ⟨h1, ?_⟩
    have ok : hOk (g A.ws (A.where_ n)) = true := by
      rcases h.of n h0 with e | e | e | e
      · omega
      · have := (h.one n h0 e).2.1
        unfold Ar.where_; rw [if_neg (by show ¬ isFw (g A.ws n) = true; rw [hOk_fw this]; decide)]; exact this
      · have := (h.two n h0 e).2.1
        unfold Ar.where_; rw [if_neg (by show ¬ isFw (g A.ws n) = true; rw [hOk_fw this]; decide)]; exact this
      · obtain ⟨-, -, c, d⟩ := h.thr n h0 e
        unfold Ar.where_; rw [if_pos (show isFw (g A.ws n) = true from c)]; exact (h.one _ (fwR _).1 d).2.1
    show rk (g A.ws (A.where_ n)) = kd t
    rw [(rsR' ok).2.2.2.1]; exact h2
  · rfl
theorem obj_ok (h : SI A m) (x : TX A m) : ObjP A m := by
  intro p hp hpl hm
  have ok : hOk (g A.ws p) = true := by
    rcases hm with e | e
    · exact (h.one p hp e).2.1
    · exact (h.two p hp e).2.1
  have hrs := rsR' ok
  have hcon := x.co p hp hm
  have hh0 := hs0 (g A.ws p)
  unfold Ar.object Ar.kn Ar.sz Ar.w
  rw [hrs.2.2.1, hrs.2.2.2.1, Bool.and_eq_true, List.all_eq_true]
  refine ⟨fun q hq => ?_, ?_⟩
  · have hqr := slotsR ok hq
    obtain ⟨s1, s2⟩ := h.slo p q hp hm hq
    obtain ⟨k1, k2⟩ := h.slk p q hp hm hq
    refine slotOk_iff.2 ⟨s1, leads_ok h x (fun hr => ⟨(s2 hr).1, ?_, k2 hr⟩), k1.1, k1.2.1, k1.2.2.1⟩
    obtain ⟨t1, t2, t3⟩ := s2 hr
    have hof := h.of _ t1
    unfold Ar.fromOf
    by_cases e2 : g m p = 2
    · rw [if_pos e2]
      have := x.l2 p q hp e2 hq hr
      omega
    · rw [if_neg e2]
      have e1 : g m p = 1 := hm.resolve_right e2
      split
      · omega
      · rename_i c
        have : g m (rvN A.ws (p + q)) = 1 := by
          refine t3 e1 (fun hc => ?_)
          have hlt : p < A.scan := by
            rcases Int.lt_or_le p A.scan with y | y
            · exact y
            · exact absurd ⟨hc, y⟩ c
          have : p + hs (g A.ws p) + 1 ≤ A.scan := by
            rcases h.sc hc with y | y
            · have := (h.one p hp e1).2.2.1; omega
            · exact h.dis p A.scan hp hlt (.inl ⟨e1, y⟩)
          omega
        omega
  · unfold Con ConW at hcon
    obtain ⟨c0, c1, c2, c3⟩ := hcon
    split
    · rename_i e
      have ht := h.txt p hp hm e
      unfold Ar.strOk Ar.w
      exact decide_eq_true ⟨⟨ht.1, ht.2.1⟩, ht.2.2, c1 e⟩
    · split
      · rename_i e
        exact decide_eq_true (c3 e)
      · split
        · omega
        · rfl
theorem tabs_ok (h : SI A m) (x : TX A m) : ∀ (f : Nat) (p : Int) (led : List Bool), 0 ≤ p → A.tabsFrom m f p led = true := by
  intro f
  induction f with
  | zero => intro p led _; rfl
  | succ f ih =>
    intro p led hp
    rw [Ar.tabsFrom]
    split
    · split
      · rename_i c
        have hm := isM_iff.1 c.1
        have ok : hOk (g A.ws p) = true := by
          rcases hm with e | e
          · exact (h.one p hp e).2.1
          · exact (h.two p hp e).2.1
        have e2 : hk (g A.ws p) = 2 := by rw [← (rsR' ok).2.2.2.1]; exact c.2
        have hcon := x.co p hp hm
        unfold Con ConW at hcon
        obtain ⟨a, b⟩ := hcon.2.2.1 e2
        have ht : A.tab p led = some led := by
          have e0 : rvT A.ws (p + 2) = 0 := by unfold rvT; split
                                               · exact b
                                               · rfl
          unfold Ar.tab
          rw [if_pos e0, if_pos (by show sg (g A.ws (p + 1)) = 0; rw [a]; rfl)]
        rw [ht]
        exact ih _ _ (by omega)
      · exact ih _ _ (by omega)
    · rfl
theorem roots_ok (h : SI A m) (x : TX A m) : A.rootsOk m = true := by
  refine roots_iff.2 fun i h0 h1 => ?_
  obtain ⟨a, b, c⟩ := h.rtk i h0 h1
  refine ⟨decide_eq_true b, c, leads_ok h x fun hr => ?_⟩
  obtain ⟨d, e, f⟩ := h.rts i h0 h1 hr
  exact ⟨d, .inl ⟨f h1, by omega⟩, a hr⟩
/-- where no cycle runs, only the half in use counts -/
theorem still_ok (h : SI A m) (x : TX A m) (hc : A.cyc = false) {m1 : List Int} (hl : m1.length = A.ws.length) (hg : ∀ q : Int, 0 ≤ q → g m1 q = if g m q = 1 then 1 else 0) : SI A m1 ∧ TX A m1 := by
  have m11 : ∀ q : Int, 0 ≤ q → (g m1 q = 1 ↔ g m q = 1) := fun q hq => by rw [hg q hq]; split <;> simp_all
  have n2 : ∀ q : Int, 0 ≤ q → g m1 q ≠ 2 := fun q hq => by rw [hg q hq]; split <;> omega
  have n3 : ∀ q : Int, 0 ≤ q → g m1 q ≠ 3 := fun q hq => by rw [hg q hq]; split <;> omega
  have hS : S2 A.ws m1 A.ws.length = 0 := S2_none n2 _
  have hS0 := S2_0 A.ws m A.ws.length
  have M : ∀ q : Int, 0 ≤ q → (g m1 q = 1 ∨ g m1 q = 2) → g m q = 1 := fun q hq e => (m11 q hq).1 (e.resolve_right (n2 q hq))
  have cf : ¬ A.cyc = true := by rw [hc]; decide
  refine ⟨⟨h.wf, h.ln, h.se, h.to, hl, fun q hq => by rw [hg q hq]; split <;> omega, h.tp, fun q hq e => ?_, fun q hq e => absurd e (n2 q hq), fun q hq e => absurd e (n3 q hq), fun p q hp hpq e => ?_, fun p q hp hm hq => ?_, fun i h0 h1 hr => ?_, ?_, ?_, fun c => absurd c cf, h.s0, fun c => absurd c cf, fun p q hp hm hq => h.slk p q hp (.inl (M p hp hm)) hq, h.rtk, fun p hp hm => h.txt p hp (.inl (M p hp hm))⟩, ?_⟩
  · obtain ⟨a, b, c, d⟩ := h.one q hq ((m11 q hq).1 e)
    have := hs0 (g A.ws q)
    exact ⟨a, b, c, d.imp id fun y => (m11 _ (by omega)).2 y⟩
  · rcases e with ⟨a, b⟩ | ⟨a, b⟩
    · exact h.dis p q hp hpq (.inl ⟨(m11 p hp).1 a, (m11 q (by omega)).1 b⟩)
    · exact absurd a (n2 p hp)
  · obtain ⟨s1, s2⟩ := h.slo p q hp (.inl (M p hp hm)) hq
    refine ⟨s1, fun hr => ?_⟩
    obtain ⟨t1, t2, t3⟩ := s2 hr
    have := (m11 _ t1).2 (t3 (M p hp hm) (fun c => absurd c cf))
    exact ⟨t1, by rw [this]; decide, fun _ _ => this⟩
  · obtain ⟨t1, t2, t3⟩ := h.rts i h0 h1 hr
    have := (m11 _ t1).2 (t3 h1)
    exact ⟨t1, by rw [this]; decide, fun _ => this⟩
  · have := h.rm; rw [hS]; omega
  · have := h.cp; rw [hS]; omega
  · refine ⟨x.st.imp id fun e => (m11 _ (by have := h.hv; have := h.se; omega)).2 e, x.cf, fun c => absurd c cf, x.c0, fun c => absurd c cf, fun c => absurd c cf, fun c => absurd c cf, fun c => absurd c cf, fun p q hp hq e => absurd e (n3 p hp), fun p hp hm => x.sr p hp (.inl (M p hp hm)), fun p q hp hq hpq h1 h2 => x.su p q hp hq hpq (.inl (M p hp h1)) (.inl (M q hq h2)), fun p q hp e => absurd e (n2 p hp), fun p hp hm => x.co p hp (.inl (M p hp hm)), fun c => absurd c cf⟩
theorem ok_of' (h : SI A m) (x : TX A m) (hst : A.cyc = false → ∀ q : Int, 0 ≤ q → g m q ≠ 2 ∧ g m q ≠ 3) (hs : 1 ≤ A.serial ∧ A.serial ≤ 1000000000) (hr : A.vs.length ≤ 24) : A.ok = true := by
  have hm := marks_ok h x hst
  rw [ok_content (num_ok h x hs hr) hm (sers_iff.2 (uniq_ok h x))]
  unfold Ar.content
  rw [(objs_iff h.ml).2 (obj_ok h x), tabs_ok h x _ _ _ (Int.le_refl _), roots_ok h x]; rfl
theorem ok_of (h : SI A m) (x : TX A m) (hs : 1 ≤ A.serial ∧ A.serial ≤ 1000000000) (hr : A.vs.length ≤ 24) : A.ok = true := by
  cases hc : A.cyc with
  | true => exact ok_of' h x (fun c => by rw [hc] at c; cases c) hs hr
  | false =>
    have hv := h.hv
    have hse := h.se
    have hln := h.ln
    have htp := h.tp
    have hrm := h.rm
    have hS := S2_0 A.ws m A.ws.length
    obtain ⟨m1, e1, l1, g1⟩ := tile1_ok h x (A.ws.length + 1) (A.start A.to) A.zeros (by unfold Ar.start; omega) (by unfold Ar.start; exact x.st.imp id id) (by unfold Ar.start; omega) (by unfold Ar.start; omega) (by simp [Ar.zeros]) (fun q hq => by
      rw [zeros_g, if_neg]
      rintro ⟨a, b⟩
      have := (h.one q hq b).1
      unfold Ar.start at a; omega)
    obtain ⟨h', x'⟩ := still_ok h x hc l1 g1
    exact ok_of' h' x' (fun _ q hq => by rw [g1 q hq]; split <;> omega) hs hr
end Go.Proofs.Ytepddopgmhdllaa.Eng
namespace Go.Proofs.Ytepddopgmhdllaa.Ar
open Go.Proofs.Ytepddopgmhdllaa.Base
def Ar.with (A : Ar) (k s : Int) (ws : List Int) : Ar := { A with ws := ws, top := A.top + (s + 1), serial := if BornP k then A.serial + 1 else A.serial }
end Go.Proofs.Ytepddopgmhdllaa.Ar
namespace Go.Proofs.Ytepddopgmhdllaa.Eng
open Go Go.RowKit Go.Proofs.Ytepddopgmhdllaa.Sl Go.Proofs.Ytepddopgmhdllaa.Ar Go.Proofs.Ytepddopgmhdllaa.Base
set_option linter.unusedVariables false
set_option linter.unusedSimpArgs false
variable {A : Ar} {m : List Int}
/-- the marks are those of ArenaOk -/
def Still (A : Ar) (m : List Int) : Prop := A.cyc = false → ∀ q : Int, 0 ≤ q → g m q ≠ 2 ∧ g m q ≠ 3
theorem norm_ok (h : SI A m) (x : TX A m) : ∃ m1, SI A m1 ∧ TX A m1 ∧ Still A m1 ∧ ∀ q : Int, 0 ≤ q → (g m1 q = 1 ↔ g m q = 1) := by
  cases hc : A.cyc with
  | true => exact ⟨m, h, x, fun c => (by rw [hc] at c; cases c), fun _ _ => Iff.rfl⟩
  | false =>
    have hv := h.hv
    have hse := h.se
    have hln := h.ln
    have htp := h.tp
    have hrm := h.rm
    have hS := S2_0 A.ws m A.ws.length
    obtain ⟨m1, e1, l1, g1⟩ := tile1_ok h x (A.ws.length + 1) (A.start A.to) A.zeros (by unfold Ar.start; omega) (by unfold Ar.start; exact x.st.imp id id) (by unfold Ar.start; omega) (by unfold Ar.start; omega) (by simp [Ar.zeros]) (fun q hq => by
      rw [zeros_g, if_neg]
      rintro ⟨a, b⟩
      have := (h.one q hq b).1
      unfold Ar.start at a; omega)
    obtain ⟨h', x'⟩ := still_ok h x hc l1 g1
    refine ⟨m1, h', x', fun _ q hq => by rw [g1 q hq]; split <;> omega, fun q hq => by rw [g1 q hq]; split <;> simp_all⟩
theorem hWord_parts {k s n : Int} (hh : HeadP k s n) : hk (hWord k s n) = k ∧ hs (hWord k s n) = s ∧ hn (hWord k s n) = n ∧ hOk (hWord k s n) = true := by
  have hr := hh.range
  have e1 : hk (hWord k s n) = k := by unfold hk hWord; omega
  have e2 : hs (hWord k s n) = s := by unfold hs hWord; omega
  have e3 : hn (hWord k s n) = n := by unfold hn hWord; omega
  refine ⟨e1, e2, e3, ?_⟩
  unfold hOk
  rw [e1, e2, e3]
  exact decide_eq_true hh
structure NewP (A : Ar) (m : List Int) (k s : Int) (ws : List Int) : Prop where
  hh : HeadP k s (A.born k)
  ln : ws.length = A.ws.length
  wf : Wf ws
  eq : ∀ q : Int, 0 ≤ q → (q < A.top ∨ A.top + s < q) → g ws q = g A.ws q
  hd : g ws A.top = hWord k s (A.born k)
  sl : ∀ q : Int, q ∈ slots k s → rv ws (A.top + q) = true ∧ SlT k (rvT ws (A.top + q)) ∧ (isRef (rvT ws (A.top + q)) = true → 0 ≤ rvN ws (A.top + q) ∧ g m (rvN ws (A.top + q)) = 1 ∧ hk (g A.ws (rvN ws (A.top + q))) = kd (rvT ws (A.top + q)))
  tx : k = 1 → 0 ≤ sg (g ws (A.top + 1)) ∧ sg (g ws (A.top + 1)) ≤ 160 ∧ s = 1 + (sg (g ws (A.top + 1)) + 7) / 8
  cn : ConW (hWord k s (A.born k)) (g ws (A.top + 1)) (g ws (A.top + 2)) (g ws (A.top + s))
theorem SI.new (h : SI A m) (x : TX A m) (hst : Still A m) {k s : Int} {ws : List Int} (hf : s + 1 ≤ A.fr) (hsr : 1 ≤ A.serial) (hN : NewP A m k s ws) :
    ∃ m', SI (A.with k s ws) m' ∧ TX (A.with k s ws) m' ∧ Still (A.with k s ws) m' ∧ ∀ q : Int, 0 ≤ q → g m' q = if q = A.top then 1 else g m q := by
  obtain ⟨hh, hwl, hwf, heq, hhd, hsl, htx, hcn⟩ := hN
  obtain ⟨p1, p2, p3, p4⟩ := hWord_parts hh
  have hr := hh.range
  have hv := h.hv
  have hse := h.se
  have hln := h.ln
  have htp := h.tp
  have hrm := h.rm
  have hcp := h.cp
  have hml := h.ml
  obtain ⟨room1, room2, room3, room4⟩ := h.room (n := s + 1) (by omega)
  obtain ⟨t1, t2, t3⟩ := h.top_free
  have hS0 := S2_0 A.ws m A.ws.length
  have hroom : A.top + (s + 1) + S2 A.ws m A.ws.length ≤ (A.to + 1) * A.semi := by
    unfold Ar.fr at hf
    cases hc : A.cyc with
    | true => rw [if_pos hc] at hf; have := x.ce hc; omega
    | false => rw [if_neg (by rw [hc]; decide)] at hf; rw [S2_none (fun q hq => (hst hc q hq).1)]; omega
  have gm : ∀ q : Int, 0 ≤ q → g (m.set A.top.toNat 1) q = if q = A.top then 1 else g m q := fun q hq => g_set (by omega) (by omega) hq
  have hml' : (m.set A.top.toNat 1).length = ws.length := by rw [List.length_set, hml, hwl]
  generalize m.set A.top.toNat 1 = m' at *
  have k1 : ∀ q : Int, 0 ≤ q → g m q = 1 → g m' q = 1 := fun q hq e => by rw [gm q hq]; split; rfl; exact e
  have k0 : ∀ q : Int, 0 ≤ q → g m q ≠ 0 → g m' q ≠ 0 := fun q hq e => by rw [gm q hq]; split; decide; exact e
  have k2 : ∀ q v : Int, 0 ≤ q → v ≠ 1 → g m' q = v → q ≠ A.top ∧ g m q = v := fun q v hq hv e => by
    rw [gm q hq] at e
    split at e
    · exact absurd e.symm hv
    · rename_i c; exact ⟨c, e⟩
  have w1 : ∀ q j : Int, 0 ≤ q → g m q = 1 → 0 ≤ j → j ≤ hs (g A.ws q) → g ws (q + j) = g A.ws (q + j) := by
    intro q j hq e hj hj2
    have := h.one q hq e
    exact heq _ (by omega) (.inl (by omega))
  have w2 : ∀ q j : Int, 0 ≤ q → g m q = 2 → 0 ≤ j → j ≤ hs (g A.ws q) → g ws (q + j) = g A.ws (q + j) := by
    intro q j hq e hj hj2
    have := h.two q hq e
    exact heq _ (by omega) (by omega)
  have w3 : ∀ q : Int, 0 ≤ q → g m q = 3 → g ws q = g A.ws q := by
    intro q hq e
    have := h.thr q hq e
    exact heq _ hq (by omega)
  have w12 : ∀ q j : Int, 0 ≤ q → (g m q = 1 ∨ g m q = 2) → 0 ≤ j → j ≤ hs (g A.ws q) → g ws (q + j) = g A.ws (q + j) := fun q j hq e a b => e.elim (fun e => w1 q j hq e a b) (fun e => w2 q j hq e a b)
  have wh : ∀ q : Int, 0 ≤ q → (g m q = 1 ∨ g m q = 2) → g ws q = g A.ws q := fun q hq e => by have := w12 q 0 hq e (by omega) (hs0 _); simpa using this
  have ok12 : ∀ q : Int, 0 ≤ q → (g m q = 1 ∨ g m q = 2) → hOk (g A.ws q) = true := fun q hq e => e.elim (fun e => (h.one q hq e).2.1) (fun e => (h.two q hq e).2.1)
  have mk : ∀ q : Int, 0 ≤ q → (g m' q = 1 ∨ g m' q = 2) → q ≠ A.top → g m q = 1 ∨ g m q = 2 := fun q hq e c => by rw [gm q hq, if_neg c] at e; exact e
  have kh : ∀ r : Int, 0 ≤ r → g m r ≠ 0 → (if isFw (g ws r) = true then fw (g ws r) else r) = A.where_ r ∧ g ws (A.where_ r) = g A.ws (A.where_ r) := by
    intro r hr e
    rcases h.of r hr with e1 | e1 | e1 | e1
    · exact absurd e1 e
    · have ew : A.where_ r = r := by unfold Ar.where_; rw [if_neg (by show ¬ isFw (g A.ws r) = true; rw [hOk_fw (ok12 r hr (.inl e1))]; decide)]
      rw [ew, wh r hr (.inl e1), if_neg (by rw [hOk_fw (ok12 r hr (.inl e1))]; decide)]; exact ⟨rfl, rfl⟩
    · have ew : A.where_ r = r := by unfold Ar.where_; rw [if_neg (by show ¬ isFw (g A.ws r) = true; rw [hOk_fw (ok12 r hr (.inr e1))]; decide)]
      rw [ew, wh r hr (.inr e1), if_neg (by rw [hOk_fw (ok12 r hr (.inr e1))]; decide)]; exact ⟨rfl, rfl⟩
    · obtain ⟨a, b, d, f⟩ := h.thr r hr e1
      have ew : A.where_ r = fw (g A.ws r) := by unfold Ar.where_; rw [if_pos (show isFw (g A.ws r) = true from d)]
      rw [ew, w3 r hr e1, if_pos d]; exact ⟨rfl, wh _ (fwR _).1 (.inl f)⟩
  have hS2 : S2 ws m' ws.length = S2 A.ws m A.ws.length := by
    rw [hwl, S2_cm (m := m) (m' := m') (fun q hq => ?_), S2_congr (fun q hq e => wh q hq (.inr e))]
    rw [gm q hq]
    split
    · rename_i c; subst c; exact ⟨fun c => by omega, fun c => absurd c t2⟩
    · exact Iff.rfl
  have hnx : ∀ q : Int, 0 ≤ q → Nx A m q → Nx (A.with k s ws) m' q := fun q hq e => by
    refine ⟨e.1, e.2.imp id ?_⟩
    rintro (c | c)
    · left; rw [gm q hq, if_neg (fun d => t2 (by rw [← d]; exact c))]; exact c
    · right; rw [gm q hq, if_neg (fun d => t3 (by rw [← d]; exact c))]; exact c
  have hbs : A.born k < (if BornP k then A.serial + 1 else A.serial) := by unfold Ar.born; split <;> omega
  have hss : A.serial ≤ (if BornP k then A.serial + 1 else A.serial) := by split <;> omega
  refine ⟨m', ⟨hwf, by show (ws.length : Int) = _; rw [hwl]; exact hln, hse, h.to, hml', fun q hq => ?_, ?_, fun q hq e => ?_, fun q hq e => ?_, fun q hq e => ?_, fun p q hp hpq e => ?_, fun p q hp hm hq => ?_, fun i h0 h1 hr => ?_, ?_, ?_, fun c => ?_, h.s0, fun c => ?_, fun p q hp hm hq => ?_, fun i h0 h1 => ?_, fun p hp hm hk1 => ?_⟩,
    ⟨?_, x.cf, x.od, x.c0, fun c => ?_, fun c => ?_, fun c p hp e => ?_, fun c p hp e => ?_, fun p q hp hq e1 e2 e3 => ?_, fun p hp e => ?_, fun p q hp hq hpq e1 e2 e3 => ?_, fun p q hp e hq hrf => ?_, fun p hp e => ?_, fun c p q hp hpq e1 e2 => ?_⟩, fun c q hq => ?_, gm⟩ <;> (try dsimp only [Ar.with] at *)
  · rw [gm q hq]; split
    · omega
    · exact h.of q hq
  · omega
  · by_cases c : q = A.top
    · subst c
      rw [hhd, p2]
      exact ⟨htp, p4, by omega, .inl (by omega)⟩
    · have e : g m q = 1 := by rw [gm q hq, if_neg c] at e; exact e
      obtain ⟨a, b, d, f⟩ := h.one q hq e
      rw [wh q hq (.inl e)]
      have := hs0 (g A.ws q)
      refine ⟨a, b, by omega, .inr ?_⟩
      rcases f with f | f
      · rw [f, gm _ (by omega), if_pos rfl]
      · exact k1 _ (by omega) f
  · obtain ⟨c, e⟩ := k2 q 2 hq (by decide) e
    rw [wh q hq (.inr e)]; exact h.two q hq e
  · obtain ⟨c, e⟩ := k2 q 3 hq (by decide) e
    obtain ⟨a, b, d, f⟩ := h.thr q hq e
    rw [w3 q hq e]; exact ⟨a, b, d, k1 _ (fwR _).1 f⟩
  · have hq0 : 0 ≤ q := by omega
    rcases e with ⟨e1, e2⟩ | ⟨e1, e2⟩
    · by_cases cp : p = A.top
      · have cq : q ≠ A.top := by omega
        rw [gm q hq0, if_neg cq] at e2
        have := (h.one q hq0 e2).2.2.1; have := hs0 (g A.ws q); omega
      · rw [gm p hp, if_neg cp] at e1
        rw [wh p hp (.inl e1)]
        by_cases cq : q = A.top
        · have := (h.one p hp e1).2.2.1; omega
        · rw [gm q hq0, if_neg cq] at e2
          exact h.dis p q hp hpq (.inl ⟨e1, e2⟩)
    · obtain ⟨-, e1⟩ := k2 p 2 hp (by decide) e1
      obtain ⟨-, e2⟩ := k2 q 2 hq0 (by decide) e2
      rw [wh p hp (.inr e1)]
      exact h.dis p q hp hpq (.inr ⟨e1, e2⟩)
  · by_cases cp : p = A.top
    · subst cp
      rw [hhd, p1, p2] at hq
      obtain ⟨s1, s2, s3⟩ := hsl q hq
      refine ⟨s1, fun hrf => ?_⟩
      obtain ⟨s4, s5, s6⟩ := s3 hrf
      exact ⟨s4, by rw [k1 _ s4 s5]; decide, fun _ _ => k1 _ s4 s5⟩
    · have hm' := mk p hp hm cp
      rw [wh p hp hm'] at hq
      have hqr := slotsR (ok12 p hp hm') hq
      obtain ⟨r1, r2, r3⟩ := rv_congr (ws := A.ws) (ws' := ws) (w12 p q hp hm' (by omega) (by omega)) (by rw [Int.add_assoc]; exact w12 p (q + 1) hp hm' (by omega) (by omega))
      rw [r1, r2, r3]
      obtain ⟨s1, s2⟩ := h.slo p q hp hm' hq
      refine ⟨s1, fun hrf => ?_⟩
      obtain ⟨s3, s4, s5⟩ := s2 hrf
      refine ⟨s3, k0 _ s3 s4, fun e d => k1 _ s3 (s5 ?_ d)⟩
      rw [gm p hp, if_neg cp] at e; exact e
  · obtain ⟨s3, s4, s5⟩ := h.rts i h0 h1 hr
    exact ⟨s3, k0 _ s3 s4, fun d => k1 _ s3 (s5 d)⟩
  · rw [hS2]; omega
  · rw [hS2]; exact hcp
  · rcases h.sc c with e | e
    · right; rw [e, gm _ (by omega), if_pos rfl]
    · exact .inr (k1 _ h.s0 e)
  · rw [hS2]; exact h.cq c
  · by_cases cp : p = A.top
    · subst cp
      rw [hhd, p1, p2] at hq
      rw [hhd, p1]
      obtain ⟨s1, s2, s3⟩ := hsl q hq
      refine ⟨s2, fun hrf => ?_⟩
      obtain ⟨s4, s5, s6⟩ := s3 hrf
      have hw := wh _ s4 (.inl s5)
      have ew : Ar.where_ { A with ws := ws, top := A.top + (s + 1), serial := if BornP k then A.serial + 1 else A.serial } (rvN ws (A.top + q)) = rvN ws (A.top + q) := by
        unfold Ar.where_
        rw [if_neg (by show ¬ isFw (g ws _) = true; rw [hw, hOk_fw (ok12 _ s4 (.inl s5))]; decide)]
      rw [ew, hw]; exact s6
    · have hm' := mk p hp hm cp
      rw [wh p hp hm'] at hq ⊢
      have hqr := slotsR (ok12 p hp hm') hq
      obtain ⟨r1, r2, r3⟩ := rv_congr (ws := A.ws) (ws' := ws) (w12 p q hp hm' (by omega) (by omega)) (by rw [Int.add_assoc]; exact w12 p (q + 1) hp hm' (by omega) (by omega))
      rw [r2, r3]
      obtain ⟨s1, s2⟩ := h.slk p q hp hm' hq
      refine ⟨s1, fun hrf => ?_⟩
      obtain ⟨s3, s4, -⟩ := (h.slo p q hp hm' hq).2 hrf
      obtain ⟨g1, g2⟩ := kh _ s3 s4
      show hk (g ws (if isFw (g ws (rvN A.ws (p + q))) = true then fw (g ws (rvN A.ws (p + q))) else rvN A.ws (p + q))) = _
      rw [g1, g2]; exact s2 hrf
  · obtain ⟨s1, s2, s3⟩ := h.rtk i h0 h1
    refine ⟨fun hrf => ?_, s2, s3⟩
    obtain ⟨s4, s5, -⟩ := h.rts i h0 h1 hrf
    obtain ⟨g1, g2⟩ := kh _ s4 s5
    show hk (g ws (if isFw (g ws (rN A i)) = true then fw (g ws (rN A i)) else rN A i)) = _
    rw [g1, g2]; exact s1 hrf
  · by_cases cp : p = A.top
    · subst cp
      rw [hhd, p1] at hk1
      rw [hhd, p2]
      exact htx hk1
    · have hm' := mk p hp hm cp
      rw [wh p hp hm'] at hk1 ⊢
      rw [w12 p 1 hp hm' (by omega) (hsR _ (ok12 p hp hm')).1]
      exact h.txt p hp hm' hk1
  · rcases x.st with e | e
    · right; rw [e, gm _ (by omega), if_pos rfl]
    · exact .inr (k1 _ (by omega) e)
  · rw [hS2]; exact x.ce c
  · exact hnx _ (by omega) (x.s2 c)
  · obtain ⟨-, e⟩ := k2 p 2 hp (by decide) e
    rw [wh p hp (.inr e)]
    exact hnx _ (by have := hs0 (g A.ws p); omega) (x.c2 c p hp e)
  · obtain ⟨-, e⟩ := k2 p 3 hp (by decide) e
    rw [w3 p hp e, wh _ (fwR _).1 (.inl (h.thr p hp e).2.2.2)]
    exact hnx _ (by have := hs0 (g A.ws (fw (g A.ws p))); omega) (x.c3 c p hp e)
  · obtain ⟨-, e1⟩ := k2 p 3 hp (by decide) e1
    obtain ⟨-, e2⟩ := k2 q 3 hq (by decide) e2
    rw [w3 p hp e1, w3 q hq e2] at e3
    exact x.ij p q hp hq e1 e2 e3
  · by_cases cp : p = A.top
    · subst cp; rw [hhd, p3]; exact hbs
    · have hm' := mk p hp e cp
      rw [wh p hp hm']
      have := x.sr p hp hm'; omega
  · by_cases cp : p = A.top
    · have cq : q ≠ A.top := by omega
      have hm' := mk q hq e2 cq
      subst cp
      rw [hhd, p3] at e3 ⊢
      rw [wh q hq hm']
      have := x.sr q hq hm'
      unfold Ar.born at e3 ⊢
      split at e3
      · rename_i c; rw [if_pos c]; omega
      · exact absurd rfl e3
    · have hm' := mk p hp e1 cp
      rw [wh p hp hm'] at e3 ⊢
      by_cases cq : q = A.top
      · subst cq
        rw [hhd, p3]
        have := x.sr p hp hm'
        unfold Ar.born
        split
        · omega
        · exact e3
      · have hm2 := mk q hq e2 cq
        rw [wh q hq hm2]
        exact x.su p q hp hq hpq hm' hm2 e3
  · obtain ⟨-, e⟩ := k2 p 2 hp (by decide) e
    rw [wh p hp (.inr e)] at hq
    have hqr := slotsR (ok12 p hp (.inr e)) hq
    obtain ⟨r1, r2, r3⟩ := rv_congr (ws := A.ws) (ws' := ws) (w12 p q hp (.inr e) (by omega) (by omega)) (by rw [Int.add_assoc]; exact w12 p (q + 1) hp (.inr e) (by omega) (by omega))
    rw [r2] at hrf
    rw [r3]
    have hN := (h.slo p q hp (.inr e) hq).2 hrf
    rw [gm _ hN.1]
    have := x.l2 p q hp e hq hrf
    rw [if_neg (by rintro d; rw [d] at this; omega)]
    exact this
  · by_cases cp : p = A.top
    · subst cp
      unfold Con
      dsimp only
      rw [hhd, p2]; exact hcn
    · have hm' := mk p hp e cp
      have hc := x.co p hp hm'
      have hok := ok12 p hp hm'
      have hz := hsR _ hok
      have hzz : SizeP (hk (g A.ws p)) (hs (g A.ws p)) := (of_decide_eq_true (show decide (HeadP _ _ _) = true from hok)).1
      unfold Con at hc ⊢
      dsimp only
      rw [wh p hp hm', w12 p 1 hp hm' (by omega) hz.1, w12 p (hs (g A.ws p)) hp hm' (by omega) (Int.le_refl _)]
      by_cases h21 : 2 ≤ hs (g A.ws p)
      · rw [w12 p 2 hp hm' (by omega) h21]; exact hc
      · exact ⟨hc.1, hc.2.1, fun h2 => by unfold SizeP at hzz; omega, hc.2.2.2⟩
  · have e1' : q ≠ A.top ∧ p ≠ A.top := by
      constructor
      · rintro rfl; rw [gm _ (by omega), if_pos rfl] at e2; omega
      · rintro rfl; rw [gm _ (by omega), if_pos rfl] at e1; omega
    rw [gm p hp, if_neg e1'.2] at e1
    rw [gm q (by omega), if_neg e1'.1] at e2
    have hz : Zz { A with ws := ws, top := A.top + (s + 1), serial := if BornP k then A.serial + 1 else A.serial } m' p = Zz A m p := by
      unfold Zz
      dsimp only
      rw [gm p hp, if_neg e1'.2]
      rcases e1 with d | d
      · rw [if_neg (by omega), if_neg (by omega), wh p hp (.inr d)]
      · rw [if_pos d, if_pos d, w3 p hp d, wh _ (fwR _).1 (.inl (h.thr p hp d).2.2.2)]
    rw [hz]
    exact x.dj c p q hp hpq e1 e2
  · have := hst c q hq
    rw [gm q hq]
    split
    · decide
    · exact this
/-- a Root is set -/
theorem SI.setR (h : SI A m) (x : TX A m) {i t n : Int} (h0 : 0 ≤ i) (h1 : i < (A.vs.length : Int)) (hv : ValP t n) (h8 : t ≠ 8) (hr : isRef t = true → 0 ≤ n ∧ g m n = 1 ∧ hk (g A.ws n) = kd t) :
    SI { A with vs := A.vs.set i.toNat (t, n) } m ∧ TX { A with vs := A.vs.set i.toNat (t, n) } m := by
  have gd : ∀ j : Int, 0 ≤ j → (A.vs.set i.toNat (t, n)).getD j.toNat (0, 0) = if j = i then (t, n) else A.vs.getD j.toNat (0, 0) := fun j hj => getD_set2 h0 h1 hj
  have hl : (A.vs.set i.toNat (t, n)).length = A.vs.length := List.length_set
  refine ⟨{ h with rts := fun j a b c => ?_, rtk := fun j a b => ?_ }, { x with }⟩
  · dsimp only [rT, rN] at b c ⊢
    rw [gd j a] at c ⊢
    rw [hl] at b
    split
    · rename_i e
      rw [if_pos e] at c
      obtain ⟨y1, y2, y3⟩ := hr c
      exact ⟨y1, by rw [y2]; decide, fun _ => y2⟩
    · rename_i e
      rw [if_neg e] at c
      obtain ⟨y1, y2, y3⟩ := h.rts j a b c
      exact ⟨y1, y2, fun _ => y3 b⟩
  · dsimp only [rT, rN] at b ⊢
    rw [gd j a]
    rw [hl] at b
    split
    · refine ⟨fun c => ?_, hv, h8⟩
      obtain ⟨y1, y2, y3⟩ := hr c
      have ew : Ar.where_ { A with vs := A.vs.set i.toNat (t, n) } n = n := by
        unfold Ar.where_
        rw [if_neg (by show ¬ isFw (g A.ws n) = true; rw [hOk_fw (h.one n y1 y2).2.1]; decide)]
      show hk (g A.ws (Ar.where_ { A with vs := A.vs.set i.toNat (t, n) } n)) = kd t
      rw [ew]; exact y3
    · exact h.rtk j a b
theorem valTag {t n : Int} (h : ValP t n) : w64 t = t := by have := valLe h; unfold w64; omega
theorem sgW {n : Int} (h : -9223372036854775808 ≤ n ∧ n ≤ 9223372036854775807) : sg (w64 n) = n := by unfold w64 sg; split <;> omega
theorem slots5 {q : Int} (h : q ∈ slots 5 2) : q = 1 := by
  have : slots 5 2 = [1] := by decide
  rw [this] at h; simpa using h
/-- a box is set -/
theorem SI.setC (h : SI A m) (x : TX A m) {p t n : Int} (hp0 : 0 ≤ p) (hp : g m p = 1) (h5 : hk (g A.ws p) = 5) (hv : ValP t n) (h8 : t ≠ 8) (hn : -9223372036854775808 ≤ n ∧ n ≤ 9223372036854775807) (hr : isRef t = true → 0 ≤ n ∧ g m n = 1 ∧ hk (g A.ws n) = kd t) :
    SI (A.putV (p + 1) t n) m ∧ TX (A.putV (p + 1) t n) m ∧ (∀ q j : Int, 0 ≤ q → (g m q = 1 ∨ g m q = 2) → q ≠ p → 0 ≤ j → j ≤ hs (g A.ws q) → g (A.putV (p + 1) t n).ws (q + j) = g A.ws (q + j)) ∧ g (A.putV (p + 1) t n).ws p = g A.ws p ∧ rv (A.putV (p + 1) t n).ws (p + 1) = true ∧ rvT (A.putV (p + 1) t n).ws (p + 1) = t ∧ rvN (A.putV (p + 1) t n).ws (p + 1) = n := by
  obtain ⟨o1, o2, o3, o4⟩ := h.one p hp0 hp
  have h2 : hs (g A.ws p) = 2 := by
    have hz : SizeP (hk (g A.ws p)) (hs (g A.ws p)) := (of_decide_eq_true (show decide (HeadP _ _ _) = true from o2)).1
    unfold SizeP at hz; omega
  have hvv := h.hv
  have hse := h.se
  have hln := h.ln
  have hrm := h.rm
  have hS0 := S2_0 A.ws m A.ws.length
  have et := valTag hv
  have en := sgW hn
  have w64r := w64_r n
  have htl := valLe hv
  unfold Ar.putV
  have gw : ∀ j : Int, 0 ≤ j → g ((A.ws.set (p + 1).toNat (w64 t)).set (p + 1 + 1).toNat (w64 n)) j = if j = p + 2 then w64 n else if j = p + 1 then t else g A.ws j := fun j hj => by
    rw [g_set (by omega) (by rw [List.length_set]; omega) hj, show p + 1 + 1 = p + 2 by omega]
    split
    · rfl
    · rw [g_set (by omega) (by omega) hj, et]
  have hwl : ((A.ws.set (p + 1).toNat (w64 t)).set (p + 1 + 1).toNat (w64 n)).length = A.ws.length := by rw [List.length_set, List.length_set]
  generalize (A.ws.set (p + 1).toNat (w64 t)).set (p + 1 + 1).toNat (w64 n) = ws at *
  have wf : Wf ws := fun j => by
    rw [g_toNat, gw _ (by omega)]
    split
    · exact w64r
    · split
      · omega
      · exact h.wf _
  have w1 : ∀ r j : Int, 0 ≤ r → g m r = 1 → r ≠ p → 0 ≤ j → j ≤ hs (g A.ws r) → g ws (r + j) = g A.ws (r + j) := by
    intro r j hr e hrp hj hj2
    rw [gw _ (by omega)]
    rcases Int.lt_or_le r p with c | c
    · have := h.dis r p hr c (.inl ⟨e, hp⟩); rw [if_neg (by omega), if_neg (by omega)]
    · have := h.dis p r hp0 (by omega) (.inl ⟨hp, e⟩); rw [if_neg (by omega), if_neg (by omega)]
  have w2 : ∀ r j : Int, 0 ≤ r → g m r = 2 → 0 ≤ j → j ≤ hs (g A.ws r) → g ws (r + j) = g A.ws (r + j) := by
    intro r j hr e hj hj2
    have := h.two r hr e
    rw [gw _ (by omega), if_neg (by omega), if_neg (by omega)]
  have w3 : ∀ r : Int, 0 ≤ r → g m r = 3 → g ws r = g A.ws r := by
    intro r hr e
    have := h.thr r hr e
    rw [gw r hr, if_neg (by omega), if_neg (by omega)]
  have wp : g ws p = g A.ws p := by rw [gw p hp0, if_neg (by omega), if_neg (by omega)]
  have w12 : ∀ q j : Int, 0 ≤ q → (g m q = 1 ∨ g m q = 2) → q ≠ p → 0 ≤ j → j ≤ hs (g A.ws q) → g ws (q + j) = g A.ws (q + j) := fun q j hq e c a b => e.elim (fun e => w1 q j hq e c a b) (fun e => w2 q j hq e a b)
  have wh : ∀ r : Int, 0 ≤ r → (g m r = 1 ∨ g m r = 2) → g ws r = g A.ws r := by
    intro r hr e
    by_cases c : r = p
    · rw [c]; exact wp
    · have := w12 r 0 hr e c (by omega) (hs0 _); simpa using this
  have ok12 : ∀ q : Int, 0 ≤ q → (g m q = 1 ∨ g m q = 2) → hOk (g A.ws q) = true := fun q hq e => e.elim (fun e => (h.one q hq e).2.1) (fun e => (h.two q hq e).2.1)
  have g1 : g ws (p + 1) = t := by rw [gw _ (by omega), if_neg (by omega), if_pos rfl]
  have g2 : g ws (p + 1 + 1) = w64 n := by rw [gw _ (by omega), if_pos (by omega)]
  have rv1 : rv ws (p + 1) = true := by rw [rv_eq, g1, g2, en]; exact decide_eq_true hv
  have rT1 : rvT ws (p + 1) = t := by unfold rvT; rw [if_pos rv1, g1]
  have rN1 : rvN ws (p + 1) = n := by unfold rvN; rw [if_pos rv1, g2, en]
  have hS2 : S2 ws m ws.length = S2 A.ws m A.ws.length := by rw [hwl]; exact S2_congr (fun r hr e => wh r hr (.inr e)) _
  have kh : ∀ r : Int, 0 ≤ r → g m r ≠ 0 → (if isFw (g ws r) = true then fw (g ws r) else r) = A.where_ r ∧ g ws (A.where_ r) = g A.ws (A.where_ r) := by
    intro r hr e
    rcases h.of r hr with e1 | e1 | e1 | e1
    · exact absurd e1 e
    · have ew : A.where_ r = r := by unfold Ar.where_; rw [if_neg (by show ¬ isFw (g A.ws r) = true; rw [hOk_fw (ok12 r hr (.inl e1))]; decide)]
      rw [ew, wh r hr (.inl e1), if_neg (by rw [hOk_fw (ok12 r hr (.inl e1))]; decide)]; exact ⟨rfl, rfl⟩
    · have ew : A.where_ r = r := by unfold Ar.where_; rw [if_neg (by show ¬ isFw (g A.ws r) = true; rw [hOk_fw (ok12 r hr (.inr e1))]; decide)]
      rw [ew, wh r hr (.inr e1), if_neg (by rw [hOk_fw (ok12 r hr (.inr e1))]; decide)]; exact ⟨rfl, rfl⟩
    · obtain ⟨a, b, d, f⟩ := h.thr r hr e1
      have ew : A.where_ r = fw (g A.ws r) := by unfold Ar.where_; rw [if_pos (show isFw (g A.ws r) = true from d)]
      rw [ew, w3 r hr e1, if_pos d]; exact ⟨rfl, wh _ (fwR _).1 (.inl f)⟩
  refine ⟨⟨wf, by show (ws.length : Int) = _; rw [hwl]; exact hln, hse, h.to, by show m.length = ws.length; rw [hwl]; exact h.ml, h.of, h.tp, fun q hq e => ?_, fun q hq e => ?_, fun q hq e => ?_, fun r q hr hrq e => ?_, fun r q hr0 hm hq => ?_, h.rts, ?_, ?_, h.sc, h.s0, fun c => ?_, fun r q hr0 hm hq => ?_, fun i h0 h1 => ?_, fun r hr0 hm hk1 => ?_⟩,
    ⟨x.st, x.cf, x.od, x.c0, fun c => ?_, x.s2, fun c r hr e => ?_, fun c r hr e => ?_, fun r s hr hs e1 e2 e3 => ?_, fun r hr e => ?_, fun r s hr hs hrs e1 e2 e3 => ?_, fun r q hr0 e hq hrf => ?_, fun r hr e => ?_, fun c r s hr hrs e1 e2 => ?_⟩, w12, wp, rv1, rT1, rN1⟩ <;> (try dsimp only at *)
  · rw [wh q hq (.inl e)]; exact h.one q hq e
  · rw [wh q hq (.inr e)]; exact h.two q hq e
  · rw [w3 q hq e]; exact h.thr q hq e
  · rw [wh r hr (by omega)]; exact h.dis r q hr hrq e
  · rw [wh r hr0 hm] at hq
    by_cases c : r = p
    · subst c
      rw [h5, h2] at hq
      have hq1 := slots5 hq
      subst hq1
      rw [rv1, rT1, rN1]
      exact ⟨rfl, fun hrf => ⟨(hr hrf).1, by rw [(hr hrf).2.1]; decide, fun _ _ => (hr hrf).2.1⟩⟩
    · have hqr := slotsR (ok12 r hr0 hm) hq
      obtain ⟨r1, r2, r3⟩ := rv_congr (ws := A.ws) (ws' := ws) (w12 r q hr0 hm c (by omega) (by omega)) (by rw [Int.add_assoc]; exact w12 r (q + 1) hr0 hm c (by omega) (by omega))
      rw [r1, r2, r3]
      exact h.slo r q hr0 hm hq
  · rw [hS2]; exact h.rm
  · rw [hS2]; exact h.cp
  · rw [hS2]; exact h.cq c
  · rw [wh r hr0 hm] at hq ⊢
    by_cases c : r = p
    · subst c
      have hq' := hq
      rw [h5, h2] at hq'
      have hq1 := slots5 hq'
      subst hq1
      rw [rT1, rN1, h5]
      refine ⟨by unfold SlT; omega, fun hrf => ?_⟩
      obtain ⟨y1, y2, y3⟩ := hr hrf
      obtain ⟨k1, k2⟩ := kh n y1 (by omega)
      have ew : A.where_ n = n := by unfold Ar.where_; rw [if_neg (by show ¬ isFw (g A.ws n) = true; rw [hOk_fw (ok12 n y1 (.inl y2))]; decide)]
      show hk (g ws (if isFw (g ws n) = true then fw (g ws n) else n)) = kd t
      rw [k1, k2, ew]; exact y3
    · have hqr := slotsR (ok12 r hr0 hm) hq
      obtain ⟨r1, r2, r3⟩ := rv_congr (ws := A.ws) (ws' := ws) (w12 r q hr0 hm c (by omega) (by omega)) (by rw [Int.add_assoc]; exact w12 r (q + 1) hr0 hm c (by omega) (by omega))
      rw [r2, r3]
      obtain ⟨s1, s2⟩ := h.slk r q hr0 hm hq
      refine ⟨s1, fun hrf => ?_⟩
      obtain ⟨s3, s4, -⟩ := (h.slo r q hr0 hm hq).2 hrf
      obtain ⟨k1, k2⟩ := kh _ s3 s4
      show hk (g ws (if isFw (g ws (rvN A.ws (r + q))) = true then fw (g ws (rvN A.ws (r + q))) else rvN A.ws (r + q))) = _
      rw [k1, k2]; exact s2 hrf
  · obtain ⟨s1, s2, s3⟩ := h.rtk i h0 h1
    refine ⟨fun hrf => ?_, s2, s3⟩
    obtain ⟨s4, s5, -⟩ := h.rts i h0 h1 hrf
    obtain ⟨k1, k2⟩ := kh _ s4 s5
    show hk (g ws (if isFw (g ws (rN A i)) = true then fw (g ws (rN A i)) else rN A i)) = _
    rw [k1, k2]; exact s1 hrf
  · rw [wh r hr0 hm] at hk1 ⊢
    have c : r ≠ p := by rintro rfl; omega
    rw [w12 r 1 hr0 hm c (by omega) (hsR _ (ok12 r hr0 hm)).1]
    exact h.txt r hr0 hm hk1
  · rw [hS2]; exact x.ce c
  · rw [wh r hr (.inr e)]; exact x.c2 c r hr e
  · rw [w3 r hr e, wh _ (fwR _).1 (.inl (h.thr r hr e).2.2.2)]; exact x.c3 c r hr e
  · rw [w3 r hr e1, w3 s hs e2] at e3; exact x.ij r s hr hs e1 e2 e3
  · rw [wh r hr e]; exact x.sr r hr e
  · rw [wh r hr e1] at e3 ⊢; rw [wh s hs e2]; exact x.su r s hr hs hrs e1 e2 e3
  · rw [wh r hr0 (.inr e)] at hq
    have c : r ≠ p := by rintro rfl; omega
    have hqr := slotsR (ok12 r hr0 (.inr e)) hq
    obtain ⟨r1, r2, r3⟩ := rv_congr (ws := A.ws) (ws' := ws) (w12 r q hr0 (.inr e) c (by omega) (by omega)) (by rw [Int.add_assoc]; exact w12 r (q + 1) hr0 (.inr e) c (by omega) (by omega))
    rw [r2] at hrf
    rw [r3]
    exact x.l2 r q hr0 e hq hrf
  · have hc := x.co r hr e
    have hok := ok12 r hr e
    have hz := hsR _ hok
    have hzz : SizeP (hk (g A.ws r)) (hs (g A.ws r)) := (of_decide_eq_true (show decide (HeadP _ _ _) = true from hok)).1
    unfold Con at hc ⊢
    dsimp only
    rw [wh r hr e]
    by_cases c : r = p
    · subst c
      exact ⟨hc.1, fun c1 => by omega, fun c1 => by omega, fun c1 => by omega⟩
    · rw [w12 r 1 hr e c (by omega) hz.1, w12 r (hs (g A.ws r)) hr e c (by omega) (Int.le_refl _)]
      by_cases h21 : 2 ≤ hs (g A.ws r)
      · rw [w12 r 2 hr e c (by omega) h21]; exact hc
      · exact ⟨hc.1, hc.2.1, fun h2 => by unfold SizeP at hzz; omega, hc.2.2.2⟩
  · have hz : Zz { A with ws := ws } m r = Zz A m r := by
      unfold Zz
      dsimp only
      rcases e1 with d | d
      · rw [if_neg (by omega), if_neg (by omega), wh r hr (.inr d)]
      · rw [if_pos d, if_pos d, w3 r hr d, wh _ (fwR _).1 (.inl (h.thr r hr d).2.2.2)]
    rw [hz]
    exact x.dj c r s hr hrs e1 e2
end Go.Proofs.Ytepddopgmhdllaa.Eng
