/- Nodes in memory; what is known of an object that is told as a node. -/
import Derived.Test.YtfhihnonafklbaaH0
import Derived.Test.YtfhihnonafklbaaAF
import Derived.Test.YtfhihnonafklbaaTys2
namespace Go.Proofs.Ytfhihnonafklbaa.Eng
open Go Go.RowKit Go.Proofs.Ytfhihnonafklbaa.Sl Go.Proofs.Ytfhihnonafklbaa.Ar Go.Proofs.Ytfhihnonafklbaa.Base
set_option linter.unusedVariables false
set_option linter.unusedSimpArgs false
set_option maxRecDepth 10000
/-- where a node's slots lie -/
structure NA where
  b : Option Nat
  c : Nat
  sp : List Value
def nCells (x : ND × NA) : List Value := [.int .i64 x.1.k, .int .i64 x.1.s, .int .i64 x.1.n, .int .i64 x.1.m, .string (strOfNums x.1.tx), .slice (ad x.2.b) x.1.sl.length x.2.c]
abbrev ndV (d : ND) (b : Option Nat) (c : Nat) : Value := .agg #[.int .i64 d.k, .int .i64 d.s, .int .i64 d.n, .int .i64 d.m, .string (strOfNums d.tx), .slice (ad b) d.sl.length c]
def nHL : List (ND × NA) → HL
  | [] => []
  | x :: l => oV x.2.b x.1.sl x.2.sp ++ nHL l
theorem nHL_append (xs ys : List (ND × NA)) : nHL (xs ++ ys) = nHL xs ++ nHL ys := by
  induction xs with
  | nil => rfl
  | cons x xs ih => simp [nHL, ih]
def NOk (x : ND × NA) : Prop := x.2.b = none → x.1.sl = []
variable {A : Ar} {m : List Int}
/-- what is known of an object -/
structure ObF (A : Ar) (m : List Int) (p : Int) : Prop where
  p0 : 0 ≤ p
  p1 : 1 ≤ p
  hb : p + rs (g A.ws p) < (A.ws.length : Int)
  sz : SizeP (rk (g A.ws p)) (rs (g A.ws p))
  r1 : 1 ≤ rs (g A.ws p) ∧ rs (g A.ws p) ≤ 256
  kr : 1 ≤ rk (g A.ws p) ∧ rk (g A.ws p) ≤ 6
  tx : rk (g A.ws p) = 1 → TextP A p
  co : rk (g A.ws p) = 6 → 0 ≤ sg (g A.ws (p + 2)) ∧ sg (g A.ws (p + 2)) ≤ 60 ∧ (slots (rk (g A.ws p)) (rs (g A.ws p))).length = 61 ∧ 6 ≤ rs (g A.ws p)
theorem OkP.obF (h : OkP A m) {p : Int} (hp : MkO A m p) : ObF A m p := by
  obtain ⟨q1, q2, q3⟩ := h.MP.ok p hp.1 hp.2.1 hp.2.2
  have ho := h.ob p hp.1 hp.2.1 hp.2.2
  have hr := rsR' q2
  have hz : SizeP (rk (g A.ws p)) (rs (g A.ws p)) := by rw [hr.2.2.1, hr.2.2.2.1]; exact (of_decide_eq_true (show decide (HeadP _ _ _) = true from q2)).1
  unfold Ar.object Ar.kn Ar.sz Ar.w at ho
  rw [Bool.and_eq_true] at ho
  refine ⟨hp.1, q1, by omega, hz, ⟨hr.1, hr.2.1⟩, by unfold SizeP at hz; omega, fun e => ?_, fun e => ?_⟩
  · have ho := ho.2
    rw [if_pos e] at ho
    have hst := of_decide_eq_true (show decide _ = true from ho)
    simp only [Ar.w] at hst
    exact ⟨hp.1, by omega, by omega, by omega, by omega⟩
  · have ho := ho.2
    rw [if_neg (by omega), if_neg (by omega), if_pos e] at ho
    unfold Ar.coOk at ho
    rw [Bool.and_eq_true] at ho
    have hst := of_decide_eq_true (show decide _ = true from ho.1)
    simp only [Ar.w] at hst
    have h126 : rs (g A.ws p) = 126 := by rw [e] at hz; unfold SizeP at hz; omega
    rw [e, h126]
    exact ⟨by omega, by omega, by decide, by omega⟩
theorem shL_len {p : Int} (h : ObF A m p) : (A.shL p).length ≤ 130 := by
  unfold Ar.shL
  split
  · rw [List.length_take]; have := slots_len (k := rk (g A.ws p)) (s := rs (g A.ws p)); omega
  · exact slots_len
theorem g_take {l : List Int} {n : Nat} {i : Int} (h : i.toNat < n) : g (l.take n) i = g l i := by
  unfold g
  rw [List.getD_eq_getElem?_getD, List.getD_eq_getElem?_getD, List.getElem?_take, if_pos h]
theorem shL_get {p i : Int} (h0 : 0 ≤ i) (h1 : i < ((A.shL p).length : Int)) : g (slots (rk (g A.ws p)) (rs (g A.ws p))) i = g (A.shL p) i ∧ i < ((slots (rk (g A.ws p)) (rs (g A.ws p))).length : Int) := by
  unfold Ar.shL at h1 ⊢
  split at h1
  · rename_i c
    rw [if_pos c]
    rw [List.length_take] at h1
    exact ⟨(g_take (by omega)).symm, by omega⟩
  · rename_i c
    rw [if_neg c]; exact ⟨rfl, h1⟩
theorem shS_step {p i : Int} {S : List Int × List (Int × Int)} (h0 : 0 ≤ i) (h1 : i < ((A.shL p).length : Int)) : A.shS p ((A.shL p).drop i.toNat) S = A.shS p ((A.shL p).drop (i + 1).toNat) ((A.shV S.1 (rvT A.ws (p + g (A.shL p) i), rvN A.ws (p + g (A.shL p) i))).1, S.2 ++ [(A.shV S.1 (rvT A.ws (p + g (A.shL p) i), rvN A.ws (p + g (A.shL p) i))).2]) := by
  rw [dropStep h0 h1 0, Ar.shS]; rfl
theorem shS_end {p i : Int} {S : List Int × List (Int × Int)} (h1 : ((A.shL p).length : Int) ≤ i) : A.shS p ((A.shL p).drop i.toNat) S = S := by
  rw [List.drop_eq_nil_of_le (by omega), Ar.shS]
theorem shRs_step {i : Int} {S : List Int × List (Int × Int)} (h0 : 0 ≤ i) (h1 : i < (A.vs.length : Int)) : A.shRs (A.vs.drop i.toNat) S = A.shRs (A.vs.drop (i + 1).toNat) ((A.shV S.1 (A.vs.getD i.toNat (0, 0))).1, S.2 ++ [(A.shV S.1 (A.vs.getD i.toNat (0, 0))).2]) := by
  rw [dropStep h0 h1 (0, 0), Ar.shRs]
theorem shRs_end {i : Int} {S : List Int × List (Int × Int)} (h1 : (A.vs.length : Int) ≤ i) : A.shRs (A.vs.drop i.toNat) S = S := by
  rw [List.drop_eq_nil_of_le (by omega), Ar.shRs]
theorem shNs_step {i : Int} {P : List Int} {o : List ND} (h0 : 0 ≤ i) (h1 : i < (P.length : Int)) (h2 : (P.length : Int) ≤ A.ws.length) : A.shNs (A.ws.length + 1 - i.toNat) i P o = A.shNs (A.ws.length + 1 - (i + 1).toNat) (i + 1) (A.shN P (g P i)).1 (o ++ [(A.shN P (g P i)).2]) := by
  rw [show A.ws.length + 1 - i.toNat = (A.ws.length + 1 - (i + 1).toNat) + 1 by omega, Ar.shNs, if_pos h1]
theorem shNs_end {i : Int} {P : List Int} {o : List ND} (h1 : ¬ i < (P.length : Int)) : A.shNs (A.ws.length + 1 - i.toNat) i P o = (P, o) := by
  cases A.ws.length + 1 - i.toNat with
  | zero => rfl
  | succ f => rw [Ar.shNs, if_neg h1]
theorem OkP.vSlot (h : OkP A m) {p i : Int} (hp : MkO A m p) (h0 : 0 ≤ i) (h1 : i < ((A.shL p).length : Int)) : VOk A m (rvT A.ws (p + g (A.shL p) i), rvN A.ws (p + g (A.shL p) i)) ∧ rv A.ws (p + g (A.shL p) i) = true ∧ 1 ≤ g (A.shL p) i ∧ g (A.shL p) i + 1 ≤ rs (g A.ws p) := by
  have hm : g (A.shL p) i ∈ A.shL p := by
    have hl : i.toNat < (A.shL p).length := by omega
    unfold g; rw [List.getD_eq_getElem?_getD, List.getElem?_eq_getElem hl]; exact List.getElem_mem hl
  have hs := shL_sub hm
  obtain ⟨a, b⟩ := h.slotV hp hs
  have hb := slots_in (h.obF hp).sz hs
  exact ⟨fun c => b c, a, hb.1, hb.2⟩
/-- places come to by the slots of an object -/
theorem Pls.s (hO : OkP A m) {p : Int} (hp : MkO A m p) : ∀ (L P : List Int) (o : List (Int × Int)), (∀ q ∈ L, q ∈ A.shL p) → Pls A m P → Pls A m (A.shS p L (P, o)).1 ∧ P <+: (A.shS p L (P, o)).1 := by
  intro L
  induction L with
  | nil => intro P o _ h; exact ⟨h, List.prefix_refl _⟩
  | cons q L ih =>
    intro P o hL h
    rw [Ar.shS]
    have hq := shL_sub (hL q List.mem_cons_self)
    obtain ⟨a, b⟩ := ih _ (o ++ [(A.shV P (rvT A.ws (p + q), rvN A.ws (p + q))).2]) (fun r hr => hL r (List.mem_cons_of_mem _ hr)) (h.v (v := (rvT A.ws (p + q), rvN A.ws (p + q))) (fun c => (hO.slotV hp hq).2 c))
    exact ⟨a, (shV_pre P _).trans b⟩
theorem Pls.n (hO : OkP A m) {p : Int} (hp : MkO A m p) {P : List Int} (h : Pls A m P) : Pls A m (A.shN P p).1 ∧ P <+: (A.shN P p).1 := Pls.s hO hp (A.shL p) P [] (fun q hq => hq) h
/-- a row of nodes that may lie nowhere -/
def oN (bn : Option Nat) (l : List (ND × NA)) (sp : List Value) : HL := oC 50 bn (l.flatMap nCells) sp
theorem TkG.app {H G R X : HL} (h : TkG H G R) : TkG (X ++ H) G (X ++ R) := by
  induction X with
  | nil => exact h
  | cons p X ih => exact .there ih
inductive Sink (X : HL) : HL → HL → Prop
  | here {T : HL} : Sink X T (X ++ T)
  | there {R R' : HL} {p : Nat × Obj} : Sink X R R' → Sink X (p :: R) (p :: R')
theorem Sink.perm {X R R' : HL} (h : Sink X R R') : (X ++ R).Perm R' := by
  induction h with
  | here => exact .refl _
  | there _ ih => exact List.perm_middle.trans (List.Perm.cons _ ih)
theorem tail_perm (B X Y Z V : HL) (q : Nat × Obj) : (q :: (B ++ (X ++ (Y ++ (Z ++ V))))).Perm (B ++ (Y ++ (q :: ((Z ++ X) ++ V)))) := by
  refine List.perm_middle.symm.trans (List.Perm.append_left B ?_)
  have h1 : (X ++ (Y ++ (Z ++ V))).Perm (Y ++ ((Z ++ X) ++ V)) := by
    refine (List.perm_append_comm_assoc X Y (Z ++ V)).trans (List.Perm.append_left Y ?_)
    rw [List.append_assoc]
    exact List.perm_append_comm_assoc X Z V
  exact (List.Perm.cons q h1).trans List.perm_middle.symm
theorem nHL_snoc (l : List (ND × NA)) (x : ND × NA) : nHL l ++ oV x.2.b x.1.sl x.2.sp = nHL (l ++ [x]) := by rw [nHL_append]; simp [nHL]
/-- what ShapeOf hands back -/
def ShRes (S : List (Int × Int) × List ND) (r : Value) (H : HL) (v : Value) (H' : HL) : Prop := ∃ br rc rsp bn nc nsp l, v = .tuple #[.agg #[.slice (ad br) S.1.length rc, .slice (ad bn) (List.length l) nc], r] ∧ l.map Prod.fst = S.2 ∧ (br = none → S.1 = []) ∧ (bn = none → l = []) ∧ (∀ x ∈ l, NOk x) ∧ H' = oV br S.1 rsp ++ (oN bn l nsp ++ (nHL l ++ H))
end Go.Proofs.Ytfhihnonafklbaa.Eng
