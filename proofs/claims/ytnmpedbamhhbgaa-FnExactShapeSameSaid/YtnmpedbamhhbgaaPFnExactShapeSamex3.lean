-- written for this claim by a program of this session's (a patched scratch copy of the kit's print)
import Derived.Test.YtnmpedbamhhbgaaPFnExactShapeSamex0
import Derived.Test.YtnmpedbamhhbgaaPFnExactShapeSamex2
namespace Go.Proofs.Ytnmpedbamhhbgaa.PFnExactShapeSame
open Go.RowKit Go.Proofs.YtnmpedbamhhbgaaW.PrintWords Go.Proofs.YtnmpedbamhhbgaaW.PrintLast Go.Proofs.YtnmpedbamhhbgaaW.PrintMore
attribute [local go_sem] max2_int min2_int max_two min_two max_three min_three max_four min_four   -- for this text's walks alone
set_option linter.unusedVariables false
set_option linter.unusedSimpArgs false

theorem neFar {w : World} {a : Addr} {v : Value} {B : Nat} (h : w.cell? a = some v) (hB : w.heap.size ≤ B) : a.block ≠ B := by
  refine Nat.ne_of_lt (Nat.lt_of_lt_of_le ?_ hB)
  exact World.block_lt_of_cell? _ _ h
/-! ### spec_ShapeSame: function 5 -/
mutual
def spec_ShapeSame.j0 : Nat → Bool → List (S42) → List (S38) → List (S42) → List (S38) → Option (Bool)
  | 0, _, _, _, _, _ => none
  | k + 1, x22, x111000, x111001, x112000, x112001 => if x22 = true then (some false) else (spec_ShapeSame.l0 k 0 x111000 x111001 x112000 x112001)
def spec_ShapeSame.l0 : Nat → Int → List (S42) → List (S38) → List (S42) → List (S38) → Option (Bool)
  | 0, _, _, _, _, _ => none
  | k + 1, x5, x111000, x111001, x112000, x112001 => if x5 < (x111001.length : Int) then (if 0 ≤ x5 then (if x5 < (x112001.length : Int) then (if ((rd_T38 x111001 x5).f0) = ((rd_T38 x112001 x5).f0) then (if ((rd_T38 x111001 x5).f1) = ((rd_T38 x112001 x5).f1) then (if ((rd_T38 x111001 x5).f2) = ((rd_T38 x112001 x5).f2) then (if ((rd_T38 x111001 x5).f3) = ((rd_T38 x112001 x5).f3) then (if ((rd_T38 x111001 x5).f4).toList = ((rd_T38 x112001 x5).f4).toList then ((spec_l7Vals.f k ((rd_T38 x111001 x5).f5) ((rd_T38 x112001 x5).f5)).bind fun t117 => (if t117 = true then (spec_ShapeSame.l0 k (wrap64 (x5 + 1)) x111000 x111001 x112000 x112001) else (some false))) else (some false)) else (some false)) else (some false)) else (some false)) else (some false)) else (none)) else (none)) else (some true)
end
def spec_ShapeSame.f (k : Nat) (l0_0 : List (S42)) (l0_1 : List (S38)) (l1_0 : List (S42)) (l1_1 : List (S38)) : Option (Bool) := (spec_l7Vals.f k l0_0 l1_0).bind fun t112 => (if t112 = true then (spec_ShapeSame.j0 k ((l0_1.length : Int) != (l1_1.length : Int)) l0_0 l0_1 l1_0 l1_1) else (spec_ShapeSame.j0 k true l0_0 l0_1 l1_0 l1_1))
theorem spec_ShapeSame.mono_l : ∀ k, (∀ y0 y1 y2 y3 y4, LeO (spec_ShapeSame.j0 k y0 y1 y2 y3 y4) (spec_ShapeSame.j0 (k + 1) y0 y1 y2 y3 y4)) ∧ (∀ y0 y1 y2 y3 y4, LeO (spec_ShapeSame.l0 k y0 y1 y2 y3 y4) (spec_ShapeSame.l0 (k + 1) y0 y1 y2 y3 y4))
  | 0 => ⟨fun _ _ _ _ _ r h => by simp [spec_ShapeSame.j0] at h, fun _ _ _ _ _ r h => by simp [spec_ShapeSame.l0] at h⟩
  | k + 1 => by
    obtain ⟨ih0, ih1⟩ := spec_ShapeSame.mono_l k
    refine ⟨?_, ?_⟩
    · intro y0 y1 y2 y3 y4
      unfold spec_ShapeSame.j0
      repeat' first
      | (with_reducible exact ih0 _ _ _ _ _)
      | (with_reducible exact ih1 _ _ _ _ _)
      | (with_reducible exact spec_l7Vals.mono _ _ _)
      | (with_reducible exact LeO.refl _)
      | (with_reducible exact LeO.none _)
      | (with_reducible refine LeO.ite ?_ ?_)
      | (with_reducible refine LeO.bind ?_ (fun _ => ?_))
      | exact ih0 _ _ _ _ _
      | exact ih1 _ _ _ _ _
      | exact spec_l7Vals.mono _ _ _
      | exact LeO.none _
      | refine LeO.ite ?_ ?_
      | refine LeO.bind ?_ (fun _ => ?_)
    · intro y0 y1 y2 y3 y4
      unfold spec_ShapeSame.l0
      repeat' first
      | (with_reducible exact ih0 _ _ _ _ _)
      | (with_reducible exact ih1 _ _ _ _ _)
      | (with_reducible exact spec_l7Vals.mono _ _ _)
      | (with_reducible exact LeO.refl _)
      | (with_reducible exact LeO.none _)
      | (with_reducible refine LeO.ite ?_ ?_)
      | (with_reducible refine LeO.bind ?_ (fun _ => ?_))
      | exact ih0 _ _ _ _ _
      | exact ih1 _ _ _ _ _
      | exact spec_l7Vals.mono _ _ _
      | exact LeO.none _
      | refine LeO.ite ?_ ?_
      | refine LeO.bind ?_ (fun _ => ?_)
theorem spec_ShapeSame.mono : ∀ a0 a1 a2 a3 k, LeO (spec_ShapeSame.f k a0 a1 a2 a3) (spec_ShapeSame.f (k + 1) a0 a1 a2 a3) := by
  intro a0 a1 a2 a3 k
  obtain ⟨ih0, ih1⟩ := spec_ShapeSame.mono_l k
  unfold spec_ShapeSame.f
  repeat' first
      | (with_reducible exact ih0 _ _ _ _ _)
      | (with_reducible exact ih1 _ _ _ _ _)
      | (with_reducible exact spec_l7Vals.mono _ _ _)
      | (with_reducible exact LeO.refl _)
      | (with_reducible exact LeO.none _)
      | (with_reducible refine LeO.ite ?_ ?_)
      | (with_reducible refine LeO.bind ?_ (fun _ => ?_))
      | exact ih0 _ _ _ _ _
      | exact ih1 _ _ _ _ _
      | exact spec_l7Vals.mono _ _ _
      | exact LeO.none _
      | refine LeO.ite ?_ ?_
      | refine LeO.bind ?_ (fun _ => ?_)
def spec_ShapeSame.T6 : Bool × List (List Nat × List Nat) := (true, [([], []), ([0], [0]), ([], []), ([1, 2], [1, 2]), ([3], [3]), ([], []), ([5], [5]), ([], []), ([6, 7], [6, 7]), ([8], [8]), ([], []), ([], []), ([10, 4, 0, 1, 2, 3, 4, 10, 11], [4, 10]), ([11, 9, 12, 0, 1, 2, 3, 4, 5, 6, 7, 8, 9, 10, 11, 12], [9, 11])])
def spec_ShapeSame.B6 : List Nat := [0, 1, 0, 7, 15, 0, 32, 0, 224, 480, 0, 0, 3103, 8191]
theorem spec_ShapeSame.tab6 : rtab .any (opsOf Try.f5 6) = spec_ShapeSame.T6 := by kernel_rfl
theorem spec_ShapeSame.bits6 : waitsOk spec_ShapeSame.T6.2 spec_ShapeSame.B6 = true := by kernel_rfl
set_option maxHeartbeats 8000000 in
set_option maxRecDepth 100000 in
theorem spec_ShapeSame.calls (k : Nat) (A0_0 : Option Addr) (c0_0 : Nat) (l0_0 : List (S42)) (A0_1 : Option Addr) (c0_1 : Nat) (l0_1 : List (S38)) (A1_0 : Option Addr) (c1_0 : Nat) (l1_0 : List (S42)) (A1_1 : Option Addr) (c1_1 : Nat) (l1_1 : List (S38)) (r : Bool) (w : World) (hr0_0 : Kd.C k42 w A0_0 l0_0.length l0_0) (hc0_0 : l0_0.length ≤ c0_0) (hr0_1 : Kd.C k38 w A0_1 l0_1.length l0_1) (hc0_1 : l0_1.length ≤ c0_1) (hr1_0 : Kd.C k42 w A1_0 l1_0.length l1_0) (hc1_0 : l1_0.length ≤ c1_0) (hr1_1 : Kd.C k38 w A1_1 l1_1.length l1_1) (hc1_1 : l1_1.length ≤ c1_1) (h : spec_ShapeSame.f k l0_0 l0_1 l1_0 l1_1 = some r) :
    Calls Try.prog 5 #[.agg #[.slice A0_0 l0_0.length c0_0, .slice A0_1 l0_1.length c0_1], .agg #[.slice A1_0 l1_0.length c1_0, .slice A1_1 l1_1.length c1_1]] w fun e w' => e = .returned (.bool r) ∧ Below w.heap.size w w' := by
  have hu31 := Try.underlying31
  have hu38 := Try.underlying38
  have HR0_0 := Aside0.mk hr0_0
  have HC0_0 := Aside0.mk hc0_0
  clear hr0_0 hc0_0
  have HR0_1 := Aside0.mk hr0_1
  have HC0_1 := Aside0.mk hc0_1
  clear hr0_1 hc0_1
  have HR1_0 := Aside0.mk hr1_0
  have HC1_0 := Aside0.mk hc1_0
  clear hr1_0 hc1_0
  have HR1_1 := Aside0.mk hr1_1
  have HC1_1 := Aside0.mk hc1_1
  clear hr1_1 hc1_1
  have HB := Aside0.mk (Below.refl w.heap.size w)
  have H : ((spec_l7Vals.f k l0_0 l1_0).bind fun t112 => (if t112 = true then (spec_ShapeSame.j0 k ((l0_1.length : Int) != (l1_1.length : Int)) l0_0 l0_1 l1_0 l1_1) else (spec_ShapeSame.j0 k true l0_0 l0_1 l1_0 l1_1))) = some r := h
  clear h
  have HC3 := Aside0.mk H
  clear H
  go_enter Try.func5, Try.ntmps5
  go_upto_region 1 with (first | ((with_reducible refine gate_dst (N := 2) rfl ?_); (try (refine gate_guard (by rfl) ?_; dsimp only)); refine box_event ?hg (N := 2) ?hd (cs := #[.slice A0_0 l0_0.length c0_0, .slice A0_1 l0_1.length c0_1]) (t := 31) ?hr ?_; (case hd => rfl); (case hg => rfl); (case hr => first | (go_simp; done) | (go_simp; rfl)); intro gb110 hg w4 hbox hb; have n0_ := Aside0.mk (below_step (by repeat (first | (with_reducible first | exact HB.out | apply below_alloc | apply pw_below_drewN | apply below_drew1) | exact HB.out)) hb); have n1_ := Aside0.mk (hbox); have n2_ := Aside0.mk ((by rw [hg]; exact (below_size (by repeat (first | (with_reducible first | exact HB.out | apply below_alloc | apply pw_below_drewN | apply below_drew1) | exact HB.out))) : w.heap.size ≤ gb110)); have n3_ := Aside0.mk ((by rw [hg]; exact (below_size (by repeat (first | (with_reducible first | exact HB.out | apply below_alloc | apply pw_below_drewN | apply below_drew1) | exact HB.out))) : w.heap.size ≤ gb110)); clear HB; have HB := n0_; have BK110 := n1_; have GW110 := n2_; have GE110 := n3_; clear n0_ n1_ n2_ n3_; clear hb hbox hg) | ((with_reducible refine gate_dst (N := 3) rfl ?_); (try (refine gate_guard (by rfl) ?_; dsimp only)); refine box_event ?hg (N := 3) ?hd (cs := #[.slice A1_0 l1_0.length c1_0, .slice A1_1 l1_1.length c1_1]) (t := 31) ?hr ?_; (case hd => rfl); (case hg => rfl); (case hr => first | (go_simp; done) | (go_simp; rfl)); intro gb111 hg w5 hbox hb; have n0_ := Aside0.mk (blk_below (g := gb110) (o := .cells #[.slice A0_0 l0_0.length c0_0, .slice A0_1 l0_1.length c0_1] 31 (0, 0)) (by (with_reducible repeat (first | refine blk_drewN ?_ _ | refine blk_drew ?_ | refine blk_alloc ?_ _)); exact BK110.out) hb); have n1_ := Aside0.mk (below_step (by repeat (first | (with_reducible first | exact HB.out | apply below_alloc | apply pw_below_drewN | apply below_drew1 | refine below_set ?_ GE110.out) | exact HB.out)) hb); have n2_ := Aside0.mk (hbox); have n3_ := Aside0.mk ((by rw [hg]; exact (below_size (by repeat (first | (with_reducible first | exact HB.out | apply below_alloc | apply pw_below_drewN | apply below_drew1 | refine below_set ?_ GE110.out) | exact HB.out))) : w.heap.size ≤ gb111)); have n4_ := Aside0.mk ((by rw [hg]; exact (below_size (by repeat (first | (with_reducible first | exact HB.out | apply below_alloc | apply pw_below_drewN | apply below_drew1 | refine below_set ?_ GE110.out) | exact HB.out))) : w.heap.size ≤ gb111)); have n5_ := Aside0.mk ((by rw [hg]; exact Nat.ne_of_lt (blk_lt (g := gb110) (o := .cells #[.slice A0_0 l0_0.length c0_0, .slice A0_1 l0_1.length c0_1] 31 (0, 0)) (by (with_reducible repeat (first | refine blk_drewN ?_ _ | refine blk_drew ?_ | refine blk_alloc ?_ _)); exact BK110.out)) : gb110 ≠ gb111)); have n6_ := Aside0.mk ((by rw [hg]; exact Nat.ne_of_gt (blk_lt (g := gb110) (o := .cells #[.slice A0_0 l0_0.length c0_0, .slice A0_1 l0_1.length c0_1] 31 (0, 0)) (by (with_reducible repeat (first | refine blk_drewN ?_ _ | refine blk_drew ?_ | refine blk_alloc ?_ _)); exact BK110.out)) : gb111 ≠ gb110)); clear BK110; clear HB; have BK110 := n0_; have HB := n1_; have BK111 := n2_; have GW111 := n3_; have GE111 := n4_; have NB110_111 := n5_; have NB111_110 := n6_; clear n0_ n1_ n2_ n3_ n4_ n5_ n6_; clear hb hbox hg))
  (try simp only [Act.put, List.setIfInBounds_toArray, List.set_cons_zero, List.set_cons_succ])
  go_cut [22] (fun v22 wc => ∃ (kq : Nat) (x22_2 : Bool), v22 = .bool x22_2 ∧ Aside0 (spec_ShapeSame.j0 kq x22_2 l0_0 l0_1 l1_0 l1_1 = some r) ∧ Aside0 (kq ≤ k) ∧ Aside0 (wc.heap[gb110]? = some (.cells #[(.slice A0_0 l0_0.length c0_0), (.slice A0_1 l0_1.length c0_1)] 31 (0, 0))) ∧ Aside0 (wc.heap[gb111]? = some (.cells #[(.slice A1_0 l1_0.length c1_0), (.slice A1_1 l1_1.length c1_1)] 31 (0, 0))) ∧ Aside0 (Below w.heap.size w wc))
  case first =>
    have H := HC3.out
    clear HC3
    replace H := Option.bind_eq_some_iff.mp H
    obtain ⟨t112, A60, H⟩ := H
    replace H : (if t112 = true then (spec_ShapeSame.j0 k ((l0_1.length : Int) != (l1_1.length : Int)) l0_0 l0_1 l1_0 l1_1) else (spec_ShapeSame.j0 k true l0_0 l0_1 l1_0 l1_1)) = some r := H
    have A6 := Aside0.mk A60
    clear A60
    by_cases c7 : t112 = true
    · subst c7
      have H1 : (spec_ShapeSame.j0 k ((l0_1.length : Int) != (l1_1.length : Int)) l0_0 l0_1 l1_0 l1_1) = some r := by rw [if_pos rfl] at H; exact H
      clear H
      have H := H1
      clear H1
      have H' := Aside0.mk H
      clear H
      have hnb8 := NB110_111.out
      have hnc8 := NB111_110.out
      have hcz9_0 : w5.cell? ⟨gb110, 0, none⟩ = some (.slice A0_0 l0_0.length c0_0) := (blk_cell BK110.out 0).trans rfl
      have hcz9_1 : w5.cell? ⟨gb110, 1, none⟩ = some (.slice A0_1 l0_1.length c0_1) := (blk_cell BK110.out 1).trans rfl
      have hfz9_0 := blk_frozen BK110.out 0
      have hfz9_1 := blk_frozen BK110.out 1
      have hcz10_0 : w5.cell? ⟨gb111, 0, none⟩ = some (.slice A1_0 l1_0.length c1_0) := (blk_cell BK111.out 0).trans rfl
      have hcz10_1 : w5.cell? ⟨gb111, 1, none⟩ = some (.slice A1_1 l1_1.length c1_1) := (blk_cell BK111.out 1).trans rfl
      have hfz10_0 := blk_frozen BK111.out 0
      have hfz10_1 := blk_frozen BK111.out 1
      go_wp2_with (first | ((with_reducible refine gate_callee (f := 11) rfl ?_); refine goesL_ (some 12) rfl rfl Try.func11 (by kernel_rfl) rfl #[.slice A0_0 l0_0.length c0_0, .slice A1_0 l1_0.length c1_0] rfl (by (try simp only [List.map_toArray, List.map_cons, List.map_nil]); first | done | rfl | (simp only [List.length_drop, List.length_take]; rfl)) ?_; (with_reducible refine (spec_l7Vals.calls k _ _ l0_0 _ _ l1_0 true _ ?side1 ?side2 ?side3 ?side4 A6.out).mono ?_); (case side1 => repeat (first | exact (Kd.C_below HR0_0.out HB.out) | (with_reducible refine Kd.C_alloc ?_ _) | (with_reducible refine Kd.C_drewN ?_ _) | (with_reducible refine Kd.C_drew ?_))); (case side2 => exact HC0_0.out); (case side3 => repeat (first | exact (Kd.C_below HR1_0.out HB.out) | (with_reducible refine Kd.C_alloc ?_ _) | (with_reducible refine Kd.C_drewN ?_ _) | (with_reducible refine Kd.C_drew ?_))); (case side4 => exact HC1_0.out); rintro e w' ⟨rfl, ⟨nd, rfl⟩⟩; refine ⟨_, rfl, ?_⟩))
      go_meet
      case rel => exact ⟨_, (((l0_1.length : Int) != (l1_1.length : Int))), (by first | rfl | (simp; done) | (simp [*]; done)), H', ⟨by first | omega | exact Nat.le_refl _⟩, ⟨by (with_reducible repeat (first | refine blk_drewN ?_ _ | refine blk_drew ?_ | refine blk_alloc ?_ _)); exact BK110.out⟩, ⟨by (with_reducible repeat (first | refine blk_drewN ?_ _ | refine blk_drew ?_ | refine blk_alloc ?_ _)); exact BK111.out⟩, ⟨by repeat (first | (with_reducible first | exact HB.out | apply below_alloc | apply pw_below_drewN | apply below_drew1 | refine below_set ?_ GE110.out | refine below_set ?_ GE111.out) | exact HB.out)⟩⟩
    · replace c7 := Bool.eq_false_iff.mpr c7
      subst c7
      have H1 : (spec_ShapeSame.j0 k true l0_0 l0_1 l1_0 l1_1) = some r := by rw [if_neg (show ¬ (false = true) by decide)] at H; exact H
      clear H
      have H := H1
      clear H1
      have H' := Aside0.mk H
      clear H
      have hnb11 := NB110_111.out
      have hnc11 := NB111_110.out
      have hcz12_0 : w5.cell? ⟨gb110, 0, none⟩ = some (.slice A0_0 l0_0.length c0_0) := (blk_cell BK110.out 0).trans rfl
      have hcz12_1 : w5.cell? ⟨gb110, 1, none⟩ = some (.slice A0_1 l0_1.length c0_1) := (blk_cell BK110.out 1).trans rfl
      have hfz12_0 := blk_frozen BK110.out 0
      have hfz12_1 := blk_frozen BK110.out 1
      have hcz13_0 : w5.cell? ⟨gb111, 0, none⟩ = some (.slice A1_0 l1_0.length c1_0) := (blk_cell BK111.out 0).trans rfl
      have hcz13_1 : w5.cell? ⟨gb111, 1, none⟩ = some (.slice A1_1 l1_1.length c1_1) := (blk_cell BK111.out 1).trans rfl
      have hfz13_0 := blk_frozen BK111.out 0
      have hfz13_1 := blk_frozen BK111.out 1
      go_wp2_with (first | ((with_reducible refine gate_callee (f := 11) rfl ?_); refine goesL_ (some 12) rfl rfl Try.func11 (by kernel_rfl) rfl #[.slice A0_0 l0_0.length c0_0, .slice A1_0 l1_0.length c1_0] rfl (by (try simp only [List.map_toArray, List.map_cons, List.map_nil]); first | done | rfl | (simp only [List.length_drop, List.length_take]; rfl)) ?_; (with_reducible refine (spec_l7Vals.calls k _ _ l0_0 _ _ l1_0 false _ ?side1 ?side2 ?side3 ?side4 A6.out).mono ?_); (case side1 => repeat (first | exact (Kd.C_below HR0_0.out HB.out) | (with_reducible refine Kd.C_alloc ?_ _) | (with_reducible refine Kd.C_drewN ?_ _) | (with_reducible refine Kd.C_drew ?_))); (case side2 => exact HC0_0.out); (case side3 => repeat (first | exact (Kd.C_below HR1_0.out HB.out) | (with_reducible refine Kd.C_alloc ?_ _) | (with_reducible refine Kd.C_drewN ?_ _) | (with_reducible refine Kd.C_drew ?_))); (case side4 => exact HC1_0.out); rintro e w' ⟨rfl, ⟨nd, rfl⟩⟩; refine ⟨_, rfl, ?_⟩))
      go_meet
      case rel => exact ⟨_, (true), (by first | rfl | (simp; done) | (simp [*]; done)), H', ⟨by first | omega | exact Nat.le_refl _⟩, ⟨by (with_reducible repeat (first | refine blk_drewN ?_ _ | refine blk_drew ?_ | refine blk_alloc ?_ _)); exact BK110.out⟩, ⟨by (with_reducible repeat (first | refine blk_drewN ?_ _ | refine blk_drew ?_ | refine blk_alloc ?_ _)); exact BK111.out⟩, ⟨by repeat (first | (with_reducible first | exact HB.out | apply below_alloc | apply pw_below_drewN | apply below_drew1 | refine below_set ?_ GE110.out | refine below_set ?_ GE111.out) | exact HB.out)⟩⟩
  case rest =>
    clear HC3
    try clear c1
    try clear p2
    try clear c5
    try clear c7
    try clear c8
    try clear c11
    try clear hcz10_0
    try clear hcz10_1
    try clear hcz12_0
    try clear hcz12_1
    try clear hcz13_0
    try clear hcz13_1
    try clear hcz9_0
    try clear hcz9_1
    try clear hfz10_0
    try clear hfz10_1
    try clear hfz12_0
    try clear hfz12_1
    try clear hfz13_0
    try clear hfz13_1
    try clear hfz9_0
    try clear hfz9_1
    obtain ⟨kq, x22_2, rfl, HA, HJ2, BK110, BK111, HB⟩ := hcut
    cases kq with
    | zero => exact absurd HA.out (by simp [spec_ShapeSame.j0])
    | succ kj2 =>
      have H := HA.out
      clear HA
      simp only [spec_ShapeSame.j0] at H
      by_cases c14 : x22_2 = true
      · subst c14
        have H1 : (some false) = some r := by rw [if_pos rfl] at H; exact H
        clear H
        have H := H1
        clear H1
        obtain rfl := Option.some.inj H
        go_wp2
        go_ret
        exact ⟨by first | rfl | (simp [errW_none, errW_some] <;> rfl) | (simp [*, errW_none, errW_some] <;> rfl), by repeat (first | (with_reducible first | exact HB.out | apply below_alloc | apply pw_below_drewN | apply below_drew1 | refine below_set ?_ GE110.out | refine below_set ?_ GE111.out) | exact HB.out)⟩
      · replace c14 := Bool.eq_false_iff.mpr c14
        subst c14
        have H1 : (spec_ShapeSame.l0 kj2 0 l0_0 l0_1 l1_0 l1_1) = some r := by rw [if_neg (show ¬ (false = true) by decide)] at H; exact H
        clear H
        have H := H1
        clear H1
        have H' := Aside0.mk H
        clear H
        go_wp2
        go_loopg [5] kj2 (fun kq v5 w' => ∃ (x5_2 : Int), v5 = .int .i64 x5_2 ∧ Aside0 (spec_ShapeSame.l0 kq x5_2 l0_0 l0_1 l1_0 l1_1 = some r) ∧ Aside0 (kq ≤ kj2) ∧ Aside0 (w'.heap[gb110]? = some (.cells #[(.slice A0_0 l0_0.length c0_0), (.slice A0_1 l0_1.length c0_1)] 31 (0, 0))) ∧ Aside0 (w'.heap[gb111]? = some (.cells #[(.slice A1_0 l1_0.length c1_0), (.slice A1_1 l1_1.length c1_1)] 31 (0, 0))) ∧ Aside0 (Below w.heap.size w w'))
        case atStart => exact ⟨(0), (by first | rfl | (simp; done) | (simp [*]; done)), H', ⟨Nat.le_refl _⟩, ⟨by (with_reducible repeat (first | refine blk_drewN ?_ _ | refine blk_drew ?_ | refine blk_alloc ?_ _)); exact BK110.out⟩, ⟨by (with_reducible repeat (first | refine blk_drewN ?_ _ | refine blk_drew ?_ | refine blk_alloc ?_ _)); exact BK111.out⟩, ⟨by repeat (first | (with_reducible first | exact HB.out | apply below_alloc | apply pw_below_drewN | apply below_drew1 | refine below_set ?_ GE110.out | refine below_set ?_ GE111.out) | exact HB.out)⟩⟩
        case round =>
          clear H'
          try clear c1
          try clear p2
          try clear c5
          try clear c7
          try clear c8
          try clear c11
          try clear c14
          try clear hcz10_0
          try clear hcz10_1
          try clear hcz12_0
          try clear hcz12_1
          try clear hcz13_0
          try clear hcz13_1
          try clear hcz9_0
          try clear hcz9_1
          try clear hfz10_0
          try clear hfz10_1
          try clear hfz12_0
          try clear hfz12_1
          try clear hfz13_0
          try clear hfz13_1
          try clear hfz9_0
          try clear hfz9_1
          try clear p2
          obtain ⟨x5_2, rfl, HA, HK2, BK110, BK111, HB⟩ := hrel
          cases gk with
          | zero => exact absurd HA.out (by simp [spec_ShapeSame.l0])
          | succ k2 =>
            have H := HA.out
            clear HA
            simp only [spec_ShapeSame.l0] at H
            by_cases c15 : x5_2 < (l0_1.length : Int)
            · rw [if_pos c15] at H
              have c15b0 : decide (x5_2 < (l0_1.length : Int)) = true := decide_eq_true c15
              clear c15
              by_cases c16 : 0 ≤ x5_2
              · rw [if_pos c16] at H
                have c16b0 : decide (0 ≤ x5_2) = true := decide_eq_true c16
                clear c16
                by_cases c17 : x5_2 < (l1_1.length : Int)
                · rw [if_pos c17] at H
                  have c17b0 : decide (x5_2 < (l1_1.length : Int)) = true := decide_eq_true c17
                  clear c17
                  have HH := Aside0.mk H
                  clear H
                  have hnb25 := NB110_111.out
                  have hnc25 := NB111_110.out
                  have hcz26_0 : wr.cell? ⟨gb110, 0, none⟩ = some (.slice A0_0 l0_0.length c0_0) := (blk_cell BK110.out 0).trans rfl
                  have hcz26_1 : wr.cell? ⟨gb110, 1, none⟩ = some (.slice A0_1 l0_1.length c0_1) := (blk_cell BK110.out 1).trans rfl
                  have hfz26_0 := blk_frozen BK110.out 0
                  have hfz26_1 := blk_frozen BK110.out 1
                  try go_wp2
                  have n0_ := Aside0.mk (blk_drew BK110.out)
                  have n1_ := Aside0.mk (blk_drew BK111.out)
                  have n2_ := Aside0.mk (below_drew1 HB.out)
                  clear BK110
                  clear BK111
                  clear HB
                  have BK110 := n0_
                  have BK111 := n1_
                  have HB := n2_
                  clear n0_ n1_ n2_
                  have p113 : 0 ≤ (x5_2 : Int) := of_decide_eq_true (by first | (with_reducible assumption) | assumption)
                  have q113 : x5_2 < (l0_1.length : Int) := of_decide_eq_true (by first | (with_reducible assumption) | assumption)
                  obtain ⟨ad113, A113_5, c113_5, e113, hx113_0, hx113_1, hx113_2, hx113_3, hx113_4, hx113_5, hl113_5, hi113_5⟩ := at_T38 HR0_1.out x5_2 p113 q113
                  have hw113_5 := hx113_5
                  have hw113_4 := hx113_4
                  have hw113_3 := hx113_3
                  have hw113_2 := hx113_2
                  have hw113_1 := hx113_1
                  have hw113_0 := hx113_0
                  cases e113
                  replace hx113_0 := (HB.out.cell (World.block_lt_of_cell? w _ hx113_0)).trans hx113_0
                  replace hx113_1 := (HB.out.cell (World.block_lt_of_cell? w _ hx113_1)).trans hx113_1
                  replace hx113_2 := (HB.out.cell (World.block_lt_of_cell? w _ hx113_2)).trans hx113_2
                  replace hx113_3 := (HB.out.cell (World.block_lt_of_cell? w _ hx113_3)).trans hx113_3
                  replace hx113_4 := (HB.out.cell (World.block_lt_of_cell? w _ hx113_4)).trans hx113_4
                  replace hx113_5 := (HB.out.cell (World.block_lt_of_cell? w _ hx113_5)).trans hx113_5
                  have HR113_5 := Aside0.mk hi113_5
                  have HC113_5 := Aside0.mk hl113_5
                  clear hi113_5 hl113_5
                  replace p113 := eq_true p113
                  replace q113 := eq_true q113
                  have p114 : 0 ≤ (x5_2 : Int) := of_decide_eq_true (by first | (with_reducible assumption) | assumption)
                  have q114 : x5_2 < (l1_1.length : Int) := of_decide_eq_true (by first | (with_reducible assumption) | assumption)
                  obtain ⟨ad114, A114_5, c114_5, e114, hx114_0, hx114_1, hx114_2, hx114_3, hx114_4, hx114_5, hl114_5, hi114_5⟩ := at_T38 HR1_1.out x5_2 p114 q114
                  have hw114_5 := hx114_5
                  have hw114_4 := hx114_4
                  have hw114_3 := hx114_3
                  have hw114_2 := hx114_2
                  have hw114_1 := hx114_1
                  have hw114_0 := hx114_0
                  cases e114
                  replace hx114_0 := (HB.out.cell (World.block_lt_of_cell? w _ hx114_0)).trans hx114_0
                  replace hx114_1 := (HB.out.cell (World.block_lt_of_cell? w _ hx114_1)).trans hx114_1
                  replace hx114_2 := (HB.out.cell (World.block_lt_of_cell? w _ hx114_2)).trans hx114_2
                  replace hx114_3 := (HB.out.cell (World.block_lt_of_cell? w _ hx114_3)).trans hx114_3
                  replace hx114_4 := (HB.out.cell (World.block_lt_of_cell? w _ hx114_4)).trans hx114_4
                  replace hx114_5 := (HB.out.cell (World.block_lt_of_cell? w _ hx114_5)).trans hx114_5
                  have HR114_5 := Aside0.mk hi114_5
                  have HC114_5 := Aside0.mk hl114_5
                  clear hi114_5 hl114_5
                  replace p114 := eq_true p114
                  replace q114 := eq_true q114
                  refine start_ (n := 14) (S := fun w' => w'.cell? ⟨gb110, 0, none⟩ = some (.slice A0_0 l0_0.length c0_0) ∧ w'.cell? ⟨gb110, 1, none⟩ = some (.slice (some ad113) l0_1.length c0_1) ∧ w'.cell? ⟨gb111, 0, none⟩ = some (.slice A1_0 l1_0.length c1_0) ∧ w'.cell? ⟨gb111, 1, none⟩ = some (.slice (some ad114) l1_1.length c1_1) ∧ w'.cell? (ad113.add ((x5_2).toNat * 6)) = some (.int .i64 ((rd_T38 l0_1 x5_2).f0)) ∧ w'.cell? ⟨(ad113.add ((x5_2).toNat * 6)).block, (ad113.add ((x5_2).toNat * 6)).off + 1, none⟩ = some (.int .i64 ((rd_T38 l0_1 x5_2).f1)) ∧ w'.cell? ⟨(ad113.add ((x5_2).toNat * 6)).block, (ad113.add ((x5_2).toNat * 6)).off + 2, none⟩ = some (.int .i64 ((rd_T38 l0_1 x5_2).f2)) ∧ w'.cell? ⟨(ad113.add ((x5_2).toNat * 6)).block, (ad113.add ((x5_2).toNat * 6)).off + 3, none⟩ = some (.int .i64 ((rd_T38 l0_1 x5_2).f3)) ∧ w'.cell? ⟨(ad113.add ((x5_2).toNat * 6)).block, (ad113.add ((x5_2).toNat * 6)).off + 4, none⟩ = some (.string ((rd_T38 l0_1 x5_2).f4)) ∧ w'.cell? ⟨(ad113.add ((x5_2).toNat * 6)).block, (ad113.add ((x5_2).toNat * 6)).off + 5, none⟩ = some (.slice A113_5 ((rd_T38 l0_1 x5_2).f5).length c113_5) ∧ w'.cell? (ad114.add ((x5_2).toNat * 6)) = some (.int .i64 ((rd_T38 l1_1 x5_2).f0)) ∧ w'.cell? ⟨(ad114.add ((x5_2).toNat * 6)).block, (ad114.add ((x5_2).toNat * 6)).off + 1, none⟩ = some (.int .i64 ((rd_T38 l1_1 x5_2).f1)) ∧ w'.cell? ⟨(ad114.add ((x5_2).toNat * 6)).block, (ad114.add ((x5_2).toNat * 6)).off + 2, none⟩ = some (.int .i64 ((rd_T38 l1_1 x5_2).f2)) ∧ w'.cell? ⟨(ad114.add ((x5_2).toNat * 6)).block, (ad114.add ((x5_2).toNat * 6)).off + 3, none⟩ = some (.int .i64 ((rd_T38 l1_1 x5_2).f3)) ∧ w'.cell? ⟨(ad114.add ((x5_2).toNat * 6)).block, (ad114.add ((x5_2).toNat * 6)).off + 4, none⟩ = some (.string ((rd_T38 l1_1 x5_2).f4)) ∧ w'.cell? ⟨(ad114.add ((x5_2).toNat * 6)).block, (ad114.add ((x5_2).toNat * 6)).off + 5, none⟩ = some (.slice A114_5 ((rd_T38 l1_1 x5_2).f5).length c114_5)) (ds := []) #[false, false, false, false, false, false, false, false, false, false, false, false, false, false] (by kernel_rfl) rfl rfl ⟨(blk_cell BK110.out 0).trans rfl, (blk_cell BK110.out 1).trans rfl, (blk_cell BK111.out 0).trans rfl, (blk_cell BK111.out 1).trans rfl, ((HB.out.cell (World.block_lt_of_cell? w _ hw113_0)).trans hw113_0), ((HB.out.cell (World.block_lt_of_cell? w _ hw113_1)).trans hw113_1), ((HB.out.cell (World.block_lt_of_cell? w _ hw113_2)).trans hw113_2), ((HB.out.cell (World.block_lt_of_cell? w _ hw113_3)).trans hw113_3), ((HB.out.cell (World.block_lt_of_cell? w _ hw113_4)).trans hw113_4), ((HB.out.cell (World.block_lt_of_cell? w _ hw113_5)).trans hw113_5), ((HB.out.cell (World.block_lt_of_cell? w _ hw114_0)).trans hw114_0), ((HB.out.cell (World.block_lt_of_cell? w _ hw114_1)).trans hw114_1), ((HB.out.cell (World.block_lt_of_cell? w _ hw114_2)).trans hw114_2), ((HB.out.cell (World.block_lt_of_cell? w _ hw114_3)).trans hw114_3), ((HB.out.cell (World.block_lt_of_cell? w _ hw114_4)).trans hw114_4), ((HB.out.cell (World.block_lt_of_cell? w _ hw114_5)).trans hw114_5)⟩ (fun hHeld => ?_); refine with_tabW spec_ShapeSame.tab6 spec_ShapeSame.bits6 (fun HT_ HW_ => ?_)
                  generalize wr.drew = w27 at BK110 BK111 HB HR113_5 HR114_5 hx113_0 hx113_1 hx113_2 hx113_3 hx113_4 hx113_5 hx114_0 hx114_1 hx114_2 hx114_3 hx114_4 hx114_5 hHeld ⊢
                  refine pure_ (i := 0) (N := some 30) (v := ?_) (a' := ?_) #[true, false, false, false, false, false, false, false, false, false, false, false, false, false] rfl rfl (any_of HT_.out (by kernel_rfl)) (fun _ _ _ h => h) (Or.inl ⟨by rfl, ?_⟩) ?_ ?_
                  rotate_left
                  · intro w'
                    go_simp
                    with_reducible rfl
                  rotate_left
                  · simp only [Act.put, List.setIfInBounds_toArray, List.set_cons_zero, List.set_cons_succ, i64_w, i32_w]
                    rfl
                  refine pure_ (i := 2) (N := some 32) (v := ?_) (a' := ?_) #[true, false, true, false, false, false, false, false, false, false, false, false, false, false] rfl rfl (any_of HT_.out (by kernel_rfl)) (fun _ _ _ h => h) (Or.inl ⟨by rfl, ?_⟩) ?_ ?_
                  rotate_left
                  · intro w'
                    go_simp
                    with_reducible rfl
                  rotate_left
                  · simp only [Act.put, List.setIfInBounds_toArray, List.set_cons_zero, List.set_cons_succ, i64_w, i32_w]
                    rfl
                  refine pure_ (i := 5) (N := some 35) (v := ?_) (a' := ?_) #[true, false, true, false, false, true, false, false, false, false, false, false, false, false] rfl rfl (any_of HT_.out (by kernel_rfl)) (fun _ _ _ h => h) (Or.inl ⟨by rfl, ?_⟩) ?_ ?_
                  rotate_left
                  · intro w'
                    go_simp
                    with_reducible rfl
                  rotate_left
                  · simp only [Act.put, List.setIfInBounds_toArray, List.set_cons_zero, List.set_cons_succ, i64_w, i32_w]
                    rfl
                  refine pure_ (i := 7) (N := some 37) (v := ?_) (a' := ?_) #[true, false, true, false, false, true, false, true, false, false, false, false, false, false] rfl rfl (any_of HT_.out (by kernel_rfl)) (fun _ _ _ h => h) (Or.inl ⟨by rfl, ?_⟩) ?_ ?_
                  rotate_left
                  · intro w'
                    go_simp
                    with_reducible rfl
                  rotate_left
                  · simp only [Act.put, List.setIfInBounds_toArray, List.set_cons_zero, List.set_cons_succ, i64_w, i32_w]
                    rfl
                  refine take_ (i := 1) (N := some 31) (v := ?_) (a' := ?_) #[true, true, true, false, false, true, false, true, false, false, false, false, false, false] rfl rfl (take_ofW HT_.out HW_.out (by kernel_rfl)) (fun _ _ _ h => h) (Or.inl ⟨by rfl, ?_⟩) hHeld ?_ ?_
                  rotate_left
                  · rintro w' ⟨s0, s1, s2, s3, s4, s5, s6, s7, s8, s9, s10, s11, s12, s13, s14, s15⟩
                    go_simp
                    with_reducible rfl
                  rotate_left
                  · simp only [Act.put, List.setIfInBounds_toArray, List.set_cons_zero, List.set_cons_succ, i64_w, i32_w]
                    rfl
                  refine pure_ (i := 3) (N := some 33) (v := ?_) (a' := ?_) #[true, true, true, true, false, true, false, true, false, false, false, false, false, false] rfl rfl (any_of HT_.out (by kernel_rfl)) (fun _ _ _ h => h) (Or.inl ⟨by rfl, ?_⟩) ?_ ?_
                  rotate_left
                  · intro w'
                    go_simp
                    with_reducible rfl
                  rotate_left
                  · simp only [Act.put, List.setIfInBounds_toArray, List.set_cons_zero, List.set_cons_succ, i64_w, i32_w]
                    rfl
                  refine take_ (i := 4) (N := some 34) (v := ?_) (a' := ?_) #[true, true, true, true, true, true, false, true, false, false, false, false, false, false] rfl rfl (take_ofW HT_.out HW_.out (by kernel_rfl)) (fun _ _ _ h => h) (Or.inl ⟨by rfl, ?_⟩) hHeld ?_ ?_
                  rotate_left
                  · rintro w' ⟨s0, s1, s2, s3, s4, s5, s6, s7, s8, s9, s10, s11, s12, s13, s14, s15⟩
                    go_simp
                    with_reducible rfl
                  rotate_left
                  · simp only [Act.put, List.setIfInBounds_toArray, List.set_cons_zero, List.set_cons_succ, i64_w, i32_w]
                    rfl
                  refine take_ (i := 6) (N := some 36) (v := ?_) (a' := ?_) #[true, true, true, true, true, true, true, true, false, false, false, false, false, false] rfl rfl (take_ofW HT_.out HW_.out (by kernel_rfl)) (fun _ _ _ h => h) (Or.inl ⟨by rfl, ?_⟩) hHeld ?_ ?_
                  rotate_left
                  · rintro w' ⟨s0, s1, s2, s3, s4, s5, s6, s7, s8, s9, s10, s11, s12, s13, s14, s15⟩
                    go_simp
                    with_reducible rfl
                  rotate_left
                  · simp only [Act.put, List.setIfInBounds_toArray, List.set_cons_zero, List.set_cons_succ, i64_w, i32_w]
                    rfl
                  refine pure_ (i := 8) (N := some 38) (v := ?_) (a' := ?_) #[true, true, true, true, true, true, true, true, true, false, false, false, false, false] rfl rfl (any_of HT_.out (by kernel_rfl)) (fun _ _ _ h => h) (Or.inl ⟨by rfl, ?_⟩) ?_ ?_
                  rotate_left
                  · intro w'
                    go_simp
                    with_reducible rfl
                  rotate_left
                  · simp only [Act.put, List.setIfInBounds_toArray, List.set_cons_zero, List.set_cons_succ, i64_w, i32_w]
                    rfl
                  refine take_ (i := 9) (N := some 39) (v := ?_) (a' := ?_) #[true, true, true, true, true, true, true, true, true, true, false, false, false, false] rfl rfl (take_ofW HT_.out HW_.out (by kernel_rfl)) (fun _ _ _ h => h) (Or.inl ⟨by rfl, ?_⟩) hHeld ?_ ?_
                  rotate_left
                  · rintro w' ⟨s0, s1, s2, s3, s4, s5, s6, s7, s8, s9, s10, s11, s12, s13, s14, s15⟩
                    go_simp
                    with_reducible rfl
                  rotate_left
                  · simp only [Act.put, List.setIfInBounds_toArray, List.set_cons_zero, List.set_cons_succ, i64_w, i32_w]
                    rfl
                  refine join_ (σ := Nat × Nat) 2 #[true, true, true, true, true, true, true, true, true, true, true, true, false, false] (fun s_ => [(6, .pointer (some ⟨s_.1, 0, none⟩)), (7, .pointer (some ⟨s_.2, 0, none⟩))]) (fun s_ w' => (w'.cell? ⟨gb110, 0, none⟩ = some (.slice A0_0 l0_0.length c0_0) ∧ w'.cell? ⟨gb110, 1, none⟩ = some (.slice (some ad113) l0_1.length c0_1) ∧ w'.cell? ⟨gb111, 0, none⟩ = some (.slice A1_0 l1_0.length c1_0) ∧ w'.cell? ⟨gb111, 1, none⟩ = some (.slice (some ad114) l1_1.length c1_1) ∧ w'.cell? (ad113.add ((x5_2).toNat * 6)) = some (.int .i64 ((rd_T38 l0_1 x5_2).f0)) ∧ w'.cell? ⟨(ad113.add ((x5_2).toNat * 6)).block, (ad113.add ((x5_2).toNat * 6)).off + 1, none⟩ = some (.int .i64 ((rd_T38 l0_1 x5_2).f1)) ∧ w'.cell? ⟨(ad113.add ((x5_2).toNat * 6)).block, (ad113.add ((x5_2).toNat * 6)).off + 2, none⟩ = some (.int .i64 ((rd_T38 l0_1 x5_2).f2)) ∧ w'.cell? ⟨(ad113.add ((x5_2).toNat * 6)).block, (ad113.add ((x5_2).toNat * 6)).off + 3, none⟩ = some (.int .i64 ((rd_T38 l0_1 x5_2).f3)) ∧ w'.cell? ⟨(ad113.add ((x5_2).toNat * 6)).block, (ad113.add ((x5_2).toNat * 6)).off + 4, none⟩ = some (.string ((rd_T38 l0_1 x5_2).f4)) ∧ w'.cell? ⟨(ad113.add ((x5_2).toNat * 6)).block, (ad113.add ((x5_2).toNat * 6)).off + 5, none⟩ = some (.slice A113_5 ((rd_T38 l0_1 x5_2).f5).length c113_5) ∧ w'.cell? (ad114.add ((x5_2).toNat * 6)) = some (.int .i64 ((rd_T38 l1_1 x5_2).f0)) ∧ w'.cell? ⟨(ad114.add ((x5_2).toNat * 6)).block, (ad114.add ((x5_2).toNat * 6)).off + 1, none⟩ = some (.int .i64 ((rd_T38 l1_1 x5_2).f1)) ∧ w'.cell? ⟨(ad114.add ((x5_2).toNat * 6)).block, (ad114.add ((x5_2).toNat * 6)).off + 2, none⟩ = some (.int .i64 ((rd_T38 l1_1 x5_2).f2)) ∧ w'.cell? ⟨(ad114.add ((x5_2).toNat * 6)).block, (ad114.add ((x5_2).toNat * 6)).off + 3, none⟩ = some (.int .i64 ((rd_T38 l1_1 x5_2).f3)) ∧ w'.cell? ⟨(ad114.add ((x5_2).toNat * 6)).block, (ad114.add ((x5_2).toNat * 6)).off + 4, none⟩ = some (.string ((rd_T38 l1_1 x5_2).f4)) ∧ w'.cell? ⟨(ad114.add ((x5_2).toNat * 6)).block, (ad114.add ((x5_2).toNat * 6)).off + 5, none⟩ = some (.slice A114_5 ((rd_T38 l1_1 x5_2).f5).length c114_5)) ∧ (w'.heap[gb110]? = some (.cells #[.slice A0_0 l0_0.length c0_0, .slice (some ad113) l0_1.length c0_1] 31 (0, 0))) ∧ (w'.heap[gb111]? = some (.cells #[.slice A1_0 l1_0.length c1_0, .slice (some ad114) l1_1.length c1_1] 31 (0, 0))) ∧ (w'.heap[s_.1]? = some (.cells #[.int .i64 0, .int .i64 0, .int .i64 0, .int .i64 0, .string (⟨#[]⟩ : ByteArray), .slice none 0 0] 38 (0, 0))) ∧ (w'.heap[s_.2]? = some (.cells #[.int .i64 0, .int .i64 0, .int .i64 0, .int .i64 0, .string (⟨#[]⟩ : ByteArray), .slice none 0 0] 38 (0, 0))) ∧ (w.heap.size ≤ s_.1) ∧ (w.heap.size ≤ s_.1) ∧ (gb110 ≠ s_.1) ∧ (s_.1 ≠ gb110) ∧ (gb111 ≠ s_.1) ∧ (s_.1 ≠ gb111) ∧ (s_.2 ≠ s_.1) ∧ (s_.1 ≠ s_.2) ∧ (w.heap.size ≤ s_.2) ∧ (w.heap.size ≤ s_.2) ∧ (gb110 ≠ s_.2) ∧ (s_.2 ≠ gb110) ∧ (gb111 ≠ s_.2) ∧ (s_.2 ≠ gb111) ∧ (Below w.heap.size w w')) ?_ ?_
                  rotate_left
                  · intro hCont
                    refine two_ (i := 10) (j := 11) (Ni := some 6) (Nj := some 7) #[true, true, true, true, true, true, true, true, true, true, true, false, false, false] #[true, true, true, true, true, true, true, true, true, true, false, true, false, false] rfl rfl rfl rfl (two_of HT_.out (by kernel_rfl)) (by decide) (by decide) (fun K hK => ?_) (fun K hK => ?_)
                    · skip
                      refine box_step ?hg (N := 6) ?hd (cs := #[.int .i64 0, .int .i64 0, .int .i64 0, .int .i64 0, .string (⟨#[]⟩ : ByteArray), .slice none 0 0]) (t := 38) ?hr ?_; (case hd => rfl); (case hg => rfl); (case hr => first | (go_simp; done) | (go_simp; rfl))
                      intro gb115 hg w28 hbox hb
                      have n0_ := Aside0.mk (blk_below (g := gb110) (o := .cells #[.slice A0_0 l0_0.length c0_0, .slice (some ad113) l0_1.length c0_1] 31 (0, 0)) (by (with_reducible repeat (first | refine blk_drewN ?_ _ | refine blk_drew ?_ | refine blk_alloc ?_ _)); exact BK110.out) hb)
                      have n1_ := Aside0.mk (blk_below (g := gb111) (o := .cells #[.slice A1_0 l1_0.length c1_0, .slice (some ad114) l1_1.length c1_1] 31 (0, 0)) (by (with_reducible repeat (first | refine blk_drewN ?_ _ | refine blk_drew ?_ | refine blk_alloc ?_ _)); exact BK111.out) hb)
                      have n2_ := Aside0.mk (below_step (by repeat (first | (with_reducible first | exact HB.out | apply below_alloc | apply pw_below_drewN | apply below_drew1 | refine below_set ?_ GE110.out | refine below_set ?_ GE111.out) | exact HB.out)) hb)
                      have n3_ := Aside0.mk (hbox)
                      have n4_ := Aside0.mk ((by rw [hg]; exact (below_size (by repeat (first | (with_reducible first | exact HB.out | apply below_alloc | apply pw_below_drewN | apply below_drew1 | refine below_set ?_ GE110.out | refine below_set ?_ GE111.out) | exact HB.out))) : w.heap.size ≤ gb115))
                      have n5_ := Aside0.mk ((by rw [hg]; exact (below_size (by repeat (first | (with_reducible first | exact HB.out | apply below_alloc | apply pw_below_drewN | apply below_drew1 | refine below_set ?_ GE110.out | refine below_set ?_ GE111.out) | exact HB.out))) : w.heap.size ≤ gb115))
                      have n6_ := Aside0.mk ((by rw [hg]; exact Nat.ne_of_lt (blk_lt (g := gb110) (o := .cells #[.slice A0_0 l0_0.length c0_0, .slice (some ad113) l0_1.length c0_1] 31 (0, 0)) (by (with_reducible repeat (first | refine blk_drewN ?_ _ | refine blk_drew ?_ | refine blk_alloc ?_ _)); exact BK110.out)) : gb110 ≠ gb115))
                      have n7_ := Aside0.mk ((by rw [hg]; exact Nat.ne_of_gt (blk_lt (g := gb110) (o := .cells #[.slice A0_0 l0_0.length c0_0, .slice (some ad113) l0_1.length c0_1] 31 (0, 0)) (by (with_reducible repeat (first | refine blk_drewN ?_ _ | refine blk_drew ?_ | refine blk_alloc ?_ _)); exact BK110.out)) : gb115 ≠ gb110))
                      have n8_ := Aside0.mk ((by rw [hg]; exact Nat.ne_of_lt (blk_lt (g := gb111) (o := .cells #[.slice A1_0 l1_0.length c1_0, .slice (some ad114) l1_1.length c1_1] 31 (0, 0)) (by (with_reducible repeat (first | refine blk_drewN ?_ _ | refine blk_drew ?_ | refine blk_alloc ?_ _)); exact BK111.out)) : gb111 ≠ gb115))
                      have n9_ := Aside0.mk ((by rw [hg]; exact Nat.ne_of_gt (blk_lt (g := gb111) (o := .cells #[.slice A1_0 l1_0.length c1_0, .slice (some ad114) l1_1.length c1_1] 31 (0, 0)) (by (with_reducible repeat (first | refine blk_drewN ?_ _ | refine blk_drew ?_ | refine blk_alloc ?_ _)); exact BK111.out)) : gb115 ≠ gb111))
                      clear BK110
                      clear BK111
                      clear HB
                      have BK110 := n0_
                      have BK111 := n1_
                      have HB := n2_
                      have BK115 := n3_
                      have GW115 := n4_
                      have GE115 := n5_
                      have NB110_115 := n6_
                      have NB115_110 := n7_
                      have NB111_115 := n8_
                      have NB115_111 := n9_
                      clear n0_ n1_ n2_ n3_ n4_ n5_ n6_ n7_ n8_ n9_
                      clear hb hbox hg
                      refine hK.out _ _ ⟨(blk_cell BK110.out 0).trans rfl, (blk_cell BK110.out 1).trans rfl, (blk_cell BK111.out 0).trans rfl, (blk_cell BK111.out 1).trans rfl, ((HB.out.cell (World.block_lt_of_cell? w _ hw113_0)).trans hw113_0), ((HB.out.cell (World.block_lt_of_cell? w _ hw113_1)).trans hw113_1), ((HB.out.cell (World.block_lt_of_cell? w _ hw113_2)).trans hw113_2), ((HB.out.cell (World.block_lt_of_cell? w _ hw113_3)).trans hw113_3), ((HB.out.cell (World.block_lt_of_cell? w _ hw113_4)).trans hw113_4), ((HB.out.cell (World.block_lt_of_cell? w _ hw113_5)).trans hw113_5), ((HB.out.cell (World.block_lt_of_cell? w _ hw114_0)).trans hw114_0), ((HB.out.cell (World.block_lt_of_cell? w _ hw114_1)).trans hw114_1), ((HB.out.cell (World.block_lt_of_cell? w _ hw114_2)).trans hw114_2), ((HB.out.cell (World.block_lt_of_cell? w _ hw114_3)).trans hw114_3), ((HB.out.cell (World.block_lt_of_cell? w _ hw114_4)).trans hw114_4), ((HB.out.cell (World.block_lt_of_cell? w _ hw114_5)).trans hw114_5)⟩ (fun hHeld => ?_)
                      clear hK K
                      refine norm_ (a' := ?_) ?_ ?_
                      rotate_left
                      · show Act.put _ (some 6) _ = _
                        simp only [Act.put, List.setIfInBounds_toArray, List.set_cons_zero, List.set_cons_succ, i64_w, i32_w]
                        rfl
                      refine one_ (i := 11) (N := some 7) #[true, true, true, true, true, true, true, true, true, true, true, true, false, false] rfl rfl (one_of HT_.out (by kernel_rfl)) (by decide) (fun K hK => ?_)
                      refine box_step ?hg (N := 7) ?hd (cs := #[.int .i64 0, .int .i64 0, .int .i64 0, .int .i64 0, .string (⟨#[]⟩ : ByteArray), .slice none 0 0]) (t := 38) ?hr ?_; (case hd => rfl); (case hg => rfl); (case hr => first | (go_simp; done) | (go_simp; rfl))
                      intro gb116 hg w29 hbox hb
                      have n0_ := Aside0.mk (blk_below (g := gb110) (o := .cells #[.slice A0_0 l0_0.length c0_0, .slice (some ad113) l0_1.length c0_1] 31 (0, 0)) (by (with_reducible repeat (first | refine blk_drewN ?_ _ | refine blk_drew ?_ | refine blk_alloc ?_ _)); exact BK110.out) hb)
                      have n1_ := Aside0.mk (blk_below (g := gb111) (o := .cells #[.slice A1_0 l1_0.length c1_0, .slice (some ad114) l1_1.length c1_1] 31 (0, 0)) (by (with_reducible repeat (first | refine blk_drewN ?_ _ | refine blk_drew ?_ | refine blk_alloc ?_ _)); exact BK111.out) hb)
                      have n2_ := Aside0.mk (blk_below (g := gb115) (o := .cells #[.int .i64 0, .int .i64 0, .int .i64 0, .int .i64 0, .string (⟨#[]⟩ : ByteArray), .slice none 0 0] 38 (0, 0)) (by (with_reducible repeat (first | refine blk_drewN ?_ _ | refine blk_drew ?_ | refine blk_alloc ?_ _)); exact BK115.out) hb)
                      have n3_ := Aside0.mk (below_step (by repeat (first | (with_reducible first | exact HB.out | apply below_alloc | apply pw_below_drewN | apply below_drew1 | refine below_set ?_ GE110.out | refine below_set ?_ GE111.out | refine below_set ?_ GE115.out) | exact HB.out)) hb)
                      have n4_ := Aside0.mk (hbox)
                      have n5_ := Aside0.mk ((by rw [hg]; exact (below_size (by repeat (first | (with_reducible first | exact HB.out | apply below_alloc | apply pw_below_drewN | apply below_drew1 | refine below_set ?_ GE110.out | refine below_set ?_ GE111.out | refine below_set ?_ GE115.out) | exact HB.out))) : w.heap.size ≤ gb116))
                      have n6_ := Aside0.mk ((by rw [hg]; exact (below_size (by repeat (first | (with_reducible first | exact HB.out | apply below_alloc | apply pw_below_drewN | apply below_drew1 | refine below_set ?_ GE110.out | refine below_set ?_ GE111.out | refine below_set ?_ GE115.out) | exact HB.out))) : w.heap.size ≤ gb116))
                      have n7_ := Aside0.mk ((by rw [hg]; exact Nat.ne_of_lt (blk_lt (g := gb110) (o := .cells #[.slice A0_0 l0_0.length c0_0, .slice (some ad113) l0_1.length c0_1] 31 (0, 0)) (by (with_reducible repeat (first | refine blk_drewN ?_ _ | refine blk_drew ?_ | refine blk_alloc ?_ _)); exact BK110.out)) : gb110 ≠ gb116))
                      have n8_ := Aside0.mk ((by rw [hg]; exact Nat.ne_of_gt (blk_lt (g := gb110) (o := .cells #[.slice A0_0 l0_0.length c0_0, .slice (some ad113) l0_1.length c0_1] 31 (0, 0)) (by (with_reducible repeat (first | refine blk_drewN ?_ _ | refine blk_drew ?_ | refine blk_alloc ?_ _)); exact BK110.out)) : gb116 ≠ gb110))
                      have n9_ := Aside0.mk ((by rw [hg]; exact Nat.ne_of_lt (blk_lt (g := gb111) (o := .cells #[.slice A1_0 l1_0.length c1_0, .slice (some ad114) l1_1.length c1_1] 31 (0, 0)) (by (with_reducible repeat (first | refine blk_drewN ?_ _ | refine blk_drew ?_ | refine blk_alloc ?_ _)); exact BK111.out)) : gb111 ≠ gb116))
                      have n10_ := Aside0.mk ((by rw [hg]; exact Nat.ne_of_gt (blk_lt (g := gb111) (o := .cells #[.slice A1_0 l1_0.length c1_0, .slice (some ad114) l1_1.length c1_1] 31 (0, 0)) (by (with_reducible repeat (first | refine blk_drewN ?_ _ | refine blk_drew ?_ | refine blk_alloc ?_ _)); exact BK111.out)) : gb116 ≠ gb111))
                      have n11_ := Aside0.mk ((by rw [hg]; exact Nat.ne_of_lt (blk_lt (g := gb115) (o := .cells #[.int .i64 0, .int .i64 0, .int .i64 0, .int .i64 0, .string (⟨#[]⟩ : ByteArray), .slice none 0 0] 38 (0, 0)) (by (with_reducible repeat (first | refine blk_drewN ?_ _ | refine blk_drew ?_ | refine blk_alloc ?_ _)); exact BK115.out)) : gb115 ≠ gb116))
                      have n12_ := Aside0.mk ((by rw [hg]; exact Nat.ne_of_gt (blk_lt (g := gb115) (o := .cells #[.int .i64 0, .int .i64 0, .int .i64 0, .int .i64 0, .string (⟨#[]⟩ : ByteArray), .slice none 0 0] 38 (0, 0)) (by (with_reducible repeat (first | refine blk_drewN ?_ _ | refine blk_drew ?_ | refine blk_alloc ?_ _)); exact BK115.out)) : gb116 ≠ gb115))
                      clear BK110
                      clear BK111
                      clear BK115
                      clear HB
                      have BK110 := n0_
                      have BK111 := n1_
                      have BK115 := n2_
                      have HB := n3_
                      have BK116 := n4_
                      have GW116 := n5_
                      have GE116 := n6_
                      have NB110_116 := n7_
                      have NB116_110 := n8_
                      have NB111_116 := n9_
                      have NB116_111 := n10_
                      have NB115_116 := n11_
                      have NB116_115 := n12_
                      clear n0_ n1_ n2_ n3_ n4_ n5_ n6_ n7_ n8_ n9_ n10_ n11_ n12_
                      clear hb hbox hg
                      refine hK.out _ _ ⟨(blk_cell BK110.out 0).trans rfl, (blk_cell BK110.out 1).trans rfl, (blk_cell BK111.out 0).trans rfl, (blk_cell BK111.out 1).trans rfl, ((HB.out.cell (World.block_lt_of_cell? w _ hw113_0)).trans hw113_0), ((HB.out.cell (World.block_lt_of_cell? w _ hw113_1)).trans hw113_1), ((HB.out.cell (World.block_lt_of_cell? w _ hw113_2)).trans hw113_2), ((HB.out.cell (World.block_lt_of_cell? w _ hw113_3)).trans hw113_3), ((HB.out.cell (World.block_lt_of_cell? w _ hw113_4)).trans hw113_4), ((HB.out.cell (World.block_lt_of_cell? w _ hw113_5)).trans hw113_5), ((HB.out.cell (World.block_lt_of_cell? w _ hw114_0)).trans hw114_0), ((HB.out.cell (World.block_lt_of_cell? w _ hw114_1)).trans hw114_1), ((HB.out.cell (World.block_lt_of_cell? w _ hw114_2)).trans hw114_2), ((HB.out.cell (World.block_lt_of_cell? w _ hw114_3)).trans hw114_3), ((HB.out.cell (World.block_lt_of_cell? w _ hw114_4)).trans hw114_4), ((HB.out.cell (World.block_lt_of_cell? w _ hw114_5)).trans hw114_5)⟩ (fun hHeld => ?_)
                      clear hK K
                      refine norm_ (a' := ?_) ?_ ?_
                      rotate_left
                      · show Act.put _ (some 7) _ = _
                        simp only [Act.put, List.setIfInBounds_toArray, List.set_cons_zero, List.set_cons_succ, i64_w, i32_w]
                        rfl
                      exact norm_ (by simp only [putAll, Act.put, List.setIfInBounds_toArray, List.set_cons_zero, List.set_cons_succ]) (hCont (gb115, gb116) _ ⟨hHeld, (by (with_reducible repeat (first | refine blk_drewN ?_ _ | refine blk_drew ?_ | refine blk_alloc ?_ _)); exact BK110.out), (by (with_reducible repeat (first | refine blk_drewN ?_ _ | refine blk_drew ?_ | refine blk_alloc ?_ _)); exact BK111.out), (by (with_reducible repeat (first | refine blk_drewN ?_ _ | refine blk_drew ?_ | refine blk_alloc ?_ _)); exact BK115.out), (by (with_reducible repeat (first | refine blk_drewN ?_ _ | refine blk_drew ?_ | refine blk_alloc ?_ _)); exact BK116.out), GW115.out, GE115.out, NB110_115.out, NB115_110.out, NB111_115.out, NB115_111.out, NB116_115.out, NB115_116.out, GW116.out, GE116.out, NB110_116.out, NB116_110.out, NB111_116.out, NB116_111.out, (by repeat (first | (with_reducible first | exact HB.out | apply below_alloc | apply pw_below_drewN | apply below_drew1 | refine below_set ?_ GE110.out | refine below_set ?_ GE111.out | refine below_set ?_ GE115.out | refine below_set ?_ GE116.out) | exact HB.out))⟩)
                    · skip
                      refine box_step ?hg (N := 7) ?hd (cs := #[.int .i64 0, .int .i64 0, .int .i64 0, .int .i64 0, .string (⟨#[]⟩ : ByteArray), .slice none 0 0]) (t := 38) ?hr ?_; (case hd => rfl); (case hg => rfl); (case hr => first | (go_simp; done) | (go_simp; rfl))
                      intro gb116 hg w28 hbox hb
                      have n0_ := Aside0.mk (blk_below (g := gb110) (o := .cells #[.slice A0_0 l0_0.length c0_0, .slice (some ad113) l0_1.length c0_1] 31 (0, 0)) (by (with_reducible repeat (first | refine blk_drewN ?_ _ | refine blk_drew ?_ | refine blk_alloc ?_ _)); exact BK110.out) hb)
                      have n1_ := Aside0.mk (blk_below (g := gb111) (o := .cells #[.slice A1_0 l1_0.length c1_0, .slice (some ad114) l1_1.length c1_1] 31 (0, 0)) (by (with_reducible repeat (first | refine blk_drewN ?_ _ | refine blk_drew ?_ | refine blk_alloc ?_ _)); exact BK111.out) hb)
                      have n2_ := Aside0.mk (below_step (by repeat (first | (with_reducible first | exact HB.out | apply below_alloc | apply pw_below_drewN | apply below_drew1 | refine below_set ?_ GE110.out | refine below_set ?_ GE111.out) | exact HB.out)) hb)
                      have n3_ := Aside0.mk (hbox)
                      have n4_ := Aside0.mk ((by rw [hg]; exact (below_size (by repeat (first | (with_reducible first | exact HB.out | apply below_alloc | apply pw_below_drewN | apply below_drew1 | refine below_set ?_ GE110.out | refine below_set ?_ GE111.out) | exact HB.out))) : w.heap.size ≤ gb116))
                      have n5_ := Aside0.mk ((by rw [hg]; exact (below_size (by repeat (first | (with_reducible first | exact HB.out | apply below_alloc | apply pw_below_drewN | apply below_drew1 | refine below_set ?_ GE110.out | refine below_set ?_ GE111.out) | exact HB.out))) : w.heap.size ≤ gb116))
                      have n6_ := Aside0.mk ((by rw [hg]; exact Nat.ne_of_lt (blk_lt (g := gb110) (o := .cells #[.slice A0_0 l0_0.length c0_0, .slice (some ad113) l0_1.length c0_1] 31 (0, 0)) (by (with_reducible repeat (first | refine blk_drewN ?_ _ | refine blk_drew ?_ | refine blk_alloc ?_ _)); exact BK110.out)) : gb110 ≠ gb116))
                      have n7_ := Aside0.mk ((by rw [hg]; exact Nat.ne_of_gt (blk_lt (g := gb110) (o := .cells #[.slice A0_0 l0_0.length c0_0, .slice (some ad113) l0_1.length c0_1] 31 (0, 0)) (by (with_reducible repeat (first | refine blk_drewN ?_ _ | refine blk_drew ?_ | refine blk_alloc ?_ _)); exact BK110.out)) : gb116 ≠ gb110))
                      have n8_ := Aside0.mk ((by rw [hg]; exact Nat.ne_of_lt (blk_lt (g := gb111) (o := .cells #[.slice A1_0 l1_0.length c1_0, .slice (some ad114) l1_1.length c1_1] 31 (0, 0)) (by (with_reducible repeat (first | refine blk_drewN ?_ _ | refine blk_drew ?_ | refine blk_alloc ?_ _)); exact BK111.out)) : gb111 ≠ gb116))
                      have n9_ := Aside0.mk ((by rw [hg]; exact Nat.ne_of_gt (blk_lt (g := gb111) (o := .cells #[.slice A1_0 l1_0.length c1_0, .slice (some ad114) l1_1.length c1_1] 31 (0, 0)) (by (with_reducible repeat (first | refine blk_drewN ?_ _ | refine blk_drew ?_ | refine blk_alloc ?_ _)); exact BK111.out)) : gb116 ≠ gb111))
                      clear BK110
                      clear BK111
                      clear HB
                      have BK110 := n0_
                      have BK111 := n1_
                      have HB := n2_
                      have BK116 := n3_
                      have GW116 := n4_
                      have GE116 := n5_
                      have NB110_116 := n6_
                      have NB116_110 := n7_
                      have NB111_116 := n8_
                      have NB116_111 := n9_
                      clear n0_ n1_ n2_ n3_ n4_ n5_ n6_ n7_ n8_ n9_
                      clear hb hbox hg
                      refine hK.out _ _ ⟨(blk_cell BK110.out 0).trans rfl, (blk_cell BK110.out 1).trans rfl, (blk_cell BK111.out 0).trans rfl, (blk_cell BK111.out 1).trans rfl, ((HB.out.cell (World.block_lt_of_cell? w _ hw113_0)).trans hw113_0), ((HB.out.cell (World.block_lt_of_cell? w _ hw113_1)).trans hw113_1), ((HB.out.cell (World.block_lt_of_cell? w _ hw113_2)).trans hw113_2), ((HB.out.cell (World.block_lt_of_cell? w _ hw113_3)).trans hw113_3), ((HB.out.cell (World.block_lt_of_cell? w _ hw113_4)).trans hw113_4), ((HB.out.cell (World.block_lt_of_cell? w _ hw113_5)).trans hw113_5), ((HB.out.cell (World.block_lt_of_cell? w _ hw114_0)).trans hw114_0), ((HB.out.cell (World.block_lt_of_cell? w _ hw114_1)).trans hw114_1), ((HB.out.cell (World.block_lt_of_cell? w _ hw114_2)).trans hw114_2), ((HB.out.cell (World.block_lt_of_cell? w _ hw114_3)).trans hw114_3), ((HB.out.cell (World.block_lt_of_cell? w _ hw114_4)).trans hw114_4), ((HB.out.cell (World.block_lt_of_cell? w _ hw114_5)).trans hw114_5)⟩ (fun hHeld => ?_)
                      clear hK K
                      refine norm_ (a' := ?_) ?_ ?_
                      rotate_left
                      · show Act.put _ (some 7) _ = _
                        simp only [Act.put, List.setIfInBounds_toArray, List.set_cons_zero, List.set_cons_succ, i64_w, i32_w]
                        rfl
                      refine one_ (i := 10) (N := some 6) #[true, true, true, true, true, true, true, true, true, true, true, true, false, false] rfl rfl (one_of HT_.out (by kernel_rfl)) (by decide) (fun K hK => ?_)
                      refine box_step ?hg (N := 6) ?hd (cs := #[.int .i64 0, .int .i64 0, .int .i64 0, .int .i64 0, .string (⟨#[]⟩ : ByteArray), .slice none 0 0]) (t := 38) ?hr ?_; (case hd => rfl); (case hg => rfl); (case hr => first | (go_simp; done) | (go_simp; rfl))
                      intro gb115 hg w29 hbox hb
                      have n0_ := Aside0.mk (blk_below (g := gb110) (o := .cells #[.slice A0_0 l0_0.length c0_0, .slice (some ad113) l0_1.length c0_1] 31 (0, 0)) (by (with_reducible repeat (first | refine blk_drewN ?_ _ | refine blk_drew ?_ | refine blk_alloc ?_ _)); exact BK110.out) hb)
                      have n1_ := Aside0.mk (blk_below (g := gb111) (o := .cells #[.slice A1_0 l1_0.length c1_0, .slice (some ad114) l1_1.length c1_1] 31 (0, 0)) (by (with_reducible repeat (first | refine blk_drewN ?_ _ | refine blk_drew ?_ | refine blk_alloc ?_ _)); exact BK111.out) hb)
                      have n2_ := Aside0.mk (blk_below (g := gb116) (o := .cells #[.int .i64 0, .int .i64 0, .int .i64 0, .int .i64 0, .string (⟨#[]⟩ : ByteArray), .slice none 0 0] 38 (0, 0)) (by (with_reducible repeat (first | refine blk_drewN ?_ _ | refine blk_drew ?_ | refine blk_alloc ?_ _)); exact BK116.out) hb)
                      have n3_ := Aside0.mk (below_step (by repeat (first | (with_reducible first | exact HB.out | apply below_alloc | apply pw_below_drewN | apply below_drew1 | refine below_set ?_ GE110.out | refine below_set ?_ GE111.out | refine below_set ?_ GE116.out) | exact HB.out)) hb)
                      have n4_ := Aside0.mk (hbox)
                      have n5_ := Aside0.mk ((by rw [hg]; exact (below_size (by repeat (first | (with_reducible first | exact HB.out | apply below_alloc | apply pw_below_drewN | apply below_drew1 | refine below_set ?_ GE110.out | refine below_set ?_ GE111.out | refine below_set ?_ GE116.out) | exact HB.out))) : w.heap.size ≤ gb115))
                      have n6_ := Aside0.mk ((by rw [hg]; exact (below_size (by repeat (first | (with_reducible first | exact HB.out | apply below_alloc | apply pw_below_drewN | apply below_drew1 | refine below_set ?_ GE110.out | refine below_set ?_ GE111.out | refine below_set ?_ GE116.out) | exact HB.out))) : w.heap.size ≤ gb115))
                      have n7_ := Aside0.mk ((by rw [hg]; exact Nat.ne_of_lt (blk_lt (g := gb110) (o := .cells #[.slice A0_0 l0_0.length c0_0, .slice (some ad113) l0_1.length c0_1] 31 (0, 0)) (by (with_reducible repeat (first | refine blk_drewN ?_ _ | refine blk_drew ?_ | refine blk_alloc ?_ _)); exact BK110.out)) : gb110 ≠ gb115))
                      have n8_ := Aside0.mk ((by rw [hg]; exact Nat.ne_of_gt (blk_lt (g := gb110) (o := .cells #[.slice A0_0 l0_0.length c0_0, .slice (some ad113) l0_1.length c0_1] 31 (0, 0)) (by (with_reducible repeat (first | refine blk_drewN ?_ _ | refine blk_drew ?_ | refine blk_alloc ?_ _)); exact BK110.out)) : gb115 ≠ gb110))
                      have n9_ := Aside0.mk ((by rw [hg]; exact Nat.ne_of_lt (blk_lt (g := gb111) (o := .cells #[.slice A1_0 l1_0.length c1_0, .slice (some ad114) l1_1.length c1_1] 31 (0, 0)) (by (with_reducible repeat (first | refine blk_drewN ?_ _ | refine blk_drew ?_ | refine blk_alloc ?_ _)); exact BK111.out)) : gb111 ≠ gb115))
                      have n10_ := Aside0.mk ((by rw [hg]; exact Nat.ne_of_gt (blk_lt (g := gb111) (o := .cells #[.slice A1_0 l1_0.length c1_0, .slice (some ad114) l1_1.length c1_1] 31 (0, 0)) (by (with_reducible repeat (first | refine blk_drewN ?_ _ | refine blk_drew ?_ | refine blk_alloc ?_ _)); exact BK111.out)) : gb115 ≠ gb111))
                      have n11_ := Aside0.mk ((by rw [hg]; exact Nat.ne_of_lt (blk_lt (g := gb116) (o := .cells #[.int .i64 0, .int .i64 0, .int .i64 0, .int .i64 0, .string (⟨#[]⟩ : ByteArray), .slice none 0 0] 38 (0, 0)) (by (with_reducible repeat (first | refine blk_drewN ?_ _ | refine blk_drew ?_ | refine blk_alloc ?_ _)); exact BK116.out)) : gb116 ≠ gb115))
                      have n12_ := Aside0.mk ((by rw [hg]; exact Nat.ne_of_gt (blk_lt (g := gb116) (o := .cells #[.int .i64 0, .int .i64 0, .int .i64 0, .int .i64 0, .string (⟨#[]⟩ : ByteArray), .slice none 0 0] 38 (0, 0)) (by (with_reducible repeat (first | refine blk_drewN ?_ _ | refine blk_drew ?_ | refine blk_alloc ?_ _)); exact BK116.out)) : gb115 ≠ gb116))
                      clear BK110
                      clear BK111
                      clear BK116
                      clear HB
                      have BK110 := n0_
                      have BK111 := n1_
                      have BK116 := n2_
                      have HB := n3_
                      have BK115 := n4_
                      have GW115 := n5_
                      have GE115 := n6_
                      have NB110_115 := n7_
                      have NB115_110 := n8_
                      have NB111_115 := n9_
                      have NB115_111 := n10_
                      have NB116_115 := n11_
                      have NB115_116 := n12_
                      clear n0_ n1_ n2_ n3_ n4_ n5_ n6_ n7_ n8_ n9_ n10_ n11_ n12_
                      clear hb hbox hg
                      refine hK.out _ _ ⟨(blk_cell BK110.out 0).trans rfl, (blk_cell BK110.out 1).trans rfl, (blk_cell BK111.out 0).trans rfl, (blk_cell BK111.out 1).trans rfl, ((HB.out.cell (World.block_lt_of_cell? w _ hw113_0)).trans hw113_0), ((HB.out.cell (World.block_lt_of_cell? w _ hw113_1)).trans hw113_1), ((HB.out.cell (World.block_lt_of_cell? w _ hw113_2)).trans hw113_2), ((HB.out.cell (World.block_lt_of_cell? w _ hw113_3)).trans hw113_3), ((HB.out.cell (World.block_lt_of_cell? w _ hw113_4)).trans hw113_4), ((HB.out.cell (World.block_lt_of_cell? w _ hw113_5)).trans hw113_5), ((HB.out.cell (World.block_lt_of_cell? w _ hw114_0)).trans hw114_0), ((HB.out.cell (World.block_lt_of_cell? w _ hw114_1)).trans hw114_1), ((HB.out.cell (World.block_lt_of_cell? w _ hw114_2)).trans hw114_2), ((HB.out.cell (World.block_lt_of_cell? w _ hw114_3)).trans hw114_3), ((HB.out.cell (World.block_lt_of_cell? w _ hw114_4)).trans hw114_4), ((HB.out.cell (World.block_lt_of_cell? w _ hw114_5)).trans hw114_5)⟩ (fun hHeld => ?_)
                      clear hK K
                      refine norm_ (a' := ?_) ?_ ?_
                      rotate_left
                      · show Act.put _ (some 6) _ = _
                        simp only [Act.put, List.setIfInBounds_toArray, List.set_cons_zero, List.set_cons_succ, i64_w, i32_w]
                        rfl
                      exact norm_ (by simp only [putAll, Act.put, List.setIfInBounds_toArray, List.set_cons_zero, List.set_cons_succ]) (hCont (gb115, gb116) _ ⟨hHeld, (by (with_reducible repeat (first | refine blk_drewN ?_ _ | refine blk_drew ?_ | refine blk_alloc ?_ _)); exact BK110.out), (by (with_reducible repeat (first | refine blk_drewN ?_ _ | refine blk_drew ?_ | refine blk_alloc ?_ _)); exact BK111.out), (by (with_reducible repeat (first | refine blk_drewN ?_ _ | refine blk_drew ?_ | refine blk_alloc ?_ _)); exact BK115.out), (by (with_reducible repeat (first | refine blk_drewN ?_ _ | refine blk_drew ?_ | refine blk_alloc ?_ _)); exact BK116.out), GW115.out, GE115.out, NB110_115.out, NB115_110.out, NB111_115.out, NB115_111.out, NB116_115.out, NB115_116.out, GW116.out, GE116.out, NB110_116.out, NB116_110.out, NB111_116.out, NB116_111.out, (by repeat (first | (with_reducible first | exact HB.out | apply below_alloc | apply pw_below_drewN | apply below_drew1 | refine below_set ?_ GE110.out | refine below_set ?_ GE111.out | refine below_set ?_ GE116.out | refine below_set ?_ GE115.out) | exact HB.out))⟩)
                  rintro ⟨gb115, gb116⟩ w30 ⟨hS_, h0_, h1_, h2_, h3_, h4_, h5_, h6_, h7_, h8_, h9_, h10_, h11_, h12_, h13_, h14_, h15_, h16_, h17_, h18_⟩
                  have n0_ : Aside0 (w30.heap[gb110]? = some (.cells #[.slice A0_0 l0_0.length c0_0, .slice (some ad113) l0_1.length c0_1] 31 (0, 0))) := ⟨h0_⟩
                  have n1_ : Aside0 (w30.heap[gb111]? = some (.cells #[.slice A1_0 l1_0.length c1_0, .slice (some ad114) l1_1.length c1_1] 31 (0, 0))) := ⟨h1_⟩
                  have n2_ : Aside0 (w30.heap[gb115]? = some (.cells #[.int .i64 0, .int .i64 0, .int .i64 0, .int .i64 0, .string (⟨#[]⟩ : ByteArray), .slice none 0 0] 38 (0, 0))) := ⟨h2_⟩
                  have n3_ : Aside0 (w30.heap[gb116]? = some (.cells #[.int .i64 0, .int .i64 0, .int .i64 0, .int .i64 0, .string (⟨#[]⟩ : ByteArray), .slice none 0 0] 38 (0, 0))) := ⟨h3_⟩
                  have n4_ : Aside0 (w.heap.size ≤ gb115) := ⟨h4_⟩
                  have n5_ : Aside0 (w.heap.size ≤ gb115) := ⟨h5_⟩
                  have n6_ : Aside0 (gb110 ≠ gb115) := ⟨h6_⟩
                  have n7_ : Aside0 (gb115 ≠ gb110) := ⟨h7_⟩
                  have n8_ : Aside0 (gb111 ≠ gb115) := ⟨h8_⟩
                  have n9_ : Aside0 (gb115 ≠ gb111) := ⟨h9_⟩
                  have n10_ : Aside0 (gb116 ≠ gb115) := ⟨h10_⟩
                  have n11_ : Aside0 (gb115 ≠ gb116) := ⟨h11_⟩
                  have n12_ : Aside0 (w.heap.size ≤ gb116) := ⟨h12_⟩
                  have n13_ : Aside0 (w.heap.size ≤ gb116) := ⟨h13_⟩
                  have n14_ : Aside0 (gb110 ≠ gb116) := ⟨h14_⟩
                  have n15_ : Aside0 (gb116 ≠ gb110) := ⟨h15_⟩
                  have n16_ : Aside0 (gb111 ≠ gb116) := ⟨h16_⟩
                  have n17_ : Aside0 (gb116 ≠ gb111) := ⟨h17_⟩
                  have n18_ : Aside0 (Below w.heap.size w w30) := ⟨h18_⟩
                  clear BK110
                  clear BK111
                  clear HB
                  clear h0_ h1_ h2_ h3_ h4_ h5_ h6_ h7_ h8_ h9_ h10_ h11_ h12_ h13_ h14_ h15_ h16_ h17_ h18_
                  have BK110 := n0_
                  have BK111 := n1_
                  have BK115 := n2_
                  have BK116 := n3_
                  have GW115 := n4_
                  have GE115 := n5_
                  have NB110_115 := n6_
                  have NB115_110 := n7_
                  have NB111_115 := n8_
                  have NB115_111 := n9_
                  have NB116_115 := n10_
                  have NB115_116 := n11_
                  have GW116 := n12_
                  have GE116 := n13_
                  have NB110_116 := n14_
                  have NB116_110 := n15_
                  have NB111_116 := n16_
                  have NB116_111 := n17_
                  have HB := n18_
                  clear n0_ n1_ n2_ n3_ n4_ n5_ n6_ n7_ n8_ n9_ n10_ n11_ n12_ n13_ n14_ n15_ n16_ n17_ n18_
                  have hHeld : w30.cell? ⟨gb110, 0, none⟩ = some (.slice A0_0 l0_0.length c0_0) ∧ w30.cell? ⟨gb110, 1, none⟩ = some (.slice (some ad113) l0_1.length c0_1) ∧ w30.cell? ⟨gb111, 0, none⟩ = some (.slice A1_0 l1_0.length c1_0) ∧ w30.cell? ⟨gb111, 1, none⟩ = some (.slice (some ad114) l1_1.length c1_1) ∧ w30.cell? (ad113.add ((x5_2).toNat * 6)) = some (.int .i64 ((rd_T38 l0_1 x5_2).f0)) ∧ w30.cell? ⟨(ad113.add ((x5_2).toNat * 6)).block, (ad113.add ((x5_2).toNat * 6)).off + 1, none⟩ = some (.int .i64 ((rd_T38 l0_1 x5_2).f1)) ∧ w30.cell? ⟨(ad113.add ((x5_2).toNat * 6)).block, (ad113.add ((x5_2).toNat * 6)).off + 2, none⟩ = some (.int .i64 ((rd_T38 l0_1 x5_2).f2)) ∧ w30.cell? ⟨(ad113.add ((x5_2).toNat * 6)).block, (ad113.add ((x5_2).toNat * 6)).off + 3, none⟩ = some (.int .i64 ((rd_T38 l0_1 x5_2).f3)) ∧ w30.cell? ⟨(ad113.add ((x5_2).toNat * 6)).block, (ad113.add ((x5_2).toNat * 6)).off + 4, none⟩ = some (.string ((rd_T38 l0_1 x5_2).f4)) ∧ w30.cell? ⟨(ad113.add ((x5_2).toNat * 6)).block, (ad113.add ((x5_2).toNat * 6)).off + 5, none⟩ = some (.slice A113_5 ((rd_T38 l0_1 x5_2).f5).length c113_5) ∧ w30.cell? (ad114.add ((x5_2).toNat * 6)) = some (.int .i64 ((rd_T38 l1_1 x5_2).f0)) ∧ w30.cell? ⟨(ad114.add ((x5_2).toNat * 6)).block, (ad114.add ((x5_2).toNat * 6)).off + 1, none⟩ = some (.int .i64 ((rd_T38 l1_1 x5_2).f1)) ∧ w30.cell? ⟨(ad114.add ((x5_2).toNat * 6)).block, (ad114.add ((x5_2).toNat * 6)).off + 2, none⟩ = some (.int .i64 ((rd_T38 l1_1 x5_2).f2)) ∧ w30.cell? ⟨(ad114.add ((x5_2).toNat * 6)).block, (ad114.add ((x5_2).toNat * 6)).off + 3, none⟩ = some (.int .i64 ((rd_T38 l1_1 x5_2).f3)) ∧ w30.cell? ⟨(ad114.add ((x5_2).toNat * 6)).block, (ad114.add ((x5_2).toNat * 6)).off + 4, none⟩ = some (.string ((rd_T38 l1_1 x5_2).f4)) ∧ w30.cell? ⟨(ad114.add ((x5_2).toNat * 6)).block, (ad114.add ((x5_2).toNat * 6)).off + 5, none⟩ = some (.slice A114_5 ((rd_T38 l1_1 x5_2).f5).length c114_5) := hS_
                  refine norm_ (a' := ?_) ?_ ?_
                  rotate_left
                  · simp only [putAll, Act.put, List.setIfInBounds_toArray, List.set_cons_zero, List.set_cons_succ]
                    rfl
                  refine one_ (i := 12) (N := none) #[true, true, true, true, true, true, true, true, true, true, true, true, true, false] rfl rfl (one_of HT_.out (by kernel_rfl)) (by decide) (fun K hK => ?_)
                  have hs31 : w30.cell? ⟨gb115, 0, none⟩ = some (.int .i64 0) := (blk_cell BK115.out 0).trans rfl
                  have hfs31 := blk_frozen BK115.out 0
                  have hns31_0 := NB110_115.out
                  have hns31_1 := NB111_115.out
                  have hns31_3 := NB116_115.out
                  have hms31_0 := NB115_110.out
                  have hms31_1 := NB115_111.out
                  have hms31_3 := NB115_116.out
                  have hs32 : w30.cell? ⟨gb115, 1, none⟩ = some (.int .i64 0) := (blk_cell BK115.out 1).trans rfl
                  have hfs32 := blk_frozen BK115.out 1
                  have hns32_0 := NB110_115.out
                  have hns32_1 := NB111_115.out
                  have hns32_3 := NB116_115.out
                  have hms32_0 := NB115_110.out
                  have hms32_1 := NB115_111.out
                  have hms32_3 := NB115_116.out
                  have hs33 : w30.cell? ⟨gb115, 2, none⟩ = some (.int .i64 0) := (blk_cell BK115.out 2).trans rfl
                  have hfs33 := blk_frozen BK115.out 2
                  have hns33_0 := NB110_115.out
                  have hns33_1 := NB111_115.out
                  have hns33_3 := NB116_115.out
                  have hms33_0 := NB115_110.out
                  have hms33_1 := NB115_111.out
                  have hms33_3 := NB115_116.out
                  have hs34 : w30.cell? ⟨gb115, 3, none⟩ = some (.int .i64 0) := (blk_cell BK115.out 3).trans rfl
                  have hfs34 := blk_frozen BK115.out 3
                  have hns34_0 := NB110_115.out
                  have hns34_1 := NB111_115.out
                  have hns34_3 := NB116_115.out
                  have hms34_0 := NB115_110.out
                  have hms34_1 := NB115_111.out
                  have hms34_3 := NB115_116.out
                  have hs35 : w30.cell? ⟨gb115, 4, none⟩ = some (.string (⟨#[]⟩ : ByteArray)) := (blk_cell BK115.out 4).trans rfl
                  have hfs35 := blk_frozen BK115.out 4
                  have hns35_0 := NB110_115.out
                  have hns35_1 := NB111_115.out
                  have hns35_3 := NB116_115.out
                  have hms35_0 := NB115_110.out
                  have hms35_1 := NB115_111.out
                  have hms35_3 := NB115_116.out
                  have hs36 : w30.cell? ⟨gb115, 5, none⟩ = some (.slice none 0 0) := (blk_cell BK115.out 5).trans rfl
                  have hfs36 := blk_frozen BK115.out 5
                  have hns36_0 := NB110_115.out
                  have hns36_1 := NB111_115.out
                  have hns36_3 := NB116_115.out
                  have hms36_0 := NB115_110.out
                  have hms36_1 := NB115_111.out
                  have hms36_3 := NB115_116.out
                  refine skip_ (w1 := ?_) (by rfl) rfl ?_ ?_
                  rotate_left
                  · go_simp
                    rfl
                  refine hK.out _ _ ⟨((cell_far (p := ⟨gb115, _, none⟩) NB110_115.out _).trans (((cell_far (p := ⟨gb115, _, none⟩) NB110_115.out _).trans (((cell_far (p := ⟨gb115, _, none⟩) NB110_115.out _).trans (((cell_far (p := ⟨gb115, _, none⟩) NB110_115.out _).trans (((cell_far (p := ⟨gb115, _, none⟩) NB110_115.out _).trans (((cell_far (p := ⟨gb115, _, none⟩) NB110_115.out _).trans (hHeld.1)))))))))))), ((cell_far (p := ⟨gb115, _, none⟩) NB110_115.out _).trans (((cell_far (p := ⟨gb115, _, none⟩) NB110_115.out _).trans (((cell_far (p := ⟨gb115, _, none⟩) NB110_115.out _).trans (((cell_far (p := ⟨gb115, _, none⟩) NB110_115.out _).trans (((cell_far (p := ⟨gb115, _, none⟩) NB110_115.out _).trans (((cell_far (p := ⟨gb115, _, none⟩) NB110_115.out _).trans (hHeld.2.1)))))))))))), ((cell_far (p := ⟨gb115, _, none⟩) NB111_115.out _).trans (((cell_far (p := ⟨gb115, _, none⟩) NB111_115.out _).trans (((cell_far (p := ⟨gb115, _, none⟩) NB111_115.out _).trans (((cell_far (p := ⟨gb115, _, none⟩) NB111_115.out _).trans (((cell_far (p := ⟨gb115, _, none⟩) NB111_115.out _).trans (((cell_far (p := ⟨gb115, _, none⟩) NB111_115.out _).trans (hHeld.2.2.1)))))))))))), ((cell_far (p := ⟨gb115, _, none⟩) NB111_115.out _).trans (((cell_far (p := ⟨gb115, _, none⟩) NB111_115.out _).trans (((cell_far (p := ⟨gb115, _, none⟩) NB111_115.out _).trans (((cell_far (p := ⟨gb115, _, none⟩) NB111_115.out _).trans (((cell_far (p := ⟨gb115, _, none⟩) NB111_115.out _).trans (((cell_far (p := ⟨gb115, _, none⟩) NB111_115.out _).trans (hHeld.2.2.2.1)))))))))))), ((cell_far (p := ⟨gb115, _, none⟩) (neFar hw113_0 GW115.out) _).trans (((cell_far (p := ⟨gb115, _, none⟩) (neFar hw113_0 GW115.out) _).trans (((cell_far (p := ⟨gb115, _, none⟩) (neFar hw113_0 GW115.out) _).trans (((cell_far (p := ⟨gb115, _, none⟩) (neFar hw113_0 GW115.out) _).trans (((cell_far (p := ⟨gb115, _, none⟩) (neFar hw113_0 GW115.out) _).trans (((cell_far (p := ⟨gb115, _, none⟩) (neFar hw113_0 GW115.out) _).trans (hHeld.2.2.2.2.1)))))))))))), ((cell_far (p := ⟨gb115, _, none⟩) (neFar hw113_1 GW115.out) _).trans (((cell_far (p := ⟨gb115, _, none⟩) (neFar hw113_1 GW115.out) _).trans (((cell_far (p := ⟨gb115, _, none⟩) (neFar hw113_1 GW115.out) _).trans (((cell_far (p := ⟨gb115, _, none⟩) (neFar hw113_1 GW115.out) _).trans (((cell_far (p := ⟨gb115, _, none⟩) (neFar hw113_1 GW115.out) _).trans (((cell_far (p := ⟨gb115, _, none⟩) (neFar hw113_1 GW115.out) _).trans (hHeld.2.2.2.2.2.1)))))))))))), ((cell_far (p := ⟨gb115, _, none⟩) (neFar hw113_2 GW115.out) _).trans (((cell_far (p := ⟨gb115, _, none⟩) (neFar hw113_2 GW115.out) _).trans (((cell_far (p := ⟨gb115, _, none⟩) (neFar hw113_2 GW115.out) _).trans (((cell_far (p := ⟨gb115, _, none⟩) (neFar hw113_2 GW115.out) _).trans (((cell_far (p := ⟨gb115, _, none⟩) (neFar hw113_2 GW115.out) _).trans (((cell_far (p := ⟨gb115, _, none⟩) (neFar hw113_2 GW115.out) _).trans (hHeld.2.2.2.2.2.2.1)))))))))))), ((cell_far (p := ⟨gb115, _, none⟩) (neFar hw113_3 GW115.out) _).trans (((cell_far (p := ⟨gb115, _, none⟩) (neFar hw113_3 GW115.out) _).trans (((cell_far (p := ⟨gb115, _, none⟩) (neFar hw113_3 GW115.out) _).trans (((cell_far (p := ⟨gb115, _, none⟩) (neFar hw113_3 GW115.out) _).trans (((cell_far (p := ⟨gb115, _, none⟩) (neFar hw113_3 GW115.out) _).trans (((cell_far (p := ⟨gb115, _, none⟩) (neFar hw113_3 GW115.out) _).trans (hHeld.2.2.2.2.2.2.2.1)))))))))))), ((cell_far (p := ⟨gb115, _, none⟩) (neFar hw113_4 GW115.out) _).trans (((cell_far (p := ⟨gb115, _, none⟩) (neFar hw113_4 GW115.out) _).trans (((cell_far (p := ⟨gb115, _, none⟩) (neFar hw113_4 GW115.out) _).trans (((cell_far (p := ⟨gb115, _, none⟩) (neFar hw113_4 GW115.out) _).trans (((cell_far (p := ⟨gb115, _, none⟩) (neFar hw113_4 GW115.out) _).trans (((cell_far (p := ⟨gb115, _, none⟩) (neFar hw113_4 GW115.out) _).trans (hHeld.2.2.2.2.2.2.2.2.1)))))))))))), ((cell_far (p := ⟨gb115, _, none⟩) (neFar hw113_5 GW115.out) _).trans (((cell_far (p := ⟨gb115, _, none⟩) (neFar hw113_5 GW115.out) _).trans (((cell_far (p := ⟨gb115, _, none⟩) (neFar hw113_5 GW115.out) _).trans (((cell_far (p := ⟨gb115, _, none⟩) (neFar hw113_5 GW115.out) _).trans (((cell_far (p := ⟨gb115, _, none⟩) (neFar hw113_5 GW115.out) _).trans (((cell_far (p := ⟨gb115, _, none⟩) (neFar hw113_5 GW115.out) _).trans (hHeld.2.2.2.2.2.2.2.2.2.1)))))))))))), ((cell_far (p := ⟨gb115, _, none⟩) (neFar hw114_0 GW115.out) _).trans (((cell_far (p := ⟨gb115, _, none⟩) (neFar hw114_0 GW115.out) _).trans (((cell_far (p := ⟨gb115, _, none⟩) (neFar hw114_0 GW115.out) _).trans (((cell_far (p := ⟨gb115, _, none⟩) (neFar hw114_0 GW115.out) _).trans (((cell_far (p := ⟨gb115, _, none⟩) (neFar hw114_0 GW115.out) _).trans (((cell_far (p := ⟨gb115, _, none⟩) (neFar hw114_0 GW115.out) _).trans (hHeld.2.2.2.2.2.2.2.2.2.2.1)))))))))))), ((cell_far (p := ⟨gb115, _, none⟩) (neFar hw114_1 GW115.out) _).trans (((cell_far (p := ⟨gb115, _, none⟩) (neFar hw114_1 GW115.out) _).trans (((cell_far (p := ⟨gb115, _, none⟩) (neFar hw114_1 GW115.out) _).trans (((cell_far (p := ⟨gb115, _, none⟩) (neFar hw114_1 GW115.out) _).trans (((cell_far (p := ⟨gb115, _, none⟩) (neFar hw114_1 GW115.out) _).trans (((cell_far (p := ⟨gb115, _, none⟩) (neFar hw114_1 GW115.out) _).trans (hHeld.2.2.2.2.2.2.2.2.2.2.2.1)))))))))))), ((cell_far (p := ⟨gb115, _, none⟩) (neFar hw114_2 GW115.out) _).trans (((cell_far (p := ⟨gb115, _, none⟩) (neFar hw114_2 GW115.out) _).trans (((cell_far (p := ⟨gb115, _, none⟩) (neFar hw114_2 GW115.out) _).trans (((cell_far (p := ⟨gb115, _, none⟩) (neFar hw114_2 GW115.out) _).trans (((cell_far (p := ⟨gb115, _, none⟩) (neFar hw114_2 GW115.out) _).trans (((cell_far (p := ⟨gb115, _, none⟩) (neFar hw114_2 GW115.out) _).trans (hHeld.2.2.2.2.2.2.2.2.2.2.2.2.1)))))))))))), ((cell_far (p := ⟨gb115, _, none⟩) (neFar hw114_3 GW115.out) _).trans (((cell_far (p := ⟨gb115, _, none⟩) (neFar hw114_3 GW115.out) _).trans (((cell_far (p := ⟨gb115, _, none⟩) (neFar hw114_3 GW115.out) _).trans (((cell_far (p := ⟨gb115, _, none⟩) (neFar hw114_3 GW115.out) _).trans (((cell_far (p := ⟨gb115, _, none⟩) (neFar hw114_3 GW115.out) _).trans (((cell_far (p := ⟨gb115, _, none⟩) (neFar hw114_3 GW115.out) _).trans (hHeld.2.2.2.2.2.2.2.2.2.2.2.2.2.1)))))))))))), ((cell_far (p := ⟨gb115, _, none⟩) (neFar hw114_4 GW115.out) _).trans (((cell_far (p := ⟨gb115, _, none⟩) (neFar hw114_4 GW115.out) _).trans (((cell_far (p := ⟨gb115, _, none⟩) (neFar hw114_4 GW115.out) _).trans (((cell_far (p := ⟨gb115, _, none⟩) (neFar hw114_4 GW115.out) _).trans (((cell_far (p := ⟨gb115, _, none⟩) (neFar hw114_4 GW115.out) _).trans (((cell_far (p := ⟨gb115, _, none⟩) (neFar hw114_4 GW115.out) _).trans (hHeld.2.2.2.2.2.2.2.2.2.2.2.2.2.2.1)))))))))))), ((cell_far (p := ⟨gb115, _, none⟩) (neFar hw114_5 GW115.out) _).trans (((cell_far (p := ⟨gb115, _, none⟩) (neFar hw114_5 GW115.out) _).trans (((cell_far (p := ⟨gb115, _, none⟩) (neFar hw114_5 GW115.out) _).trans (((cell_far (p := ⟨gb115, _, none⟩) (neFar hw114_5 GW115.out) _).trans (((cell_far (p := ⟨gb115, _, none⟩) (neFar hw114_5 GW115.out) _).trans (((cell_far (p := ⟨gb115, _, none⟩) (neFar hw114_5 GW115.out) _).trans (hHeld.2.2.2.2.2.2.2.2.2.2.2.2.2.2.2))))))))))))⟩ (fun hHeld => ?_)
                  clear hK K
                  refine one_ (i := 13) (N := none) #[true, true, true, true, true, true, true, true, true, true, true, true, true, true] rfl rfl (one_of HT_.out (by kernel_rfl)) (by decide) (fun K hK => ?_)
                  have hs37 : w30.cell? ⟨gb116, 0, none⟩ = some (.int .i64 0) := (blk_cell BK116.out 0).trans rfl
                  have hfs37 := blk_frozen BK116.out 0
                  have hns37_0 := NB110_116.out
                  have hns37_1 := NB111_116.out
                  have hns37_2 := NB115_116.out
                  have hms37_0 := NB116_110.out
                  have hms37_1 := NB116_111.out
                  have hms37_2 := NB116_115.out
                  have hs38 : w30.cell? ⟨gb116, 1, none⟩ = some (.int .i64 0) := (blk_cell BK116.out 1).trans rfl
                  have hfs38 := blk_frozen BK116.out 1
                  have hns38_0 := NB110_116.out
                  have hns38_1 := NB111_116.out
                  have hns38_2 := NB115_116.out
                  have hms38_0 := NB116_110.out
                  have hms38_1 := NB116_111.out
                  have hms38_2 := NB116_115.out
                  have hs39 : w30.cell? ⟨gb116, 2, none⟩ = some (.int .i64 0) := (blk_cell BK116.out 2).trans rfl
                  have hfs39 := blk_frozen BK116.out 2
                  have hns39_0 := NB110_116.out
                  have hns39_1 := NB111_116.out
                  have hns39_2 := NB115_116.out
                  have hms39_0 := NB116_110.out
                  have hms39_1 := NB116_111.out
                  have hms39_2 := NB116_115.out
                  have hs40 : w30.cell? ⟨gb116, 3, none⟩ = some (.int .i64 0) := (blk_cell BK116.out 3).trans rfl
                  have hfs40 := blk_frozen BK116.out 3
                  have hns40_0 := NB110_116.out
                  have hns40_1 := NB111_116.out
                  have hns40_2 := NB115_116.out
                  have hms40_0 := NB116_110.out
                  have hms40_1 := NB116_111.out
                  have hms40_2 := NB116_115.out
                  have hs41 : w30.cell? ⟨gb116, 4, none⟩ = some (.string (⟨#[]⟩ : ByteArray)) := (blk_cell BK116.out 4).trans rfl
                  have hfs41 := blk_frozen BK116.out 4
                  have hns41_0 := NB110_116.out
                  have hns41_1 := NB111_116.out
                  have hns41_2 := NB115_116.out
                  have hms41_0 := NB116_110.out
                  have hms41_1 := NB116_111.out
                  have hms41_2 := NB116_115.out
                  have hs42 : w30.cell? ⟨gb116, 5, none⟩ = some (.slice none 0 0) := (blk_cell BK116.out 5).trans rfl
                  have hfs42 := blk_frozen BK116.out 5
                  have hns42_0 := NB110_116.out
                  have hns42_1 := NB111_116.out
                  have hns42_2 := NB115_116.out
                  have hms42_0 := NB116_110.out
                  have hms42_1 := NB116_111.out
                  have hms42_2 := NB116_115.out
                  refine skip_ (w1 := ?_) (by rfl) rfl ?_ ?_
                  rotate_left
                  · go_simp
                    rfl
                  refine hK.out _ _ ⟨((cell_far (p := ⟨gb116, _, none⟩) NB110_116.out _).trans (((cell_far (p := ⟨gb116, _, none⟩) NB110_116.out _).trans (((cell_far (p := ⟨gb116, _, none⟩) NB110_116.out _).trans (((cell_far (p := ⟨gb116, _, none⟩) NB110_116.out _).trans (((cell_far (p := ⟨gb116, _, none⟩) NB110_116.out _).trans (((cell_far (p := ⟨gb116, _, none⟩) NB110_116.out _).trans (hHeld.1)))))))))))), ((cell_far (p := ⟨gb116, _, none⟩) NB110_116.out _).trans (((cell_far (p := ⟨gb116, _, none⟩) NB110_116.out _).trans (((cell_far (p := ⟨gb116, _, none⟩) NB110_116.out _).trans (((cell_far (p := ⟨gb116, _, none⟩) NB110_116.out _).trans (((cell_far (p := ⟨gb116, _, none⟩) NB110_116.out _).trans (((cell_far (p := ⟨gb116, _, none⟩) NB110_116.out _).trans (hHeld.2.1)))))))))))), ((cell_far (p := ⟨gb116, _, none⟩) NB111_116.out _).trans (((cell_far (p := ⟨gb116, _, none⟩) NB111_116.out _).trans (((cell_far (p := ⟨gb116, _, none⟩) NB111_116.out _).trans (((cell_far (p := ⟨gb116, _, none⟩) NB111_116.out _).trans (((cell_far (p := ⟨gb116, _, none⟩) NB111_116.out _).trans (((cell_far (p := ⟨gb116, _, none⟩) NB111_116.out _).trans (hHeld.2.2.1)))))))))))), ((cell_far (p := ⟨gb116, _, none⟩) NB111_116.out _).trans (((cell_far (p := ⟨gb116, _, none⟩) NB111_116.out _).trans (((cell_far (p := ⟨gb116, _, none⟩) NB111_116.out _).trans (((cell_far (p := ⟨gb116, _, none⟩) NB111_116.out _).trans (((cell_far (p := ⟨gb116, _, none⟩) NB111_116.out _).trans (((cell_far (p := ⟨gb116, _, none⟩) NB111_116.out _).trans (hHeld.2.2.2.1)))))))))))), ((cell_far (p := ⟨gb116, _, none⟩) (neFar hw113_0 GW116.out) _).trans (((cell_far (p := ⟨gb116, _, none⟩) (neFar hw113_0 GW116.out) _).trans (((cell_far (p := ⟨gb116, _, none⟩) (neFar hw113_0 GW116.out) _).trans (((cell_far (p := ⟨gb116, _, none⟩) (neFar hw113_0 GW116.out) _).trans (((cell_far (p := ⟨gb116, _, none⟩) (neFar hw113_0 GW116.out) _).trans (((cell_far (p := ⟨gb116, _, none⟩) (neFar hw113_0 GW116.out) _).trans (hHeld.2.2.2.2.1)))))))))))), ((cell_far (p := ⟨gb116, _, none⟩) (neFar hw113_1 GW116.out) _).trans (((cell_far (p := ⟨gb116, _, none⟩) (neFar hw113_1 GW116.out) _).trans (((cell_far (p := ⟨gb116, _, none⟩) (neFar hw113_1 GW116.out) _).trans (((cell_far (p := ⟨gb116, _, none⟩) (neFar hw113_1 GW116.out) _).trans (((cell_far (p := ⟨gb116, _, none⟩) (neFar hw113_1 GW116.out) _).trans (((cell_far (p := ⟨gb116, _, none⟩) (neFar hw113_1 GW116.out) _).trans (hHeld.2.2.2.2.2.1)))))))))))), ((cell_far (p := ⟨gb116, _, none⟩) (neFar hw113_2 GW116.out) _).trans (((cell_far (p := ⟨gb116, _, none⟩) (neFar hw113_2 GW116.out) _).trans (((cell_far (p := ⟨gb116, _, none⟩) (neFar hw113_2 GW116.out) _).trans (((cell_far (p := ⟨gb116, _, none⟩) (neFar hw113_2 GW116.out) _).trans (((cell_far (p := ⟨gb116, _, none⟩) (neFar hw113_2 GW116.out) _).trans (((cell_far (p := ⟨gb116, _, none⟩) (neFar hw113_2 GW116.out) _).trans (hHeld.2.2.2.2.2.2.1)))))))))))), ((cell_far (p := ⟨gb116, _, none⟩) (neFar hw113_3 GW116.out) _).trans (((cell_far (p := ⟨gb116, _, none⟩) (neFar hw113_3 GW116.out) _).trans (((cell_far (p := ⟨gb116, _, none⟩) (neFar hw113_3 GW116.out) _).trans (((cell_far (p := ⟨gb116, _, none⟩) (neFar hw113_3 GW116.out) _).trans (((cell_far (p := ⟨gb116, _, none⟩) (neFar hw113_3 GW116.out) _).trans (((cell_far (p := ⟨gb116, _, none⟩) (neFar hw113_3 GW116.out) _).trans (hHeld.2.2.2.2.2.2.2.1)))))))))))), ((cell_far (p := ⟨gb116, _, none⟩) (neFar hw113_4 GW116.out) _).trans (((cell_far (p := ⟨gb116, _, none⟩) (neFar hw113_4 GW116.out) _).trans (((cell_far (p := ⟨gb116, _, none⟩) (neFar hw113_4 GW116.out) _).trans (((cell_far (p := ⟨gb116, _, none⟩) (neFar hw113_4 GW116.out) _).trans (((cell_far (p := ⟨gb116, _, none⟩) (neFar hw113_4 GW116.out) _).trans (((cell_far (p := ⟨gb116, _, none⟩) (neFar hw113_4 GW116.out) _).trans (hHeld.2.2.2.2.2.2.2.2.1)))))))))))), ((cell_far (p := ⟨gb116, _, none⟩) (neFar hw113_5 GW116.out) _).trans (((cell_far (p := ⟨gb116, _, none⟩) (neFar hw113_5 GW116.out) _).trans (((cell_far (p := ⟨gb116, _, none⟩) (neFar hw113_5 GW116.out) _).trans (((cell_far (p := ⟨gb116, _, none⟩) (neFar hw113_5 GW116.out) _).trans (((cell_far (p := ⟨gb116, _, none⟩) (neFar hw113_5 GW116.out) _).trans (((cell_far (p := ⟨gb116, _, none⟩) (neFar hw113_5 GW116.out) _).trans (hHeld.2.2.2.2.2.2.2.2.2.1)))))))))))), ((cell_far (p := ⟨gb116, _, none⟩) (neFar hw114_0 GW116.out) _).trans (((cell_far (p := ⟨gb116, _, none⟩) (neFar hw114_0 GW116.out) _).trans (((cell_far (p := ⟨gb116, _, none⟩) (neFar hw114_0 GW116.out) _).trans (((cell_far (p := ⟨gb116, _, none⟩) (neFar hw114_0 GW116.out) _).trans (((cell_far (p := ⟨gb116, _, none⟩) (neFar hw114_0 GW116.out) _).trans (((cell_far (p := ⟨gb116, _, none⟩) (neFar hw114_0 GW116.out) _).trans (hHeld.2.2.2.2.2.2.2.2.2.2.1)))))))))))), ((cell_far (p := ⟨gb116, _, none⟩) (neFar hw114_1 GW116.out) _).trans (((cell_far (p := ⟨gb116, _, none⟩) (neFar hw114_1 GW116.out) _).trans (((cell_far (p := ⟨gb116, _, none⟩) (neFar hw114_1 GW116.out) _).trans (((cell_far (p := ⟨gb116, _, none⟩) (neFar hw114_1 GW116.out) _).trans (((cell_far (p := ⟨gb116, _, none⟩) (neFar hw114_1 GW116.out) _).trans (((cell_far (p := ⟨gb116, _, none⟩) (neFar hw114_1 GW116.out) _).trans (hHeld.2.2.2.2.2.2.2.2.2.2.2.1)))))))))))), ((cell_far (p := ⟨gb116, _, none⟩) (neFar hw114_2 GW116.out) _).trans (((cell_far (p := ⟨gb116, _, none⟩) (neFar hw114_2 GW116.out) _).trans (((cell_far (p := ⟨gb116, _, none⟩) (neFar hw114_2 GW116.out) _).trans (((cell_far (p := ⟨gb116, _, none⟩) (neFar hw114_2 GW116.out) _).trans (((cell_far (p := ⟨gb116, _, none⟩) (neFar hw114_2 GW116.out) _).trans (((cell_far (p := ⟨gb116, _, none⟩) (neFar hw114_2 GW116.out) _).trans (hHeld.2.2.2.2.2.2.2.2.2.2.2.2.1)))))))))))), ((cell_far (p := ⟨gb116, _, none⟩) (neFar hw114_3 GW116.out) _).trans (((cell_far (p := ⟨gb116, _, none⟩) (neFar hw114_3 GW116.out) _).trans (((cell_far (p := ⟨gb116, _, none⟩) (neFar hw114_3 GW116.out) _).trans (((cell_far (p := ⟨gb116, _, none⟩) (neFar hw114_3 GW116.out) _).trans (((cell_far (p := ⟨gb116, _, none⟩) (neFar hw114_3 GW116.out) _).trans (((cell_far (p := ⟨gb116, _, none⟩) (neFar hw114_3 GW116.out) _).trans (hHeld.2.2.2.2.2.2.2.2.2.2.2.2.2.1)))))))))))), ((cell_far (p := ⟨gb116, _, none⟩) (neFar hw114_4 GW116.out) _).trans (((cell_far (p := ⟨gb116, _, none⟩) (neFar hw114_4 GW116.out) _).trans (((cell_far (p := ⟨gb116, _, none⟩) (neFar hw114_4 GW116.out) _).trans (((cell_far (p := ⟨gb116, _, none⟩) (neFar hw114_4 GW116.out) _).trans (((cell_far (p := ⟨gb116, _, none⟩) (neFar hw114_4 GW116.out) _).trans (((cell_far (p := ⟨gb116, _, none⟩) (neFar hw114_4 GW116.out) _).trans (hHeld.2.2.2.2.2.2.2.2.2.2.2.2.2.2.1)))))))))))), ((cell_far (p := ⟨gb116, _, none⟩) (neFar hw114_5 GW116.out) _).trans (((cell_far (p := ⟨gb116, _, none⟩) (neFar hw114_5 GW116.out) _).trans (((cell_far (p := ⟨gb116, _, none⟩) (neFar hw114_5 GW116.out) _).trans (((cell_far (p := ⟨gb116, _, none⟩) (neFar hw114_5 GW116.out) _).trans (((cell_far (p := ⟨gb116, _, none⟩) (neFar hw114_5 GW116.out) _).trans (((cell_far (p := ⟨gb116, _, none⟩) (neFar hw114_5 GW116.out) _).trans (hHeld.2.2.2.2.2.2.2.2.2.2.2.2.2.2.2))))))))))))⟩ (fun hHeld => ?_)
                  clear hK K
                  refine done_ (done_of HT_.out (by kernel_rfl)) ?_
                  have hnb43 := NB115_110.out
                  have hnc43 := NB110_115.out
                  have hnb44 := NB115_111.out
                  have hnc44 := NB111_115.out
                  have hnb45 := NB115_116.out
                  have hnc45 := NB116_115.out
                  have hcz46_0 : w30.cell? ⟨gb115, 0, none⟩ = some (.int .i64 0) := (blk_cell BK115.out 0).trans rfl
                  have hcz46_1 : w30.cell? ⟨gb115, 1, none⟩ = some (.int .i64 0) := (blk_cell BK115.out 1).trans rfl
                  have hcz46_2 : w30.cell? ⟨gb115, 2, none⟩ = some (.int .i64 0) := (blk_cell BK115.out 2).trans rfl
                  have hcz46_3 : w30.cell? ⟨gb115, 3, none⟩ = some (.int .i64 0) := (blk_cell BK115.out 3).trans rfl
                  have hcz46_4 : w30.cell? ⟨gb115, 4, none⟩ = some (.string (⟨#[]⟩ : ByteArray)) := (blk_cell BK115.out 4).trans rfl
                  have hcz46_5 : w30.cell? ⟨gb115, 5, none⟩ = some (.slice none 0 0) := (blk_cell BK115.out 5).trans rfl
                  have hfz46_0 := blk_frozen BK115.out 0
                  have hfz46_1 := blk_frozen BK115.out 1
                  have hfz46_2 := blk_frozen BK115.out 2
                  have hfz46_3 := blk_frozen BK115.out 3
                  have hfz46_4 := blk_frozen BK115.out 4
                  have hfz46_5 := blk_frozen BK115.out 5
                  have hnb47 := NB116_110.out
                  have hnc47 := NB110_116.out
                  have hnb48 := NB116_111.out
                  have hnc48 := NB111_116.out
                  have hcz49_0 : w30.cell? ⟨gb116, 0, none⟩ = some (.int .i64 0) := (blk_cell BK116.out 0).trans rfl
                  have hcz49_1 : w30.cell? ⟨gb116, 1, none⟩ = some (.int .i64 0) := (blk_cell BK116.out 1).trans rfl
                  have hcz49_2 : w30.cell? ⟨gb116, 2, none⟩ = some (.int .i64 0) := (blk_cell BK116.out 2).trans rfl
                  have hcz49_3 : w30.cell? ⟨gb116, 3, none⟩ = some (.int .i64 0) := (blk_cell BK116.out 3).trans rfl
                  have hcz49_4 : w30.cell? ⟨gb116, 4, none⟩ = some (.string (⟨#[]⟩ : ByteArray)) := (blk_cell BK116.out 4).trans rfl
                  have hcz49_5 : w30.cell? ⟨gb116, 5, none⟩ = some (.slice none 0 0) := (blk_cell BK116.out 5).trans rfl
                  have hfz49_0 := blk_frozen BK116.out 0
                  have hfz49_1 := blk_frozen BK116.out 1
                  have hfz49_2 := blk_frozen BK116.out 2
                  have hfz49_3 := blk_frozen BK116.out 3
                  have hfz49_4 := blk_frozen BK116.out 4
                  have hfz49_5 := blk_frozen BK116.out 5
                  have H := HH.out
                  clear HH
                  by_cases c18 : ((rd_T38 l0_1 x5_2).f0) = ((rd_T38 l1_1 x5_2).f0)
                  · rw [if_pos c18] at H
                    have c18b0 : (((rd_T38 l0_1 x5_2).f0) == ((rd_T38 l1_1 x5_2).f0)) = true := beq_iff_eq.mpr c18
                    have c18b1 : (((rd_T38 l0_1 x5_2).f0) != ((rd_T38 l1_1 x5_2).f0)) = false := bne_eq_false_iff_eq.mpr c18
                    clear c18
                    by_cases c19 : ((rd_T38 l0_1 x5_2).f1) = ((rd_T38 l1_1 x5_2).f1)
                    · rw [if_pos c19] at H
                      have c19b0 : (((rd_T38 l0_1 x5_2).f1) == ((rd_T38 l1_1 x5_2).f1)) = true := beq_iff_eq.mpr c19
                      have c19b1 : (((rd_T38 l0_1 x5_2).f1) != ((rd_T38 l1_1 x5_2).f1)) = false := bne_eq_false_iff_eq.mpr c19
                      clear c19
                      by_cases c20 : ((rd_T38 l0_1 x5_2).f2) = ((rd_T38 l1_1 x5_2).f2)
                      · rw [if_pos c20] at H
                        have c20b0 : (((rd_T38 l0_1 x5_2).f2) == ((rd_T38 l1_1 x5_2).f2)) = true := beq_iff_eq.mpr c20
                        have c20b1 : (((rd_T38 l0_1 x5_2).f2) != ((rd_T38 l1_1 x5_2).f2)) = false := bne_eq_false_iff_eq.mpr c20
                        clear c20
                        by_cases c21 : ((rd_T38 l0_1 x5_2).f3) = ((rd_T38 l1_1 x5_2).f3)
                        · rw [if_pos c21] at H
                          have c21b0 : (((rd_T38 l0_1 x5_2).f3) == ((rd_T38 l1_1 x5_2).f3)) = true := beq_iff_eq.mpr c21
                          have c21b1 : (((rd_T38 l0_1 x5_2).f3) != ((rd_T38 l1_1 x5_2).f3)) = false := bne_eq_false_iff_eq.mpr c21
                          clear c21
                          by_cases c22 : ((rd_T38 l0_1 x5_2).f4).toList = ((rd_T38 l1_1 x5_2).f4).toList
                          · rw [if_pos c22] at H
                            have c22b0 : (((rd_T38 l0_1 x5_2).f4).toList == ((rd_T38 l1_1 x5_2).f4).toList) = true := beq_iff_eq.mpr c22
                            have c22b1 : (((rd_T38 l0_1 x5_2).f4).toList != ((rd_T38 l1_1 x5_2).f4).toList) = false := bne_eq_false_iff_eq.mpr c22
                            clear c22
                            replace H := Option.bind_eq_some_iff.mp H
                            obtain ⟨t117, A230, H⟩ := H
                            replace H : (if t117 = true then (spec_ShapeSame.l0 k2 (wrap64 (x5_2 + 1)) l0_0 l0_1 l1_0 l1_1) else (some false)) = some r := H
                            have A23 := Aside0.mk A230
                            clear A230
                            by_cases c24 : t117 = true
                            · subst c24
                              have H1 : (spec_ShapeSame.l0 k2 (wrap64 (x5_2 + 1)) l0_0 l0_1 l1_0 l1_1) = some r := by rw [if_pos rfl] at H; exact H
                              clear H
                              have H := H1
                              clear H1
                              have H' := Aside0.mk H
                              clear H
                              try go_wp2_with (first | (go_at_call 11; (with_reducible refine (spec_l7Vals.calls k2 _ _ ((rd_T38 l0_1 x5_2).f5) _ _ ((rd_T38 l1_1 x5_2).f5) true _ ?side1 ?side2 ?side3 ?side4 A23.out).mono ?_); (case side1 => exact Kd.C_below HR113_5.out (by repeat (first | (with_reducible first | exact HB.out | apply below_alloc | apply pw_below_drewN | apply below_drew1 | refine below_set ?_ GE110.out | refine below_set ?_ GE111.out | refine below_set ?_ GE115.out | refine below_set ?_ GE116.out) | exact HB.out))); (case side2 => exact HC113_5.out); (case side3 => exact Kd.C_below HR114_5.out (by repeat (first | (with_reducible first | exact HB.out | apply below_alloc | apply pw_below_drewN | apply below_drew1 | refine below_set ?_ GE110.out | refine below_set ?_ GE111.out | refine below_set ?_ GE115.out | refine below_set ?_ GE116.out) | exact HB.out))); (case side4 => exact HC114_5.out); rintro e w' ⟨rfl, ⟨nd, rfl⟩⟩))
                              go_roundg k2
                              case measure => have := HJ2.out; have := HK2.out; omega
                              case rel => exact ⟨(wrap64 (x5_2 + 1)), (by first | rfl | (simp; done) | (simp [*]; done)), H', ⟨by have := HJ2.out; have := HK2.out; omega⟩, ⟨by (with_reducible repeat (first | refine blk_drewN ?_ _ | refine blk_drew ?_ | refine blk_alloc ?_ _)); refine blk_far ?_ NB110_116.out _; (with_reducible repeat (first | refine blk_drewN ?_ _ | refine blk_drew ?_ | refine blk_alloc ?_ _)); refine blk_far ?_ NB110_116.out _; (with_reducible repeat (first | refine blk_drewN ?_ _ | refine blk_drew ?_ | refine blk_alloc ?_ _)); refine blk_far ?_ NB110_116.out _; (with_reducible repeat (first | refine blk_drewN ?_ _ | refine blk_drew ?_ | refine blk_alloc ?_ _)); refine blk_far ?_ NB110_116.out _; (with_reducible repeat (first | refine blk_drewN ?_ _ | refine blk_drew ?_ | refine blk_alloc ?_ _)); refine blk_far ?_ NB110_116.out _; (with_reducible repeat (first | refine blk_drewN ?_ _ | refine blk_drew ?_ | refine blk_alloc ?_ _)); refine blk_far ?_ NB110_116.out _; (with_reducible repeat (first | refine blk_drewN ?_ _ | refine blk_drew ?_ | refine blk_alloc ?_ _)); refine blk_far ?_ NB110_115.out _; (with_reducible repeat (first | refine blk_drewN ?_ _ | refine blk_drew ?_ | refine blk_alloc ?_ _)); refine blk_far ?_ NB110_115.out _; (with_reducible repeat (first | refine blk_drewN ?_ _ | refine blk_drew ?_ | refine blk_alloc ?_ _)); refine blk_far ?_ NB110_115.out _; (with_reducible repeat (first | refine blk_drewN ?_ _ | refine blk_drew ?_ | refine blk_alloc ?_ _)); refine blk_far ?_ NB110_115.out _; (with_reducible repeat (first | refine blk_drewN ?_ _ | refine blk_drew ?_ | refine blk_alloc ?_ _)); refine blk_far ?_ NB110_115.out _; (with_reducible repeat (first | refine blk_drewN ?_ _ | refine blk_drew ?_ | refine blk_alloc ?_ _)); refine blk_far ?_ NB110_115.out _; (with_reducible repeat (first | refine blk_drewN ?_ _ | refine blk_drew ?_ | refine blk_alloc ?_ _)); exact BK110.out⟩, ⟨by (with_reducible repeat (first | refine blk_drewN ?_ _ | refine blk_drew ?_ | refine blk_alloc ?_ _)); refine blk_far ?_ NB111_116.out _; (with_reducible repeat (first | refine blk_drewN ?_ _ | refine blk_drew ?_ | refine blk_alloc ?_ _)); refine blk_far ?_ NB111_116.out _; (with_reducible repeat (first | refine blk_drewN ?_ _ | refine blk_drew ?_ | refine blk_alloc ?_ _)); refine blk_far ?_ NB111_116.out _; (with_reducible repeat (first | refine blk_drewN ?_ _ | refine blk_drew ?_ | refine blk_alloc ?_ _)); refine blk_far ?_ NB111_116.out _; (with_reducible repeat (first | refine blk_drewN ?_ _ | refine blk_drew ?_ | refine blk_alloc ?_ _)); refine blk_far ?_ NB111_116.out _; (with_reducible repeat (first | refine blk_drewN ?_ _ | refine blk_drew ?_ | refine blk_alloc ?_ _)); refine blk_far ?_ NB111_116.out _; (with_reducible repeat (first | refine blk_drewN ?_ _ | refine blk_drew ?_ | refine blk_alloc ?_ _)); refine blk_far ?_ NB111_115.out _; (with_reducible repeat (first | refine blk_drewN ?_ _ | refine blk_drew ?_ | refine blk_alloc ?_ _)); refine blk_far ?_ NB111_115.out _; (with_reducible repeat (first | refine blk_drewN ?_ _ | refine blk_drew ?_ | refine blk_alloc ?_ _)); refine blk_far ?_ NB111_115.out _; (with_reducible repeat (first | refine blk_drewN ?_ _ | refine blk_drew ?_ | refine blk_alloc ?_ _)); refine blk_far ?_ NB111_115.out _; (with_reducible repeat (first | refine blk_drewN ?_ _ | refine blk_drew ?_ | refine blk_alloc ?_ _)); refine blk_far ?_ NB111_115.out _; (with_reducible repeat (first | refine blk_drewN ?_ _ | refine blk_drew ?_ | refine blk_alloc ?_ _)); refine blk_far ?_ NB111_115.out _; (with_reducible repeat (first | refine blk_drewN ?_ _ | refine blk_drew ?_ | refine blk_alloc ?_ _)); exact BK111.out⟩, ⟨by repeat (first | (with_reducible first | exact HB.out | apply below_alloc | apply pw_below_drewN | apply below_drew1 | refine below_set ?_ GE110.out | refine below_set ?_ GE111.out | refine below_set ?_ GE115.out | refine below_set ?_ GE116.out) | exact HB.out)⟩⟩
                            · replace c24 := Bool.eq_false_iff.mpr c24
                              subst c24
                              have H1 : (some false) = some r := by rw [if_neg (show ¬ (false = true) by decide)] at H; exact H
                              clear H
                              have H := H1
                              clear H1
                              obtain rfl := Option.some.inj H
                              try go_wp2_with (first | (go_at_call 11; (with_reducible refine (spec_l7Vals.calls k2 _ _ ((rd_T38 l0_1 x5_2).f5) _ _ ((rd_T38 l1_1 x5_2).f5) false _ ?side1 ?side2 ?side3 ?side4 A23.out).mono ?_); (case side1 => exact Kd.C_below HR113_5.out (by repeat (first | (with_reducible first | exact HB.out | apply below_alloc | apply pw_below_drewN | apply below_drew1 | refine below_set ?_ GE110.out | refine below_set ?_ GE111.out | refine below_set ?_ GE115.out | refine below_set ?_ GE116.out) | exact HB.out))); (case side2 => exact HC113_5.out); (case side3 => exact Kd.C_below HR114_5.out (by repeat (first | (with_reducible first | exact HB.out | apply below_alloc | apply pw_below_drewN | apply below_drew1 | refine below_set ?_ GE110.out | refine below_set ?_ GE111.out | refine below_set ?_ GE115.out | refine below_set ?_ GE116.out) | exact HB.out))); (case side4 => exact HC114_5.out); rintro e w' ⟨rfl, ⟨nd, rfl⟩⟩))
                              go_ret
                              exact ⟨by first | rfl | (simp [errW_none, errW_some] <;> rfl) | (simp [*, errW_none, errW_some] <;> rfl), by repeat (first | (with_reducible first | exact HB.out | apply below_alloc | apply pw_below_drewN | apply below_drew1 | refine below_set ?_ GE110.out | refine below_set ?_ GE111.out | refine below_set ?_ GE115.out | refine below_set ?_ GE116.out) | exact HB.out)⟩
                          · rw [if_neg c22] at H
                            have c22b0 : (((rd_T38 l0_1 x5_2).f4).toList == ((rd_T38 l1_1 x5_2).f4).toList) = false := beq_eq_false_iff_ne.mpr c22
                            have c22b1 : (((rd_T38 l0_1 x5_2).f4).toList != ((rd_T38 l1_1 x5_2).f4).toList) = true := bne_iff_ne.mpr c22
                            obtain rfl := Option.some.inj H
                            try go_wp2
                            go_ret
                            exact ⟨by first | rfl | (simp [errW_none, errW_some] <;> rfl) | (simp [*, errW_none, errW_some] <;> rfl), by repeat (first | (with_reducible first | exact HB.out | apply below_alloc | apply pw_below_drewN | apply below_drew1 | refine below_set ?_ GE110.out | refine below_set ?_ GE111.out | refine below_set ?_ GE115.out | refine below_set ?_ GE116.out) | exact HB.out)⟩
                        · rw [if_neg c21] at H
                          have c21b0 : (((rd_T38 l0_1 x5_2).f3) == ((rd_T38 l1_1 x5_2).f3)) = false := beq_eq_false_iff_ne.mpr c21
                          have c21b1 : (((rd_T38 l0_1 x5_2).f3) != ((rd_T38 l1_1 x5_2).f3)) = true := bne_iff_ne.mpr c21
                          obtain rfl := Option.some.inj H
                          try go_wp2
                          go_ret
                          exact ⟨by first | rfl | (simp [errW_none, errW_some] <;> rfl) | (simp [*, errW_none, errW_some] <;> rfl), by repeat (first | (with_reducible first | exact HB.out | apply below_alloc | apply pw_below_drewN | apply below_drew1 | refine below_set ?_ GE110.out | refine below_set ?_ GE111.out | refine below_set ?_ GE115.out | refine below_set ?_ GE116.out) | exact HB.out)⟩
                      · rw [if_neg c20] at H
                        have c20b0 : (((rd_T38 l0_1 x5_2).f2) == ((rd_T38 l1_1 x5_2).f2)) = false := beq_eq_false_iff_ne.mpr c20
                        have c20b1 : (((rd_T38 l0_1 x5_2).f2) != ((rd_T38 l1_1 x5_2).f2)) = true := bne_iff_ne.mpr c20
                        obtain rfl := Option.some.inj H
                        try go_wp2
                        go_ret
                        exact ⟨by first | rfl | (simp [errW_none, errW_some] <;> rfl) | (simp [*, errW_none, errW_some] <;> rfl), by repeat (first | (with_reducible first | exact HB.out | apply below_alloc | apply pw_below_drewN | apply below_drew1 | refine below_set ?_ GE110.out | refine below_set ?_ GE111.out | refine below_set ?_ GE115.out | refine below_set ?_ GE116.out) | exact HB.out)⟩
                    · rw [if_neg c19] at H
                      have c19b0 : (((rd_T38 l0_1 x5_2).f1) == ((rd_T38 l1_1 x5_2).f1)) = false := beq_eq_false_iff_ne.mpr c19
                      have c19b1 : (((rd_T38 l0_1 x5_2).f1) != ((rd_T38 l1_1 x5_2).f1)) = true := bne_iff_ne.mpr c19
                      obtain rfl := Option.some.inj H
                      try go_wp2
                      go_ret
                      exact ⟨by first | rfl | (simp [errW_none, errW_some] <;> rfl) | (simp [*, errW_none, errW_some] <;> rfl), by repeat (first | (with_reducible first | exact HB.out | apply below_alloc | apply pw_below_drewN | apply below_drew1 | refine below_set ?_ GE110.out | refine below_set ?_ GE111.out | refine below_set ?_ GE115.out | refine below_set ?_ GE116.out) | exact HB.out)⟩
                  · rw [if_neg c18] at H
                    have c18b0 : (((rd_T38 l0_1 x5_2).f0) == ((rd_T38 l1_1 x5_2).f0)) = false := beq_eq_false_iff_ne.mpr c18
                    have c18b1 : (((rd_T38 l0_1 x5_2).f0) != ((rd_T38 l1_1 x5_2).f0)) = true := bne_iff_ne.mpr c18
                    obtain rfl := Option.some.inj H
                    try go_wp2
                    go_ret
                    exact ⟨by first | rfl | (simp [errW_none, errW_some] <;> rfl) | (simp [*, errW_none, errW_some] <;> rfl), by repeat (first | (with_reducible first | exact HB.out | apply below_alloc | apply pw_below_drewN | apply below_drew1 | refine below_set ?_ GE110.out | refine below_set ?_ GE111.out | refine below_set ?_ GE115.out | refine below_set ?_ GE116.out) | exact HB.out)⟩
                · rw [if_neg c17] at H
                  exact absurd H (by simp)
              · rw [if_neg c16] at H
                exact absurd H (by simp)
            · rw [if_neg c15] at H
              have c15b0 : decide (x5_2 < (l0_1.length : Int)) = false := decide_eq_false c15
              clear c15
              obtain rfl := Option.some.inj H
              have hnb200 := NB110_111.out
              have hnc200 := NB111_110.out
              have hcz201_0 : wr.cell? ⟨gb110, 0, none⟩ = some (.slice A0_0 l0_0.length c0_0) := (blk_cell BK110.out 0).trans rfl
              have hcz201_1 : wr.cell? ⟨gb110, 1, none⟩ = some (.slice A0_1 l0_1.length c0_1) := (blk_cell BK110.out 1).trans rfl
              have hfz201_0 := blk_frozen BK110.out 0
              have hfz201_1 := blk_frozen BK110.out 1
              go_wp2
              go_ret
              exact ⟨by first | rfl | (simp [errW_none, errW_some] <;> rfl) | (simp [*, errW_none, errW_some] <;> rfl), by repeat (first | (with_reducible first | exact HB.out | apply below_alloc | apply pw_below_drewN | apply below_drew1 | refine below_set ?_ GE110.out | refine below_set ?_ GE111.out) | exact HB.out)⟩

end Go.Proofs.Ytnmpedbamhhbgaa.PFnExactShapeSame
