-- written for this claim by a program of this session's (a patched scratch copy of the kit's print)
import Derived.Test.YtpfbhjnlihhpkaaPFnExactModuleOkx0
import Derived.Test.YtpfbhjnlihhpkaaPFnExactModuleOkx7
import Derived.Test.YtpfbhjnlihhpkaaPFnExactModuleOkx8
namespace Go.Proofs.Ytpfbhjnlihhpkaa.PFnExactModuleOk
open Go.RowKit Go.Proofs.YtpfbhjnlihhpkaaW.PrintWords Go.Proofs.YtpfbhjnlihhpkaaW.PrintLast Go.Proofs.YtpfbhjnlihhpkaaW.PrintMore
attribute [local go_sem] max2_int min2_int max_two min_two max_three min_three max_four min_four   -- for this text's walks alone
set_option linter.unusedVariables false
set_option linter.unusedSimpArgs false

/-! ### impl_ModuleOk: function 44 -/
mutual
def impl_ModuleOk.j0 : Nat → Bool → List (S126) → List ByteArray → Option (Bool)
  | 0, _, _, _ => none
  | k + 1, x37, x252000, x252001 => if x37 = true then (some false) else (impl_ModuleOk.l0 k x252001 (x252001.length : Int) 0 x252000 x252001)
def impl_ModuleOk.l0 : Nat → List ByteArray → Int → Int → List (S126) → List ByteArray → Option (Bool)
  | 0, _, _, _, _, _ => none
  | k + 1, x39, x40, x41, x252000, x252001 => if x41 < x40 then (if 0 ≤ x41 then (if x41 < (x39.length : Int) then (if ((rdOf ByteArray.empty x39 x41).size : Int) > 160 then (some false) else (impl_ModuleOk.l0 k x39 x40 (wrap64 (x41 + 1)) x252000 x252001)) else (none)) else (none)) else (impl_ModuleOk.l1 k x252000 (x252000.length : Int) 0 x252000 x252001)
def impl_ModuleOk.l1 : Nat → List (S126) → Int → Int → List (S126) → List ByteArray → Option (Bool)
  | 0, _, _, _, _, _ => none
  | k + 1, x50, x51, x52, x252000, x252001 => if x52 < x51 then (if 0 ≤ x52 then (if x52 < (x50.length : Int) then ((impl_within.f ((rd_T126 x50 x52).f1) 0 20).bind fun t258 => (if t258 = true then ((impl_within.f ((rd_T126 x50 x52).f0) 0 ((rd_T126 x50 x52).f1)).bind fun t259 => (if t259 = true then (if (((rd_T126 x50 x52).f2).length : Int) > 12 then (impl_ModuleOk.j3 k x50 x51 x52 true x252000 x252001 ((rd_T126 x50 x52).f0) ((rd_T126 x50 x52).f1) ((rd_T126 x50 x52).f2) ((rd_T126 x50 x52).f3)) else ((impl_within.f (((rd_T126 x50 x52).f3).length : Int) 1 4000).bind fun t260 => (if t260 = true then (if 0 ≤ (wrap64 ((((rd_T126 x50 x52).f3).length : Int) - 1)) then (if (wrap64 ((((rd_T126 x50 x52).f3).length : Int) - 1)) < (((rd_T126 x50 x52).f3).length : Int) then (impl_ModuleOk.j3 k x50 x51 x52 (((rd_T136 ((rd_T126 x50 x52).f3) (wrap64 ((((rd_T126 x50 x52).f3).length : Int) - 1))).f0) != 24) x252000 x252001 ((rd_T126 x50 x52).f0) ((rd_T126 x50 x52).f1) ((rd_T126 x50 x52).f2) ((rd_T126 x50 x52).f3)) else (none)) else (none)) else (impl_ModuleOk.j3 k x50 x51 x52 true x252000 x252001 ((rd_T126 x50 x52).f0) ((rd_T126 x50 x52).f1) ((rd_T126 x50 x52).f2) ((rd_T126 x50 x52).f3))))) else (impl_ModuleOk.j3 k x50 x51 x52 true x252000 x252001 ((rd_T126 x50 x52).f0) ((rd_T126 x50 x52).f1) ((rd_T126 x50 x52).f2) ((rd_T126 x50 x52).f3)))) else (impl_ModuleOk.j3 k x50 x51 x52 true x252000 x252001 ((rd_T126 x50 x52).f0) ((rd_T126 x50 x52).f1) ((rd_T126 x50 x52).f2) ((rd_T126 x50 x52).f3)))) else (none)) else (none)) else (some true)
def impl_ModuleOk.j3 : Nat → List (S126) → Int → Int → Bool → List (S126) → List ByteArray → Int → Int → List (S133) → List (S136) → Option (Bool)
  | 0, _, _, _, _, _, _, _, _, _, _ => none
  | k + 1, x50, x51, x52, x91, x252000, x252001, x258000, x258001, x258002, x258003 => if x91 = true then (some false) else (impl_ModuleOk.l2 k x50 x51 x52 x258003 (x258003.length : Int) 0 x252000 x252001 x258000 x258001 x258002 x258003)
def impl_ModuleOk.l2 : Nat → List (S126) → Int → Int → List (S136) → Int → Int → List (S126) → List ByteArray → Int → Int → List (S133) → List (S136) → Option (Bool)
  | 0, _, _, _, _, _, _, _, _, _, _, _, _ => none
  | k + 1, x50, x51, x52, x93, x94, x95, x252000, x252001, x258000, x258001, x258002, x258003 => if x95 < x94 then (if 0 ≤ x95 then (if x95 < (x93.length : Int) then ((impl_insOk.f k x252000 x252001 x258000 x258001 x258002 x258003 ((rd_T136 x93 x95).f0) ((rd_T136 x93 x95).f1)).bind fun t264 => (if t264 = true then (impl_ModuleOk.l2 k x50 x51 x52 x93 x94 (wrap64 (x95 + 1)) x252000 x252001 x258000 x258001 x258002 x258003) else (some false))) else (none)) else (none)) else (impl_ModuleOk.l1 k x50 x51 (wrap64 (x52 + 1)) x252000 x252001)
end
def impl_ModuleOk.f (k : Nat) (l0_0 : List (S126)) (l0_1 : List ByteArray) : Option (Bool) := (impl_within.f (l0_0.length : Int) 1 100).bind fun t252 => (if t252 = true then (if (l0_1.length : Int) > 255 then (impl_ModuleOk.j0 k true l0_0 l0_1) else (if 0 < (l0_0.length : Int) then (if ((rd_T126 l0_0 0).f0) = 0 then (impl_ModuleOk.j0 k (decide ((((rd_T126 l0_0 0).f2).length : Int) > 0)) l0_0 l0_1) else (impl_ModuleOk.j0 k true l0_0 l0_1)) else (none))) else (impl_ModuleOk.j0 k true l0_0 l0_1))
theorem impl_ModuleOk.mono_l : ∀ k, (∀ y0 y1 y2, LeO (impl_ModuleOk.j0 k y0 y1 y2) (impl_ModuleOk.j0 (k + 1) y0 y1 y2)) ∧ (∀ y0 y1 y2 y3 y4, LeO (impl_ModuleOk.l0 k y0 y1 y2 y3 y4) (impl_ModuleOk.l0 (k + 1) y0 y1 y2 y3 y4)) ∧ (∀ y0 y1 y2 y3 y4, LeO (impl_ModuleOk.l1 k y0 y1 y2 y3 y4) (impl_ModuleOk.l1 (k + 1) y0 y1 y2 y3 y4)) ∧ (∀ y0 y1 y2 y3 y4 y5 y6 y7 y8 y9, LeO (impl_ModuleOk.j3 k y0 y1 y2 y3 y4 y5 y6 y7 y8 y9) (impl_ModuleOk.j3 (k + 1) y0 y1 y2 y3 y4 y5 y6 y7 y8 y9)) ∧ (∀ y0 y1 y2 y3 y4 y5 y6 y7 y8 y9 y10 y11, LeO (impl_ModuleOk.l2 k y0 y1 y2 y3 y4 y5 y6 y7 y8 y9 y10 y11) (impl_ModuleOk.l2 (k + 1) y0 y1 y2 y3 y4 y5 y6 y7 y8 y9 y10 y11))
  | 0 => ⟨fun _ _ _ r h => by simp [impl_ModuleOk.j0] at h, fun _ _ _ _ _ r h => by simp [impl_ModuleOk.l0] at h, fun _ _ _ _ _ r h => by simp [impl_ModuleOk.l1] at h, fun _ _ _ _ _ _ _ _ _ _ r h => by simp [impl_ModuleOk.j3] at h, fun _ _ _ _ _ _ _ _ _ _ _ _ r h => by simp [impl_ModuleOk.l2] at h⟩
  | k + 1 => by
    obtain ⟨ih0, ih1, ih2, ih3, ih4⟩ := impl_ModuleOk.mono_l k
    refine ⟨?_, ?_, ?_, ?_, ?_⟩
    · intro y0 y1 y2
      unfold impl_ModuleOk.j0
      repeat' first
      | (with_reducible exact ih0 _ _ _)
      | (with_reducible exact ih1 _ _ _ _ _)
      | (with_reducible exact ih2 _ _ _ _ _)
      | (with_reducible exact ih3 _ _ _ _ _ _ _ _ _ _)
      | (with_reducible exact ih4 _ _ _ _ _ _ _ _ _ _ _ _)
      | (with_reducible exact impl_insOk.mono _ _ _ _ _ _ _ _ _)
      | (with_reducible exact LeO.refl _)
      | (with_reducible exact LeO.none _)
      | (with_reducible refine LeO.ite ?_ ?_)
      | (with_reducible refine LeO.bind ?_ (fun _ => ?_))
      | exact ih0 _ _ _
      | exact ih1 _ _ _ _ _
      | exact ih2 _ _ _ _ _
      | exact ih3 _ _ _ _ _ _ _ _ _ _
      | exact ih4 _ _ _ _ _ _ _ _ _ _ _ _
      | exact impl_insOk.mono _ _ _ _ _ _ _ _ _
      | exact LeO.none _
      | refine LeO.ite ?_ ?_
      | refine LeO.bind ?_ (fun _ => ?_)
    · intro y0 y1 y2 y3 y4
      unfold impl_ModuleOk.l0
      repeat' first
      | (with_reducible exact ih0 _ _ _)
      | (with_reducible exact ih1 _ _ _ _ _)
      | (with_reducible exact ih2 _ _ _ _ _)
      | (with_reducible exact ih3 _ _ _ _ _ _ _ _ _ _)
      | (with_reducible exact ih4 _ _ _ _ _ _ _ _ _ _ _ _)
      | (with_reducible exact impl_insOk.mono _ _ _ _ _ _ _ _ _)
      | (with_reducible exact LeO.refl _)
      | (with_reducible exact LeO.none _)
      | (with_reducible refine LeO.ite ?_ ?_)
      | (with_reducible refine LeO.bind ?_ (fun _ => ?_))
      | exact ih0 _ _ _
      | exact ih1 _ _ _ _ _
      | exact ih2 _ _ _ _ _
      | exact ih3 _ _ _ _ _ _ _ _ _ _
      | exact ih4 _ _ _ _ _ _ _ _ _ _ _ _
      | exact impl_insOk.mono _ _ _ _ _ _ _ _ _
      | exact LeO.none _
      | refine LeO.ite ?_ ?_
      | refine LeO.bind ?_ (fun _ => ?_)
    · intro y0 y1 y2 y3 y4
      unfold impl_ModuleOk.l1
      repeat' first
      | (with_reducible exact ih0 _ _ _)
      | (with_reducible exact ih1 _ _ _ _ _)
      | (with_reducible exact ih2 _ _ _ _ _)
      | (with_reducible exact ih3 _ _ _ _ _ _ _ _ _ _)
      | (with_reducible exact ih4 _ _ _ _ _ _ _ _ _ _ _ _)
      | (with_reducible exact impl_insOk.mono _ _ _ _ _ _ _ _ _)
      | (with_reducible exact LeO.refl _)
      | (with_reducible exact LeO.none _)
      | (with_reducible refine LeO.ite ?_ ?_)
      | (with_reducible refine LeO.bind ?_ (fun _ => ?_))
      | exact ih0 _ _ _
      | exact ih1 _ _ _ _ _
      | exact ih2 _ _ _ _ _
      | exact ih3 _ _ _ _ _ _ _ _ _ _
      | exact ih4 _ _ _ _ _ _ _ _ _ _ _ _
      | exact impl_insOk.mono _ _ _ _ _ _ _ _ _
      | exact LeO.none _
      | refine LeO.ite ?_ ?_
      | refine LeO.bind ?_ (fun _ => ?_)
    · intro y0 y1 y2 y3 y4 y5 y6 y7 y8 y9
      unfold impl_ModuleOk.j3
      repeat' first
      | (with_reducible exact ih0 _ _ _)
      | (with_reducible exact ih1 _ _ _ _ _)
      | (with_reducible exact ih2 _ _ _ _ _)
      | (with_reducible exact ih3 _ _ _ _ _ _ _ _ _ _)
      | (with_reducible exact ih4 _ _ _ _ _ _ _ _ _ _ _ _)
      | (with_reducible exact impl_insOk.mono _ _ _ _ _ _ _ _ _)
      | (with_reducible exact LeO.refl _)
      | (with_reducible exact LeO.none _)
      | (with_reducible refine LeO.ite ?_ ?_)
      | (with_reducible refine LeO.bind ?_ (fun _ => ?_))
      | exact ih0 _ _ _
      | exact ih1 _ _ _ _ _
      | exact ih2 _ _ _ _ _
      | exact ih3 _ _ _ _ _ _ _ _ _ _
      | exact ih4 _ _ _ _ _ _ _ _ _ _ _ _
      | exact impl_insOk.mono _ _ _ _ _ _ _ _ _
      | exact LeO.none _
      | refine LeO.ite ?_ ?_
      | refine LeO.bind ?_ (fun _ => ?_)
    · intro y0 y1 y2 y3 y4 y5 y6 y7 y8 y9 y10 y11
      unfold impl_ModuleOk.l2
      repeat' first
      | (with_reducible exact ih0 _ _ _)
      | (with_reducible exact ih1 _ _ _ _ _)
      | (with_reducible exact ih2 _ _ _ _ _)
      | (with_reducible exact ih3 _ _ _ _ _ _ _ _ _ _)
      | (with_reducible exact ih4 _ _ _ _ _ _ _ _ _ _ _ _)
      | (with_reducible exact impl_insOk.mono _ _ _ _ _ _ _ _ _)
      | (with_reducible exact LeO.refl _)
      | (with_reducible exact LeO.none _)
      | (with_reducible refine LeO.ite ?_ ?_)
      | (with_reducible refine LeO.bind ?_ (fun _ => ?_))
      | exact ih0 _ _ _
      | exact ih1 _ _ _ _ _
      | exact ih2 _ _ _ _ _
      | exact ih3 _ _ _ _ _ _ _ _ _ _
      | exact ih4 _ _ _ _ _ _ _ _ _ _ _ _
      | exact impl_insOk.mono _ _ _ _ _ _ _ _ _
      | exact LeO.none _
      | refine LeO.ite ?_ ?_
      | refine LeO.bind ?_ (fun _ => ?_)
theorem impl_ModuleOk.mono : ∀ a0 a1 k, LeO (impl_ModuleOk.f k a0 a1) (impl_ModuleOk.f (k + 1) a0 a1) := by
  intro a0 a1 k
  obtain ⟨ih0, ih1, ih2, ih3, ih4⟩ := impl_ModuleOk.mono_l k
  unfold impl_ModuleOk.f
  repeat' first
      | (with_reducible exact ih0 _ _ _)
      | (with_reducible exact ih1 _ _ _ _ _)
      | (with_reducible exact ih2 _ _ _ _ _)
      | (with_reducible exact ih3 _ _ _ _ _ _ _ _ _ _)
      | (with_reducible exact ih4 _ _ _ _ _ _ _ _ _ _ _ _)
      | (with_reducible exact impl_insOk.mono _ _ _ _ _ _ _ _ _)
      | (with_reducible exact LeO.refl _)
      | (with_reducible exact LeO.none _)
      | (with_reducible refine LeO.ite ?_ ?_)
      | (with_reducible refine LeO.bind ?_ (fun _ => ?_))
      | exact ih0 _ _ _
      | exact ih1 _ _ _ _ _
      | exact ih2 _ _ _ _ _
      | exact ih3 _ _ _ _ _ _ _ _ _ _
      | exact ih4 _ _ _ _ _ _ _ _ _ _ _ _
      | exact impl_insOk.mono _ _ _ _ _ _ _ _ _
      | exact LeO.none _
      | refine LeO.ite ?_ ?_
      | refine LeO.bind ?_ (fun _ => ?_)
set_option maxHeartbeats 8000000 in
set_option maxRecDepth 100000 in
theorem impl_ModuleOk.calls (k : Nat) (A0_0 : Option Addr) (c0_0 : Nat) (l0_0 : List (S126)) (A0_1 : Option Addr) (c0_1 : Nat) (l0_1 : List ByteArray) (r : Bool) (w : World) (hr0_0 : Kd.C k126 w A0_0 l0_0.length l0_0) (hc0_0 : l0_0.length ≤ c0_0) (hr0_1 : Kd.C Kd.string w A0_1 l0_1.length l0_1) (hc0_1 : l0_1.length ≤ c0_1) (h : impl_ModuleOk.f k l0_0 l0_1 = some r) :
    Calls Try.prog 44 #[.agg #[.slice A0_0 l0_0.length c0_0, .slice A0_1 l0_1.length c0_1]] w fun e w' => e = .returned (.bool r) ∧ Below w.heap.size w w' := by
  have hu83 := Try.underlying83
  have hu126 := Try.underlying126
  have hu136 := Try.underlying136
  have HR0_0 := Aside0.mk hr0_0
  have HC0_0 := Aside0.mk hc0_0
  clear hr0_0 hc0_0
  have HR0_1 := Aside0.mk hr0_1
  have HC0_1 := Aside0.mk hc0_1
  clear hr0_1 hc0_1
  have HB := Aside0.mk (Below.refl w.heap.size w)
  have H : ((impl_within.f (l0_0.length : Int) 1 100).bind fun t252 => (if t252 = true then (if (l0_1.length : Int) > 255 then (impl_ModuleOk.j0 k true l0_0 l0_1) else (if 0 < (l0_0.length : Int) then (if ((rd_T126 l0_0 0).f0) = 0 then (impl_ModuleOk.j0 k (decide ((((rd_T126 l0_0 0).f2).length : Int) > 0)) l0_0 l0_1) else (impl_ModuleOk.j0 k true l0_0 l0_1)) else (none))) else (impl_ModuleOk.j0 k true l0_0 l0_1))) = some r := h
  clear h
  have HC2 := Aside0.mk H
  clear H
  go_enter Try.func44, Try.ntmps44
  go_upto_region 1 with (first | ((with_reducible refine gate_dst (N := 1) rfl ?_); (try (refine gate_guard (by rfl) ?_; dsimp only)); refine box_event ?hg (N := 1) ?hd (cs := #[.slice A0_0 l0_0.length c0_0, .slice A0_1 l0_1.length c0_1]) (t := 83) ?hr ?_; (case hd => rfl); (case hg => rfl); (case hr => first | (go_simp; done) | (go_simp; rfl)); intro gb251 hg w3 hbox hb; have n0_ := Aside0.mk (below_step (by repeat (first | (with_reducible first | exact HB.out | apply below_alloc | apply pw_below_drewN | apply below_drew1) | exact HB.out)) hb); have n1_ := Aside0.mk (hbox); have n2_ := Aside0.mk ((by rw [hg]; exact (below_size (by repeat (first | (with_reducible first | exact HB.out | apply below_alloc | apply pw_below_drewN | apply below_drew1) | exact HB.out))) : w.heap.size ≤ gb251)); have n3_ := Aside0.mk ((by rw [hg]; exact (below_size (by repeat (first | (with_reducible first | exact HB.out | apply below_alloc | apply pw_below_drewN | apply below_drew1) | exact HB.out))) : w.heap.size ≤ gb251)); clear HB; have HB := n0_; have BK251 := n1_; have GW251 := n2_; have GE251 := n3_; clear n0_ n1_ n2_ n3_; clear hb hbox hg))
  (try simp only [Act.put, List.setIfInBounds_toArray, List.set_cons_zero, List.set_cons_succ])
  go_cut [37] (fun v37 wc => ∃ (kq : Nat) (x37_1 : Bool), v37 = .bool x37_1 ∧ Aside0 (impl_ModuleOk.j0 kq x37_1 l0_0 l0_1 = some r) ∧ Aside0 (kq ≤ k) ∧ Aside0 (wc.heap[gb251]? = some (.cells #[(.slice A0_0 l0_0.length c0_0), (.slice A0_1 l0_1.length c0_1)] 83 (0, 0))) ∧ Aside0 (Below w.heap.size w wc))
  case first =>
    have H := HC2.out
    clear HC2
    replace H := Option.bind_eq_some_iff.mp H
    obtain ⟨t252, A40, H⟩ := H
    replace H : (if t252 = true then (if (l0_1.length : Int) > 255 then (impl_ModuleOk.j0 k true l0_0 l0_1) else (if 0 < (l0_0.length : Int) then (if ((rd_T126 l0_0 0).f0) = 0 then (impl_ModuleOk.j0 k (decide ((((rd_T126 l0_0 0).f2).length : Int) > 0)) l0_0 l0_1) else (impl_ModuleOk.j0 k true l0_0 l0_1)) else (none))) else (impl_ModuleOk.j0 k true l0_0 l0_1)) = some r := H
    have A4 := Aside0.mk A40
    clear A40
    by_cases c5 : t252 = true
    · subst c5
      have H1 : (if (l0_1.length : Int) > 255 then (impl_ModuleOk.j0 k true l0_0 l0_1) else (if 0 < (l0_0.length : Int) then (if ((rd_T126 l0_0 0).f0) = 0 then (impl_ModuleOk.j0 k (decide ((((rd_T126 l0_0 0).f2).length : Int) > 0)) l0_0 l0_1) else (impl_ModuleOk.j0 k true l0_0 l0_1)) else (none))) = some r := by rw [if_pos rfl] at H; exact H
      clear H
      have H := H1
      clear H1
      by_cases c6 : (l0_1.length : Int) > 255
      · rw [if_pos c6] at H
        have c6b0 : decide (255 < (l0_1.length : Int)) = true := decide_eq_true c6
        have c6b1 : decide (255 < l0_1.length) = true := decide_eq_true (by omega)
        clear c6
        (first | rw [c6b0] | (simp only [i64_w, i32_w]; rw [c6b0]) | skip)
        have H' := Aside0.mk H
        clear H
        have hcz7_0 : w3.cell? ⟨gb251, 0, none⟩ = some (.slice A0_0 l0_0.length c0_0) := (blk_cell BK251.out 0).trans rfl
        have hcz7_1 : w3.cell? ⟨gb251, 1, none⟩ = some (.slice A0_1 l0_1.length c0_1) := (blk_cell BK251.out 1).trans rfl
        have hfz7_0 := blk_frozen BK251.out 0
        have hfz7_1 := blk_frozen BK251.out 1
        go_wp2_with (first | ((with_reducible refine gate_callee (f := 46) rfl ?_); refine goesL_ (some 13) rfl rfl Try.func46 (by kernel_rfl) rfl #[.int .i64 (l0_0.length : Int), .int .i64 1, .int .i64 100] rfl (by (try simp only [List.map_toArray, List.map_cons, List.map_nil]); first | done | rfl | (simp only [List.length_drop, List.length_take]; rfl)) ?_; (with_reducible refine (impl_within.calls (l0_0.length : Int) 1 100 true _ A4.out).mono ?_); rintro e w' ⟨rfl, ⟨nd, rfl⟩⟩; refine ⟨_, rfl, ?_⟩))
        go_meet
        case rel => exact ⟨_, (true), (by first | rfl | (simp; done) | (simp [*]; done)), H', ⟨by first | omega | exact Nat.le_refl _⟩, ⟨by (with_reducible repeat (first | refine blk_drewN ?_ _ | refine blk_drew ?_ | refine blk_alloc ?_ _)); exact BK251.out⟩, ⟨by repeat (first | (with_reducible first | exact HB.out | apply below_alloc | apply pw_below_drewN | apply below_drew1 | refine below_set ?_ GE251.out) | exact HB.out)⟩⟩
      · rw [if_neg c6] at H
        have c6b0 : decide (255 < (l0_1.length : Int)) = false := decide_eq_false c6
        have c6b1 : decide (255 < l0_1.length) = false := decide_eq_false (by omega)
        clear c6
        (first | rw [c6b0] | (simp only [i64_w, i32_w]; rw [c6b0]) | skip)
        by_cases c8 : 0 < (l0_0.length : Int)
        · rw [if_pos c8] at H
          have c8b0 : decide (0 < (l0_0.length : Int)) = true := decide_eq_true c8
          have c8b1 : decide (0 < l0_0.length) = true := decide_eq_true (by omega)
          clear c8
          by_cases c9 : ((rd_T126 l0_0 0).f0) = 0
          · rw [if_pos c9] at H
            have c9b0 : (((rd_T126 l0_0 0).f0) == 0) = true := beq_iff_eq.mpr c9
            have c9b1 : (((rd_T126 l0_0 0).f0) != 0) = false := bne_eq_false_iff_eq.mpr c9
            clear c9
            have H' := Aside0.mk H
            clear H
            have hcz10_0 : w3.cell? ⟨gb251, 0, none⟩ = some (.slice A0_0 l0_0.length c0_0) := (blk_cell BK251.out 0).trans rfl
            have hcz10_1 : w3.cell? ⟨gb251, 1, none⟩ = some (.slice A0_1 l0_1.length c0_1) := (blk_cell BK251.out 1).trans rfl
            have hfz10_0 := blk_frozen BK251.out 0
            have hfz10_1 := blk_frozen BK251.out 1
            go_wp2_with (first | ((with_reducible refine gate_callee (f := 46) rfl ?_); refine goesL_ (some 13) rfl rfl Try.func46 (by kernel_rfl) rfl #[.int .i64 (l0_0.length : Int), .int .i64 1, .int .i64 100] rfl (by (try simp only [List.map_toArray, List.map_cons, List.map_nil]); first | done | rfl | (simp only [List.length_drop, List.length_take]; rfl)) ?_; (with_reducible refine (impl_within.calls (l0_0.length : Int) 1 100 true _ A4.out).mono ?_); rintro e w' ⟨rfl, ⟨nd, rfl⟩⟩; refine ⟨_, rfl, ?_⟩; have p253 : 0 ≤ (0 : Int) := (by omega); have q253 : 0 < (l0_0.length : Int) := of_decide_eq_true (by first | (with_reducible assumption) | assumption); obtain ⟨ad253, A253_2, c253_2, A253_3, c253_3, e253, hx253_0, hx253_1, hx253_2, hx253_3, hl253_2, hi253_2, hl253_3, hi253_3⟩ := at_T126 HR0_0.out 0 p253 q253; cases e253; have qi253 : (0 < l0_0.length) = True := eq_true (by omega); (try rw [show ((0 : Int)).toNat = 0 from rfl] at hx253_0); (try rw [show 0 * 4 = 0 from rfl] at hx253_0); (try rw [Addr.add_zero'] at hx253_0); (try rw [show ((0 : Int)).toNat = 0 from rfl] at hx253_1); (try rw [show 0 * 4 = 0 from rfl] at hx253_1); (try rw [Addr.add_zero'] at hx253_1); (try rw [show ((0 : Int)).toNat = 0 from rfl] at hx253_2); (try rw [show 0 * 4 = 0 from rfl] at hx253_2); (try rw [Addr.add_zero'] at hx253_2); (try rw [show ((0 : Int)).toNat = 0 from rfl] at hx253_3); (try rw [show 0 * 4 = 0 from rfl] at hx253_3); (try rw [Addr.add_zero'] at hx253_3); replace hx253_0 := (HB.out.cell (World.block_lt_of_cell? w _ hx253_0)).trans hx253_0; replace hx253_1 := (HB.out.cell (World.block_lt_of_cell? w _ hx253_1)).trans hx253_1; replace hx253_2 := (HB.out.cell (World.block_lt_of_cell? w _ hx253_2)).trans hx253_2; replace hx253_3 := (HB.out.cell (World.block_lt_of_cell? w _ hx253_3)).trans hx253_3; have HR253_2 := Aside0.mk hi253_2; have HC253_2 := Aside0.mk hl253_2; clear hi253_2 hl253_2; have HR253_3 := Aside0.mk hi253_3; have HC253_3 := Aside0.mk hl253_3; clear hi253_3 hl253_3; replace p253 := eq_true p253; replace q253 := eq_true q253; have p254 : 0 ≤ (0 : Int) := (by omega); have q254 : 0 < (l0_0.length : Int) := of_decide_eq_true (by first | (with_reducible assumption) | assumption); obtain ⟨ad254, A254_2, c254_2, A254_3, c254_3, e254, hx254_0, hx254_1, hx254_2, hx254_3, hl254_2, hi254_2, hl254_3, hi254_3⟩ := at_T126 HR0_0.out 0 p254 q254; obtain rfl : ad253 = ad254 := (by injection e254); have qi254 : (0 < l0_0.length) = True := eq_true (by omega); (try rw [show ((0 : Int)).toNat = 0 from rfl] at hx254_0); (try rw [show 0 * 4 = 0 from rfl] at hx254_0); (try rw [Addr.add_zero'] at hx254_0); (try rw [show ((0 : Int)).toNat = 0 from rfl] at hx254_1); (try rw [show 0 * 4 = 0 from rfl] at hx254_1); (try rw [Addr.add_zero'] at hx254_1); (try rw [show ((0 : Int)).toNat = 0 from rfl] at hx254_2); (try rw [show 0 * 4 = 0 from rfl] at hx254_2); (try rw [Addr.add_zero'] at hx254_2); (try rw [show ((0 : Int)).toNat = 0 from rfl] at hx254_3); (try rw [show 0 * 4 = 0 from rfl] at hx254_3); (try rw [Addr.add_zero'] at hx254_3); replace hx254_0 := (HB.out.cell (World.block_lt_of_cell? w _ hx254_0)).trans hx254_0; replace hx254_1 := (HB.out.cell (World.block_lt_of_cell? w _ hx254_1)).trans hx254_1; replace hx254_2 := (HB.out.cell (World.block_lt_of_cell? w _ hx254_2)).trans hx254_2; replace hx254_3 := (HB.out.cell (World.block_lt_of_cell? w _ hx254_3)).trans hx254_3; have HR254_2 := Aside0.mk hi254_2; have HC254_2 := Aside0.mk hl254_2; clear hi254_2 hl254_2; have HR254_3 := Aside0.mk hi254_3; have HC254_3 := Aside0.mk hl254_3; clear hi254_3 hl254_3; replace p254 := eq_true p254; replace q254 := eq_true q254; have ea_ := Option.some.inj (hx253_2.symm.trans hx254_2); injection ea_ with ea_ en_ ec_; subst ea_; subst ec_; clear en_; have ea_ := Option.some.inj (hx253_3.symm.trans hx254_3); injection ea_ with ea_ en_ ec_; subst ea_; subst ec_; clear en_))
            go_meet
            case rel => exact ⟨_, (decide ((((rd_T126 l0_0 0).f2).length : Int) > 0)), (by first | rfl | (simp; done) | (simp [*]; done)), H', ⟨by first | omega | exact Nat.le_refl _⟩, ⟨by (with_reducible repeat (first | refine blk_drewN ?_ _ | refine blk_drew ?_ | refine blk_alloc ?_ _)); exact BK251.out⟩, ⟨by repeat (first | (with_reducible first | exact HB.out | apply below_alloc | apply pw_below_drewN | apply below_drew1 | refine below_set ?_ GE251.out) | exact HB.out)⟩⟩
          · rw [if_neg c9] at H
            have c9b0 : (((rd_T126 l0_0 0).f0) == 0) = false := beq_eq_false_iff_ne.mpr c9
            have c9b1 : (((rd_T126 l0_0 0).f0) != 0) = true := bne_iff_ne.mpr c9
            have H' := Aside0.mk H
            clear H
            have hcz11_0 : w3.cell? ⟨gb251, 0, none⟩ = some (.slice A0_0 l0_0.length c0_0) := (blk_cell BK251.out 0).trans rfl
            have hcz11_1 : w3.cell? ⟨gb251, 1, none⟩ = some (.slice A0_1 l0_1.length c0_1) := (blk_cell BK251.out 1).trans rfl
            have hfz11_0 := blk_frozen BK251.out 0
            have hfz11_1 := blk_frozen BK251.out 1
            go_wp2_with (first | ((with_reducible refine gate_callee (f := 46) rfl ?_); refine goesL_ (some 13) rfl rfl Try.func46 (by kernel_rfl) rfl #[.int .i64 (l0_0.length : Int), .int .i64 1, .int .i64 100] rfl (by (try simp only [List.map_toArray, List.map_cons, List.map_nil]); first | done | rfl | (simp only [List.length_drop, List.length_take]; rfl)) ?_; (with_reducible refine (impl_within.calls (l0_0.length : Int) 1 100 true _ A4.out).mono ?_); rintro e w' ⟨rfl, ⟨nd, rfl⟩⟩; refine ⟨_, rfl, ?_⟩; have p253 : 0 ≤ (0 : Int) := (by omega); have q253 : 0 < (l0_0.length : Int) := of_decide_eq_true (by first | (with_reducible assumption) | assumption); obtain ⟨ad253, A253_2, c253_2, A253_3, c253_3, e253, hx253_0, hx253_1, hx253_2, hx253_3, hl253_2, hi253_2, hl253_3, hi253_3⟩ := at_T126 HR0_0.out 0 p253 q253; cases e253; have qi253 : (0 < l0_0.length) = True := eq_true (by omega); (try rw [show ((0 : Int)).toNat = 0 from rfl] at hx253_0); (try rw [show 0 * 4 = 0 from rfl] at hx253_0); (try rw [Addr.add_zero'] at hx253_0); (try rw [show ((0 : Int)).toNat = 0 from rfl] at hx253_1); (try rw [show 0 * 4 = 0 from rfl] at hx253_1); (try rw [Addr.add_zero'] at hx253_1); (try rw [show ((0 : Int)).toNat = 0 from rfl] at hx253_2); (try rw [show 0 * 4 = 0 from rfl] at hx253_2); (try rw [Addr.add_zero'] at hx253_2); (try rw [show ((0 : Int)).toNat = 0 from rfl] at hx253_3); (try rw [show 0 * 4 = 0 from rfl] at hx253_3); (try rw [Addr.add_zero'] at hx253_3); replace hx253_0 := (HB.out.cell (World.block_lt_of_cell? w _ hx253_0)).trans hx253_0; replace hx253_1 := (HB.out.cell (World.block_lt_of_cell? w _ hx253_1)).trans hx253_1; replace hx253_2 := (HB.out.cell (World.block_lt_of_cell? w _ hx253_2)).trans hx253_2; replace hx253_3 := (HB.out.cell (World.block_lt_of_cell? w _ hx253_3)).trans hx253_3; have HR253_2 := Aside0.mk hi253_2; have HC253_2 := Aside0.mk hl253_2; clear hi253_2 hl253_2; have HR253_3 := Aside0.mk hi253_3; have HC253_3 := Aside0.mk hl253_3; clear hi253_3 hl253_3; replace p253 := eq_true p253; replace q253 := eq_true q253))
            go_meet
            case rel => exact ⟨_, (true), (by first | rfl | (simp; done) | (simp [*]; done)), H', ⟨by first | omega | exact Nat.le_refl _⟩, ⟨by (with_reducible repeat (first | refine blk_drewN ?_ _ | refine blk_drew ?_ | refine blk_alloc ?_ _)); exact BK251.out⟩, ⟨by repeat (first | (with_reducible first | exact HB.out | apply below_alloc | apply pw_below_drewN | apply below_drew1 | refine below_set ?_ GE251.out) | exact HB.out)⟩⟩
        · rw [if_neg c8] at H
          exact absurd H (by simp)
    · replace c5 := Bool.eq_false_iff.mpr c5
      subst c5
      have H1 : (impl_ModuleOk.j0 k true l0_0 l0_1) = some r := by rw [if_neg (show ¬ (false = true) by decide)] at H; exact H
      clear H
      have H := H1
      clear H1
      have H' := Aside0.mk H
      clear H
      have hcz12_0 : w3.cell? ⟨gb251, 0, none⟩ = some (.slice A0_0 l0_0.length c0_0) := (blk_cell BK251.out 0).trans rfl
      have hcz12_1 : w3.cell? ⟨gb251, 1, none⟩ = some (.slice A0_1 l0_1.length c0_1) := (blk_cell BK251.out 1).trans rfl
      have hfz12_0 := blk_frozen BK251.out 0
      have hfz12_1 := blk_frozen BK251.out 1
      go_wp2_with (first | ((with_reducible refine gate_callee (f := 46) rfl ?_); refine goesL_ (some 13) rfl rfl Try.func46 (by kernel_rfl) rfl #[.int .i64 (l0_0.length : Int), .int .i64 1, .int .i64 100] rfl (by (try simp only [List.map_toArray, List.map_cons, List.map_nil]); first | done | rfl | (simp only [List.length_drop, List.length_take]; rfl)) ?_; (with_reducible refine (impl_within.calls (l0_0.length : Int) 1 100 false _ A4.out).mono ?_); rintro e w' ⟨rfl, ⟨nd, rfl⟩⟩; refine ⟨_, rfl, ?_⟩))
      go_meet
      case rel => exact ⟨_, (true), (by first | rfl | (simp; done) | (simp [*]; done)), H', ⟨by first | omega | exact Nat.le_refl _⟩, ⟨by (with_reducible repeat (first | refine blk_drewN ?_ _ | refine blk_drew ?_ | refine blk_alloc ?_ _)); exact BK251.out⟩, ⟨by repeat (first | (with_reducible first | exact HB.out | apply below_alloc | apply pw_below_drewN | apply below_drew1 | refine below_set ?_ GE251.out) | exact HB.out)⟩⟩
  case rest =>
    clear HC2
    try clear c2
    try clear p2
    try clear q2
    try clear hx2
    try clear qi2
    try clear c4
    try clear c5
    try clear c6
    try clear c6b0
    try clear c6b1
    try clear c8
    try clear c8b0
    try clear c8b1
    try clear c9
    try clear c9b0
    try clear c9b1
    try clear hcz10_0
    try clear hcz10_1
    try clear hcz11_0
    try clear hcz11_1
    try clear hcz12_0
    try clear hcz12_1
    try clear hcz7_0
    try clear hcz7_1
    try clear hfz10_0
    try clear hfz10_1
    try clear hfz11_0
    try clear hfz11_1
    try clear hfz12_0
    try clear hfz12_1
    try clear hfz7_0
    try clear hfz7_1
    try clear hx253_0
    try clear hx253_1
    try clear hx253_2
    try clear hx253_3
    try clear hx254_0
    try clear hx254_1
    try clear hx254_2
    try clear hx254_3
    try clear p253
    try clear p254
    try clear q253
    try clear q254
    obtain ⟨kq, x37_1, rfl, HA, HJ1, BK251, HB⟩ := hcut
    cases kq with
    | zero => exact absurd HA.out (by simp [impl_ModuleOk.j0])
    | succ kj1 =>
      have H := HA.out
      clear HA
      simp only [impl_ModuleOk.j0] at H
      by_cases c13 : x37_1 = true
      · subst c13
        have H1 : (some false) = some r := by rw [if_pos rfl] at H; exact H
        clear H
        have H := H1
        clear H1
        obtain rfl := Option.some.inj H
        go_wp2
        go_ret
        exact ⟨by first | rfl | (simp [errW_none, errW_some] <;> rfl) | (simp [*, errW_none, errW_some] <;> rfl), by repeat (first | (with_reducible first | exact HB.out | apply below_alloc | apply pw_below_drewN | apply below_drew1 | refine below_set ?_ GE251.out) | exact HB.out)⟩
      · replace c13 := Bool.eq_false_iff.mpr c13
        subst c13
        have H1 : (impl_ModuleOk.l0 kj1 l0_1 (l0_1.length : Int) 0 l0_0 l0_1) = some r := by rw [if_neg (show ¬ (false = true) by decide)] at H; exact H
        clear H
        have H := H1
        clear H1
        have H' := Aside0.mk H
        clear H
        have hcz14_0 : wc.cell? ⟨gb251, 0, none⟩ = some (.slice A0_0 l0_0.length c0_0) := (blk_cell BK251.out 0).trans rfl
        have hcz14_1 : wc.cell? ⟨gb251, 1, none⟩ = some (.slice A0_1 l0_1.length c0_1) := (blk_cell BK251.out 1).trans rfl
        have hfz14_0 := blk_frozen BK251.out 0
        have hfz14_1 := blk_frozen BK251.out 1
        go_wp2
        go_loopg [41] kj1 (fun kq v41 w' => ∃ (x41_2 : Int), v41 = .int .i64 x41_2 ∧ Aside0 (impl_ModuleOk.l0 kq l0_1 (l0_1.length : Int) x41_2 l0_0 l0_1 = some r) ∧ Aside0 (kq ≤ kj1) ∧ Aside0 (w'.heap[gb251]? = some (.cells #[(.slice A0_0 l0_0.length c0_0), (.slice A0_1 l0_1.length c0_1)] 83 (0, 0))) ∧ Aside0 (Below w.heap.size w w'))
        case atStart => exact ⟨(0), (by first | rfl | (simp; done) | (simp [*]; done)), H', ⟨Nat.le_refl _⟩, ⟨by (with_reducible repeat (first | refine blk_drewN ?_ _ | refine blk_drew ?_ | refine blk_alloc ?_ _)); exact BK251.out⟩, ⟨by repeat (first | (with_reducible first | exact HB.out | apply below_alloc | apply pw_below_drewN | apply below_drew1 | refine below_set ?_ GE251.out) | exact HB.out)⟩⟩
        case round =>
          clear H'
          try clear c1
          try clear c2
          try clear p2
          try clear q2
          try clear hx2
          try clear qi2
          try clear c4
          try clear c5
          try clear c6
          try clear c6b0
          try clear c6b1
          try clear c8
          try clear c8b0
          try clear c8b1
          try clear c9
          try clear c9b0
          try clear c9b1
          try clear c13
          try clear hcz10_0
          try clear hcz10_1
          try clear hcz11_0
          try clear hcz11_1
          try clear hcz12_0
          try clear hcz12_1
          try clear hcz14_0
          try clear hcz14_1
          try clear hcz7_0
          try clear hcz7_1
          try clear hfz10_0
          try clear hfz10_1
          try clear hfz11_0
          try clear hfz11_1
          try clear hfz12_0
          try clear hfz12_1
          try clear hfz14_0
          try clear hfz14_1
          try clear hfz7_0
          try clear hfz7_1
          try clear hx253_0
          try clear hx253_1
          try clear hx253_2
          try clear hx253_3
          try clear hx254_0
          try clear hx254_1
          try clear hx254_2
          try clear hx254_3
          try clear p2
          try clear p253
          try clear p254
          try clear q2
          try clear q253
          try clear q254
          obtain ⟨x41_2, rfl, HA, HK2, BK251, HB⟩ := hrel
          cases gk with
          | zero => exact absurd HA.out (by simp [impl_ModuleOk.l0])
          | succ k2 =>
            have H := HA.out
            clear HA
            simp only [impl_ModuleOk.l0] at H
            by_cases c15 : x41_2 < (l0_1.length : Int)
            · rw [if_pos c15] at H
              have c15b0 : decide (x41_2 < (l0_1.length : Int)) = true := decide_eq_true c15
              clear c15
              by_cases c16 : 0 ≤ x41_2
              · rw [if_pos c16] at H
                have c16b0 : decide (0 ≤ x41_2) = true := decide_eq_true c16
                clear c16
                by_cases c17 : x41_2 < (l0_1.length : Int)
                · rw [if_pos c17] at H
                  have c17b0 : decide (x41_2 < (l0_1.length : Int)) = true := decide_eq_true c17
                  clear c17
                  by_cases c18 : ((rdOf ByteArray.empty l0_1 x41_2).size : Int) > 160
                  · rw [if_pos c18] at H
                    have c18b0 : decide (160 < ((rdOf ByteArray.empty l0_1 x41_2).size : Int)) = true := decide_eq_true c18
                    have c18b1 : decide (160 < (rdOf ByteArray.empty l0_1 x41_2).size) = true := decide_eq_true (by omega)
                    clear c18
                    obtain rfl := Option.some.inj H
                    have p255 : 0 ≤ (x41_2 : Int) := of_decide_eq_true (by first | (with_reducible assumption) | assumption)
                    have q255 : x41_2 < (l0_1.length : Int) := of_decide_eq_true (by first | (with_reducible assumption) | assumption)
                    obtain ⟨ad255, e255, hx255_0⟩ := Kd.at_string HR0_1.out x41_2 p255 q255
                    cases e255
                    replace hx255_0 := (HB.out.cell (World.block_lt_of_cell? w _ hx255_0)).trans hx255_0
                    replace p255 := eq_true p255
                    replace q255 := eq_true q255
                    go_wp2
                    go_ret
                    exact ⟨by first | rfl | (simp [errW_none, errW_some] <;> rfl) | (simp [*, errW_none, errW_some] <;> rfl), by repeat (first | (with_reducible first | exact HB.out | apply below_alloc | apply pw_below_drewN | apply below_drew1 | refine below_set ?_ GE251.out) | exact HB.out)⟩
                  · rw [if_neg c18] at H
                    have c18b0 : decide (160 < ((rdOf ByteArray.empty l0_1 x41_2).size : Int)) = false := decide_eq_false c18
                    have c18b1 : decide (160 < (rdOf ByteArray.empty l0_1 x41_2).size) = false := decide_eq_false (by omega)
                    clear c18
                    have H' := Aside0.mk H
                    clear H
                    have p255 : 0 ≤ (x41_2 : Int) := of_decide_eq_true (by first | (with_reducible assumption) | assumption)
                    have q255 : x41_2 < (l0_1.length : Int) := of_decide_eq_true (by first | (with_reducible assumption) | assumption)
                    obtain ⟨ad255, e255, hx255_0⟩ := Kd.at_string HR0_1.out x41_2 p255 q255
                    cases e255
                    replace hx255_0 := (HB.out.cell (World.block_lt_of_cell? w _ hx255_0)).trans hx255_0
                    replace p255 := eq_true p255
                    replace q255 := eq_true q255
                    go_wp2
                    go_roundg k2
                    case measure => have := HJ1.out; have := HK2.out; omega
                    case rel => exact ⟨(wrap64 (x41_2 + 1)), (by first | rfl | (simp; done) | (simp [*]; done)), H', ⟨by have := HJ1.out; have := HK2.out; omega⟩, ⟨by (with_reducible repeat (first | refine blk_drewN ?_ _ | refine blk_drew ?_ | refine blk_alloc ?_ _)); exact BK251.out⟩, ⟨by repeat (first | (with_reducible first | exact HB.out | apply below_alloc | apply pw_below_drewN | apply below_drew1 | refine below_set ?_ GE251.out) | exact HB.out)⟩⟩
                · rw [if_neg c17] at H
                  exact absurd H (by simp)
              · rw [if_neg c16] at H
                exact absurd H (by simp)
            · rw [if_neg c15] at H
              have c15b0 : decide (x41_2 < (l0_1.length : Int)) = false := decide_eq_false c15
              clear c15
              have H' := Aside0.mk H
              clear H
              have hcz19_0 : wr.cell? ⟨gb251, 0, none⟩ = some (.slice A0_0 l0_0.length c0_0) := (blk_cell BK251.out 0).trans rfl
              have hcz19_1 : wr.cell? ⟨gb251, 1, none⟩ = some (.slice A0_1 l0_1.length c0_1) := (blk_cell BK251.out 1).trans rfl
              have hfz19_0 := blk_frozen BK251.out 0
              have hfz19_1 := blk_frozen BK251.out 1
              go_wp2
              go_loopg [52] k2 (fun kq v52 w' => ∃ (x52_3 : Int), v52 = .int .i64 x52_3 ∧ Aside0 (impl_ModuleOk.l1 kq l0_0 (l0_0.length : Int) x52_3 l0_0 l0_1 = some r) ∧ Aside0 (kq ≤ k2) ∧ Aside0 (w'.heap[gb251]? = some (.cells #[(.slice A0_0 l0_0.length c0_0), (.slice A0_1 l0_1.length c0_1)] 83 (0, 0))) ∧ Aside0 (Below w.heap.size w w'))
              case atStart => exact ⟨(0), (by first | rfl | (simp; done) | (simp [*]; done)), H', ⟨Nat.le_refl _⟩, ⟨by (with_reducible repeat (first | refine blk_drewN ?_ _ | refine blk_drew ?_ | refine blk_alloc ?_ _)); exact BK251.out⟩, ⟨by repeat (first | (with_reducible first | exact HB.out | apply below_alloc | apply pw_below_drewN | apply below_drew1 | refine below_set ?_ GE251.out) | exact HB.out)⟩⟩
              case round =>
                clear H'
                try clear c1
                try clear c2
                try clear p2
                try clear q2
                try clear hx2
                try clear qi2
                try clear c4
                try clear c5
                try clear c6
                try clear c6b0
                try clear c6b1
                try clear p6
                try clear c8
                try clear c8b0
                try clear c8b1
                try clear c9
                try clear c9b0
                try clear c9b1
                try clear c13
                try clear c15
                try clear c15b0
                try clear c16
                try clear c16b0
                try clear c17
                try clear c17b0
                try clear c18
                try clear c18b0
                try clear c18b1
                try clear hcz10_0
                try clear hcz10_1
                try clear hcz11_0
                try clear hcz11_1
                try clear hcz12_0
                try clear hcz12_1
                try clear hcz14_0
                try clear hcz14_1
                try clear hcz19_0
                try clear hcz19_1
                try clear hcz7_0
                try clear hcz7_1
                try clear hfz10_0
                try clear hfz10_1
                try clear hfz11_0
                try clear hfz11_1
                try clear hfz12_0
                try clear hfz12_1
                try clear hfz14_0
                try clear hfz14_1
                try clear hfz19_0
                try clear hfz19_1
                try clear hfz7_0
                try clear hfz7_1
                try clear hx253_0
                try clear hx253_1
                try clear hx253_2
                try clear hx253_3
                try clear hx254_0
                try clear hx254_1
                try clear hx254_2
                try clear hx254_3
                try clear hx255_0
                try clear p2
                try clear p253
                try clear p254
                try clear p255
                try clear q2
                try clear q253
                try clear q254
                try clear q255
                obtain ⟨x52_3, rfl, HA, HK3, BK251, HB⟩ := hrel
                cases gk with
                | zero => exact absurd HA.out (by simp [impl_ModuleOk.l1])
                | succ k3 =>
                  have H := HA.out
                  clear HA
                  simp only [impl_ModuleOk.l1] at H
                  by_cases c20 : x52_3 < (l0_0.length : Int)
                  · rw [if_pos c20] at H
                    have c20b0 : decide (x52_3 < (l0_0.length : Int)) = true := decide_eq_true c20
                    clear c20
                    by_cases c21 : 0 ≤ x52_3
                    · rw [if_pos c21] at H
                      have c21b0 : decide (0 ≤ x52_3) = true := decide_eq_true c21
                      clear c21
                      by_cases c22 : x52_3 < (l0_0.length : Int)
                      · rw [if_pos c22] at H
                        have c22b0 : decide (x52_3 < (l0_0.length : Int)) = true := decide_eq_true c22
                        clear c22
                        have HC23 := Aside0.mk H
                        clear H
                        have p256 : 0 ≤ (x52_3 : Int) := of_decide_eq_true (by first | (with_reducible assumption) | assumption)
                        have q256 : x52_3 < (l0_0.length : Int) := of_decide_eq_true (by first | (with_reducible assumption) | assumption)
                        obtain ⟨ad256, A256_2, c256_2, A256_3, c256_3, e256, hx256_0, hx256_1, hx256_2, hx256_3, hl256_2, hi256_2, hl256_3, hi256_3⟩ := at_T126 HR0_0.out x52_3 p256 q256
                        cases e256
                        replace hx256_0 := (HB.out.cell (World.block_lt_of_cell? w _ hx256_0)).trans hx256_0
                        replace hx256_1 := (HB.out.cell (World.block_lt_of_cell? w _ hx256_1)).trans hx256_1
                        replace hx256_2 := (HB.out.cell (World.block_lt_of_cell? w _ hx256_2)).trans hx256_2
                        replace hx256_3 := (HB.out.cell (World.block_lt_of_cell? w _ hx256_3)).trans hx256_3
                        have HR256_2 := Aside0.mk hi256_2
                        have HC256_2 := Aside0.mk hl256_2
                        clear hi256_2 hl256_2
                        have HR256_3 := Aside0.mk hi256_3
                        have HC256_3 := Aside0.mk hl256_3
                        clear hi256_3 hl256_3
                        replace p256 := eq_true p256
                        replace q256 := eq_true q256
                        go_upto_region 13 with (first | ((with_reducible refine gate_dst (N := 6) rfl ?_); (try (refine gate_guard (by rfl) ?_; dsimp only)); refine box_event ?hg (N := 6) ?hd (cs := #[.int .i64 0, .int .i64 0, .slice none 0 0, .slice none 0 0]) (t := 126) ?hr ?_; (case hd => rfl); (case hg => rfl); (case hr => first | (go_simp; done) | (go_simp; rfl)); intro gb257 hg w24 hbox hb; have n0_ := Aside0.mk (blk_below (g := gb251) (o := .cells #[.slice (some ad256) l0_0.length c0_0, .slice A0_1 l0_1.length c0_1] 83 (0, 0)) (by (with_reducible repeat (first | refine blk_drewN ?_ _ | refine blk_drew ?_ | refine blk_alloc ?_ _)); exact BK251.out) hb); have n1_ := Aside0.mk (below_step (by repeat (first | (with_reducible first | exact HB.out | apply below_alloc | apply pw_below_drewN | apply below_drew1 | refine below_set ?_ GE251.out) | exact HB.out)) hb); have n2_ := Aside0.mk (hbox); have n3_ := Aside0.mk ((by rw [hg]; exact (below_size (by repeat (first | (with_reducible first | exact HB.out | apply below_alloc | apply pw_below_drewN | apply below_drew1 | refine below_set ?_ GE251.out) | exact HB.out))) : w.heap.size ≤ gb257)); have n4_ := Aside0.mk ((by rw [hg]; exact (below_size (by repeat (first | (with_reducible first | exact HB.out | apply below_alloc | apply pw_below_drewN | apply below_drew1 | refine below_set ?_ GE251.out) | exact HB.out))) : w.heap.size ≤ gb257)); have n5_ := Aside0.mk ((by rw [hg]; exact Nat.ne_of_lt (blk_lt (g := gb251) (o := .cells #[.slice (some ad256) l0_0.length c0_0, .slice A0_1 l0_1.length c0_1] 83 (0, 0)) (by (with_reducible repeat (first | refine blk_drewN ?_ _ | refine blk_drew ?_ | refine blk_alloc ?_ _)); exact BK251.out)) : gb251 ≠ gb257)); have n6_ := Aside0.mk ((by rw [hg]; exact Nat.ne_of_gt (blk_lt (g := gb251) (o := .cells #[.slice (some ad256) l0_0.length c0_0, .slice A0_1 l0_1.length c0_1] 83 (0, 0)) (by (with_reducible repeat (first | refine blk_drewN ?_ _ | refine blk_drew ?_ | refine blk_alloc ?_ _)); exact BK251.out)) : gb257 ≠ gb251)); clear BK251; clear HB; have BK251 := n0_; have HB := n1_; have BK257 := n2_; have GW257 := n3_; have GE257 := n4_; have NB251_257 := n5_; have NB257_251 := n6_; clear n0_ n1_ n2_ n3_ n4_ n5_ n6_; clear hb hbox hg; have hnb25 := NB257_251.out; have hnc25 := NB251_257.out; have hcz26_0 : w24.cell? ⟨gb257, 0, none⟩ = some (.int .i64 0) := (blk_cell BK257.out 0).trans rfl; have hcz26_1 : w24.cell? ⟨gb257, 1, none⟩ = some (.int .i64 0) := (blk_cell BK257.out 1).trans rfl; have hcz26_2 : w24.cell? ⟨gb257, 2, none⟩ = some (.slice none 0 0) := (blk_cell BK257.out 2).trans rfl; have hcz26_3 : w24.cell? ⟨gb257, 3, none⟩ = some (.slice none 0 0) := (blk_cell BK257.out 3).trans rfl; have hfz26_0 := blk_frozen BK257.out 0; have hfz26_1 := blk_frozen BK257.out 1; have hfz26_2 := blk_frozen BK257.out 2; have hfz26_3 := blk_frozen BK257.out 3))
                        (try simp only [Act.put, List.setIfInBounds_toArray, List.set_cons_zero, List.set_cons_succ])
                        go_cut [91] (fun v91 wc => ∃ (kq : Nat) (x91_22 : Bool), v91 = .bool x91_22 ∧ Aside0 (impl_ModuleOk.j3 kq l0_0 (l0_0.length : Int) x52_3 x91_22 l0_0 l0_1 ((rd_T126 l0_0 x52_3).f0) ((rd_T126 l0_0 x52_3).f1) ((rd_T126 l0_0 x52_3).f2) ((rd_T126 l0_0 x52_3).f3) = some r) ∧ Aside0 (kq ≤ k3) ∧ Aside0 (wc.heap[gb251]? = some (.cells #[(.slice (some ad256) l0_0.length c0_0), (.slice A0_1 l0_1.length c0_1)] 83 (0, 0))) ∧ Aside0 (wc.heap[gb257]? = some (.cells #[.int .i64 ((rd_T126 l0_0 x52_3).f0), .int .i64 ((rd_T126 l0_0 x52_3).f1), (.slice A256_2 ((rd_T126 l0_0 x52_3).f2).length c256_2), (.slice A256_3 ((rd_T126 l0_0 x52_3).f3).length c256_3)] 126 (0, 0))) ∧ Aside0 (Below w.heap.size w wc))
                        case first =>
                          have H := HC23.out
                          clear HC23
                          replace H := Option.bind_eq_some_iff.mp H
                          obtain ⟨t258, A270, H⟩ := H
                          replace H : (if t258 = true then ((impl_within.f ((rd_T126 l0_0 x52_3).f0) 0 ((rd_T126 l0_0 x52_3).f1)).bind fun t259 => (if t259 = true then (if (((rd_T126 l0_0 x52_3).f2).length : Int) > 12 then (impl_ModuleOk.j3 k3 l0_0 (l0_0.length : Int) x52_3 true l0_0 l0_1 ((rd_T126 l0_0 x52_3).f0) ((rd_T126 l0_0 x52_3).f1) ((rd_T126 l0_0 x52_3).f2) ((rd_T126 l0_0 x52_3).f3)) else ((impl_within.f (((rd_T126 l0_0 x52_3).f3).length : Int) 1 4000).bind fun t260 => (if t260 = true then (if 0 ≤ (wrap64 ((((rd_T126 l0_0 x52_3).f3).length : Int) - 1)) then (if (wrap64 ((((rd_T126 l0_0 x52_3).f3).length : Int) - 1)) < (((rd_T126 l0_0 x52_3).f3).length : Int) then (impl_ModuleOk.j3 k3 l0_0 (l0_0.length : Int) x52_3 (((rd_T136 ((rd_T126 l0_0 x52_3).f3) (wrap64 ((((rd_T126 l0_0 x52_3).f3).length : Int) - 1))).f0) != 24) l0_0 l0_1 ((rd_T126 l0_0 x52_3).f0) ((rd_T126 l0_0 x52_3).f1) ((rd_T126 l0_0 x52_3).f2) ((rd_T126 l0_0 x52_3).f3)) else (none)) else (none)) else (impl_ModuleOk.j3 k3 l0_0 (l0_0.length : Int) x52_3 true l0_0 l0_1 ((rd_T126 l0_0 x52_3).f0) ((rd_T126 l0_0 x52_3).f1) ((rd_T126 l0_0 x52_3).f2) ((rd_T126 l0_0 x52_3).f3))))) else (impl_ModuleOk.j3 k3 l0_0 (l0_0.length : Int) x52_3 true l0_0 l0_1 ((rd_T126 l0_0 x52_3).f0) ((rd_T126 l0_0 x52_3).f1) ((rd_T126 l0_0 x52_3).f2) ((rd_T126 l0_0 x52_3).f3)))) else (impl_ModuleOk.j3 k3 l0_0 (l0_0.length : Int) x52_3 true l0_0 l0_1 ((rd_T126 l0_0 x52_3).f0) ((rd_T126 l0_0 x52_3).f1) ((rd_T126 l0_0 x52_3).f2) ((rd_T126 l0_0 x52_3).f3))) = some r := H
                          have A27 := Aside0.mk A270
                          clear A270
                          by_cases c28 : t258 = true
                          · subst c28
                            have H1 : ((impl_within.f ((rd_T126 l0_0 x52_3).f0) 0 ((rd_T126 l0_0 x52_3).f1)).bind fun t259 => (if t259 = true then (if (((rd_T126 l0_0 x52_3).f2).length : Int) > 12 then (impl_ModuleOk.j3 k3 l0_0 (l0_0.length : Int) x52_3 true l0_0 l0_1 ((rd_T126 l0_0 x52_3).f0) ((rd_T126 l0_0 x52_3).f1) ((rd_T126 l0_0 x52_3).f2) ((rd_T126 l0_0 x52_3).f3)) else ((impl_within.f (((rd_T126 l0_0 x52_3).f3).length : Int) 1 4000).bind fun t260 => (if t260 = true then (if 0 ≤ (wrap64 ((((rd_T126 l0_0 x52_3).f3).length : Int) - 1)) then (if (wrap64 ((((rd_T126 l0_0 x52_3).f3).length : Int) - 1)) < (((rd_T126 l0_0 x52_3).f3).length : Int) then (impl_ModuleOk.j3 k3 l0_0 (l0_0.length : Int) x52_3 (((rd_T136 ((rd_T126 l0_0 x52_3).f3) (wrap64 ((((rd_T126 l0_0 x52_3).f3).length : Int) - 1))).f0) != 24) l0_0 l0_1 ((rd_T126 l0_0 x52_3).f0) ((rd_T126 l0_0 x52_3).f1) ((rd_T126 l0_0 x52_3).f2) ((rd_T126 l0_0 x52_3).f3)) else (none)) else (none)) else (impl_ModuleOk.j3 k3 l0_0 (l0_0.length : Int) x52_3 true l0_0 l0_1 ((rd_T126 l0_0 x52_3).f0) ((rd_T126 l0_0 x52_3).f1) ((rd_T126 l0_0 x52_3).f2) ((rd_T126 l0_0 x52_3).f3))))) else (impl_ModuleOk.j3 k3 l0_0 (l0_0.length : Int) x52_3 true l0_0 l0_1 ((rd_T126 l0_0 x52_3).f0) ((rd_T126 l0_0 x52_3).f1) ((rd_T126 l0_0 x52_3).f2) ((rd_T126 l0_0 x52_3).f3)))) = some r := by rw [if_pos rfl] at H; exact H
                            clear H
                            have H := H1
                            clear H1
                            replace H := Option.bind_eq_some_iff.mp H
                            obtain ⟨t259, A290, H⟩ := H
                            replace H : (if t259 = true then (if (((rd_T126 l0_0 x52_3).f2).length : Int) > 12 then (impl_ModuleOk.j3 k3 l0_0 (l0_0.length : Int) x52_3 true l0_0 l0_1 ((rd_T126 l0_0 x52_3).f0) ((rd_T126 l0_0 x52_3).f1) ((rd_T126 l0_0 x52_3).f2) ((rd_T126 l0_0 x52_3).f3)) else ((impl_within.f (((rd_T126 l0_0 x52_3).f3).length : Int) 1 4000).bind fun t260 => (if t260 = true then (if 0 ≤ (wrap64 ((((rd_T126 l0_0 x52_3).f3).length : Int) - 1)) then (if (wrap64 ((((rd_T126 l0_0 x52_3).f3).length : Int) - 1)) < (((rd_T126 l0_0 x52_3).f3).length : Int) then (impl_ModuleOk.j3 k3 l0_0 (l0_0.length : Int) x52_3 (((rd_T136 ((rd_T126 l0_0 x52_3).f3) (wrap64 ((((rd_T126 l0_0 x52_3).f3).length : Int) - 1))).f0) != 24) l0_0 l0_1 ((rd_T126 l0_0 x52_3).f0) ((rd_T126 l0_0 x52_3).f1) ((rd_T126 l0_0 x52_3).f2) ((rd_T126 l0_0 x52_3).f3)) else (none)) else (none)) else (impl_ModuleOk.j3 k3 l0_0 (l0_0.length : Int) x52_3 true l0_0 l0_1 ((rd_T126 l0_0 x52_3).f0) ((rd_T126 l0_0 x52_3).f1) ((rd_T126 l0_0 x52_3).f2) ((rd_T126 l0_0 x52_3).f3))))) else (impl_ModuleOk.j3 k3 l0_0 (l0_0.length : Int) x52_3 true l0_0 l0_1 ((rd_T126 l0_0 x52_3).f0) ((rd_T126 l0_0 x52_3).f1) ((rd_T126 l0_0 x52_3).f2) ((rd_T126 l0_0 x52_3).f3))) = some r := H
                            have A29 := Aside0.mk A290
                            clear A290
                            by_cases c30 : t259 = true
                            · subst c30
                              have H1 : (if (((rd_T126 l0_0 x52_3).f2).length : Int) > 12 then (impl_ModuleOk.j3 k3 l0_0 (l0_0.length : Int) x52_3 true l0_0 l0_1 ((rd_T126 l0_0 x52_3).f0) ((rd_T126 l0_0 x52_3).f1) ((rd_T126 l0_0 x52_3).f2) ((rd_T126 l0_0 x52_3).f3)) else ((impl_within.f (((rd_T126 l0_0 x52_3).f3).length : Int) 1 4000).bind fun t260 => (if t260 = true then (if 0 ≤ (wrap64 ((((rd_T126 l0_0 x52_3).f3).length : Int) - 1)) then (if (wrap64 ((((rd_T126 l0_0 x52_3).f3).length : Int) - 1)) < (((rd_T126 l0_0 x52_3).f3).length : Int) then (impl_ModuleOk.j3 k3 l0_0 (l0_0.length : Int) x52_3 (((rd_T136 ((rd_T126 l0_0 x52_3).f3) (wrap64 ((((rd_T126 l0_0 x52_3).f3).length : Int) - 1))).f0) != 24) l0_0 l0_1 ((rd_T126 l0_0 x52_3).f0) ((rd_T126 l0_0 x52_3).f1) ((rd_T126 l0_0 x52_3).f2) ((rd_T126 l0_0 x52_3).f3)) else (none)) else (none)) else (impl_ModuleOk.j3 k3 l0_0 (l0_0.length : Int) x52_3 true l0_0 l0_1 ((rd_T126 l0_0 x52_3).f0) ((rd_T126 l0_0 x52_3).f1) ((rd_T126 l0_0 x52_3).f2) ((rd_T126 l0_0 x52_3).f3))))) = some r := by rw [if_pos rfl] at H; exact H
                              clear H
                              have H := H1
                              clear H1
                              by_cases c31 : (((rd_T126 l0_0 x52_3).f2).length : Int) > 12
                              · rw [if_pos c31] at H
                                have c31b0 : decide (12 < (((rd_T126 l0_0 x52_3).f2).length : Int)) = true := decide_eq_true c31
                                have c31b1 : decide (12 < ((rd_T126 l0_0 x52_3).f2).length) = true := decide_eq_true (by omega)
                                clear c31
                                (first | rw [c31b0] | (simp only [i64_w, i32_w]; rw [c31b0]) | skip)
                                have H' := Aside0.mk H
                                clear H
                                have hnb32 := NB257_251.out
                                have hnc32 := NB251_257.out
                                have hcz33_0 : w24.cell? ⟨gb257, 0, none⟩ = some (.int .i64 0) := (blk_cell BK257.out 0).trans rfl
                                have hcz33_1 : w24.cell? ⟨gb257, 1, none⟩ = some (.int .i64 0) := (blk_cell BK257.out 1).trans rfl
                                have hcz33_2 : w24.cell? ⟨gb257, 2, none⟩ = some (.slice none 0 0) := (blk_cell BK257.out 2).trans rfl
                                have hcz33_3 : w24.cell? ⟨gb257, 3, none⟩ = some (.slice none 0 0) := (blk_cell BK257.out 3).trans rfl
                                have hfz33_0 := blk_frozen BK257.out 0
                                have hfz33_1 := blk_frozen BK257.out 1
                                have hfz33_2 := blk_frozen BK257.out 2
                                have hfz33_3 := blk_frozen BK257.out 3
                                go_wp2_with (first | ((with_reducible refine gate_callee (f := 46) rfl ?_); refine goesL_ (some 61) rfl rfl Try.func46 (by kernel_rfl) rfl #[.int .i64 ((rd_T126 l0_0 x52_3).f1), .int .i64 0, .int .i64 20] rfl (by (try simp only [List.map_toArray, List.map_cons, List.map_nil]); first | done | rfl | (simp only [List.length_drop, List.length_take]; rfl)) ?_; (with_reducible refine (impl_within.calls ((rd_T126 l0_0 x52_3).f1) 0 20 true _ A27.out).mono ?_); rintro e w' ⟨rfl, ⟨nd, rfl⟩⟩; refine ⟨_, rfl, ?_⟩) | (go_at_call 46; (with_reducible refine (impl_within.calls ((rd_T126 l0_0 x52_3).f0) 0 ((rd_T126 l0_0 x52_3).f1) true _ A29.out).mono ?_); rintro e w' ⟨rfl, ⟨nd, rfl⟩⟩))
                                go_meet
                                case rel => exact ⟨_, (true), (by first | rfl | (simp; done) | (simp [*]; done)), H', ⟨by have := HJ1.out; have := HK2.out; have := HK3.out; first | omega | exact Nat.le_refl _⟩, ⟨by (with_reducible repeat (first | refine blk_drewN ?_ _ | refine blk_drew ?_ | refine blk_alloc ?_ _)); refine blk_far ?_ NB251_257.out _; (with_reducible repeat (first | refine blk_drewN ?_ _ | refine blk_drew ?_ | refine blk_alloc ?_ _)); refine blk_far ?_ NB251_257.out _; (with_reducible repeat (first | refine blk_drewN ?_ _ | refine blk_drew ?_ | refine blk_alloc ?_ _)); refine blk_far ?_ NB251_257.out _; (with_reducible repeat (first | refine blk_drewN ?_ _ | refine blk_drew ?_ | refine blk_alloc ?_ _)); refine blk_far ?_ NB251_257.out _; (with_reducible repeat (first | refine blk_drewN ?_ _ | refine blk_drew ?_ | refine blk_alloc ?_ _)); exact BK251.out⟩, ⟨by (with_reducible repeat (first | refine blk_drewN ?_ _ | refine blk_drew ?_ | refine blk_alloc ?_ _)); refine blk_put (cs := #[.int .i64 ((rd_T126 l0_0 x52_3).f0), .int .i64 ((rd_T126 l0_0 x52_3).f1), .slice A256_2 ((rd_T126 l0_0 x52_3).f2).length c256_2, .slice none 0 0]) ?_ 3 _ rfl; (with_reducible repeat (first | refine blk_drewN ?_ _ | refine blk_drew ?_ | refine blk_alloc ?_ _)); refine blk_put (cs := #[.int .i64 ((rd_T126 l0_0 x52_3).f0), .int .i64 ((rd_T126 l0_0 x52_3).f1), .slice none 0 0, .slice none 0 0]) ?_ 2 _ rfl; (with_reducible repeat (first | refine blk_drewN ?_ _ | refine blk_drew ?_ | refine blk_alloc ?_ _)); refine blk_put (cs := #[.int .i64 ((rd_T126 l0_0 x52_3).f0), .int .i64 0, .slice none 0 0, .slice none 0 0]) ?_ 1 _ rfl; (with_reducible repeat (first | refine blk_drewN ?_ _ | refine blk_drew ?_ | refine blk_alloc ?_ _)); refine blk_put (cs := #[.int .i64 0, .int .i64 0, .slice none 0 0, .slice none 0 0]) ?_ 0 _ rfl; (with_reducible repeat (first | refine blk_drewN ?_ _ | refine blk_drew ?_ | refine blk_alloc ?_ _)); exact BK257.out⟩, ⟨by repeat (first | (with_reducible first | exact HB.out | apply below_alloc | apply pw_below_drewN | apply below_drew1 | refine below_set ?_ GE251.out | refine below_set ?_ GE257.out) | exact HB.out)⟩⟩
                              · rw [if_neg c31] at H
                                have c31b0 : decide (12 < (((rd_T126 l0_0 x52_3).f2).length : Int)) = false := decide_eq_false c31
                                have c31b1 : decide (12 < ((rd_T126 l0_0 x52_3).f2).length) = false := decide_eq_false (by omega)
                                clear c31
                                (first | rw [c31b0] | (simp only [i64_w, i32_w]; rw [c31b0]) | skip)
                                replace H := Option.bind_eq_some_iff.mp H
                                obtain ⟨t260, A340, H⟩ := H
                                replace H : (if t260 = true then (if 0 ≤ (wrap64 ((((rd_T126 l0_0 x52_3).f3).length : Int) - 1)) then (if (wrap64 ((((rd_T126 l0_0 x52_3).f3).length : Int) - 1)) < (((rd_T126 l0_0 x52_3).f3).length : Int) then (impl_ModuleOk.j3 k3 l0_0 (l0_0.length : Int) x52_3 (((rd_T136 ((rd_T126 l0_0 x52_3).f3) (wrap64 ((((rd_T126 l0_0 x52_3).f3).length : Int) - 1))).f0) != 24) l0_0 l0_1 ((rd_T126 l0_0 x52_3).f0) ((rd_T126 l0_0 x52_3).f1) ((rd_T126 l0_0 x52_3).f2) ((rd_T126 l0_0 x52_3).f3)) else (none)) else (none)) else (impl_ModuleOk.j3 k3 l0_0 (l0_0.length : Int) x52_3 true l0_0 l0_1 ((rd_T126 l0_0 x52_3).f0) ((rd_T126 l0_0 x52_3).f1) ((rd_T126 l0_0 x52_3).f2) ((rd_T126 l0_0 x52_3).f3))) = some r := H
                                have A34 := Aside0.mk A340
                                clear A340
                                by_cases c35 : t260 = true
                                · subst c35
                                  have H1 : (if 0 ≤ (wrap64 ((((rd_T126 l0_0 x52_3).f3).length : Int) - 1)) then (if (wrap64 ((((rd_T126 l0_0 x52_3).f3).length : Int) - 1)) < (((rd_T126 l0_0 x52_3).f3).length : Int) then (impl_ModuleOk.j3 k3 l0_0 (l0_0.length : Int) x52_3 (((rd_T136 ((rd_T126 l0_0 x52_3).f3) (wrap64 ((((rd_T126 l0_0 x52_3).f3).length : Int) - 1))).f0) != 24) l0_0 l0_1 ((rd_T126 l0_0 x52_3).f0) ((rd_T126 l0_0 x52_3).f1) ((rd_T126 l0_0 x52_3).f2) ((rd_T126 l0_0 x52_3).f3)) else (none)) else (none)) = some r := by rw [if_pos rfl] at H; exact H
                                  clear H
                                  have H := H1
                                  clear H1
                                  obtain ⟨ji36, hji36⟩ : ∃ j_ : Int, (wrap64 ((((rd_T126 l0_0 x52_3).f3).length : Int) - 1)) = j_ := ⟨_, rfl⟩
                                  replace H : (if 0 ≤ (ji36) then (if (ji36) < (((rd_T126 l0_0 x52_3).f3).length : Int) then (impl_ModuleOk.j3 k3 l0_0 (l0_0.length : Int) x52_3 (((rd_T136 ((rd_T126 l0_0 x52_3).f3) (ji36)).f0) != 24) l0_0 l0_1 ((rd_T126 l0_0 x52_3).f0) ((rd_T126 l0_0 x52_3).f1) ((rd_T126 l0_0 x52_3).f2) ((rd_T126 l0_0 x52_3).f3)) else (none)) else (none)) = some r := by first | (rw [hji36] at H; exact H) | (simp only [hji36] at H ⊢; exact H)
                                  (try rw [hji36] at A27)
                                  (try rw [hji36] at A29)
                                  (try rw [hji36] at A34)
                                  have hji36w : (IntKind.i64.wrap ((((rd_T126 l0_0 x52_3).f3).length : Int) - 1)) = ji36 := (i64_w _).trans hji36
                                  by_cases c37 : 0 ≤ (ji36)
                                  · rw [if_pos c37] at H
                                    have c37b0 : decide (0 ≤ (ji36)) = true := decide_eq_true c37
                                    clear c37
                                    by_cases c38 : (ji36) < (((rd_T126 l0_0 x52_3).f3).length : Int)
                                    · rw [if_pos c38] at H
                                      have c38b0 : decide ((ji36) < (((rd_T126 l0_0 x52_3).f3).length : Int)) = true := decide_eq_true c38
                                      clear c38
                                      have H' := Aside0.mk H
                                      clear H
                                      have hnb39 := NB257_251.out
                                      have hnc39 := NB251_257.out
                                      have hcz40_0 : w24.cell? ⟨gb257, 0, none⟩ = some (.int .i64 0) := (blk_cell BK257.out 0).trans rfl
                                      have hcz40_1 : w24.cell? ⟨gb257, 1, none⟩ = some (.int .i64 0) := (blk_cell BK257.out 1).trans rfl
                                      have hcz40_2 : w24.cell? ⟨gb257, 2, none⟩ = some (.slice none 0 0) := (blk_cell BK257.out 2).trans rfl
                                      have hcz40_3 : w24.cell? ⟨gb257, 3, none⟩ = some (.slice none 0 0) := (blk_cell BK257.out 3).trans rfl
                                      have hfz40_0 := blk_frozen BK257.out 0
                                      have hfz40_1 := blk_frozen BK257.out 1
                                      have hfz40_2 := blk_frozen BK257.out 2
                                      have hfz40_3 := blk_frozen BK257.out 3
                                      go_wp2_with (first | ((with_reducible refine gate_callee (f := 46) rfl ?_); refine goesL_ (some 61) rfl rfl Try.func46 (by kernel_rfl) rfl #[.int .i64 ((rd_T126 l0_0 x52_3).f1), .int .i64 0, .int .i64 20] rfl (by (try simp only [List.map_toArray, List.map_cons, List.map_nil]); first | done | rfl | (simp only [List.length_drop, List.length_take]; rfl)) ?_; (with_reducible refine (impl_within.calls ((rd_T126 l0_0 x52_3).f1) 0 20 true _ A27.out).mono ?_); rintro e w' ⟨rfl, ⟨nd, rfl⟩⟩; refine ⟨_, rfl, ?_⟩) | (go_at_call 46; (with_reducible refine (impl_within.calls ((rd_T126 l0_0 x52_3).f0) 0 ((rd_T126 l0_0 x52_3).f1) true _ A29.out).mono ?_); rintro e w' ⟨rfl, ⟨nd, rfl⟩⟩) | (go_at_call 46; (with_reducible refine (impl_within.calls (((rd_T126 l0_0 x52_3).f3).length : Int) 1 4000 true _ A34.out).mono ?_); rintro e w' ⟨rfl, ⟨nd, rfl⟩⟩; have p261 : 0 ≤ ((ji36) : Int) := of_decide_eq_true (by first | (with_reducible assumption) | assumption); have q261 : (ji36) < (((rd_T126 l0_0 x52_3).f3).length : Int) := of_decide_eq_true (by first | (with_reducible assumption) | assumption); obtain ⟨ad261, e261, hx261_0, hx261_1⟩ := at_T136 HR256_3.out (ji36) p261 q261; cases e261; have hn261_0 : ad261.block ≠ gb257 := Nat.ne_of_lt (Nat.lt_of_lt_of_le (by have := World.block_lt_of_cell? _ _ hx261_0; first | rwa [add_block] at this | exact this) GW257.out); have hn261_1 : ad261.block ≠ gb257 := Nat.ne_of_lt (Nat.lt_of_lt_of_le (by have := World.block_lt_of_cell? _ _ hx261_0; first | rwa [add_block] at this | exact this) GW257.out); have hn261_2 : ad261.block ≠ gb257 := Nat.ne_of_lt (Nat.lt_of_lt_of_le (by have := World.block_lt_of_cell? _ _ hx261_0; first | rwa [add_block] at this | exact this) GW257.out); have hn261_3 : ad261.block ≠ gb257 := Nat.ne_of_lt (Nat.lt_of_lt_of_le (by have := World.block_lt_of_cell? _ _ hx261_0; first | rwa [add_block] at this | exact this) GW257.out); replace hx261_0 := (HB.out.cell (World.block_lt_of_cell? w _ hx261_0)).trans hx261_0; replace hx261_1 := (HB.out.cell (World.block_lt_of_cell? w _ hx261_1)).trans hx261_1; replace hx261_0 := (cell_far (p := ⟨gb257, 0, none⟩) (by first | (rw [add_block]; exact hn261_0) | (show (Addr.add _ _).block ≠ _; rw [add_block]; exact hn261_0) | exact hn261_0) (.int .i64 ((rd_T126 l0_0 x52_3).f0))).trans hx261_0; replace hx261_1 := (cell_far (p := ⟨gb257, 0, none⟩) (by first | (rw [add_block]; exact hn261_0) | (show (Addr.add _ _).block ≠ _; rw [add_block]; exact hn261_0) | exact hn261_0) (.int .i64 ((rd_T126 l0_0 x52_3).f0))).trans hx261_1; replace hx261_0 := (cell_far (p := ⟨gb257, 1, none⟩) (by first | (rw [add_block]; exact hn261_1) | (show (Addr.add _ _).block ≠ _; rw [add_block]; exact hn261_1) | exact hn261_1) (.int .i64 ((rd_T126 l0_0 x52_3).f1))).trans hx261_0; replace hx261_1 := (cell_far (p := ⟨gb257, 1, none⟩) (by first | (rw [add_block]; exact hn261_1) | (show (Addr.add _ _).block ≠ _; rw [add_block]; exact hn261_1) | exact hn261_1) (.int .i64 ((rd_T126 l0_0 x52_3).f1))).trans hx261_1; replace hx261_0 := (cell_far (p := ⟨gb257, 2, none⟩) (by first | (rw [add_block]; exact hn261_2) | (show (Addr.add _ _).block ≠ _; rw [add_block]; exact hn261_2) | exact hn261_2) (.slice A256_2 ((rd_T126 l0_0 x52_3).f2).length c256_2)).trans hx261_0; replace hx261_1 := (cell_far (p := ⟨gb257, 2, none⟩) (by first | (rw [add_block]; exact hn261_2) | (show (Addr.add _ _).block ≠ _; rw [add_block]; exact hn261_2) | exact hn261_2) (.slice A256_2 ((rd_T126 l0_0 x52_3).f2).length c256_2)).trans hx261_1; replace hx261_0 := (cell_far (p := ⟨gb257, 3, none⟩) (by first | (rw [add_block]; exact hn261_3) | (show (Addr.add _ _).block ≠ _; rw [add_block]; exact hn261_3) | exact hn261_3) (.slice (some ad261) ((rd_T126 l0_0 x52_3).f3).length c256_3)).trans hx261_0; replace hx261_1 := (cell_far (p := ⟨gb257, 3, none⟩) (by first | (rw [add_block]; exact hn261_3) | (show (Addr.add _ _).block ≠ _; rw [add_block]; exact hn261_3) | exact hn261_3) (.slice (some ad261) ((rd_T126 l0_0 x52_3).f3).length c256_3)).trans hx261_1; clear hn261_0; clear hn261_1; clear hn261_2; clear hn261_3; replace p261 := eq_true p261; replace q261 := eq_true q261))
                                      go_meet
                                      case rel => exact ⟨_, ((((rd_T136 ((rd_T126 l0_0 x52_3).f3) (ji36)).f0) != 24)), (by first | rfl | (simp; done) | (simp only [← hji36] <;> (first | rfl | simp)) | (simp [*]; done)), H', ⟨by have := HJ1.out; have := HK2.out; have := HK3.out; first | omega | exact Nat.le_refl _⟩, ⟨by (with_reducible repeat (first | refine blk_drewN ?_ _ | refine blk_drew ?_ | refine blk_alloc ?_ _)); refine blk_far ?_ NB251_257.out _; (with_reducible repeat (first | refine blk_drewN ?_ _ | refine blk_drew ?_ | refine blk_alloc ?_ _)); refine blk_far ?_ NB251_257.out _; (with_reducible repeat (first | refine blk_drewN ?_ _ | refine blk_drew ?_ | refine blk_alloc ?_ _)); refine blk_far ?_ NB251_257.out _; (with_reducible repeat (first | refine blk_drewN ?_ _ | refine blk_drew ?_ | refine blk_alloc ?_ _)); refine blk_far ?_ NB251_257.out _; (with_reducible repeat (first | refine blk_drewN ?_ _ | refine blk_drew ?_ | refine blk_alloc ?_ _)); exact BK251.out⟩, ⟨by (with_reducible repeat (first | refine blk_drewN ?_ _ | refine blk_drew ?_ | refine blk_alloc ?_ _)); refine blk_put (cs := #[.int .i64 ((rd_T126 l0_0 x52_3).f0), .int .i64 ((rd_T126 l0_0 x52_3).f1), .slice A256_2 ((rd_T126 l0_0 x52_3).f2).length c256_2, .slice none 0 0]) ?_ 3 _ rfl; (with_reducible repeat (first | refine blk_drewN ?_ _ | refine blk_drew ?_ | refine blk_alloc ?_ _)); refine blk_put (cs := #[.int .i64 ((rd_T126 l0_0 x52_3).f0), .int .i64 ((rd_T126 l0_0 x52_3).f1), .slice none 0 0, .slice none 0 0]) ?_ 2 _ rfl; (with_reducible repeat (first | refine blk_drewN ?_ _ | refine blk_drew ?_ | refine blk_alloc ?_ _)); refine blk_put (cs := #[.int .i64 ((rd_T126 l0_0 x52_3).f0), .int .i64 0, .slice none 0 0, .slice none 0 0]) ?_ 1 _ rfl; (with_reducible repeat (first | refine blk_drewN ?_ _ | refine blk_drew ?_ | refine blk_alloc ?_ _)); refine blk_put (cs := #[.int .i64 0, .int .i64 0, .slice none 0 0, .slice none 0 0]) ?_ 0 _ rfl; (with_reducible repeat (first | refine blk_drewN ?_ _ | refine blk_drew ?_ | refine blk_alloc ?_ _)); exact BK257.out⟩, ⟨by repeat (first | (with_reducible first | exact HB.out | apply below_alloc | apply pw_below_drewN | apply below_drew1 | refine below_set ?_ GE251.out | refine below_set ?_ GE257.out) | exact HB.out)⟩⟩
                                    · rw [if_neg c38] at H
                                      exact absurd H (by simp)
                                  · rw [if_neg c37] at H
                                    exact absurd H (by simp)
                                · replace c35 := Bool.eq_false_iff.mpr c35
                                  subst c35
                                  have H1 : (impl_ModuleOk.j3 k3 l0_0 (l0_0.length : Int) x52_3 true l0_0 l0_1 ((rd_T126 l0_0 x52_3).f0) ((rd_T126 l0_0 x52_3).f1) ((rd_T126 l0_0 x52_3).f2) ((rd_T126 l0_0 x52_3).f3)) = some r := by rw [if_neg (show ¬ (false = true) by decide)] at H; exact H
                                  clear H
                                  have H := H1
                                  clear H1
                                  have H' := Aside0.mk H
                                  clear H
                                  have hnb41 := NB257_251.out
                                  have hnc41 := NB251_257.out
                                  have hcz42_0 : w24.cell? ⟨gb257, 0, none⟩ = some (.int .i64 0) := (blk_cell BK257.out 0).trans rfl
                                  have hcz42_1 : w24.cell? ⟨gb257, 1, none⟩ = some (.int .i64 0) := (blk_cell BK257.out 1).trans rfl
                                  have hcz42_2 : w24.cell? ⟨gb257, 2, none⟩ = some (.slice none 0 0) := (blk_cell BK257.out 2).trans rfl
                                  have hcz42_3 : w24.cell? ⟨gb257, 3, none⟩ = some (.slice none 0 0) := (blk_cell BK257.out 3).trans rfl
                                  have hfz42_0 := blk_frozen BK257.out 0
                                  have hfz42_1 := blk_frozen BK257.out 1
                                  have hfz42_2 := blk_frozen BK257.out 2
                                  have hfz42_3 := blk_frozen BK257.out 3
                                  go_wp2_with (first | ((with_reducible refine gate_callee (f := 46) rfl ?_); refine goesL_ (some 61) rfl rfl Try.func46 (by kernel_rfl) rfl #[.int .i64 ((rd_T126 l0_0 x52_3).f1), .int .i64 0, .int .i64 20] rfl (by (try simp only [List.map_toArray, List.map_cons, List.map_nil]); first | done | rfl | (simp only [List.length_drop, List.length_take]; rfl)) ?_; (with_reducible refine (impl_within.calls ((rd_T126 l0_0 x52_3).f1) 0 20 true _ A27.out).mono ?_); rintro e w' ⟨rfl, ⟨nd, rfl⟩⟩; refine ⟨_, rfl, ?_⟩) | (go_at_call 46; (with_reducible refine (impl_within.calls ((rd_T126 l0_0 x52_3).f0) 0 ((rd_T126 l0_0 x52_3).f1) true _ A29.out).mono ?_); rintro e w' ⟨rfl, ⟨nd, rfl⟩⟩) | (go_at_call 46; (with_reducible refine (impl_within.calls (((rd_T126 l0_0 x52_3).f3).length : Int) 1 4000 false _ A34.out).mono ?_); rintro e w' ⟨rfl, ⟨nd, rfl⟩⟩))
                                  go_meet
                                  case rel => exact ⟨_, (true), (by first | rfl | (simp; done) | (simp [*]; done)), H', ⟨by have := HJ1.out; have := HK2.out; have := HK3.out; first | omega | exact Nat.le_refl _⟩, ⟨by (with_reducible repeat (first | refine blk_drewN ?_ _ | refine blk_drew ?_ | refine blk_alloc ?_ _)); refine blk_far ?_ NB251_257.out _; (with_reducible repeat (first | refine blk_drewN ?_ _ | refine blk_drew ?_ | refine blk_alloc ?_ _)); refine blk_far ?_ NB251_257.out _; (with_reducible repeat (first | refine blk_drewN ?_ _ | refine blk_drew ?_ | refine blk_alloc ?_ _)); refine blk_far ?_ NB251_257.out _; (with_reducible repeat (first | refine blk_drewN ?_ _ | refine blk_drew ?_ | refine blk_alloc ?_ _)); refine blk_far ?_ NB251_257.out _; (with_reducible repeat (first | refine blk_drewN ?_ _ | refine blk_drew ?_ | refine blk_alloc ?_ _)); exact BK251.out⟩, ⟨by (with_reducible repeat (first | refine blk_drewN ?_ _ | refine blk_drew ?_ | refine blk_alloc ?_ _)); refine blk_put (cs := #[.int .i64 ((rd_T126 l0_0 x52_3).f0), .int .i64 ((rd_T126 l0_0 x52_3).f1), .slice A256_2 ((rd_T126 l0_0 x52_3).f2).length c256_2, .slice none 0 0]) ?_ 3 _ rfl; (with_reducible repeat (first | refine blk_drewN ?_ _ | refine blk_drew ?_ | refine blk_alloc ?_ _)); refine blk_put (cs := #[.int .i64 ((rd_T126 l0_0 x52_3).f0), .int .i64 ((rd_T126 l0_0 x52_3).f1), .slice none 0 0, .slice none 0 0]) ?_ 2 _ rfl; (with_reducible repeat (first | refine blk_drewN ?_ _ | refine blk_drew ?_ | refine blk_alloc ?_ _)); refine blk_put (cs := #[.int .i64 ((rd_T126 l0_0 x52_3).f0), .int .i64 0, .slice none 0 0, .slice none 0 0]) ?_ 1 _ rfl; (with_reducible repeat (first | refine blk_drewN ?_ _ | refine blk_drew ?_ | refine blk_alloc ?_ _)); refine blk_put (cs := #[.int .i64 0, .int .i64 0, .slice none 0 0, .slice none 0 0]) ?_ 0 _ rfl; (with_reducible repeat (first | refine blk_drewN ?_ _ | refine blk_drew ?_ | refine blk_alloc ?_ _)); exact BK257.out⟩, ⟨by repeat (first | (with_reducible first | exact HB.out | apply below_alloc | apply pw_below_drewN | apply below_drew1 | refine below_set ?_ GE251.out | refine below_set ?_ GE257.out) | exact HB.out)⟩⟩
                            · replace c30 := Bool.eq_false_iff.mpr c30
                              subst c30
                              have H1 : (impl_ModuleOk.j3 k3 l0_0 (l0_0.length : Int) x52_3 true l0_0 l0_1 ((rd_T126 l0_0 x52_3).f0) ((rd_T126 l0_0 x52_3).f1) ((rd_T126 l0_0 x52_3).f2) ((rd_T126 l0_0 x52_3).f3)) = some r := by rw [if_neg (show ¬ (false = true) by decide)] at H; exact H
                              clear H
                              have H := H1
                              clear H1
                              have H' := Aside0.mk H
                              clear H
                              have hnb43 := NB257_251.out
                              have hnc43 := NB251_257.out
                              have hcz44_0 : w24.cell? ⟨gb257, 0, none⟩ = some (.int .i64 0) := (blk_cell BK257.out 0).trans rfl
                              have hcz44_1 : w24.cell? ⟨gb257, 1, none⟩ = some (.int .i64 0) := (blk_cell BK257.out 1).trans rfl
                              have hcz44_2 : w24.cell? ⟨gb257, 2, none⟩ = some (.slice none 0 0) := (blk_cell BK257.out 2).trans rfl
                              have hcz44_3 : w24.cell? ⟨gb257, 3, none⟩ = some (.slice none 0 0) := (blk_cell BK257.out 3).trans rfl
                              have hfz44_0 := blk_frozen BK257.out 0
                              have hfz44_1 := blk_frozen BK257.out 1
                              have hfz44_2 := blk_frozen BK257.out 2
                              have hfz44_3 := blk_frozen BK257.out 3
                              go_wp2_with (first | ((with_reducible refine gate_callee (f := 46) rfl ?_); refine goesL_ (some 61) rfl rfl Try.func46 (by kernel_rfl) rfl #[.int .i64 ((rd_T126 l0_0 x52_3).f1), .int .i64 0, .int .i64 20] rfl (by (try simp only [List.map_toArray, List.map_cons, List.map_nil]); first | done | rfl | (simp only [List.length_drop, List.length_take]; rfl)) ?_; (with_reducible refine (impl_within.calls ((rd_T126 l0_0 x52_3).f1) 0 20 true _ A27.out).mono ?_); rintro e w' ⟨rfl, ⟨nd, rfl⟩⟩; refine ⟨_, rfl, ?_⟩) | (go_at_call 46; (with_reducible refine (impl_within.calls ((rd_T126 l0_0 x52_3).f0) 0 ((rd_T126 l0_0 x52_3).f1) false _ A29.out).mono ?_); rintro e w' ⟨rfl, ⟨nd, rfl⟩⟩))
                              go_meet
                              case rel => exact ⟨_, (true), (by first | rfl | (simp; done) | (simp [*]; done)), H', ⟨by have := HJ1.out; have := HK2.out; have := HK3.out; first | omega | exact Nat.le_refl _⟩, ⟨by (with_reducible repeat (first | refine blk_drewN ?_ _ | refine blk_drew ?_ | refine blk_alloc ?_ _)); refine blk_far ?_ NB251_257.out _; (with_reducible repeat (first | refine blk_drewN ?_ _ | refine blk_drew ?_ | refine blk_alloc ?_ _)); refine blk_far ?_ NB251_257.out _; (with_reducible repeat (first | refine blk_drewN ?_ _ | refine blk_drew ?_ | refine blk_alloc ?_ _)); refine blk_far ?_ NB251_257.out _; (with_reducible repeat (first | refine blk_drewN ?_ _ | refine blk_drew ?_ | refine blk_alloc ?_ _)); refine blk_far ?_ NB251_257.out _; (with_reducible repeat (first | refine blk_drewN ?_ _ | refine blk_drew ?_ | refine blk_alloc ?_ _)); exact BK251.out⟩, ⟨by (with_reducible repeat (first | refine blk_drewN ?_ _ | refine blk_drew ?_ | refine blk_alloc ?_ _)); refine blk_put (cs := #[.int .i64 ((rd_T126 l0_0 x52_3).f0), .int .i64 ((rd_T126 l0_0 x52_3).f1), .slice A256_2 ((rd_T126 l0_0 x52_3).f2).length c256_2, .slice none 0 0]) ?_ 3 _ rfl; (with_reducible repeat (first | refine blk_drewN ?_ _ | refine blk_drew ?_ | refine blk_alloc ?_ _)); refine blk_put (cs := #[.int .i64 ((rd_T126 l0_0 x52_3).f0), .int .i64 ((rd_T126 l0_0 x52_3).f1), .slice none 0 0, .slice none 0 0]) ?_ 2 _ rfl; (with_reducible repeat (first | refine blk_drewN ?_ _ | refine blk_drew ?_ | refine blk_alloc ?_ _)); refine blk_put (cs := #[.int .i64 ((rd_T126 l0_0 x52_3).f0), .int .i64 0, .slice none 0 0, .slice none 0 0]) ?_ 1 _ rfl; (with_reducible repeat (first | refine blk_drewN ?_ _ | refine blk_drew ?_ | refine blk_alloc ?_ _)); refine blk_put (cs := #[.int .i64 0, .int .i64 0, .slice none 0 0, .slice none 0 0]) ?_ 0 _ rfl; (with_reducible repeat (first | refine blk_drewN ?_ _ | refine blk_drew ?_ | refine blk_alloc ?_ _)); exact BK257.out⟩, ⟨by repeat (first | (with_reducible first | exact HB.out | apply below_alloc | apply pw_below_drewN | apply below_drew1 | refine below_set ?_ GE251.out | refine below_set ?_ GE257.out) | exact HB.out)⟩⟩
                          · replace c28 := Bool.eq_false_iff.mpr c28
                            subst c28
                            have H1 : (impl_ModuleOk.j3 k3 l0_0 (l0_0.length : Int) x52_3 true l0_0 l0_1 ((rd_T126 l0_0 x52_3).f0) ((rd_T126 l0_0 x52_3).f1) ((rd_T126 l0_0 x52_3).f2) ((rd_T126 l0_0 x52_3).f3)) = some r := by rw [if_neg (show ¬ (false = true) by decide)] at H; exact H
                            clear H
                            have H := H1
                            clear H1
                            have H' := Aside0.mk H
                            clear H
                            have hnb45 := NB257_251.out
                            have hnc45 := NB251_257.out
                            have hcz46_0 : w24.cell? ⟨gb257, 0, none⟩ = some (.int .i64 0) := (blk_cell BK257.out 0).trans rfl
                            have hcz46_1 : w24.cell? ⟨gb257, 1, none⟩ = some (.int .i64 0) := (blk_cell BK257.out 1).trans rfl
                            have hcz46_2 : w24.cell? ⟨gb257, 2, none⟩ = some (.slice none 0 0) := (blk_cell BK257.out 2).trans rfl
                            have hcz46_3 : w24.cell? ⟨gb257, 3, none⟩ = some (.slice none 0 0) := (blk_cell BK257.out 3).trans rfl
                            have hfz46_0 := blk_frozen BK257.out 0
                            have hfz46_1 := blk_frozen BK257.out 1
                            have hfz46_2 := blk_frozen BK257.out 2
                            have hfz46_3 := blk_frozen BK257.out 3
                            go_wp2_with (first | ((with_reducible refine gate_callee (f := 46) rfl ?_); refine goesL_ (some 61) rfl rfl Try.func46 (by kernel_rfl) rfl #[.int .i64 ((rd_T126 l0_0 x52_3).f1), .int .i64 0, .int .i64 20] rfl (by (try simp only [List.map_toArray, List.map_cons, List.map_nil]); first | done | rfl | (simp only [List.length_drop, List.length_take]; rfl)) ?_; (with_reducible refine (impl_within.calls ((rd_T126 l0_0 x52_3).f1) 0 20 false _ A27.out).mono ?_); rintro e w' ⟨rfl, ⟨nd, rfl⟩⟩; refine ⟨_, rfl, ?_⟩))
                            go_meet
                            case rel => exact ⟨_, (true), (by first | rfl | (simp; done) | (simp [*]; done)), H', ⟨by have := HJ1.out; have := HK2.out; have := HK3.out; first | omega | exact Nat.le_refl _⟩, ⟨by (with_reducible repeat (first | refine blk_drewN ?_ _ | refine blk_drew ?_ | refine blk_alloc ?_ _)); refine blk_far ?_ NB251_257.out _; (with_reducible repeat (first | refine blk_drewN ?_ _ | refine blk_drew ?_ | refine blk_alloc ?_ _)); refine blk_far ?_ NB251_257.out _; (with_reducible repeat (first | refine blk_drewN ?_ _ | refine blk_drew ?_ | refine blk_alloc ?_ _)); refine blk_far ?_ NB251_257.out _; (with_reducible repeat (first | refine blk_drewN ?_ _ | refine blk_drew ?_ | refine blk_alloc ?_ _)); refine blk_far ?_ NB251_257.out _; (with_reducible repeat (first | refine blk_drewN ?_ _ | refine blk_drew ?_ | refine blk_alloc ?_ _)); exact BK251.out⟩, ⟨by (with_reducible repeat (first | refine blk_drewN ?_ _ | refine blk_drew ?_ | refine blk_alloc ?_ _)); refine blk_put (cs := #[.int .i64 ((rd_T126 l0_0 x52_3).f0), .int .i64 ((rd_T126 l0_0 x52_3).f1), .slice A256_2 ((rd_T126 l0_0 x52_3).f2).length c256_2, .slice none 0 0]) ?_ 3 _ rfl; (with_reducible repeat (first | refine blk_drewN ?_ _ | refine blk_drew ?_ | refine blk_alloc ?_ _)); refine blk_put (cs := #[.int .i64 ((rd_T126 l0_0 x52_3).f0), .int .i64 ((rd_T126 l0_0 x52_3).f1), .slice none 0 0, .slice none 0 0]) ?_ 2 _ rfl; (with_reducible repeat (first | refine blk_drewN ?_ _ | refine blk_drew ?_ | refine blk_alloc ?_ _)); refine blk_put (cs := #[.int .i64 ((rd_T126 l0_0 x52_3).f0), .int .i64 0, .slice none 0 0, .slice none 0 0]) ?_ 1 _ rfl; (with_reducible repeat (first | refine blk_drewN ?_ _ | refine blk_drew ?_ | refine blk_alloc ?_ _)); refine blk_put (cs := #[.int .i64 0, .int .i64 0, .slice none 0 0, .slice none 0 0]) ?_ 0 _ rfl; (with_reducible repeat (first | refine blk_drewN ?_ _ | refine blk_drew ?_ | refine blk_alloc ?_ _)); exact BK257.out⟩, ⟨by repeat (first | (with_reducible first | exact HB.out | apply below_alloc | apply pw_below_drewN | apply below_drew1 | refine below_set ?_ GE251.out | refine below_set ?_ GE257.out) | exact HB.out)⟩⟩
                        case rest =>
                          clear HC23
                          try clear c1
                          try clear c2
                          try clear p2
                          try clear q2
                          try clear hx2
                          try clear qi2
                          try clear c3
                          try clear c4
                          try clear c5
                          try clear c6
                          try clear c6b0
                          try clear c6b1
                          try clear p6
                          try clear c8
                          try clear c8b0
                          try clear c8b1
                          try clear c9
                          try clear c9b0
                          try clear c9b1
                          try clear c13
                          try clear c15
                          try clear c15b0
                          try clear c16
                          try clear c16b0
                          try clear c17
                          try clear c17b0
                          try clear c18
                          try clear c18b0
                          try clear c18b1
                          try clear c20
                          try clear c20b0
                          try clear c21
                          try clear c21b0
                          try clear c22
                          try clear c22b0
                          try clear c25
                          try clear p25
                          try clear q25
                          try clear hx25
                          try clear qi25
                          try clear p26
                          try clear q26
                          try clear hx26
                          try clear c28
                          try clear c30
                          try clear c31
                          try clear c31b0
                          try clear c31b1
                          try clear c32
                          try clear c35
                          try clear c37
                          try clear c37b0
                          try clear c38
                          try clear c38b0
                          try clear c39
                          try clear c41
                          try clear c43
                          try clear c44
                          try clear c45
                          try clear c46
                          try clear hcz10_0
                          try clear hcz10_1
                          try clear hcz11_0
                          try clear hcz11_1
                          try clear hcz12_0
                          try clear hcz12_1
                          try clear hcz14_0
                          try clear hcz14_1
                          try clear hcz19_0
                          try clear hcz19_1
                          try clear hcz26_0
                          try clear hcz26_1
                          try clear hcz26_2
                          try clear hcz26_3
                          try clear hcz33_0
                          try clear hcz33_1
                          try clear hcz33_2
                          try clear hcz33_3
                          try clear hcz40_0
                          try clear hcz40_1
                          try clear hcz40_2
                          try clear hcz40_3
                          try clear hcz42_0
                          try clear hcz42_1
                          try clear hcz42_2
                          try clear hcz42_3
                          try clear hcz44_0
                          try clear hcz44_1
                          try clear hcz44_2
                          try clear hcz44_3
                          try clear hcz46_0
                          try clear hcz46_1
                          try clear hcz46_2
                          try clear hcz46_3
                          try clear hcz7_0
                          try clear hcz7_1
                          try clear hfz10_0
                          try clear hfz10_1
                          try clear hfz11_0
                          try clear hfz11_1
                          try clear hfz12_0
                          try clear hfz12_1
                          try clear hfz14_0
                          try clear hfz14_1
                          try clear hfz19_0
                          try clear hfz19_1
                          try clear hfz26_0
                          try clear hfz26_1
                          try clear hfz26_2
                          try clear hfz26_3
                          try clear hfz33_0
                          try clear hfz33_1
                          try clear hfz33_2
                          try clear hfz33_3
                          try clear hfz40_0
                          try clear hfz40_1
                          try clear hfz40_2
                          try clear hfz40_3
                          try clear hfz42_0
                          try clear hfz42_1
                          try clear hfz42_2
                          try clear hfz42_3
                          try clear hfz44_0
                          try clear hfz44_1
                          try clear hfz44_2
                          try clear hfz44_3
                          try clear hfz46_0
                          try clear hfz46_1
                          try clear hfz46_2
                          try clear hfz46_3
                          try clear hfz7_0
                          try clear hfz7_1
                          try clear hx253_0
                          try clear hx253_1
                          try clear hx253_2
                          try clear hx253_3
                          try clear hx254_0
                          try clear hx254_1
                          try clear hx254_2
                          try clear hx254_3
                          try clear hx255_0
                          try clear hx256_0
                          try clear hx256_1
                          try clear hx256_2
                          try clear hx256_3
                          try clear hx261_0
                          try clear hx261_1
                          try clear p2
                          try clear p253
                          try clear p254
                          try clear p255
                          try clear p256
                          try clear p261
                          try clear p6
                          try clear q2
                          try clear q253
                          try clear q254
                          try clear q255
                          try clear q256
                          try clear q261
                          obtain ⟨kq, x91_22, rfl, HA, HJ22, BK251, BK257, HB⟩ := hcut
                          cases kq with
                          | zero => exact absurd HA.out (by simp [impl_ModuleOk.j3])
                          | succ kj22 =>
                            have H := HA.out
                            clear HA
                            simp only [impl_ModuleOk.j3] at H
                            by_cases c47 : x91_22 = true
                            · subst c47
                              have H1 : (some false) = some r := by rw [if_pos rfl] at H; exact H
                              clear H
                              have H := H1
                              clear H1
                              obtain rfl := Option.some.inj H
                              go_wp2
                              go_ret
                              exact ⟨by first | rfl | (simp [errW_none, errW_some] <;> rfl) | (simp [*, errW_none, errW_some] <;> rfl), by repeat (first | (with_reducible first | exact HB.out | apply below_alloc | apply pw_below_drewN | apply below_drew1 | refine below_set ?_ GE251.out | refine below_set ?_ GE257.out) | exact HB.out)⟩
                            · replace c47 := Bool.eq_false_iff.mpr c47
                              subst c47
                              have H1 : (impl_ModuleOk.l2 kj22 l0_0 (l0_0.length : Int) x52_3 ((rd_T126 l0_0 x52_3).f3) (((rd_T126 l0_0 x52_3).f3).length : Int) 0 l0_0 l0_1 ((rd_T126 l0_0 x52_3).f0) ((rd_T126 l0_0 x52_3).f1) ((rd_T126 l0_0 x52_3).f2) ((rd_T126 l0_0 x52_3).f3)) = some r := by rw [if_neg (show ¬ (false = true) by decide)] at H; exact H
                              clear H
                              have H := H1
                              clear H1
                              have H' := Aside0.mk H
                              clear H
                              have hnb48 := NB257_251.out
                              have hnc48 := NB251_257.out
                              have hcz49_0 : wc.cell? ⟨gb257, 0, none⟩ = some (.int .i64 ((rd_T126 l0_0 x52_3).f0)) := (blk_cell BK257.out 0).trans rfl
                              have hcz49_1 : wc.cell? ⟨gb257, 1, none⟩ = some (.int .i64 ((rd_T126 l0_0 x52_3).f1)) := (blk_cell BK257.out 1).trans rfl
                              have hcz49_2 : wc.cell? ⟨gb257, 2, none⟩ = some (.slice A256_2 ((rd_T126 l0_0 x52_3).f2).length c256_2) := (blk_cell BK257.out 2).trans rfl
                              have hcz49_3 : wc.cell? ⟨gb257, 3, none⟩ = some (.slice A256_3 ((rd_T126 l0_0 x52_3).f3).length c256_3) := (blk_cell BK257.out 3).trans rfl
                              have hfz49_0 := blk_frozen BK257.out 0
                              have hfz49_1 := blk_frozen BK257.out 1
                              have hfz49_2 := blk_frozen BK257.out 2
                              have hfz49_3 := blk_frozen BK257.out 3
                              go_wp2
                              go_loopg [95] kj22 (fun kq v95 w' => ∃ (x95_5 : Int), v95 = .int .i64 x95_5 ∧ Aside0 (impl_ModuleOk.l2 kq l0_0 (l0_0.length : Int) x52_3 ((rd_T126 l0_0 x52_3).f3) (((rd_T126 l0_0 x52_3).f3).length : Int) x95_5 l0_0 l0_1 ((rd_T126 l0_0 x52_3).f0) ((rd_T126 l0_0 x52_3).f1) ((rd_T126 l0_0 x52_3).f2) ((rd_T126 l0_0 x52_3).f3) = some r) ∧ Aside0 (kq ≤ kj22) ∧ Aside0 (w'.heap[gb251]? = some (.cells #[(.slice (some ad256) l0_0.length c0_0), (.slice A0_1 l0_1.length c0_1)] 83 (0, 0))) ∧ Aside0 (w'.heap[gb257]? = some (.cells #[.int .i64 ((rd_T126 l0_0 x52_3).f0), .int .i64 ((rd_T126 l0_0 x52_3).f1), (.slice A256_2 ((rd_T126 l0_0 x52_3).f2).length c256_2), (.slice A256_3 ((rd_T126 l0_0 x52_3).f3).length c256_3)] 126 (0, 0))) ∧ Aside0 (Below w.heap.size w w'))
                              case atStart => exact ⟨(0), (by first | rfl | (simp; done) | (simp [*]; done)), H', ⟨Nat.le_refl _⟩, ⟨by (with_reducible repeat (first | refine blk_drewN ?_ _ | refine blk_drew ?_ | refine blk_alloc ?_ _)); exact BK251.out⟩, ⟨by (with_reducible repeat (first | refine blk_drewN ?_ _ | refine blk_drew ?_ | refine blk_alloc ?_ _)); exact BK257.out⟩, ⟨by repeat (first | (with_reducible first | exact HB.out | apply below_alloc | apply pw_below_drewN | apply below_drew1 | refine below_set ?_ GE251.out | refine below_set ?_ GE257.out) | exact HB.out)⟩⟩
                              case round =>
                                clear H'
                                try clear c1
                                try clear c2
                                try clear p2
                                try clear q2
                                try clear hx2
                                try clear qi2
                                try clear c3
                                try clear c4
                                try clear c5
                                try clear c6
                                try clear c6b0
                                try clear c6b1
                                try clear p6
                                try clear c8
                                try clear c8b0
                                try clear c8b1
                                try clear c9
                                try clear c9b0
                                try clear c9b1
                                try clear c13
                                try clear c15
                                try clear c15b0
                                try clear c16
                                try clear c16b0
                                try clear c17
                                try clear c17b0
                                try clear c18
                                try clear c18b0
                                try clear c18b1
                                try clear c20
                                try clear c20b0
                                try clear c21
                                try clear c21b0
                                try clear c22
                                try clear c22b0
                                try clear c25
                                try clear p25
                                try clear q25
                                try clear hx25
                                try clear qi25
                                try clear p26
                                try clear q26
                                try clear hx26
                                try clear c28
                                try clear c30
                                try clear c31
                                try clear c31b0
                                try clear c31b1
                                try clear c32
                                try clear c35
                                try clear c37
                                try clear c37b0
                                try clear c38
                                try clear c38b0
                                try clear c39
                                try clear c41
                                try clear c43
                                try clear c44
                                try clear c45
                                try clear c46
                                try clear c47
                                try clear c48
                                try clear hcz10_0
                                try clear hcz10_1
                                try clear hcz11_0
                                try clear hcz11_1
                                try clear hcz12_0
                                try clear hcz12_1
                                try clear hcz14_0
                                try clear hcz14_1
                                try clear hcz19_0
                                try clear hcz19_1
                                try clear hcz26_0
                                try clear hcz26_1
                                try clear hcz26_2
                                try clear hcz26_3
                                try clear hcz33_0
                                try clear hcz33_1
                                try clear hcz33_2
                                try clear hcz33_3
                                try clear hcz40_0
                                try clear hcz40_1
                                try clear hcz40_2
                                try clear hcz40_3
                                try clear hcz42_0
                                try clear hcz42_1
                                try clear hcz42_2
                                try clear hcz42_3
                                try clear hcz44_0
                                try clear hcz44_1
                                try clear hcz44_2
                                try clear hcz44_3
                                try clear hcz46_0
                                try clear hcz46_1
                                try clear hcz46_2
                                try clear hcz46_3
                                try clear hcz49_0
                                try clear hcz49_1
                                try clear hcz49_2
                                try clear hcz49_3
                                try clear hcz7_0
                                try clear hcz7_1
                                try clear hfz10_0
                                try clear hfz10_1
                                try clear hfz11_0
                                try clear hfz11_1
                                try clear hfz12_0
                                try clear hfz12_1
                                try clear hfz14_0
                                try clear hfz14_1
                                try clear hfz19_0
                                try clear hfz19_1
                                try clear hfz26_0
                                try clear hfz26_1
                                try clear hfz26_2
                                try clear hfz26_3
                                try clear hfz33_0
                                try clear hfz33_1
                                try clear hfz33_2
                                try clear hfz33_3
                                try clear hfz40_0
                                try clear hfz40_1
                                try clear hfz40_2
                                try clear hfz40_3
                                try clear hfz42_0
                                try clear hfz42_1
                                try clear hfz42_2
                                try clear hfz42_3
                                try clear hfz44_0
                                try clear hfz44_1
                                try clear hfz44_2
                                try clear hfz44_3
                                try clear hfz46_0
                                try clear hfz46_1
                                try clear hfz46_2
                                try clear hfz46_3
                                try clear hfz49_0
                                try clear hfz49_1
                                try clear hfz49_2
                                try clear hfz49_3
                                try clear hfz7_0
                                try clear hfz7_1
                                try clear hx253_0
                                try clear hx253_1
                                try clear hx253_2
                                try clear hx253_3
                                try clear hx254_0
                                try clear hx254_1
                                try clear hx254_2
                                try clear hx254_3
                                try clear hx255_0
                                try clear hx256_0
                                try clear hx256_1
                                try clear hx256_2
                                try clear hx256_3
                                try clear hx261_0
                                try clear hx261_1
                                try clear p2
                                try clear p25
                                try clear p253
                                try clear p254
                                try clear p255
                                try clear p256
                                try clear p26
                                try clear p261
                                try clear p6
                                try clear q2
                                try clear q25
                                try clear q253
                                try clear q254
                                try clear q255
                                try clear q256
                                try clear q26
                                try clear q261
                                obtain ⟨x95_5, rfl, HA, HK5, BK251, BK257, HB⟩ := hrel
                                cases gk with
                                | zero => exact absurd HA.out (by simp [impl_ModuleOk.l2])
                                | succ k5 =>
                                  have H := HA.out
                                  clear HA
                                  simp only [impl_ModuleOk.l2] at H
                                  by_cases c50 : x95_5 < (((rd_T126 l0_0 x52_3).f3).length : Int)
                                  · rw [if_pos c50] at H
                                    have c50b0 : decide (x95_5 < (((rd_T126 l0_0 x52_3).f3).length : Int)) = true := decide_eq_true c50
                                    clear c50
                                    by_cases c51 : 0 ≤ x95_5
                                    · rw [if_pos c51] at H
                                      have c51b0 : decide (0 ≤ x95_5) = true := decide_eq_true c51
                                      clear c51
                                      by_cases c52 : x95_5 < (((rd_T126 l0_0 x52_3).f3).length : Int)
                                      · rw [if_pos c52] at H
                                        have c52b0 : decide (x95_5 < (((rd_T126 l0_0 x52_3).f3).length : Int)) = true := decide_eq_true c52
                                        clear c52
                                        replace H := Option.bind_eq_some_iff.mp H
                                        obtain ⟨t264, A530, H⟩ := H
                                        replace H : (if t264 = true then (impl_ModuleOk.l2 k5 l0_0 (l0_0.length : Int) x52_3 ((rd_T126 l0_0 x52_3).f3) (((rd_T126 l0_0 x52_3).f3).length : Int) (wrap64 (x95_5 + 1)) l0_0 l0_1 ((rd_T126 l0_0 x52_3).f0) ((rd_T126 l0_0 x52_3).f1) ((rd_T126 l0_0 x52_3).f2) ((rd_T126 l0_0 x52_3).f3)) else (some false)) = some r := H
                                        have A53 := Aside0.mk A530
                                        clear A530
                                        by_cases c54 : t264 = true
                                        · subst c54
                                          have H1 : (impl_ModuleOk.l2 k5 l0_0 (l0_0.length : Int) x52_3 ((rd_T126 l0_0 x52_3).f3) (((rd_T126 l0_0 x52_3).f3).length : Int) (wrap64 (x95_5 + 1)) l0_0 l0_1 ((rd_T126 l0_0 x52_3).f0) ((rd_T126 l0_0 x52_3).f1) ((rd_T126 l0_0 x52_3).f2) ((rd_T126 l0_0 x52_3).f3)) = some r := by rw [if_pos rfl] at H; exact H
                                          clear H
                                          have H := H1
                                          clear H1
                                          have H' := Aside0.mk H
                                          clear H
                                          have p262 : 0 ≤ (x95_5 : Int) := of_decide_eq_true (by first | (with_reducible assumption) | assumption)
                                          have q262 : x95_5 < (((rd_T126 l0_0 x52_3).f3).length : Int) := of_decide_eq_true (by first | (with_reducible assumption) | assumption)
                                          obtain ⟨ad262, e262, hx262_0, hx262_1⟩ := at_T136 HR256_3.out x95_5 p262 q262
                                          cases e262
                                          replace hx262_0 := (HB.out.cell (World.block_lt_of_cell? w _ hx262_0)).trans hx262_0
                                          replace hx262_1 := (HB.out.cell (World.block_lt_of_cell? w _ hx262_1)).trans hx262_1
                                          replace p262 := eq_true p262
                                          replace q262 := eq_true q262
                                          go_wp2_with (first | ((with_reducible refine gate_dst (N := 9) rfl ?_); (try (refine gate_guard (by rfl) ?_; dsimp only)); refine box_event ?hg (N := 9) ?hd (cs := #[.int .i64 0, .int .i64 0]) (t := 136) ?hr ?_; (case hd => rfl); (case hg => rfl); (case hr => first | (go_simp; done) | (go_simp; rfl)); intro gb263 hg w55 hbox hb; have n0_ := Aside0.mk (blk_below (g := gb251) (o := .cells #[.slice (some ad256) l0_0.length c0_0, .slice A0_1 l0_1.length c0_1] 83 (0, 0)) (by (with_reducible repeat (first | refine blk_drewN ?_ _ | refine blk_drew ?_ | refine blk_alloc ?_ _)); exact BK251.out) hb); have n1_ := Aside0.mk (blk_below (g := gb257) (o := .cells #[.int .i64 ((rd_T126 l0_0 x52_3).f0), .int .i64 ((rd_T126 l0_0 x52_3).f1), .slice A256_2 ((rd_T126 l0_0 x52_3).f2).length c256_2, .slice (some ad262) ((rd_T126 l0_0 x52_3).f3).length c256_3] 126 (0, 0)) (by (with_reducible repeat (first | refine blk_drewN ?_ _ | refine blk_drew ?_ | refine blk_alloc ?_ _)); exact BK257.out) hb); have n2_ := Aside0.mk (below_step (by repeat (first | (with_reducible first | exact HB.out | apply below_alloc | apply pw_below_drewN | apply below_drew1 | refine below_set ?_ GE251.out | refine below_set ?_ GE257.out) | exact HB.out)) hb); have n3_ := Aside0.mk (hbox); have n4_ := Aside0.mk ((by rw [hg]; exact (below_size (by repeat (first | (with_reducible first | exact HB.out | apply below_alloc | apply pw_below_drewN | apply below_drew1 | refine below_set ?_ GE251.out | refine below_set ?_ GE257.out) | exact HB.out))) : w.heap.size ≤ gb263)); have n5_ := Aside0.mk ((by rw [hg]; exact (below_size (by repeat (first | (with_reducible first | exact HB.out | apply below_alloc | apply pw_below_drewN | apply below_drew1 | refine below_set ?_ GE251.out | refine below_set ?_ GE257.out) | exact HB.out))) : w.heap.size ≤ gb263)); have n6_ := Aside0.mk ((by rw [hg]; exact Nat.ne_of_lt (blk_lt (g := gb251) (o := .cells #[.slice (some ad256) l0_0.length c0_0, .slice A0_1 l0_1.length c0_1] 83 (0, 0)) (by (with_reducible repeat (first | refine blk_drewN ?_ _ | refine blk_drew ?_ | refine blk_alloc ?_ _)); exact BK251.out)) : gb251 ≠ gb263)); have n7_ := Aside0.mk ((by rw [hg]; exact Nat.ne_of_gt (blk_lt (g := gb251) (o := .cells #[.slice (some ad256) l0_0.length c0_0, .slice A0_1 l0_1.length c0_1] 83 (0, 0)) (by (with_reducible repeat (first | refine blk_drewN ?_ _ | refine blk_drew ?_ | refine blk_alloc ?_ _)); exact BK251.out)) : gb263 ≠ gb251)); have n8_ := Aside0.mk ((by rw [hg]; exact Nat.ne_of_lt (blk_lt (g := gb257) (o := .cells #[.int .i64 ((rd_T126 l0_0 x52_3).f0), .int .i64 ((rd_T126 l0_0 x52_3).f1), .slice A256_2 ((rd_T126 l0_0 x52_3).f2).length c256_2, .slice (some ad262) ((rd_T126 l0_0 x52_3).f3).length c256_3] 126 (0, 0)) (by (with_reducible repeat (first | refine blk_drewN ?_ _ | refine blk_drew ?_ | refine blk_alloc ?_ _)); exact BK257.out)) : gb257 ≠ gb263)); have n9_ := Aside0.mk ((by rw [hg]; exact Nat.ne_of_gt (blk_lt (g := gb257) (o := .cells #[.int .i64 ((rd_T126 l0_0 x52_3).f0), .int .i64 ((rd_T126 l0_0 x52_3).f1), .slice A256_2 ((rd_T126 l0_0 x52_3).f2).length c256_2, .slice (some ad262) ((rd_T126 l0_0 x52_3).f3).length c256_3] 126 (0, 0)) (by (with_reducible repeat (first | refine blk_drewN ?_ _ | refine blk_drew ?_ | refine blk_alloc ?_ _)); exact BK257.out)) : gb263 ≠ gb257)); clear BK251; clear BK257; clear HB; have BK251 := n0_; have BK257 := n1_; have HB := n2_; have BK263 := n3_; have GW263 := n4_; have GE263 := n5_; have NB251_263 := n6_; have NB263_251 := n7_; have NB257_263 := n8_; have NB263_257 := n9_; clear n0_ n1_ n2_ n3_ n4_ n5_ n6_ n7_ n8_ n9_; clear hb hbox hg; have hnb56 := NB263_251.out; have hnc56 := NB251_263.out; have hnb57 := NB263_257.out; have hnc57 := NB257_263.out; have hcz58_0 : w55.cell? ⟨gb263, 0, none⟩ = some (.int .i64 0) := (blk_cell BK263.out 0).trans rfl; have hcz58_1 : w55.cell? ⟨gb263, 1, none⟩ = some (.int .i64 0) := (blk_cell BK263.out 1).trans rfl; have hfz58_0 := blk_frozen BK263.out 0; have hfz58_1 := blk_frozen BK263.out 1; have hnb59 := NB251_257.out; have hnc59 := NB257_251.out; have hcz60_0 : w55.cell? ⟨gb251, 0, none⟩ = some (.slice (some ad256) l0_0.length c0_0) := (blk_cell BK251.out 0).trans rfl; have hcz60_1 : w55.cell? ⟨gb251, 1, none⟩ = some (.slice A0_1 l0_1.length c0_1) := (blk_cell BK251.out 1).trans rfl; have hfz60_0 := blk_frozen BK251.out 0; have hfz60_1 := blk_frozen BK251.out 1; have hcz61_0 : w55.cell? ⟨gb257, 0, none⟩ = some (.int .i64 ((rd_T126 l0_0 x52_3).f0)) := (blk_cell BK257.out 0).trans rfl; have hcz61_1 : w55.cell? ⟨gb257, 1, none⟩ = some (.int .i64 ((rd_T126 l0_0 x52_3).f1)) := (blk_cell BK257.out 1).trans rfl; have hcz61_2 : w55.cell? ⟨gb257, 2, none⟩ = some (.slice A256_2 ((rd_T126 l0_0 x52_3).f2).length c256_2) := (blk_cell BK257.out 2).trans rfl; have hcz61_3 : w55.cell? ⟨gb257, 3, none⟩ = some (.slice (some ad262) ((rd_T126 l0_0 x52_3).f3).length c256_3) := (blk_cell BK257.out 3).trans rfl; have hfz61_0 := blk_frozen BK257.out 0; have hfz61_1 := blk_frozen BK257.out 1; have hfz61_2 := blk_frozen BK257.out 2; have hfz61_3 := blk_frozen BK257.out 3) | ((with_reducible refine gate_callee (f := 93) rfl ?_); refine goesL_ (some 102) rfl rfl Try.func93 (by kernel_rfl) rfl #[.agg #[.slice (some ad256) l0_0.length c0_0, .slice A0_1 l0_1.length c0_1], .agg #[.int .i64 ((rd_T126 l0_0 x52_3).f0), .int .i64 ((rd_T126 l0_0 x52_3).f1), .slice A256_2 ((rd_T126 l0_0 x52_3).f2).length c256_2, .slice (some ad262) ((rd_T126 l0_0 x52_3).f3).length c256_3], .agg #[.int .i64 ((rd_T136 ((rd_T126 l0_0 x52_3).f3) x95_5).f0), .int .i64 ((rd_T136 ((rd_T126 l0_0 x52_3).f3) x95_5).f1)]] rfl (by (try simp only [List.map_toArray, List.map_cons, List.map_nil]); first | done | rfl | (simp only [List.length_drop, List.length_take]; rfl)) ?_; (with_reducible refine (impl_insOk.calls k5 _ _ l0_0 _ _ l0_1 ((rd_T126 l0_0 x52_3).f0) ((rd_T126 l0_0 x52_3).f1) _ _ ((rd_T126 l0_0 x52_3).f2) _ _ ((rd_T126 l0_0 x52_3).f3) ((rd_T136 ((rd_T126 l0_0 x52_3).f3) x95_5).f0) ((rd_T136 ((rd_T126 l0_0 x52_3).f3) x95_5).f1) true _ ?side1 ?side2 ?side3 ?side4 ?side5 ?side6 ?side7 ?side8 A53.out).mono ?_); (case side1 => exact Kd.C_below HR0_0.out (by repeat (first | (with_reducible first | exact HB.out | apply below_alloc | apply pw_below_drewN | apply below_drew1 | refine below_set ?_ GE251.out | refine below_set ?_ GE257.out | refine below_set ?_ GE263.out) | exact HB.out))); (case side2 => exact HC0_0.out); (case side3 => exact Kd.C_below HR0_1.out (by repeat (first | (with_reducible first | exact HB.out | apply below_alloc | apply pw_below_drewN | apply below_drew1 | refine below_set ?_ GE251.out | refine below_set ?_ GE257.out | refine below_set ?_ GE263.out) | exact HB.out))); (case side4 => exact HC0_1.out); (case side5 => exact Kd.C_below HR256_2.out (by repeat (first | (with_reducible first | exact HB.out | apply below_alloc | apply pw_below_drewN | apply below_drew1 | refine below_set ?_ GE251.out | refine below_set ?_ GE257.out | refine below_set ?_ GE263.out) | exact HB.out))); (case side6 => exact HC256_2.out); (case side7 => exact Kd.C_below HR256_3.out (by repeat (first | (with_reducible first | exact HB.out | apply below_alloc | apply pw_below_drewN | apply below_drew1 | refine below_set ?_ GE251.out | refine below_set ?_ GE257.out | refine below_set ?_ GE263.out) | exact HB.out))); (case side8 => exact HC256_3.out); rintro e w62 ⟨rfl, hb⟩; refine ⟨_, rfl, ?_⟩; have n0_ := Aside0.mk (blk_below (g := gb251) (o := .cells #[.slice (some ad256) l0_0.length c0_0, .slice A0_1 l0_1.length c0_1] 83 (0, 0)) (by (with_reducible repeat (first | refine blk_drewN ?_ _ | refine blk_drew ?_ | refine blk_alloc ?_ _)); refine blk_far ?_ NB251_263.out _; (with_reducible repeat (first | refine blk_drewN ?_ _ | refine blk_drew ?_ | refine blk_alloc ?_ _)); refine blk_far ?_ NB251_263.out _; (with_reducible repeat (first | refine blk_drewN ?_ _ | refine blk_drew ?_ | refine blk_alloc ?_ _)); exact BK251.out) hb); have n1_ := Aside0.mk (blk_below (g := gb257) (o := .cells #[.int .i64 ((rd_T126 l0_0 x52_3).f0), .int .i64 ((rd_T126 l0_0 x52_3).f1), .slice A256_2 ((rd_T126 l0_0 x52_3).f2).length c256_2, .slice (some ad262) ((rd_T126 l0_0 x52_3).f3).length c256_3] 126 (0, 0)) (by (with_reducible repeat (first | refine blk_drewN ?_ _ | refine blk_drew ?_ | refine blk_alloc ?_ _)); refine blk_far ?_ NB257_263.out _; (with_reducible repeat (first | refine blk_drewN ?_ _ | refine blk_drew ?_ | refine blk_alloc ?_ _)); refine blk_far ?_ NB257_263.out _; (with_reducible repeat (first | refine blk_drewN ?_ _ | refine blk_drew ?_ | refine blk_alloc ?_ _)); exact BK257.out) hb); have n2_ := Aside0.mk (blk_below (g := gb263) (o := .cells #[.int .i64 ((rd_T136 ((rd_T126 l0_0 x52_3).f3) x95_5).f0), .int .i64 ((rd_T136 ((rd_T126 l0_0 x52_3).f3) x95_5).f1)] 136 (0, 0)) (by (with_reducible repeat (first | refine blk_drewN ?_ _ | refine blk_drew ?_ | refine blk_alloc ?_ _)); refine blk_put (cs := #[.int .i64 ((rd_T136 ((rd_T126 l0_0 x52_3).f3) x95_5).f0), .int .i64 0]) ?_ 1 _ rfl; (with_reducible repeat (first | refine blk_drewN ?_ _ | refine blk_drew ?_ | refine blk_alloc ?_ _)); refine blk_put (cs := #[.int .i64 0, .int .i64 0]) ?_ 0 _ rfl; (with_reducible repeat (first | refine blk_drewN ?_ _ | refine blk_drew ?_ | refine blk_alloc ?_ _)); exact BK263.out) hb); have n3_ := Aside0.mk (below_step (by repeat (first | (with_reducible first | exact HB.out | apply below_alloc | apply pw_below_drewN | apply below_drew1 | refine below_set ?_ GE251.out | refine below_set ?_ GE257.out | refine below_set ?_ GE263.out) | exact HB.out)) hb); clear BK251; clear BK257; clear BK263; clear HB; have BK251 := n0_; have BK257 := n1_; have BK263 := n2_; have HB := n3_; clear n0_ n1_ n2_ n3_; (try clear hb); (try clear hb2); (try clear hk); (try clear hi)))
                                          go_roundg k5
                                          case measure => have := HJ1.out; have := HK2.out; have := HK3.out; have := HJ22.out; have := HK5.out; omega
                                          case rel => exact ⟨(wrap64 (x95_5 + 1)), (by first | rfl | (simp; done) | (simp [*]; done)), H', ⟨by have := HJ1.out; have := HK2.out; have := HK3.out; have := HJ22.out; have := HK5.out; omega⟩, ⟨by (with_reducible repeat (first | refine blk_drewN ?_ _ | refine blk_drew ?_ | refine blk_alloc ?_ _)); exact BK251.out⟩, ⟨by (with_reducible repeat (first | refine blk_drewN ?_ _ | refine blk_drew ?_ | refine blk_alloc ?_ _)); exact BK257.out⟩, ⟨by repeat (first | (with_reducible first | exact HB.out | apply below_alloc | apply pw_below_drewN | apply below_drew1 | refine below_set ?_ GE251.out | refine below_set ?_ GE257.out | refine below_set ?_ GE263.out) | exact HB.out)⟩⟩
                                        · replace c54 := Bool.eq_false_iff.mpr c54
                                          subst c54
                                          have H1 : (some false) = some r := by rw [if_neg (show ¬ (false = true) by decide)] at H; exact H
                                          clear H
                                          have H := H1
                                          clear H1
                                          obtain rfl := Option.some.inj H
                                          have p262 : 0 ≤ (x95_5 : Int) := of_decide_eq_true (by first | (with_reducible assumption) | assumption)
                                          have q262 : x95_5 < (((rd_T126 l0_0 x52_3).f3).length : Int) := of_decide_eq_true (by first | (with_reducible assumption) | assumption)
                                          obtain ⟨ad262, e262, hx262_0, hx262_1⟩ := at_T136 HR256_3.out x95_5 p262 q262
                                          cases e262
                                          replace hx262_0 := (HB.out.cell (World.block_lt_of_cell? w _ hx262_0)).trans hx262_0
                                          replace hx262_1 := (HB.out.cell (World.block_lt_of_cell? w _ hx262_1)).trans hx262_1
                                          replace p262 := eq_true p262
                                          replace q262 := eq_true q262
                                          go_wp2_with (first | ((with_reducible refine gate_dst (N := 9) rfl ?_); (try (refine gate_guard (by rfl) ?_; dsimp only)); refine box_event ?hg (N := 9) ?hd (cs := #[.int .i64 0, .int .i64 0]) (t := 136) ?hr ?_; (case hd => rfl); (case hg => rfl); (case hr => first | (go_simp; done) | (go_simp; rfl)); intro gb263 hg w63 hbox hb; have n0_ := Aside0.mk (blk_below (g := gb251) (o := .cells #[.slice (some ad256) l0_0.length c0_0, .slice A0_1 l0_1.length c0_1] 83 (0, 0)) (by (with_reducible repeat (first | refine blk_drewN ?_ _ | refine blk_drew ?_ | refine blk_alloc ?_ _)); exact BK251.out) hb); have n1_ := Aside0.mk (blk_below (g := gb257) (o := .cells #[.int .i64 ((rd_T126 l0_0 x52_3).f0), .int .i64 ((rd_T126 l0_0 x52_3).f1), .slice A256_2 ((rd_T126 l0_0 x52_3).f2).length c256_2, .slice (some ad262) ((rd_T126 l0_0 x52_3).f3).length c256_3] 126 (0, 0)) (by (with_reducible repeat (first | refine blk_drewN ?_ _ | refine blk_drew ?_ | refine blk_alloc ?_ _)); exact BK257.out) hb); have n2_ := Aside0.mk (below_step (by repeat (first | (with_reducible first | exact HB.out | apply below_alloc | apply pw_below_drewN | apply below_drew1 | refine below_set ?_ GE251.out | refine below_set ?_ GE257.out) | exact HB.out)) hb); have n3_ := Aside0.mk (hbox); have n4_ := Aside0.mk ((by rw [hg]; exact (below_size (by repeat (first | (with_reducible first | exact HB.out | apply below_alloc | apply pw_below_drewN | apply below_drew1 | refine below_set ?_ GE251.out | refine below_set ?_ GE257.out) | exact HB.out))) : w.heap.size ≤ gb263)); have n5_ := Aside0.mk ((by rw [hg]; exact (below_size (by repeat (first | (with_reducible first | exact HB.out | apply below_alloc | apply pw_below_drewN | apply below_drew1 | refine below_set ?_ GE251.out | refine below_set ?_ GE257.out) | exact HB.out))) : w.heap.size ≤ gb263)); have n6_ := Aside0.mk ((by rw [hg]; exact Nat.ne_of_lt (blk_lt (g := gb251) (o := .cells #[.slice (some ad256) l0_0.length c0_0, .slice A0_1 l0_1.length c0_1] 83 (0, 0)) (by (with_reducible repeat (first | refine blk_drewN ?_ _ | refine blk_drew ?_ | refine blk_alloc ?_ _)); exact BK251.out)) : gb251 ≠ gb263)); have n7_ := Aside0.mk ((by rw [hg]; exact Nat.ne_of_gt (blk_lt (g := gb251) (o := .cells #[.slice (some ad256) l0_0.length c0_0, .slice A0_1 l0_1.length c0_1] 83 (0, 0)) (by (with_reducible repeat (first | refine blk_drewN ?_ _ | refine blk_drew ?_ | refine blk_alloc ?_ _)); exact BK251.out)) : gb263 ≠ gb251)); have n8_ := Aside0.mk ((by rw [hg]; exact Nat.ne_of_lt (blk_lt (g := gb257) (o := .cells #[.int .i64 ((rd_T126 l0_0 x52_3).f0), .int .i64 ((rd_T126 l0_0 x52_3).f1), .slice A256_2 ((rd_T126 l0_0 x52_3).f2).length c256_2, .slice (some ad262) ((rd_T126 l0_0 x52_3).f3).length c256_3] 126 (0, 0)) (by (with_reducible repeat (first | refine blk_drewN ?_ _ | refine blk_drew ?_ | refine blk_alloc ?_ _)); exact BK257.out)) : gb257 ≠ gb263)); have n9_ := Aside0.mk ((by rw [hg]; exact Nat.ne_of_gt (blk_lt (g := gb257) (o := .cells #[.int .i64 ((rd_T126 l0_0 x52_3).f0), .int .i64 ((rd_T126 l0_0 x52_3).f1), .slice A256_2 ((rd_T126 l0_0 x52_3).f2).length c256_2, .slice (some ad262) ((rd_T126 l0_0 x52_3).f3).length c256_3] 126 (0, 0)) (by (with_reducible repeat (first | refine blk_drewN ?_ _ | refine blk_drew ?_ | refine blk_alloc ?_ _)); exact BK257.out)) : gb263 ≠ gb257)); clear BK251; clear BK257; clear HB; have BK251 := n0_; have BK257 := n1_; have HB := n2_; have BK263 := n3_; have GW263 := n4_; have GE263 := n5_; have NB251_263 := n6_; have NB263_251 := n7_; have NB257_263 := n8_; have NB263_257 := n9_; clear n0_ n1_ n2_ n3_ n4_ n5_ n6_ n7_ n8_ n9_; clear hb hbox hg; have hnb64 := NB263_251.out; have hnc64 := NB251_263.out; have hnb65 := NB263_257.out; have hnc65 := NB257_263.out; have hcz66_0 : w63.cell? ⟨gb263, 0, none⟩ = some (.int .i64 0) := (blk_cell BK263.out 0).trans rfl; have hcz66_1 : w63.cell? ⟨gb263, 1, none⟩ = some (.int .i64 0) := (blk_cell BK263.out 1).trans rfl; have hfz66_0 := blk_frozen BK263.out 0; have hfz66_1 := blk_frozen BK263.out 1; have hnb67 := NB251_257.out; have hnc67 := NB257_251.out; have hcz68_0 : w63.cell? ⟨gb251, 0, none⟩ = some (.slice (some ad256) l0_0.length c0_0) := (blk_cell BK251.out 0).trans rfl; have hcz68_1 : w63.cell? ⟨gb251, 1, none⟩ = some (.slice A0_1 l0_1.length c0_1) := (blk_cell BK251.out 1).trans rfl; have hfz68_0 := blk_frozen BK251.out 0; have hfz68_1 := blk_frozen BK251.out 1; have hcz69_0 : w63.cell? ⟨gb257, 0, none⟩ = some (.int .i64 ((rd_T126 l0_0 x52_3).f0)) := (blk_cell BK257.out 0).trans rfl; have hcz69_1 : w63.cell? ⟨gb257, 1, none⟩ = some (.int .i64 ((rd_T126 l0_0 x52_3).f1)) := (blk_cell BK257.out 1).trans rfl; have hcz69_2 : w63.cell? ⟨gb257, 2, none⟩ = some (.slice A256_2 ((rd_T126 l0_0 x52_3).f2).length c256_2) := (blk_cell BK257.out 2).trans rfl; have hcz69_3 : w63.cell? ⟨gb257, 3, none⟩ = some (.slice (some ad262) ((rd_T126 l0_0 x52_3).f3).length c256_3) := (blk_cell BK257.out 3).trans rfl; have hfz69_0 := blk_frozen BK257.out 0; have hfz69_1 := blk_frozen BK257.out 1; have hfz69_2 := blk_frozen BK257.out 2; have hfz69_3 := blk_frozen BK257.out 3) | ((with_reducible refine gate_callee (f := 93) rfl ?_); refine goesL_ (some 102) rfl rfl Try.func93 (by kernel_rfl) rfl #[.agg #[.slice (some ad256) l0_0.length c0_0, .slice A0_1 l0_1.length c0_1], .agg #[.int .i64 ((rd_T126 l0_0 x52_3).f0), .int .i64 ((rd_T126 l0_0 x52_3).f1), .slice A256_2 ((rd_T126 l0_0 x52_3).f2).length c256_2, .slice (some ad262) ((rd_T126 l0_0 x52_3).f3).length c256_3], .agg #[.int .i64 ((rd_T136 ((rd_T126 l0_0 x52_3).f3) x95_5).f0), .int .i64 ((rd_T136 ((rd_T126 l0_0 x52_3).f3) x95_5).f1)]] rfl (by (try simp only [List.map_toArray, List.map_cons, List.map_nil]); first | done | rfl | (simp only [List.length_drop, List.length_take]; rfl)) ?_; (with_reducible refine (impl_insOk.calls k5 _ _ l0_0 _ _ l0_1 ((rd_T126 l0_0 x52_3).f0) ((rd_T126 l0_0 x52_3).f1) _ _ ((rd_T126 l0_0 x52_3).f2) _ _ ((rd_T126 l0_0 x52_3).f3) ((rd_T136 ((rd_T126 l0_0 x52_3).f3) x95_5).f0) ((rd_T136 ((rd_T126 l0_0 x52_3).f3) x95_5).f1) false _ ?side1 ?side2 ?side3 ?side4 ?side5 ?side6 ?side7 ?side8 A53.out).mono ?_); (case side1 => exact Kd.C_below HR0_0.out (by repeat (first | (with_reducible first | exact HB.out | apply below_alloc | apply pw_below_drewN | apply below_drew1 | refine below_set ?_ GE251.out | refine below_set ?_ GE257.out | refine below_set ?_ GE263.out) | exact HB.out))); (case side2 => exact HC0_0.out); (case side3 => exact Kd.C_below HR0_1.out (by repeat (first | (with_reducible first | exact HB.out | apply below_alloc | apply pw_below_drewN | apply below_drew1 | refine below_set ?_ GE251.out | refine below_set ?_ GE257.out | refine below_set ?_ GE263.out) | exact HB.out))); (case side4 => exact HC0_1.out); (case side5 => exact Kd.C_below HR256_2.out (by repeat (first | (with_reducible first | exact HB.out | apply below_alloc | apply pw_below_drewN | apply below_drew1 | refine below_set ?_ GE251.out | refine below_set ?_ GE257.out | refine below_set ?_ GE263.out) | exact HB.out))); (case side6 => exact HC256_2.out); (case side7 => exact Kd.C_below HR256_3.out (by repeat (first | (with_reducible first | exact HB.out | apply below_alloc | apply pw_below_drewN | apply below_drew1 | refine below_set ?_ GE251.out | refine below_set ?_ GE257.out | refine below_set ?_ GE263.out) | exact HB.out))); (case side8 => exact HC256_3.out); rintro e w70 ⟨rfl, hb⟩; refine ⟨_, rfl, ?_⟩; have n0_ := Aside0.mk (blk_below (g := gb251) (o := .cells #[.slice (some ad256) l0_0.length c0_0, .slice A0_1 l0_1.length c0_1] 83 (0, 0)) (by (with_reducible repeat (first | refine blk_drewN ?_ _ | refine blk_drew ?_ | refine blk_alloc ?_ _)); refine blk_far ?_ NB251_263.out _; (with_reducible repeat (first | refine blk_drewN ?_ _ | refine blk_drew ?_ | refine blk_alloc ?_ _)); refine blk_far ?_ NB251_263.out _; (with_reducible repeat (first | refine blk_drewN ?_ _ | refine blk_drew ?_ | refine blk_alloc ?_ _)); exact BK251.out) hb); have n1_ := Aside0.mk (blk_below (g := gb257) (o := .cells #[.int .i64 ((rd_T126 l0_0 x52_3).f0), .int .i64 ((rd_T126 l0_0 x52_3).f1), .slice A256_2 ((rd_T126 l0_0 x52_3).f2).length c256_2, .slice (some ad262) ((rd_T126 l0_0 x52_3).f3).length c256_3] 126 (0, 0)) (by (with_reducible repeat (first | refine blk_drewN ?_ _ | refine blk_drew ?_ | refine blk_alloc ?_ _)); refine blk_far ?_ NB257_263.out _; (with_reducible repeat (first | refine blk_drewN ?_ _ | refine blk_drew ?_ | refine blk_alloc ?_ _)); refine blk_far ?_ NB257_263.out _; (with_reducible repeat (first | refine blk_drewN ?_ _ | refine blk_drew ?_ | refine blk_alloc ?_ _)); exact BK257.out) hb); have n2_ := Aside0.mk (blk_below (g := gb263) (o := .cells #[.int .i64 ((rd_T136 ((rd_T126 l0_0 x52_3).f3) x95_5).f0), .int .i64 ((rd_T136 ((rd_T126 l0_0 x52_3).f3) x95_5).f1)] 136 (0, 0)) (by (with_reducible repeat (first | refine blk_drewN ?_ _ | refine blk_drew ?_ | refine blk_alloc ?_ _)); refine blk_put (cs := #[.int .i64 ((rd_T136 ((rd_T126 l0_0 x52_3).f3) x95_5).f0), .int .i64 0]) ?_ 1 _ rfl; (with_reducible repeat (first | refine blk_drewN ?_ _ | refine blk_drew ?_ | refine blk_alloc ?_ _)); refine blk_put (cs := #[.int .i64 0, .int .i64 0]) ?_ 0 _ rfl; (with_reducible repeat (first | refine blk_drewN ?_ _ | refine blk_drew ?_ | refine blk_alloc ?_ _)); exact BK263.out) hb); have n3_ := Aside0.mk (below_step (by repeat (first | (with_reducible first | exact HB.out | apply below_alloc | apply pw_below_drewN | apply below_drew1 | refine below_set ?_ GE251.out | refine below_set ?_ GE257.out | refine below_set ?_ GE263.out) | exact HB.out)) hb); clear BK251; clear BK257; clear BK263; clear HB; have BK251 := n0_; have BK257 := n1_; have BK263 := n2_; have HB := n3_; clear n0_ n1_ n2_ n3_; (try clear hb); (try clear hb2); (try clear hk); (try clear hi)))
                                          go_ret
                                          exact ⟨by first | rfl | (simp [errW_none, errW_some] <;> rfl) | (simp [*, errW_none, errW_some] <;> rfl), by repeat (first | (with_reducible first | exact HB.out | apply below_alloc | apply pw_below_drewN | apply below_drew1 | refine below_set ?_ GE251.out | refine below_set ?_ GE257.out | refine below_set ?_ GE263.out) | exact HB.out)⟩
                                      · rw [if_neg c52] at H
                                        exact absurd H (by simp)
                                    · rw [if_neg c51] at H
                                      exact absurd H (by simp)
                                  · rw [if_neg c50] at H
                                    have c50b0 : decide (x95_5 < (((rd_T126 l0_0 x52_3).f3).length : Int)) = false := decide_eq_false c50
                                    clear c50
                                    have H' := Aside0.mk H
                                    clear H
                                    go_wp2
                                    go_roundg k5
                                    case measure => have := HJ1.out; have := HK2.out; have := HK3.out; have := HJ22.out; have := HK5.out; omega
                                    case rel => exact ⟨(wrap64 (x52_3 + 1)), (by first | rfl | (simp; done) | (simp [*]; done)), H', ⟨by have := HJ1.out; have := HK2.out; have := HK3.out; have := HJ22.out; have := HK5.out; omega⟩, ⟨by (with_reducible repeat (first | refine blk_drewN ?_ _ | refine blk_drew ?_ | refine blk_alloc ?_ _)); exact BK251.out⟩, ⟨by repeat (first | (with_reducible first | exact HB.out | apply below_alloc | apply pw_below_drewN | apply below_drew1 | refine below_set ?_ GE251.out | refine below_set ?_ GE257.out) | exact HB.out)⟩⟩
                      · rw [if_neg c22] at H
                        exact absurd H (by simp)
                    · rw [if_neg c21] at H
                      exact absurd H (by simp)
                  · rw [if_neg c20] at H
                    have c20b0 : decide (x52_3 < (l0_0.length : Int)) = false := decide_eq_false c20
                    clear c20
                    obtain rfl := Option.some.inj H
                    go_wp2
                    go_ret
                    exact ⟨by first | rfl | (simp [errW_none, errW_some] <;> rfl) | (simp [*, errW_none, errW_some] <;> rfl), by repeat (first | (with_reducible first | exact HB.out | apply below_alloc | apply pw_below_drewN | apply below_drew1 | refine below_set ?_ GE251.out) | exact HB.out)⟩

end Go.Proofs.Ytpfbhjnlihhpkaa.PFnExactModuleOk
