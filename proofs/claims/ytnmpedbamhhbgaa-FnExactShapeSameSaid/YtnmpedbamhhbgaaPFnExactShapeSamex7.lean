-- written for this claim by a program of this session's (a patched scratch copy of the kit's print)
import Derived.Test.YtnmpedbamhhbgaaPFnExactShapeSamex0
import Derived.Test.YtnmpedbamhhbgaaPFnExactShapeSamex2
import Derived.Test.YtnmpedbamhhbgaaPFnExactShapeSamex3
import Derived.Test.YtnmpedbamhhbgaaPFnExactShapeSamex4
import Derived.Test.YtnmpedbamhhbgaaPFnExactShapeSamex6
namespace Go.Proofs.Ytnmpedbamhhbgaa.PFnExactShapeSame
open Go.RowKit Go.Proofs.YtnmpedbamhhbgaaW.PrintWords Go.Proofs.YtnmpedbamhhbgaaW.PrintLast Go.Proofs.YtnmpedbamhhbgaaW.PrintMore
attribute [local go_sem] max2_int min2_int max_two min_two max_three min_three max_four min_four   -- for this text's walks alone
set_option linter.unusedVariables false
set_option linter.unusedSimpArgs false

/-! ### laws_FnExactShapeSame: function 3 -/
def laws_FnExactShapeSame.f (k : Nat) (l0_0 : List (S50)) (l0_1 : List (S48)) (l1_0 : List (S50)) (l1_1 : List (S48)) : Option (Bool) := (laws_szShape.f k l0_0 l0_1 1048576).bind fun t187 => (if t187 < 0 then (some true) else ((laws_szShape.f k l1_0 l1_1 t187).bind fun t188 => (if t188 < 0 then (some true) else ((laws_toShape.f k l0_0 l0_1).bind fun bt189 => ((laws_toShape.f k l1_0 l1_1).bind fun bt195 => ((spec_ShapeSame.f k bt189.1 bt189.2 bt195.1 bt195.2).bind fun t201 => ((laws_toShape.f k l0_0 l0_1).bind fun bt202 => ((laws_toShape.f k l1_0 l1_1).bind fun bt209 => ((impl_ShapeSame.f k bt202.1 bt202.2 bt209.1 bt209.2).bind fun t216 => (if (t216 != t201) = true then (some false) else ((laws_toShape.f k l0_0 l0_1).bind fun bt217 => ((laws_eqShape.f k bt202.1 bt202.2 bt217.1 bt217.2).bind fun t223 => (if t223 = true then ((laws_toShape.f k l1_0 l1_1).bind fun bt224 => ((laws_eqShape.f k bt209.1 bt209.2 bt224.1 bt224.2).bind fun t230 => (if t230 = true then (some true) else (some false)))) else (some false))))))))))))))
theorem laws_FnExactShapeSame.mono : ∀ a0 a1 a2 a3 k, LeO (laws_FnExactShapeSame.f k a0 a1 a2 a3) (laws_FnExactShapeSame.f (k + 1) a0 a1 a2 a3) := by
  intro a0 a1 a2 a3 k
  unfold laws_FnExactShapeSame.f
  repeat' first
      | (with_reducible exact impl_ShapeSame.mono _ _ _ _ _)
      | (with_reducible exact laws_eqShape.mono _ _ _ _ _)
      | (with_reducible exact laws_szShape.mono _ _ _ _)
      | (with_reducible exact laws_toShape.mono _ _ _)
      | (with_reducible exact spec_ShapeSame.mono _ _ _ _ _)
      | (with_reducible exact LeO.refl _)
      | (with_reducible exact LeO.none _)
      | (with_reducible refine LeO.ite ?_ ?_)
      | (with_reducible refine LeO.bind ?_ (fun _ => ?_))
      | exact impl_ShapeSame.mono _ _ _ _ _
      | exact laws_eqShape.mono _ _ _ _ _
      | exact laws_szShape.mono _ _ _ _
      | exact laws_toShape.mono _ _ _
      | exact spec_ShapeSame.mono _ _ _ _ _
      | exact LeO.none _
      | refine LeO.ite ?_ ?_
      | refine LeO.bind ?_ (fun _ => ?_)
set_option maxHeartbeats 8000000 in
set_option maxRecDepth 100000 in
theorem laws_FnExactShapeSame.calls (k : Nat) (A0_0 : Option Addr) (c0_0 : Nat) (l0_0 : List (S50)) (A0_1 : Option Addr) (c0_1 : Nat) (l0_1 : List (S48)) (A1_0 : Option Addr) (c1_0 : Nat) (l1_0 : List (S50)) (A1_1 : Option Addr) (c1_1 : Nat) (l1_1 : List (S48)) (r : Bool) (w : World) (hr0_0 : Kd.C k50 w A0_0 l0_0.length l0_0) (hc0_0 : l0_0.length ≤ c0_0) (hr0_1 : Kd.C k48 w A0_1 l0_1.length l0_1) (hc0_1 : l0_1.length ≤ c0_1) (hr1_0 : Kd.C k50 w A1_0 l1_0.length l1_0) (hc1_0 : l1_0.length ≤ c1_0) (hr1_1 : Kd.C k48 w A1_1 l1_1.length l1_1) (hc1_1 : l1_1.length ≤ c1_1) (h : laws_FnExactShapeSame.f k l0_0 l0_1 l1_0 l1_1 = some r) :
    Calls Try.prog 3 #[.agg #[.slice A0_0 l0_0.length c0_0, .slice A0_1 l0_1.length c0_1], .agg #[.slice A1_0 l1_0.length c1_0, .slice A1_1 l1_1.length c1_1]] w fun e w' => e = .returned (.bool r) ∧ Below w.heap.size w w' := by
  have hu25 := Try.underlying25
  have hu31 := Try.underlying31
  have HR0_0 := Aside0.mk hr0_0
  have HC0_0 := Aside0.mk hc0_0
  clear hr0_0 hc0_0
  have HR0_1 := Aside0.mk hr0_1
  have HC0_1 := Aside0.mk hc0_1
  clear hr0_1 hc0_1
  have HR1_0 := Aside0.mk hr1_0
  have HC1_0 := Aside0.mk hc1_0
  clear hr1_0 hc1_0
  have HR1_1 := Aside0.mk hr1_1
  have HC1_1 := Aside0.mk hc1_1
  clear hr1_1 hc1_1
  have HB := Aside0.mk (Below.refl w.heap.size w)
  have H : ((laws_szShape.f k l0_0 l0_1 1048576).bind fun t187 => (if t187 < 0 then (some true) else ((laws_szShape.f k l1_0 l1_1 t187).bind fun t188 => (if t188 < 0 then (some true) else ((laws_toShape.f k l0_0 l0_1).bind fun bt189 => ((laws_toShape.f k l1_0 l1_1).bind fun bt195 => ((spec_ShapeSame.f k bt189.1 bt189.2 bt195.1 bt195.2).bind fun t201 => ((laws_toShape.f k l0_0 l0_1).bind fun bt202 => ((laws_toShape.f k l1_0 l1_1).bind fun bt209 => ((impl_ShapeSame.f k bt202.1 bt202.2 bt209.1 bt209.2).bind fun t216 => (if (t216 != t201) = true then (some false) else ((laws_toShape.f k l0_0 l0_1).bind fun bt217 => ((laws_eqShape.f k bt202.1 bt202.2 bt217.1 bt217.2).bind fun t223 => (if t223 = true then ((laws_toShape.f k l1_0 l1_1).bind fun bt224 => ((laws_eqShape.f k bt209.1 bt209.2 bt224.1 bt224.2).bind fun t230 => (if t230 = true then (some true) else (some false)))) else (some false))))))))))))))) = some r := h
  clear h
  replace H := Option.bind_eq_some_iff.mp H
  obtain ⟨t187, A30, H⟩ := H
  replace H : (if t187 < 0 then (some true) else ((laws_szShape.f k l1_0 l1_1 t187).bind fun t188 => (if t188 < 0 then (some true) else ((laws_toShape.f k l0_0 l0_1).bind fun bt189 => ((laws_toShape.f k l1_0 l1_1).bind fun bt195 => ((spec_ShapeSame.f k bt189.1 bt189.2 bt195.1 bt195.2).bind fun t201 => ((laws_toShape.f k l0_0 l0_1).bind fun bt202 => ((laws_toShape.f k l1_0 l1_1).bind fun bt209 => ((impl_ShapeSame.f k bt202.1 bt202.2 bt209.1 bt209.2).bind fun t216 => (if (t216 != t201) = true then (some false) else ((laws_toShape.f k l0_0 l0_1).bind fun bt217 => ((laws_eqShape.f k bt202.1 bt202.2 bt217.1 bt217.2).bind fun t223 => (if t223 = true then ((laws_toShape.f k l1_0 l1_1).bind fun bt224 => ((laws_eqShape.f k bt209.1 bt209.2 bt224.1 bt224.2).bind fun t230 => (if t230 = true then (some true) else (some false)))) else (some false)))))))))))))) = some r := H
  have A3 := Aside0.mk A30
  clear A30
  by_cases c4 : t187 < 0
  · rw [if_pos c4] at H
    have c4b0 : decide (t187 < 0) = true := decide_eq_true c4
    clear c4
    obtain rfl := Option.some.inj H
    go_enter Try.func3, Try.ntmps3
    go_wp2_with (first | ((with_reducible refine gate_dst (N := 2) rfl ?_); refine box_event ?hg (N := 2) ?hd (cs := #[.slice A0_0 l0_0.length c0_0, .slice A0_1 l0_1.length c0_1]) (t := 25) ?hr ?_; (case hd => rfl); (case hg => rfl); (case hr => first | (go_simp; done) | (go_simp; rfl)); intro gb185 hg w5 hbox hb; have n0_ := Aside0.mk (below_step (by repeat (first | (with_reducible first | exact HB.out) | exact HB.out)) hb); have n1_ := Aside0.mk (hbox); have n2_ := Aside0.mk ((by rw [hg]; exact (below_size (by repeat (first | (with_reducible first | exact HB.out) | exact HB.out))) : w.heap.size ≤ gb185)); have n3_ := Aside0.mk ((by rw [hg]; exact (below_size (by repeat (first | (with_reducible first | exact HB.out) | exact HB.out))) : w.heap.size ≤ gb185)); clear HB; have HB := n0_; have BK185 := n1_; have GW185 := n2_; have GE185 := n3_; clear n0_ n1_ n2_ n3_; clear hb hbox hg) | ((with_reducible refine gate_dst (N := 3) rfl ?_); refine box_event ?hg (N := 3) ?hd (cs := #[.slice A1_0 l1_0.length c1_0, .slice A1_1 l1_1.length c1_1]) (t := 25) ?hr ?_; (case hd => rfl); (case hg => rfl); (case hr => first | (go_simp; done) | (go_simp; rfl)); intro gb186 hg w6 hbox hb; have n0_ := Aside0.mk (blk_below (g := gb185) (o := .cells #[.slice A0_0 l0_0.length c0_0, .slice A0_1 l0_1.length c0_1] 25 (0, 0)) (by exact BK185.out) hb); have n1_ := Aside0.mk (below_step (by repeat (first | (with_reducible first | exact HB.out | refine below_set ?_ GE185.out) | exact HB.out)) hb); have n2_ := Aside0.mk (hbox); have n3_ := Aside0.mk ((by rw [hg]; exact (below_size (by repeat (first | (with_reducible first | exact HB.out | refine below_set ?_ GE185.out) | exact HB.out))) : w.heap.size ≤ gb186)); have n4_ := Aside0.mk ((by rw [hg]; exact (below_size (by repeat (first | (with_reducible first | exact HB.out | refine below_set ?_ GE185.out) | exact HB.out))) : w.heap.size ≤ gb186)); have n5_ := Aside0.mk ((by rw [hg]; exact Nat.ne_of_lt (blk_lt (g := gb185) (o := .cells #[.slice A0_0 l0_0.length c0_0, .slice A0_1 l0_1.length c0_1] 25 (0, 0)) (by exact BK185.out)) : gb185 ≠ gb186)); have n6_ := Aside0.mk ((by rw [hg]; exact Nat.ne_of_gt (blk_lt (g := gb185) (o := .cells #[.slice A0_0 l0_0.length c0_0, .slice A0_1 l0_1.length c0_1] 25 (0, 0)) (by exact BK185.out)) : gb186 ≠ gb185)); clear BK185; clear HB; have BK185 := n0_; have HB := n1_; have BK186 := n2_; have GW186 := n3_; have GE186 := n4_; have NB185_186 := n5_; have NB186_185 := n6_; clear n0_ n1_ n2_ n3_ n4_ n5_ n6_; clear hb hbox hg; have hnb7 := NB185_186.out; have hnc7 := NB186_185.out; have hcz8_0 : w6.cell? ⟨gb185, 0, none⟩ = some (.slice A0_0 l0_0.length c0_0) := (blk_cell BK185.out 0).trans rfl; have hcz8_1 : w6.cell? ⟨gb185, 1, none⟩ = some (.slice A0_1 l0_1.length c0_1) := (blk_cell BK185.out 1).trans rfl; have hfz8_0 := blk_frozen BK185.out 0; have hfz8_1 := blk_frozen BK185.out 1) | ((with_reducible refine gate_callee (f := 4) rfl ?_); refine goesL_ (some 12) rfl rfl Try.func4 (by kernel_rfl) rfl #[.agg #[.slice A0_0 l0_0.length c0_0, .slice A0_1 l0_1.length c0_1], .int .i64 1048576] rfl (by (try simp only [List.map_toArray, List.map_cons, List.map_nil]); first | done | rfl | (simp only [List.length_drop, List.length_take]; rfl)) ?_; (with_reducible refine (laws_szShape.calls k _ _ l0_0 _ _ l0_1 1048576 t187 _ ?side1 ?side2 ?side3 ?side4 A3.out).mono ?_); (case side1 => repeat (first | exact (Kd.C_below HR0_0.out HB.out) | (with_reducible refine Kd.C_alloc ?_ _) | (with_reducible refine Kd.C_drewN ?_ _) | (with_reducible refine Kd.C_drew ?_))); (case side2 => exact HC0_0.out); (case side3 => repeat (first | exact (Kd.C_below HR0_1.out HB.out) | (with_reducible refine Kd.C_alloc ?_ _) | (with_reducible refine Kd.C_drewN ?_ _) | (with_reducible refine Kd.C_drew ?_))); (case side4 => exact HC0_1.out); rintro e w9 ⟨rfl, hb⟩; refine ⟨_, rfl, ?_⟩; have n0_ := Aside0.mk (blk_below (g := gb185) (o := .cells #[.slice A0_0 l0_0.length c0_0, .slice A0_1 l0_1.length c0_1] 25 (0, 0)) (by exact BK185.out) hb); have n1_ := Aside0.mk (blk_below (g := gb186) (o := .cells #[.slice A1_0 l1_0.length c1_0, .slice A1_1 l1_1.length c1_1] 25 (0, 0)) (by exact BK186.out) hb); have n2_ := Aside0.mk (below_step (by repeat (first | (with_reducible first | exact HB.out | refine below_set ?_ GE185.out | refine below_set ?_ GE186.out) | exact HB.out)) hb); clear BK185; clear BK186; clear HB; have BK185 := n0_; have BK186 := n1_; have HB := n2_; clear n0_ n1_ n2_; (try clear hb); (try clear hb2); (try clear hk); (try clear hi)))
    go_ret
    exact ⟨by first | rfl | (simp [errW_none, errW_some] <;> rfl) | (simp [*, errW_none, errW_some] <;> rfl), by repeat (first | (with_reducible first | exact HB.out | refine below_set ?_ GE185.out | refine below_set ?_ GE186.out) | exact HB.out)⟩
  · rw [if_neg c4] at H
    have c4b0 : decide (t187 < 0) = false := decide_eq_false c4
    clear c4
    replace H := Option.bind_eq_some_iff.mp H
    obtain ⟨t188, A100, H⟩ := H
    replace H : (if t188 < 0 then (some true) else ((laws_toShape.f k l0_0 l0_1).bind fun bt189 => ((laws_toShape.f k l1_0 l1_1).bind fun bt195 => ((spec_ShapeSame.f k bt189.1 bt189.2 bt195.1 bt195.2).bind fun t201 => ((laws_toShape.f k l0_0 l0_1).bind fun bt202 => ((laws_toShape.f k l1_0 l1_1).bind fun bt209 => ((impl_ShapeSame.f k bt202.1 bt202.2 bt209.1 bt209.2).bind fun t216 => (if (t216 != t201) = true then (some false) else ((laws_toShape.f k l0_0 l0_1).bind fun bt217 => ((laws_eqShape.f k bt202.1 bt202.2 bt217.1 bt217.2).bind fun t223 => (if t223 = true then ((laws_toShape.f k l1_0 l1_1).bind fun bt224 => ((laws_eqShape.f k bt209.1 bt209.2 bt224.1 bt224.2).bind fun t230 => (if t230 = true then (some true) else (some false)))) else (some false)))))))))))) = some r := H
    have A10 := Aside0.mk A100
    clear A100
    by_cases c11 : t188 < 0
    · rw [if_pos c11] at H
      have c11b0 : decide (t188 < 0) = true := decide_eq_true c11
      clear c11
      obtain rfl := Option.some.inj H
      go_enter Try.func3, Try.ntmps3
      go_wp2_with (first | ((with_reducible refine gate_dst (N := 2) rfl ?_); refine box_event ?hg (N := 2) ?hd (cs := #[.slice A0_0 l0_0.length c0_0, .slice A0_1 l0_1.length c0_1]) (t := 25) ?hr ?_; (case hd => rfl); (case hg => rfl); (case hr => first | (go_simp; done) | (go_simp; rfl)); intro gb185 hg w12 hbox hb; have n0_ := Aside0.mk (below_step (by repeat (first | (with_reducible first | exact HB.out) | exact HB.out)) hb); have n1_ := Aside0.mk (hbox); have n2_ := Aside0.mk ((by rw [hg]; exact (below_size (by repeat (first | (with_reducible first | exact HB.out) | exact HB.out))) : w.heap.size ≤ gb185)); have n3_ := Aside0.mk ((by rw [hg]; exact (below_size (by repeat (first | (with_reducible first | exact HB.out) | exact HB.out))) : w.heap.size ≤ gb185)); clear HB; have HB := n0_; have BK185 := n1_; have GW185 := n2_; have GE185 := n3_; clear n0_ n1_ n2_ n3_; clear hb hbox hg) | ((with_reducible refine gate_dst (N := 3) rfl ?_); refine box_event ?hg (N := 3) ?hd (cs := #[.slice A1_0 l1_0.length c1_0, .slice A1_1 l1_1.length c1_1]) (t := 25) ?hr ?_; (case hd => rfl); (case hg => rfl); (case hr => first | (go_simp; done) | (go_simp; rfl)); intro gb186 hg w13 hbox hb; have n0_ := Aside0.mk (blk_below (g := gb185) (o := .cells #[.slice A0_0 l0_0.length c0_0, .slice A0_1 l0_1.length c0_1] 25 (0, 0)) (by exact BK185.out) hb); have n1_ := Aside0.mk (below_step (by repeat (first | (with_reducible first | exact HB.out | refine below_set ?_ GE185.out) | exact HB.out)) hb); have n2_ := Aside0.mk (hbox); have n3_ := Aside0.mk ((by rw [hg]; exact (below_size (by repeat (first | (with_reducible first | exact HB.out | refine below_set ?_ GE185.out) | exact HB.out))) : w.heap.size ≤ gb186)); have n4_ := Aside0.mk ((by rw [hg]; exact (below_size (by repeat (first | (with_reducible first | exact HB.out | refine below_set ?_ GE185.out) | exact HB.out))) : w.heap.size ≤ gb186)); have n5_ := Aside0.mk ((by rw [hg]; exact Nat.ne_of_lt (blk_lt (g := gb185) (o := .cells #[.slice A0_0 l0_0.length c0_0, .slice A0_1 l0_1.length c0_1] 25 (0, 0)) (by exact BK185.out)) : gb185 ≠ gb186)); have n6_ := Aside0.mk ((by rw [hg]; exact Nat.ne_of_gt (blk_lt (g := gb185) (o := .cells #[.slice A0_0 l0_0.length c0_0, .slice A0_1 l0_1.length c0_1] 25 (0, 0)) (by exact BK185.out)) : gb186 ≠ gb185)); clear BK185; clear HB; have BK185 := n0_; have HB := n1_; have BK186 := n2_; have GW186 := n3_; have GE186 := n4_; have NB185_186 := n5_; have NB186_185 := n6_; clear n0_ n1_ n2_ n3_ n4_ n5_ n6_; clear hb hbox hg; have hnb14 := NB185_186.out; have hnc14 := NB186_185.out; have hcz15_0 : w13.cell? ⟨gb185, 0, none⟩ = some (.slice A0_0 l0_0.length c0_0) := (blk_cell BK185.out 0).trans rfl; have hcz15_1 : w13.cell? ⟨gb185, 1, none⟩ = some (.slice A0_1 l0_1.length c0_1) := (blk_cell BK185.out 1).trans rfl; have hfz15_0 := blk_frozen BK185.out 0; have hfz15_1 := blk_frozen BK185.out 1) | ((with_reducible refine gate_callee (f := 4) rfl ?_); refine goesL_ (some 12) rfl rfl Try.func4 (by kernel_rfl) rfl #[.agg #[.slice A0_0 l0_0.length c0_0, .slice A0_1 l0_1.length c0_1], .int .i64 1048576] rfl (by (try simp only [List.map_toArray, List.map_cons, List.map_nil]); first | done | rfl | (simp only [List.length_drop, List.length_take]; rfl)) ?_; (with_reducible refine (laws_szShape.calls k _ _ l0_0 _ _ l0_1 1048576 t187 _ ?side1 ?side2 ?side3 ?side4 A3.out).mono ?_); (case side1 => repeat (first | exact (Kd.C_below HR0_0.out HB.out) | (with_reducible refine Kd.C_alloc ?_ _) | (with_reducible refine Kd.C_drewN ?_ _) | (with_reducible refine Kd.C_drew ?_))); (case side2 => exact HC0_0.out); (case side3 => repeat (first | exact (Kd.C_below HR0_1.out HB.out) | (with_reducible refine Kd.C_alloc ?_ _) | (with_reducible refine Kd.C_drewN ?_ _) | (with_reducible refine Kd.C_drew ?_))); (case side4 => exact HC0_1.out); rintro e w16 ⟨rfl, hb⟩; refine ⟨_, rfl, ?_⟩; have n0_ := Aside0.mk (blk_below (g := gb185) (o := .cells #[.slice A0_0 l0_0.length c0_0, .slice A0_1 l0_1.length c0_1] 25 (0, 0)) (by exact BK185.out) hb); have n1_ := Aside0.mk (blk_below (g := gb186) (o := .cells #[.slice A1_0 l1_0.length c1_0, .slice A1_1 l1_1.length c1_1] 25 (0, 0)) (by exact BK186.out) hb); have n2_ := Aside0.mk (below_step (by repeat (first | (with_reducible first | exact HB.out | refine below_set ?_ GE185.out | refine below_set ?_ GE186.out) | exact HB.out)) hb); clear BK185; clear BK186; clear HB; have BK185 := n0_; have BK186 := n1_; have HB := n2_; clear n0_ n1_ n2_; (try clear hb); (try clear hb2); (try clear hk); (try clear hi); have hcz17_0 : w16.cell? ⟨gb186, 0, none⟩ = some (.slice A1_0 l1_0.length c1_0) := (blk_cell BK186.out 0).trans rfl; have hcz17_1 : w16.cell? ⟨gb186, 1, none⟩ = some (.slice A1_1 l1_1.length c1_1) := (blk_cell BK186.out 1).trans rfl; have hfz17_0 := blk_frozen BK186.out 0; have hfz17_1 := blk_frozen BK186.out 1) | ((with_reducible refine gate_callee (f := 4) rfl ?_); refine goesL_ (some 17) rfl rfl Try.func4 (by kernel_rfl) rfl #[.agg #[.slice A1_0 l1_0.length c1_0, .slice A1_1 l1_1.length c1_1], .int .i64 t187] rfl (by (try simp only [List.map_toArray, List.map_cons, List.map_nil]); first | done | rfl | (simp only [List.length_drop, List.length_take]; rfl)) ?_; (with_reducible refine (laws_szShape.calls k _ _ l1_0 _ _ l1_1 t187 t188 _ ?side1 ?side2 ?side3 ?side4 A10.out).mono ?_); (case side1 => repeat (first | exact (Kd.C_below HR1_0.out HB.out) | (with_reducible refine Kd.C_alloc ?_ _) | (with_reducible refine Kd.C_drewN ?_ _) | (with_reducible refine Kd.C_drew ?_))); (case side2 => exact HC1_0.out); (case side3 => repeat (first | exact (Kd.C_below HR1_1.out HB.out) | (with_reducible refine Kd.C_alloc ?_ _) | (with_reducible refine Kd.C_drewN ?_ _) | (with_reducible refine Kd.C_drew ?_))); (case side4 => exact HC1_1.out); rintro e w18 ⟨rfl, hb⟩; refine ⟨_, rfl, ?_⟩; have n0_ := Aside0.mk (blk_below (g := gb185) (o := .cells #[.slice A0_0 l0_0.length c0_0, .slice A0_1 l0_1.length c0_1] 25 (0, 0)) (by exact BK185.out) hb); have n1_ := Aside0.mk (blk_below (g := gb186) (o := .cells #[.slice A1_0 l1_0.length c1_0, .slice A1_1 l1_1.length c1_1] 25 (0, 0)) (by exact BK186.out) hb); have n2_ := Aside0.mk (below_step (by repeat (first | (with_reducible first | exact HB.out | refine below_set ?_ GE185.out | refine below_set ?_ GE186.out) | exact HB.out)) hb); clear BK185; clear BK186; clear HB; have BK185 := n0_; have BK186 := n1_; have HB := n2_; clear n0_ n1_ n2_; (try clear hb); (try clear hb2); (try clear hk); (try clear hi)))
      go_ret
      exact ⟨by first | rfl | (simp [errW_none, errW_some] <;> rfl) | (simp [*, errW_none, errW_some] <;> rfl), by repeat (first | (with_reducible first | exact HB.out | refine below_set ?_ GE185.out | refine below_set ?_ GE186.out) | exact HB.out)⟩
    · rw [if_neg c11] at H
      have c11b0 : decide (t188 < 0) = false := decide_eq_false c11
      clear c11
      replace H := Option.bind_eq_some_iff.mp H
      obtain ⟨⟨t189, t192⟩, A190, H⟩ := H
      replace H : ((laws_toShape.f k l1_0 l1_1).bind fun bt195 => ((spec_ShapeSame.f k t189 t192 bt195.1 bt195.2).bind fun t201 => ((laws_toShape.f k l0_0 l0_1).bind fun bt202 => ((laws_toShape.f k l1_0 l1_1).bind fun bt209 => ((impl_ShapeSame.f k bt202.1 bt202.2 bt209.1 bt209.2).bind fun t216 => (if (t216 != t201) = true then (some false) else ((laws_toShape.f k l0_0 l0_1).bind fun bt217 => ((laws_eqShape.f k bt202.1 bt202.2 bt217.1 bt217.2).bind fun t223 => (if t223 = true then ((laws_toShape.f k l1_0 l1_1).bind fun bt224 => ((laws_eqShape.f k bt209.1 bt209.2 bt224.1 bt224.2).bind fun t230 => (if t230 = true then (some true) else (some false)))) else (some false)))))))))) = some r := H
      have A19 := Aside0.mk A190
      clear A190
      replace H := Option.bind_eq_some_iff.mp H
      obtain ⟨⟨t195, t198⟩, A200, H⟩ := H
      replace H : ((spec_ShapeSame.f k t189 t192 t195 t198).bind fun t201 => ((laws_toShape.f k l0_0 l0_1).bind fun bt202 => ((laws_toShape.f k l1_0 l1_1).bind fun bt209 => ((impl_ShapeSame.f k bt202.1 bt202.2 bt209.1 bt209.2).bind fun t216 => (if (t216 != t201) = true then (some false) else ((laws_toShape.f k l0_0 l0_1).bind fun bt217 => ((laws_eqShape.f k bt202.1 bt202.2 bt217.1 bt217.2).bind fun t223 => (if t223 = true then ((laws_toShape.f k l1_0 l1_1).bind fun bt224 => ((laws_eqShape.f k bt209.1 bt209.2 bt224.1 bt224.2).bind fun t230 => (if t230 = true then (some true) else (some false)))) else (some false))))))))) = some r := H
      have A20 := Aside0.mk A200
      clear A200
      replace H := Option.bind_eq_some_iff.mp H
      obtain ⟨t201, A210, H⟩ := H
      replace H : ((laws_toShape.f k l0_0 l0_1).bind fun bt202 => ((laws_toShape.f k l1_0 l1_1).bind fun bt209 => ((impl_ShapeSame.f k bt202.1 bt202.2 bt209.1 bt209.2).bind fun t216 => (if (t216 != t201) = true then (some false) else ((laws_toShape.f k l0_0 l0_1).bind fun bt217 => ((laws_eqShape.f k bt202.1 bt202.2 bt217.1 bt217.2).bind fun t223 => (if t223 = true then ((laws_toShape.f k l1_0 l1_1).bind fun bt224 => ((laws_eqShape.f k bt209.1 bt209.2 bt224.1 bt224.2).bind fun t230 => (if t230 = true then (some true) else (some false)))) else (some false)))))))) = some r := H
      have A21 := Aside0.mk A210
      clear A210
      replace H := Option.bind_eq_some_iff.mp H
      obtain ⟨⟨t202, t205⟩, A220, H⟩ := H
      replace H : ((laws_toShape.f k l1_0 l1_1).bind fun bt209 => ((impl_ShapeSame.f k t202 t205 bt209.1 bt209.2).bind fun t216 => (if (t216 != t201) = true then (some false) else ((laws_toShape.f k l0_0 l0_1).bind fun bt217 => ((laws_eqShape.f k t202 t205 bt217.1 bt217.2).bind fun t223 => (if t223 = true then ((laws_toShape.f k l1_0 l1_1).bind fun bt224 => ((laws_eqShape.f k bt209.1 bt209.2 bt224.1 bt224.2).bind fun t230 => (if t230 = true then (some true) else (some false)))) else (some false))))))) = some r := H
      have A22 := Aside0.mk A220
      clear A220
      replace H := Option.bind_eq_some_iff.mp H
      obtain ⟨⟨t209, t212⟩, A230, H⟩ := H
      replace H : ((impl_ShapeSame.f k t202 t205 t209 t212).bind fun t216 => (if (t216 != t201) = true then (some false) else ((laws_toShape.f k l0_0 l0_1).bind fun bt217 => ((laws_eqShape.f k t202 t205 bt217.1 bt217.2).bind fun t223 => (if t223 = true then ((laws_toShape.f k l1_0 l1_1).bind fun bt224 => ((laws_eqShape.f k t209 t212 bt224.1 bt224.2).bind fun t230 => (if t230 = true then (some true) else (some false)))) else (some false)))))) = some r := H
      have A23 := Aside0.mk A230
      clear A230
      replace H := Option.bind_eq_some_iff.mp H
      obtain ⟨t216, A240, H⟩ := H
      replace H : (if (t216 != t201) = true then (some false) else ((laws_toShape.f k l0_0 l0_1).bind fun bt217 => ((laws_eqShape.f k t202 t205 bt217.1 bt217.2).bind fun t223 => (if t223 = true then ((laws_toShape.f k l1_0 l1_1).bind fun bt224 => ((laws_eqShape.f k t209 t212 bt224.1 bt224.2).bind fun t230 => (if t230 = true then (some true) else (some false)))) else (some false))))) = some r := H
      have A24 := Aside0.mk A240
      clear A240
      by_cases c25 : (t216 != t201) = true
      · rw [if_pos c25] at H
        have c25b0 : (t216 != t201) = true := c25
        (try (have c25b1 : decide (t216 = t201) = false := by simpa using c25))
        (try (have c25b2 : (t216 == t201) = false := by simpa using c25))
        (try (have c25b3 : ¬ (t216 = t201) := by simpa using c25))
        clear c25
        obtain rfl := Option.some.inj H
        go_enter Try.func3, Try.ntmps3
        try go_wp2_with (first | ((with_reducible refine gate_dst (N := 2) rfl ?_); refine box_event ?hg (N := 2) ?hd (cs := #[.slice A0_0 l0_0.length c0_0, .slice A0_1 l0_1.length c0_1]) (t := 25) ?hr ?_; (case hd => rfl); (case hg => rfl); (case hr => first | (go_simp; done) | (go_simp; rfl)); intro gb185 hg w26 hbox hb; have n0_ := Aside0.mk (below_step (by repeat (first | (with_reducible first | exact HB.out) | exact HB.out)) hb); have n1_ := Aside0.mk (hbox); have n2_ := Aside0.mk ((by rw [hg]; exact (below_size (by repeat (first | (with_reducible first | exact HB.out) | exact HB.out))) : w.heap.size ≤ gb185)); have n3_ := Aside0.mk ((by rw [hg]; exact (below_size (by repeat (first | (with_reducible first | exact HB.out) | exact HB.out))) : w.heap.size ≤ gb185)); clear HB; have HB := n0_; have BK185 := n1_; have GW185 := n2_; have GE185 := n3_; clear n0_ n1_ n2_ n3_; clear hb hbox hg) | ((with_reducible refine gate_dst (N := 3) rfl ?_); refine box_event ?hg (N := 3) ?hd (cs := #[.slice A1_0 l1_0.length c1_0, .slice A1_1 l1_1.length c1_1]) (t := 25) ?hr ?_; (case hd => rfl); (case hg => rfl); (case hr => first | (go_simp; done) | (go_simp; rfl)); intro gb186 hg w27 hbox hb; have n0_ := Aside0.mk (blk_below (g := gb185) (o := .cells #[.slice A0_0 l0_0.length c0_0, .slice A0_1 l0_1.length c0_1] 25 (0, 0)) (by exact BK185.out) hb); have n1_ := Aside0.mk (below_step (by repeat (first | (with_reducible first | exact HB.out | refine below_set ?_ GE185.out) | exact HB.out)) hb); have n2_ := Aside0.mk (hbox); have n3_ := Aside0.mk ((by rw [hg]; exact (below_size (by repeat (first | (with_reducible first | exact HB.out | refine below_set ?_ GE185.out) | exact HB.out))) : w.heap.size ≤ gb186)); have n4_ := Aside0.mk ((by rw [hg]; exact (below_size (by repeat (first | (with_reducible first | exact HB.out | refine below_set ?_ GE185.out) | exact HB.out))) : w.heap.size ≤ gb186)); have n5_ := Aside0.mk ((by rw [hg]; exact Nat.ne_of_lt (blk_lt (g := gb185) (o := .cells #[.slice A0_0 l0_0.length c0_0, .slice A0_1 l0_1.length c0_1] 25 (0, 0)) (by exact BK185.out)) : gb185 ≠ gb186)); have n6_ := Aside0.mk ((by rw [hg]; exact Nat.ne_of_gt (blk_lt (g := gb185) (o := .cells #[.slice A0_0 l0_0.length c0_0, .slice A0_1 l0_1.length c0_1] 25 (0, 0)) (by exact BK185.out)) : gb186 ≠ gb185)); clear BK185; clear HB; have BK185 := n0_; have HB := n1_; have BK186 := n2_; have GW186 := n3_; have GE186 := n4_; have NB185_186 := n5_; have NB186_185 := n6_; clear n0_ n1_ n2_ n3_ n4_ n5_ n6_; clear hb hbox hg; have hnb28 := NB185_186.out; have hnc28 := NB186_185.out; have hcz29_0 : w27.cell? ⟨gb185, 0, none⟩ = some (.slice A0_0 l0_0.length c0_0) := (blk_cell BK185.out 0).trans rfl; have hcz29_1 : w27.cell? ⟨gb185, 1, none⟩ = some (.slice A0_1 l0_1.length c0_1) := (blk_cell BK185.out 1).trans rfl; have hfz29_0 := blk_frozen BK185.out 0; have hfz29_1 := blk_frozen BK185.out 1) | ((with_reducible refine gate_callee (f := 4) rfl ?_); refine goesL_ (some 12) rfl rfl Try.func4 (by kernel_rfl) rfl #[.agg #[.slice A0_0 l0_0.length c0_0, .slice A0_1 l0_1.length c0_1], .int .i64 1048576] rfl (by (try simp only [List.map_toArray, List.map_cons, List.map_nil]); first | done | rfl | (simp only [List.length_drop, List.length_take]; rfl)) ?_; (with_reducible refine (laws_szShape.calls k _ _ l0_0 _ _ l0_1 1048576 t187 _ ?side1 ?side2 ?side3 ?side4 A3.out).mono ?_); (case side1 => repeat (first | exact (Kd.C_below HR0_0.out HB.out) | (with_reducible refine Kd.C_alloc ?_ _) | (with_reducible refine Kd.C_drewN ?_ _) | (with_reducible refine Kd.C_drew ?_))); (case side2 => exact HC0_0.out); (case side3 => repeat (first | exact (Kd.C_below HR0_1.out HB.out) | (with_reducible refine Kd.C_alloc ?_ _) | (with_reducible refine Kd.C_drewN ?_ _) | (with_reducible refine Kd.C_drew ?_))); (case side4 => exact HC0_1.out); rintro e w30 ⟨rfl, hb⟩; refine ⟨_, rfl, ?_⟩; have n0_ := Aside0.mk (blk_below (g := gb185) (o := .cells #[.slice A0_0 l0_0.length c0_0, .slice A0_1 l0_1.length c0_1] 25 (0, 0)) (by exact BK185.out) hb); have n1_ := Aside0.mk (blk_below (g := gb186) (o := .cells #[.slice A1_0 l1_0.length c1_0, .slice A1_1 l1_1.length c1_1] 25 (0, 0)) (by exact BK186.out) hb); have n2_ := Aside0.mk (below_step (by repeat (first | (with_reducible first | exact HB.out | refine below_set ?_ GE185.out | refine below_set ?_ GE186.out) | exact HB.out)) hb); clear BK185; clear BK186; clear HB; have BK185 := n0_; have BK186 := n1_; have HB := n2_; clear n0_ n1_ n2_; (try clear hb); (try clear hb2); (try clear hk); (try clear hi); have hcz31_0 : w30.cell? ⟨gb186, 0, none⟩ = some (.slice A1_0 l1_0.length c1_0) := (blk_cell BK186.out 0).trans rfl; have hcz31_1 : w30.cell? ⟨gb186, 1, none⟩ = some (.slice A1_1 l1_1.length c1_1) := (blk_cell BK186.out 1).trans rfl; have hfz31_0 := blk_frozen BK186.out 0; have hfz31_1 := blk_frozen BK186.out 1) | ((with_reducible refine gate_callee (f := 4) rfl ?_); refine goesL_ (some 17) rfl rfl Try.func4 (by kernel_rfl) rfl #[.agg #[.slice A1_0 l1_0.length c1_0, .slice A1_1 l1_1.length c1_1], .int .i64 t187] rfl (by (try simp only [List.map_toArray, List.map_cons, List.map_nil]); first | done | rfl | (simp only [List.length_drop, List.length_take]; rfl)) ?_; (with_reducible refine (laws_szShape.calls k _ _ l1_0 _ _ l1_1 t187 t188 _ ?side1 ?side2 ?side3 ?side4 A10.out).mono ?_); (case side1 => repeat (first | exact (Kd.C_below HR1_0.out HB.out) | (with_reducible refine Kd.C_alloc ?_ _) | (with_reducible refine Kd.C_drewN ?_ _) | (with_reducible refine Kd.C_drew ?_))); (case side2 => exact HC1_0.out); (case side3 => repeat (first | exact (Kd.C_below HR1_1.out HB.out) | (with_reducible refine Kd.C_alloc ?_ _) | (with_reducible refine Kd.C_drewN ?_ _) | (with_reducible refine Kd.C_drew ?_))); (case side4 => exact HC1_1.out); rintro e w32 ⟨rfl, hb⟩; refine ⟨_, rfl, ?_⟩; have n0_ := Aside0.mk (blk_below (g := gb185) (o := .cells #[.slice A0_0 l0_0.length c0_0, .slice A0_1 l0_1.length c0_1] 25 (0, 0)) (by exact BK185.out) hb); have n1_ := Aside0.mk (blk_below (g := gb186) (o := .cells #[.slice A1_0 l1_0.length c1_0, .slice A1_1 l1_1.length c1_1] 25 (0, 0)) (by exact BK186.out) hb); have n2_ := Aside0.mk (below_step (by repeat (first | (with_reducible first | exact HB.out | refine below_set ?_ GE185.out | refine below_set ?_ GE186.out) | exact HB.out)) hb); clear BK185; clear BK186; clear HB; have BK185 := n0_; have BK186 := n1_; have HB := n2_; clear n0_ n1_ n2_; (try clear hb); (try clear hb2); (try clear hk); (try clear hi)))
        have n0_ := Aside0.mk (blk_drew BK185.out)
        have n1_ := Aside0.mk (blk_drew BK186.out)
        have n2_ := Aside0.mk (below_drew1 HB.out)
        clear BK185
        clear BK186
        clear HB
        have BK185 := n0_
        have BK186 := n1_
        have HB := n2_
        clear n0_ n1_ n2_
        refine start_ (n := 6) (S := fun w' => w'.cell? ⟨gb185, 0, none⟩ = some (.slice A0_0 l0_0.length c0_0) ∧ w'.cell? ⟨gb185, 1, none⟩ = some (.slice A0_1 l0_1.length c0_1) ∧ w'.cell? ⟨gb186, 0, none⟩ = some (.slice A1_0 l1_0.length c1_0) ∧ w'.cell? ⟨gb186, 1, none⟩ = some (.slice A1_1 l1_1.length c1_1)) (ds := []) #[false, false, false, false, false, false] (by kernel_rfl) rfl rfl ⟨(blk_cell BK185.out 0).trans rfl, (blk_cell BK185.out 1).trans rfl, (blk_cell BK186.out 0).trans rfl, (blk_cell BK186.out 1).trans rfl⟩ (fun hHeld => ?_)
        generalize w32.drew = w33 at BK185 BK186 HB hHeld ⊢
        refine take_ (i := 0) (N := some 20) (v := ?_) (a' := ?_) #[true, false, false, false, false, false] rfl rfl (by kernel_rfl) (fun _ _ _ h => h) (Or.inl ⟨by rfl, ?_⟩) hHeld ?_ ?_
        rotate_left
        · rintro w' ⟨s0, s1, s2, s3⟩
          go_simp
          with_reducible rfl
        rotate_left
        · simp only [Act.put, List.setIfInBounds_toArray, List.set_cons_zero, List.set_cons_succ, i64_w, i32_w]
          rfl
        refine take_ (i := 2) (N := some 22) (v := ?_) (a' := ?_) #[true, false, true, false, false, false] rfl rfl (by kernel_rfl) (fun _ _ _ h => h) (Or.inl ⟨by rfl, ?_⟩) hHeld ?_ ?_
        rotate_left
        · rintro w' ⟨s0, s1, s2, s3⟩
          go_simp
          with_reducible rfl
        rotate_left
        · simp only [Act.put, List.setIfInBounds_toArray, List.set_cons_zero, List.set_cons_succ, i64_w, i32_w]
          rfl
        refine one_ (i := 1) (N := some 21) #[true, true, true, false, false, false] rfl rfl (by kernel_rfl) (by decide) (fun K hK => ?_)
        refine goes_ Try.func6 (by kernel_rfl) rfl #[.agg #[.slice A0_0 l0_0.length c0_0, .slice A0_1 l0_1.length c0_1]] (by rfl) rfl rfl (by (try simp only [List.map_toArray, List.map_cons, List.map_nil]); first | done | rfl | (simp only [List.length_drop, List.length_take]; rfl)) ?_
        with_reducible refine (laws_toShape.calls k _ _ l0_0 _ _ l0_1 t189 t192 _ ?side1 ?side2 ?side3 ?side4 A19.out).mono ?_
        (case side1 => repeat (first | exact (Kd.C_below HR0_0.out HB.out) | (with_reducible refine Kd.C_alloc ?_ _) | (with_reducible refine Kd.C_drewN ?_ _) | (with_reducible refine Kd.C_drew ?_)))
        (case side2 => exact HC0_0.out)
        (case side3 => repeat (first | exact (Kd.C_below HR0_1.out HB.out) | (with_reducible refine Kd.C_alloc ?_ _) | (with_reducible refine Kd.C_drewN ?_ _) | (with_reducible refine Kd.C_drew ?_)))
        (case side4 => exact HC0_1.out)
        rintro e w34 ⟨v190, v193, rfl, ho0, ho1, hb⟩
        refine ⟨_, rfl, ?_⟩
        have n0_ := Aside0.mk (Kd.R_lower ho0 (below_size (by repeat (first | (with_reducible first | exact HB.out | refine below_set ?_ GE185.out | refine below_set ?_ GE186.out) | exact HB.out))))
        have n1_ := Aside0.mk (Kd.S_lower ho1 (below_size (by repeat (first | (with_reducible first | exact HB.out | refine below_set ?_ GE185.out | refine below_set ?_ GE186.out) | exact HB.out))))
        have n2_ := Aside0.mk (blk_below (g := gb185) (o := .cells #[.slice A0_0 l0_0.length c0_0, .slice A0_1 l0_1.length c0_1] 25 (0, 0)) (by exact BK185.out) hb)
        have n3_ := Aside0.mk (blk_below (g := gb186) (o := .cells #[.slice A1_0 l1_0.length c1_0, .slice A1_1 l1_1.length c1_1] 25 (0, 0)) (by exact BK186.out) hb)
        have n4_ := Aside0.mk (below_step (by repeat (first | (with_reducible first | exact HB.out | refine below_set ?_ GE185.out | refine below_set ?_ GE186.out) | exact HB.out)) hb)
        clear BK185
        clear BK186
        clear HB
        have HO191 := n0_
        have HO194 := n1_
        have BK185 := n2_
        have BK186 := n3_
        have HB := n4_
        clear n0_ n1_ n2_ n3_ n4_
        (try clear hb)
        (try clear hb2)
        (try clear hk)
        (try clear hi)
        (try clear ho0)
        (try clear ho1)
        refine hK.out _ _ ⟨(blk_cell BK185.out 0).trans rfl, (blk_cell BK185.out 1).trans rfl, (blk_cell BK186.out 0).trans rfl, (blk_cell BK186.out 1).trans rfl⟩ (fun hHeld => ?_)
        clear hK K
        refine norm_ (a' := ?_) ?_ ?_
        rotate_left
        · show Act.put _ (some 21) _ = _
          simp only [Act.put, List.setIfInBounds_toArray, List.set_cons_zero, List.set_cons_succ, i64_w, i32_w]
          rfl
        refine one_ (i := 3) (N := some 23) #[true, true, true, true, false, false] rfl rfl (by kernel_rfl) (by decide) (fun K hK => ?_)
        refine goes_ Try.func6 (by kernel_rfl) rfl #[.agg #[.slice A1_0 l1_0.length c1_0, .slice A1_1 l1_1.length c1_1]] (by rfl) rfl rfl (by (try simp only [List.map_toArray, List.map_cons, List.map_nil]); first | done | rfl | (simp only [List.length_drop, List.length_take]; rfl)) ?_
        with_reducible refine (laws_toShape.calls k _ _ l1_0 _ _ l1_1 t195 t198 _ ?side1 ?side2 ?side3 ?side4 A20.out).mono ?_
        (case side1 => repeat (first | exact (Kd.C_below HR1_0.out HB.out) | (with_reducible refine Kd.C_alloc ?_ _) | (with_reducible refine Kd.C_drewN ?_ _) | (with_reducible refine Kd.C_drew ?_)))
        (case side2 => exact HC1_0.out)
        (case side3 => repeat (first | exact (Kd.C_below HR1_1.out HB.out) | (with_reducible refine Kd.C_alloc ?_ _) | (with_reducible refine Kd.C_drewN ?_ _) | (with_reducible refine Kd.C_drew ?_)))
        (case side4 => exact HC1_1.out)
        rintro e w35 ⟨v196, v199, rfl, ho0, ho1, hb⟩
        refine ⟨_, rfl, ?_⟩
        have n0_ := Aside0.mk (Kd.R_elder' (by exact HO191.out) (Kd.R_base ho0) hb)
        have n1_ := Aside0.mk (Kd.S_mono (Kd.S_told (Kd.S_told (Kd.S_old (by exact HO194.out) hb) (Kd.R_base ho0)) (Kd.S_base ho1)) (fun _ h_ => h_.1))
        have n2_ := Aside0.mk (Kd.R_lower (Kd.R_new' ho0 (Kd.R_lt (by exact HO191.out))) (below_size (by repeat (first | (with_reducible first | exact HB.out | refine below_set ?_ GE185.out | refine below_set ?_ GE186.out) | exact HB.out))))
        have n3_ := Aside0.mk (Kd.S_lower (Kd.S_new' (Kd.S_new' ho1 (Kd.R_lt (by exact HO191.out))) (Kd.S_lt (by exact HO194.out))) (below_size (by repeat (first | (with_reducible first | exact HB.out | refine below_set ?_ GE185.out | refine below_set ?_ GE186.out) | exact HB.out))))
        have n4_ := Aside0.mk (blk_below (g := gb185) (o := .cells #[.slice A0_0 l0_0.length c0_0, .slice A0_1 l0_1.length c0_1] 25 (0, 0)) (by exact BK185.out) hb)
        have n5_ := Aside0.mk (blk_below (g := gb186) (o := .cells #[.slice A1_0 l1_0.length c1_0, .slice A1_1 l1_1.length c1_1] 25 (0, 0)) (by exact BK186.out) hb)
        have n6_ := Aside0.mk (below_step (by repeat (first | (with_reducible first | exact HB.out | refine below_set ?_ GE185.out | refine below_set ?_ GE186.out) | exact HB.out)) hb)
        clear HO191
        clear HO194
        clear BK185
        clear BK186
        clear HB
        have HO191 := n0_
        have HO194 := n1_
        have HO197 := n2_
        have HO200 := n3_
        have BK185 := n4_
        have BK186 := n5_
        have HB := n6_
        clear n0_ n1_ n2_ n3_ n4_ n5_ n6_
        (try clear hb)
        (try clear hb2)
        (try clear hk)
        (try clear hi)
        (try clear ho0)
        (try clear ho1)
        obtain ⟨Ao36, co36, eo36⟩ := Kd.R_slice HO191.out
        (first | subst eo36 | (injection eo36 with f1_ f2_ f3_; have f4_ := f1_.symm; have f5_ := f3_.symm; clear f1_ f2_ f3_; subst f4_; subst f5_))
        obtain ⟨Ao37, co37, eo37⟩ := Kd.S_slice HO194.out
        (first | subst eo37 | (injection eo37 with f1_ f2_ f3_; have f4_ := f1_.symm; have f5_ := f3_.symm; clear f1_ f2_ f3_; subst f4_; subst f5_))
        obtain ⟨Ao38, co38, eo38⟩ := Kd.R_slice HO197.out
        (first | subst eo38 | (injection eo38 with f1_ f2_ f3_; have f4_ := f1_.symm; have f5_ := f3_.symm; clear f1_ f2_ f3_; subst f4_; subst f5_))
        obtain ⟨Ao39, co39, eo39⟩ := Kd.S_slice HO200.out
        (first | subst eo39 | (injection eo39 with f1_ f2_ f3_; have f4_ := f1_.symm; have f5_ := f3_.symm; clear f1_ f2_ f3_; subst f4_; subst f5_))
        refine hK.out _ _ ⟨(blk_cell BK185.out 0).trans rfl, (blk_cell BK185.out 1).trans rfl, (blk_cell BK186.out 0).trans rfl, (blk_cell BK186.out 1).trans rfl⟩ (fun hHeld => ?_)
        clear hK K
        refine norm_ (a' := ?_) ?_ ?_
        rotate_left
        · show Act.put _ (some 23) _ = _
          simp only [Act.put, List.setIfInBounds_toArray, List.set_cons_zero, List.set_cons_succ, i64_w, i32_w]
          rfl
        refine one_ (i := 4) (N := some 24) #[true, true, true, true, true, false] rfl rfl (by kernel_rfl) (by decide) (fun K hK => ?_)
        refine goes_ Try.func5 (by kernel_rfl) rfl #[.agg #[.slice Ao36 t189.length co36, .slice Ao37 t192.length co37], .agg #[.slice Ao38 t195.length co38, .slice Ao39 t198.length co39]] (by rfl) rfl rfl (by (try simp only [List.map_toArray, List.map_cons, List.map_nil]); first | done | rfl | (simp only [List.length_drop, List.length_take]; rfl)) ?_
        with_reducible refine (spec_ShapeSame.calls k _ _ t189 _ _ t192 _ _ t195 _ _ t198 t201 _ ?side1 ?side2 ?side3 ?side4 ?side5 ?side6 ?side7 ?side8 A21.out).mono ?_
        (case side1 => repeat (first | exact (Kd.R_reads' HO191.out).2.2 | (with_reducible refine Kd.C_alloc ?_ _) | (with_reducible refine Kd.C_drewN ?_ _) | (with_reducible refine Kd.C_drew ?_)))
        (case side2 => exact (Kd.R_reads' HO191.out).2.1)
        (case side3 => repeat (first | exact (Kd.S_reads' HO194.out).2.2 | (with_reducible refine Kd.C_alloc ?_ _) | (with_reducible refine Kd.C_drewN ?_ _) | (with_reducible refine Kd.C_drew ?_)))
        (case side4 => exact (Kd.S_reads' HO194.out).2.1)
        (case side5 => repeat (first | exact (Kd.R_reads' HO197.out).2.2 | (with_reducible refine Kd.C_alloc ?_ _) | (with_reducible refine Kd.C_drewN ?_ _) | (with_reducible refine Kd.C_drew ?_)))
        (case side6 => exact (Kd.R_reads' HO197.out).2.1)
        (case side7 => repeat (first | exact (Kd.S_reads' HO200.out).2.2 | (with_reducible refine Kd.C_alloc ?_ _) | (with_reducible refine Kd.C_drewN ?_ _) | (with_reducible refine Kd.C_drew ?_)))
        (case side8 => exact (Kd.S_reads' HO200.out).2.1)
        rintro e w40 ⟨rfl, hb⟩
        refine ⟨_, rfl, ?_⟩
        have n0_ := Aside0.mk (Kd.R_below (by exact HO191.out) hb)
        have n1_ := Aside0.mk (Kd.S_below (by exact HO194.out) hb)
        have n2_ := Aside0.mk (Kd.R_below (by exact HO197.out) hb)
        have n3_ := Aside0.mk (Kd.S_below (by exact HO200.out) hb)
        have n4_ := Aside0.mk (blk_below (g := gb185) (o := .cells #[.slice A0_0 l0_0.length c0_0, .slice A0_1 l0_1.length c0_1] 25 (0, 0)) (by exact BK185.out) hb)
        have n5_ := Aside0.mk (blk_below (g := gb186) (o := .cells #[.slice A1_0 l1_0.length c1_0, .slice A1_1 l1_1.length c1_1] 25 (0, 0)) (by exact BK186.out) hb)
        have n6_ := Aside0.mk (below_step (by repeat (first | (with_reducible first | exact HB.out | refine below_set ?_ GE185.out | refine below_set ?_ GE186.out) | exact HB.out)) hb)
        clear HO191
        clear HO194
        clear HO197
        clear HO200
        clear BK185
        clear BK186
        clear HB
        have HO191 := n0_
        have HO194 := n1_
        have HO197 := n2_
        have HO200 := n3_
        have BK185 := n4_
        have BK186 := n5_
        have HB := n6_
        clear n0_ n1_ n2_ n3_ n4_ n5_ n6_
        (try clear hb)
        (try clear hb2)
        (try clear hk)
        (try clear hi)
        refine hK.out _ _ ⟨(blk_cell BK185.out 0).trans rfl, (blk_cell BK185.out 1).trans rfl, (blk_cell BK186.out 0).trans rfl, (blk_cell BK186.out 1).trans rfl⟩ (fun hHeld => ?_)
        clear hK K
        refine norm_ (a' := ?_) ?_ ?_
        rotate_left
        · show Act.put _ (some 24) _ = _
          simp only [Act.put, List.setIfInBounds_toArray, List.set_cons_zero, List.set_cons_succ, i64_w, i32_w]
          rfl
        refine pure_ (i := 5) (N := some 6) (v := ?_) (a' := ?_) #[true, true, true, true, true, true] rfl rfl (by kernel_rfl) (fun _ _ _ h => h) (Or.inl ⟨by rfl, ?_⟩) ?_ ?_
        rotate_left
        · intro w'
          go_simp
          with_reducible rfl
        rotate_left
        · simp only [Act.put, List.setIfInBounds_toArray, List.set_cons_zero, List.set_cons_succ, i64_w, i32_w]
          rfl
        refine done_ (by kernel_rfl) ?_
        have hcz41_0 : w40.cell? ⟨gb185, 0, none⟩ = some (.slice A0_0 l0_0.length c0_0) := (blk_cell BK185.out 0).trans rfl
        have hcz41_1 : w40.cell? ⟨gb185, 1, none⟩ = some (.slice A0_1 l0_1.length c0_1) := (blk_cell BK185.out 1).trans rfl
        have hfz41_0 := blk_frozen BK185.out 0
        have hfz41_1 := blk_frozen BK185.out 1
        try go_wp2_with (first | ((with_reducible refine gate_callee (f := 6) rfl ?_); refine goesL_ (some 26) rfl rfl Try.func6 (by kernel_rfl) rfl #[.agg #[.slice A0_0 l0_0.length c0_0, .slice A0_1 l0_1.length c0_1]] rfl (by (try simp only [List.map_toArray, List.map_cons, List.map_nil]); first | done | rfl | (simp only [List.length_drop, List.length_take]; rfl)) ?_; (with_reducible refine (laws_toShape.calls k _ _ l0_0 _ _ l0_1 t202 t205 _ ?side1 ?side2 ?side3 ?side4 A22.out).mono ?_); (case side1 => repeat (first | exact (Kd.C_below HR0_0.out HB.out) | (with_reducible refine Kd.C_alloc ?_ _) | (with_reducible refine Kd.C_drewN ?_ _) | (with_reducible refine Kd.C_drew ?_))); (case side2 => exact HC0_0.out); (case side3 => repeat (first | exact (Kd.C_below HR0_1.out HB.out) | (with_reducible refine Kd.C_alloc ?_ _) | (with_reducible refine Kd.C_drewN ?_ _) | (with_reducible refine Kd.C_drew ?_))); (case side4 => exact HC0_1.out); rintro e w42 ⟨v203, v206, rfl, ho0, ho1, hb⟩; refine ⟨_, rfl, ?_⟩; have n0_ := Aside0.mk (Kd.R_elder' (by exact HO191.out) (Kd.R_base ho0) hb); have n1_ := Aside0.mk (Kd.S_mono (Kd.S_told (Kd.S_told (Kd.S_old (by exact HO194.out) hb) (Kd.R_base ho0)) (Kd.S_base ho1)) (fun _ h_ => h_.1)); have n2_ := Aside0.mk (Kd.R_elder' (by exact HO197.out) (Kd.R_base ho0) hb); have n3_ := Aside0.mk (Kd.S_mono (Kd.S_told (Kd.S_told (Kd.S_old (by exact HO200.out) hb) (Kd.R_base ho0)) (Kd.S_base ho1)) (fun _ h_ => h_.1)); have n4_ := Aside0.mk (Kd.R_lower (Kd.R_new' (Kd.R_new' ho0 (Kd.R_lt (by exact HO191.out))) (Kd.R_lt (by exact HO197.out))) (below_size (by repeat (first | (with_reducible first | exact HB.out | refine below_set ?_ GE185.out | refine below_set ?_ GE186.out) | exact HB.out)))); have n5_ := Aside0.mk (Kd.S_lower (Kd.S_new' (Kd.S_new' (Kd.S_new' (Kd.S_new' ho1 (Kd.R_lt (by exact HO191.out))) (Kd.S_lt (by exact HO194.out))) (Kd.R_lt (by exact HO197.out))) (Kd.S_lt (by exact HO200.out))) (below_size (by repeat (first | (with_reducible first | exact HB.out | refine below_set ?_ GE185.out | refine below_set ?_ GE186.out) | exact HB.out)))); have n6_ := Aside0.mk (blk_below (g := gb185) (o := .cells #[.slice A0_0 l0_0.length c0_0, .slice A0_1 l0_1.length c0_1] 25 (0, 0)) (by exact BK185.out) hb); have n7_ := Aside0.mk (blk_below (g := gb186) (o := .cells #[.slice A1_0 l1_0.length c1_0, .slice A1_1 l1_1.length c1_1] 25 (0, 0)) (by exact BK186.out) hb); have n8_ := Aside0.mk (below_step (by repeat (first | (with_reducible first | exact HB.out | refine below_set ?_ GE185.out | refine below_set ?_ GE186.out) | exact HB.out)) hb); clear HO191; clear HO194; clear HO197; clear HO200; clear BK185; clear BK186; clear HB; have HO191 := n0_; have HO194 := n1_; have HO197 := n2_; have HO200 := n3_; have HO204 := n4_; have HO207 := n5_; have BK185 := n6_; have BK186 := n7_; have HB := n8_; clear n0_ n1_ n2_ n3_ n4_ n5_ n6_ n7_ n8_; (try clear hb); (try clear hb2); (try clear hk); (try clear hi); (try clear ho0); (try clear ho1)) | ((with_reducible refine gate_dst (N := 7) rfl ?_); refine box_event ?hg (N := 7) ?hd (cs := #[.slice none 0 0, .slice none 0 0]) (t := 31) ?hr ?_; (case hd => rfl); (case hg => rfl); (case hr => first | (go_simp; done) | (go_simp; rfl)); intro gb208 hg w43 hbox hb; have n0_ := Aside0.mk (Kd.R_below (by exact HO191.out) hb); have n1_ := Aside0.mk (Kd.S_below (by exact HO194.out) hb); have n2_ := Aside0.mk (Kd.R_below (by exact HO197.out) hb); have n3_ := Aside0.mk (Kd.S_below (by exact HO200.out) hb); have n4_ := Aside0.mk (Kd.R_below (by exact HO204.out) hb); have n5_ := Aside0.mk (Kd.S_below (by exact HO207.out) hb); have n6_ := Aside0.mk (blk_below (g := gb185) (o := .cells #[.slice A0_0 l0_0.length c0_0, .slice A0_1 l0_1.length c0_1] 25 (0, 0)) (by exact BK185.out) hb); have n7_ := Aside0.mk (blk_below (g := gb186) (o := .cells #[.slice A1_0 l1_0.length c1_0, .slice A1_1 l1_1.length c1_1] 25 (0, 0)) (by exact BK186.out) hb); have n8_ := Aside0.mk (below_step (by repeat (first | (with_reducible first | exact HB.out | refine below_set ?_ GE185.out | refine below_set ?_ GE186.out) | exact HB.out)) hb); have n9_ := Aside0.mk (hbox); have n10_ := Aside0.mk ((by rw [hg]; exact (below_size (by repeat (first | (with_reducible first | exact HB.out | refine below_set ?_ GE185.out | refine below_set ?_ GE186.out) | exact HB.out))) : w.heap.size ≤ gb208)); have n11_ := Aside0.mk ((by rw [hg]; exact (below_size (by repeat (first | (with_reducible first | exact HB.out | refine below_set ?_ GE185.out | refine below_set ?_ GE186.out) | exact HB.out))) : w.heap.size ≤ gb208)); have n12_ := Aside0.mk ((by rw [hg]; exact Nat.ne_of_lt (blk_lt (g := gb185) (o := .cells #[.slice A0_0 l0_0.length c0_0, .slice A0_1 l0_1.length c0_1] 25 (0, 0)) (by exact BK185.out)) : gb185 ≠ gb208)); have n13_ := Aside0.mk ((by rw [hg]; exact Nat.ne_of_gt (blk_lt (g := gb185) (o := .cells #[.slice A0_0 l0_0.length c0_0, .slice A0_1 l0_1.length c0_1] 25 (0, 0)) (by exact BK185.out)) : gb208 ≠ gb185)); have n14_ := Aside0.mk ((by rw [hg]; exact Nat.ne_of_lt (blk_lt (g := gb186) (o := .cells #[.slice A1_0 l1_0.length c1_0, .slice A1_1 l1_1.length c1_1] 25 (0, 0)) (by exact BK186.out)) : gb186 ≠ gb208)); have n15_ := Aside0.mk ((by rw [hg]; exact Nat.ne_of_gt (blk_lt (g := gb186) (o := .cells #[.slice A1_0 l1_0.length c1_0, .slice A1_1 l1_1.length c1_1] 25 (0, 0)) (by exact BK186.out)) : gb208 ≠ gb186)); clear HO191; clear HO194; clear HO197; clear HO200; clear HO204; clear HO207; clear BK185; clear BK186; clear HB; have HO191 := n0_; have HO194 := n1_; have HO197 := n2_; have HO200 := n3_; have HO204 := n4_; have HO207 := n5_; have BK185 := n6_; have BK186 := n7_; have HB := n8_; have BK208 := n9_; have GW208 := n10_; have GE208 := n11_; have NB185_208 := n12_; have NB208_185 := n13_; have NB186_208 := n14_; have NB208_186 := n15_; clear n0_ n1_ n2_ n3_ n4_ n5_ n6_ n7_ n8_ n9_ n10_ n11_ n12_ n13_ n14_ n15_; clear hb hbox hg; obtain ⟨Ao44, co44, eo44⟩ := Kd.R_slice HO204.out; subst eo44; have hnb45 := NB208_185.out; have hnc45 := NB185_208.out; have hnb46 := NB208_186.out; have hnc46 := NB186_208.out; have hcz47_0 : w43.cell? ⟨gb208, 0, none⟩ = some (.slice none 0 0) := (blk_cell BK208.out 0).trans rfl; have hcz47_1 : w43.cell? ⟨gb208, 1, none⟩ = some (.slice none 0 0) := (blk_cell BK208.out 1).trans rfl; have hfz47_0 := blk_frozen BK208.out 0; have hfz47_1 := blk_frozen BK208.out 1; obtain ⟨Ao48, co48, eo48⟩ := Kd.S_slice HO207.out; subst eo48; have hcz49_0 : w43.cell? ⟨gb186, 0, none⟩ = some (.slice A1_0 l1_0.length c1_0) := (blk_cell BK186.out 0).trans rfl; have hcz49_1 : w43.cell? ⟨gb186, 1, none⟩ = some (.slice A1_1 l1_1.length c1_1) := (blk_cell BK186.out 1).trans rfl; have hfz49_0 := blk_frozen BK186.out 0; have hfz49_1 := blk_frozen BK186.out 1) | ((with_reducible refine gate_callee (f := 6) rfl ?_); refine goesL_ (some 28) rfl rfl Try.func6 (by kernel_rfl) rfl #[.agg #[.slice A1_0 l1_0.length c1_0, .slice A1_1 l1_1.length c1_1]] rfl (by (try simp only [List.map_toArray, List.map_cons, List.map_nil]); first | done | rfl | (simp only [List.length_drop, List.length_take]; rfl)) ?_; (with_reducible refine (laws_toShape.calls k _ _ l1_0 _ _ l1_1 t209 t212 _ ?side1 ?side2 ?side3 ?side4 A23.out).mono ?_); (case side1 => exact Kd.C_below HR1_0.out (by repeat (first | (with_reducible first | exact HB.out | refine below_set ?_ GE185.out | refine below_set ?_ GE186.out | refine below_set ?_ GE208.out) | exact HB.out))); (case side2 => exact HC1_0.out); (case side3 => exact Kd.C_below HR1_1.out (by repeat (first | (with_reducible first | exact HB.out | refine below_set ?_ GE185.out | refine below_set ?_ GE186.out | refine below_set ?_ GE208.out) | exact HB.out))); (case side4 => exact HC1_1.out); rintro e w50 ⟨v210, v213, rfl, ho0, ho1, hb⟩; refine ⟨_, rfl, ?_⟩; have n0_ := Aside0.mk (Kd.R_elder' (by exact (Kd.R_mono (Kd.R_far (p := ⟨gb208, 1, none⟩) (Kd.R_far (p := ⟨gb208, 0, none⟩) (Kd.R_types HO191.out BK208.out (by decide)) (fun _ hk => hk.2) (.slice Ao44 t202.length co44)) (fun _ hk => hk.2) (.slice Ao48 t205.length co48)) (fun _ h_ => h_.1))) (Kd.R_base ho0) hb); have n1_ := Aside0.mk (Kd.S_mono (Kd.S_told (Kd.S_told (Kd.S_old (by exact (Kd.S_mono (Kd.S_far (p := ⟨gb208, 1, none⟩) (Kd.S_far (p := ⟨gb208, 0, none⟩) (Kd.S_types HO194.out BK208.out (by decide)) (fun _ hk => hk.2) (.slice Ao44 t202.length co44)) (fun _ hk => hk.2) (.slice Ao48 t205.length co48)) (fun _ h_ => h_.1))) hb) (Kd.R_base ho0)) (Kd.S_base ho1)) (fun _ h_ => h_.1)); have n2_ := Aside0.mk (Kd.R_elder' (by exact (Kd.R_mono (Kd.R_far (p := ⟨gb208, 1, none⟩) (Kd.R_far (p := ⟨gb208, 0, none⟩) (Kd.R_types HO197.out BK208.out (by decide)) (fun _ hk => hk.2) (.slice Ao44 t202.length co44)) (fun _ hk => hk.2) (.slice Ao48 t205.length co48)) (fun _ h_ => h_.1))) (Kd.R_base ho0) hb); have n3_ := Aside0.mk (Kd.S_mono (Kd.S_told (Kd.S_told (Kd.S_old (by exact (Kd.S_mono (Kd.S_far (p := ⟨gb208, 1, none⟩) (Kd.S_far (p := ⟨gb208, 0, none⟩) (Kd.S_types HO200.out BK208.out (by decide)) (fun _ hk => hk.2) (.slice Ao44 t202.length co44)) (fun _ hk => hk.2) (.slice Ao48 t205.length co48)) (fun _ h_ => h_.1))) hb) (Kd.R_base ho0)) (Kd.S_base ho1)) (fun _ h_ => h_.1)); have n4_ := Aside0.mk (Kd.R_elder' (by exact (Kd.R_mono (Kd.R_far (p := ⟨gb208, 1, none⟩) (Kd.R_far (p := ⟨gb208, 0, none⟩) (Kd.R_types HO204.out BK208.out (by decide)) (fun _ hk => hk.2) (.slice Ao44 t202.length co44)) (fun _ hk => hk.2) (.slice Ao48 t205.length co48)) (fun _ h_ => h_.1))) (Kd.R_base ho0) hb); have n5_ := Aside0.mk (Kd.S_mono (Kd.S_told (Kd.S_told (Kd.S_old (by exact (Kd.S_mono (Kd.S_far (p := ⟨gb208, 1, none⟩) (Kd.S_far (p := ⟨gb208, 0, none⟩) (Kd.S_types HO207.out BK208.out (by decide)) (fun _ hk => hk.2) (.slice Ao44 t202.length co44)) (fun _ hk => hk.2) (.slice Ao48 t205.length co48)) (fun _ h_ => h_.1))) hb) (Kd.R_base ho0)) (Kd.S_base ho1)) (fun _ h_ => h_.1)); have n6_ := Aside0.mk (Kd.R_lower (Kd.R_new' (Kd.R_new' (Kd.R_new' ho0 (Kd.R_lt (by exact (Kd.R_mono (Kd.R_far (p := ⟨gb208, 1, none⟩) (Kd.R_far (p := ⟨gb208, 0, none⟩) (Kd.R_types HO191.out BK208.out (by decide)) (fun _ hk => hk.2) (.slice Ao44 t202.length co44)) (fun _ hk => hk.2) (.slice Ao48 t205.length co48)) (fun _ h_ => h_.1))))) (Kd.R_lt (by exact (Kd.R_mono (Kd.R_far (p := ⟨gb208, 1, none⟩) (Kd.R_far (p := ⟨gb208, 0, none⟩) (Kd.R_types HO197.out BK208.out (by decide)) (fun _ hk => hk.2) (.slice Ao44 t202.length co44)) (fun _ hk => hk.2) (.slice Ao48 t205.length co48)) (fun _ h_ => h_.1))))) (Kd.R_lt (by exact (Kd.R_mono (Kd.R_far (p := ⟨gb208, 1, none⟩) (Kd.R_far (p := ⟨gb208, 0, none⟩) (Kd.R_types HO204.out BK208.out (by decide)) (fun _ hk => hk.2) (.slice Ao44 t202.length co44)) (fun _ hk => hk.2) (.slice Ao48 t205.length co48)) (fun _ h_ => h_.1))))) (below_size (by repeat (first | (with_reducible first | exact HB.out | refine below_set ?_ GE185.out | refine below_set ?_ GE186.out | refine below_set ?_ GE208.out) | exact HB.out)))); have n7_ := Aside0.mk (Kd.S_lower (Kd.S_new' (Kd.S_new' (Kd.S_new' (Kd.S_new' (Kd.S_new' (Kd.S_new' ho1 (Kd.R_lt (by exact (Kd.R_mono (Kd.R_far (p := ⟨gb208, 1, none⟩) (Kd.R_far (p := ⟨gb208, 0, none⟩) (Kd.R_types HO191.out BK208.out (by decide)) (fun _ hk => hk.2) (.slice Ao44 t202.length co44)) (fun _ hk => hk.2) (.slice Ao48 t205.length co48)) (fun _ h_ => h_.1))))) (Kd.S_lt (by exact (Kd.S_mono (Kd.S_far (p := ⟨gb208, 1, none⟩) (Kd.S_far (p := ⟨gb208, 0, none⟩) (Kd.S_types HO194.out BK208.out (by decide)) (fun _ hk => hk.2) (.slice Ao44 t202.length co44)) (fun _ hk => hk.2) (.slice Ao48 t205.length co48)) (fun _ h_ => h_.1))))) (Kd.R_lt (by exact (Kd.R_mono (Kd.R_far (p := ⟨gb208, 1, none⟩) (Kd.R_far (p := ⟨gb208, 0, none⟩) (Kd.R_types HO197.out BK208.out (by decide)) (fun _ hk => hk.2) (.slice Ao44 t202.length co44)) (fun _ hk => hk.2) (.slice Ao48 t205.length co48)) (fun _ h_ => h_.1))))) (Kd.S_lt (by exact (Kd.S_mono (Kd.S_far (p := ⟨gb208, 1, none⟩) (Kd.S_far (p := ⟨gb208, 0, none⟩) (Kd.S_types HO200.out BK208.out (by decide)) (fun _ hk => hk.2) (.slice Ao44 t202.length co44)) (fun _ hk => hk.2) (.slice Ao48 t205.length co48)) (fun _ h_ => h_.1))))) (Kd.R_lt (by exact (Kd.R_mono (Kd.R_far (p := ⟨gb208, 1, none⟩) (Kd.R_far (p := ⟨gb208, 0, none⟩) (Kd.R_types HO204.out BK208.out (by decide)) (fun _ hk => hk.2) (.slice Ao44 t202.length co44)) (fun _ hk => hk.2) (.slice Ao48 t205.length co48)) (fun _ h_ => h_.1))))) (Kd.S_lt (by exact (Kd.S_mono (Kd.S_far (p := ⟨gb208, 1, none⟩) (Kd.S_far (p := ⟨gb208, 0, none⟩) (Kd.S_types HO207.out BK208.out (by decide)) (fun _ hk => hk.2) (.slice Ao44 t202.length co44)) (fun _ hk => hk.2) (.slice Ao48 t205.length co48)) (fun _ h_ => h_.1))))) (below_size (by repeat (first | (with_reducible first | exact HB.out | refine below_set ?_ GE185.out | refine below_set ?_ GE186.out | refine below_set ?_ GE208.out) | exact HB.out)))); have n8_ := Aside0.mk (blk_below (g := gb185) (o := .cells #[.slice A0_0 l0_0.length c0_0, .slice A0_1 l0_1.length c0_1] 25 (0, 0)) (by refine blk_far ?_ NB185_208.out _; refine blk_far ?_ NB185_208.out _; exact BK185.out) hb); have n9_ := Aside0.mk (blk_below (g := gb186) (o := .cells #[.slice A1_0 l1_0.length c1_0, .slice A1_1 l1_1.length c1_1] 25 (0, 0)) (by refine blk_far ?_ NB186_208.out _; refine blk_far ?_ NB186_208.out _; exact BK186.out) hb); have n10_ := Aside0.mk (blk_below (g := gb208) (o := .cells #[.slice Ao44 t202.length co44, .slice Ao48 t205.length co48] 31 (0, 0)) (by refine blk_put (cs := #[.slice Ao44 t202.length co44, .slice none 0 0]) ?_ 1 _ rfl; refine blk_put (cs := #[.slice none 0 0, .slice none 0 0]) ?_ 0 _ rfl; exact BK208.out) hb); have n11_ := Aside0.mk (below_step (by repeat (first | (with_reducible first | exact HB.out | refine below_set ?_ GE185.out | refine below_set ?_ GE186.out | refine below_set ?_ GE208.out) | exact HB.out)) hb); clear HO191; clear HO194; clear HO197; clear HO200; clear HO204; clear HO207; clear BK185; clear BK186; clear BK208; clear HB; have HO191 := n0_; have HO194 := n1_; have HO197 := n2_; have HO200 := n3_; have HO204 := n4_; have HO207 := n5_; have HO211 := n6_; have HO214 := n7_; have BK185 := n8_; have BK186 := n9_; have BK208 := n10_; have HB := n11_; clear n0_ n1_ n2_ n3_ n4_ n5_ n6_ n7_ n8_ n9_ n10_ n11_; (try clear hb); (try clear hb2); (try clear hk); (try clear hi); (try clear ho0); (try clear ho1)) | ((with_reducible refine gate_dst (N := 8) rfl ?_); refine box_event ?hg (N := 8) ?hd (cs := #[.slice none 0 0, .slice none 0 0]) (t := 31) ?hr ?_; (case hd => rfl); (case hg => rfl); (case hr => first | (go_simp; done) | (go_simp; rfl)); intro gb215 hg w51 hbox hb; have n0_ := Aside0.mk (Kd.R_below (by exact HO191.out) hb); have n1_ := Aside0.mk (Kd.S_below (by exact HO194.out) hb); have n2_ := Aside0.mk (Kd.R_below (by exact HO197.out) hb); have n3_ := Aside0.mk (Kd.S_below (by exact HO200.out) hb); have n4_ := Aside0.mk (Kd.R_below (by exact HO204.out) hb); have n5_ := Aside0.mk (Kd.S_below (by exact HO207.out) hb); have n6_ := Aside0.mk (Kd.R_below (by exact HO211.out) hb); have n7_ := Aside0.mk (Kd.S_below (by exact HO214.out) hb); have n8_ := Aside0.mk (blk_below (g := gb185) (o := .cells #[.slice A0_0 l0_0.length c0_0, .slice A0_1 l0_1.length c0_1] 25 (0, 0)) (by exact BK185.out) hb); have n9_ := Aside0.mk (blk_below (g := gb186) (o := .cells #[.slice A1_0 l1_0.length c1_0, .slice A1_1 l1_1.length c1_1] 25 (0, 0)) (by exact BK186.out) hb); have n10_ := Aside0.mk (blk_below (g := gb208) (o := .cells #[.slice Ao44 t202.length co44, .slice Ao48 t205.length co48] 31 (0, 0)) (by exact BK208.out) hb); have n11_ := Aside0.mk (below_step (by repeat (first | (with_reducible first | exact HB.out | refine below_set ?_ GE185.out | refine below_set ?_ GE186.out | refine below_set ?_ GE208.out) | exact HB.out)) hb); have n12_ := Aside0.mk (hbox); have n13_ := Aside0.mk ((by rw [hg]; exact (below_size (by repeat (first | (with_reducible first | exact HB.out | refine below_set ?_ GE185.out | refine below_set ?_ GE186.out | refine below_set ?_ GE208.out) | exact HB.out))) : w.heap.size ≤ gb215)); have n14_ := Aside0.mk ((by rw [hg]; exact (below_size (by repeat (first | (with_reducible first | exact HB.out | refine below_set ?_ GE185.out | refine below_set ?_ GE186.out | refine below_set ?_ GE208.out) | exact HB.out))) : w.heap.size ≤ gb215)); have n15_ := Aside0.mk ((by rw [hg]; exact Nat.ne_of_lt (blk_lt (g := gb185) (o := .cells #[.slice A0_0 l0_0.length c0_0, .slice A0_1 l0_1.length c0_1] 25 (0, 0)) (by exact BK185.out)) : gb185 ≠ gb215)); have n16_ := Aside0.mk ((by rw [hg]; exact Nat.ne_of_gt (blk_lt (g := gb185) (o := .cells #[.slice A0_0 l0_0.length c0_0, .slice A0_1 l0_1.length c0_1] 25 (0, 0)) (by exact BK185.out)) : gb215 ≠ gb185)); have n17_ := Aside0.mk ((by rw [hg]; exact Nat.ne_of_lt (blk_lt (g := gb186) (o := .cells #[.slice A1_0 l1_0.length c1_0, .slice A1_1 l1_1.length c1_1] 25 (0, 0)) (by exact BK186.out)) : gb186 ≠ gb215)); have n18_ := Aside0.mk ((by rw [hg]; exact Nat.ne_of_gt (blk_lt (g := gb186) (o := .cells #[.slice A1_0 l1_0.length c1_0, .slice A1_1 l1_1.length c1_1] 25 (0, 0)) (by exact BK186.out)) : gb215 ≠ gb186)); have n19_ := Aside0.mk ((by rw [hg]; exact Nat.ne_of_lt (blk_lt (g := gb208) (o := .cells #[.slice Ao44 t202.length co44, .slice Ao48 t205.length co48] 31 (0, 0)) (by exact BK208.out)) : gb208 ≠ gb215)); have n20_ := Aside0.mk ((by rw [hg]; exact Nat.ne_of_gt (blk_lt (g := gb208) (o := .cells #[.slice Ao44 t202.length co44, .slice Ao48 t205.length co48] 31 (0, 0)) (by exact BK208.out)) : gb215 ≠ gb208)); clear HO191; clear HO194; clear HO197; clear HO200; clear HO204; clear HO207; clear HO211; clear HO214; clear BK185; clear BK186; clear BK208; clear HB; have HO191 := n0_; have HO194 := n1_; have HO197 := n2_; have HO200 := n3_; have HO204 := n4_; have HO207 := n5_; have HO211 := n6_; have HO214 := n7_; have BK185 := n8_; have BK186 := n9_; have BK208 := n10_; have HB := n11_; have BK215 := n12_; have GW215 := n13_; have GE215 := n14_; have NB185_215 := n15_; have NB215_185 := n16_; have NB186_215 := n17_; have NB215_186 := n18_; have NB208_215 := n19_; have NB215_208 := n20_; clear n0_ n1_ n2_ n3_ n4_ n5_ n6_ n7_ n8_ n9_ n10_ n11_ n12_ n13_ n14_ n15_ n16_ n17_ n18_ n19_ n20_; clear hb hbox hg; obtain ⟨Ao52, co52, eo52⟩ := Kd.R_slice HO211.out; subst eo52; have hnb53 := NB215_185.out; have hnc53 := NB185_215.out; have hnb54 := NB215_186.out; have hnc54 := NB186_215.out; have hnb55 := NB215_208.out; have hnc55 := NB208_215.out; have hcz56_0 : w51.cell? ⟨gb215, 0, none⟩ = some (.slice none 0 0) := (blk_cell BK215.out 0).trans rfl; have hcz56_1 : w51.cell? ⟨gb215, 1, none⟩ = some (.slice none 0 0) := (blk_cell BK215.out 1).trans rfl; have hfz56_0 := blk_frozen BK215.out 0; have hfz56_1 := blk_frozen BK215.out 1; obtain ⟨Ao57, co57, eo57⟩ := Kd.S_slice HO214.out; subst eo57; have hcz58_0 : w51.cell? ⟨gb208, 0, none⟩ = some (.slice Ao44 t202.length co44) := (blk_cell BK208.out 0).trans rfl; have hcz58_1 : w51.cell? ⟨gb208, 1, none⟩ = some (.slice Ao48 t205.length co48) := (blk_cell BK208.out 1).trans rfl; have hfz58_0 := blk_frozen BK208.out 0; have hfz58_1 := blk_frozen BK208.out 1) | ((with_reducible refine gate_callee (f := 7) rfl ?_); refine goesL_ (some 31) rfl rfl Try.func7 (by kernel_rfl) rfl #[.agg #[.slice Ao44 t202.length co44, .slice Ao48 t205.length co48], .agg #[.slice Ao52 t209.length co52, .slice Ao57 t212.length co57]] rfl (by (try simp only [List.map_toArray, List.map_cons, List.map_nil]); first | done | rfl | (simp only [List.length_drop, List.length_take]; rfl)) ?_; (with_reducible refine (impl_ShapeSame.calls k _ _ t202 _ _ t205 _ _ t209 _ _ t212 t216 _ ?side1 ?side2 ?side3 ?side4 ?side5 ?side6 ?side7 ?side8 A24.out).mono ?_); (case side1 => refine (Kd.R_reads' (e := 42) (base := w.heap.size) (ok := fun k_ => (((True ∧ some k_ ≠ (.slice Ao36 t189.length co36 : Value).ownBlock) ∧ some k_ ≠ (.slice Ao38 t195.length co38 : Value).ownBlock) ∧ some k_ ≠ (.slice Ao52 t209.length co52 : Value).ownBlock)) (n := t202.length) (c := co44) ?_).2.2; exact (by exact (Kd.R_mono (Kd.R_far (p := ⟨gb215, 1, none⟩) (Kd.R_far (p := ⟨gb215, 0, none⟩) (Kd.R_types HO204.out BK215.out (by decide)) (fun _ hk => hk.2) (.slice Ao52 t209.length co52)) (fun _ hk => hk.2) (.slice Ao57 t212.length co57)) (fun _ h_ => h_.1)))); (case side2 => exact (Kd.R_reads' HO204.out).2.1); (case side3 => refine (Kd.S_reads' (e := 38) (base := w.heap.size) (ok := fun k_ => ((((((some k_ ≠ (.slice Ao44 t202.length co44 : Value).ownBlock ∧ some k_ ≠ (.slice Ao36 t189.length co36 : Value).ownBlock) ∧ some k_ ≠ (.slice Ao37 t192.length co37 : Value).ownBlock) ∧ some k_ ≠ (.slice Ao38 t195.length co38 : Value).ownBlock) ∧ some k_ ≠ (.slice Ao39 t198.length co39 : Value).ownBlock) ∧ some k_ ≠ (.slice Ao52 t209.length co52 : Value).ownBlock) ∧ some k_ ≠ (.slice Ao57 t212.length co57 : Value).ownBlock)) (n := t205.length) (c := co48) ?_).2.2; exact (by exact (Kd.S_mono (Kd.S_far (p := ⟨gb215, 1, none⟩) (Kd.S_far (p := ⟨gb215, 0, none⟩) (Kd.S_types HO207.out BK215.out (by decide)) (fun _ hk => hk.2) (.slice Ao52 t209.length co52)) (fun _ hk => hk.2) (.slice Ao57 t212.length co57)) (fun _ h_ => h_.1)))); (case side4 => exact (Kd.S_reads' HO207.out).2.1); (case side5 => refine (Kd.R_reads' (e := 42) (base := w.heap.size) (ok := fun k_ => (((True ∧ some k_ ≠ (.slice Ao36 t189.length co36 : Value).ownBlock) ∧ some k_ ≠ (.slice Ao38 t195.length co38 : Value).ownBlock) ∧ some k_ ≠ (.slice Ao44 t202.length co44 : Value).ownBlock)) (n := t209.length) (c := co52) ?_).2.2; exact (by exact (Kd.R_mono (Kd.R_far (p := ⟨gb215, 1, none⟩) (Kd.R_far (p := ⟨gb215, 0, none⟩) (Kd.R_types HO211.out BK215.out (by decide)) (fun _ hk => hk.2) (.slice Ao52 t209.length co52)) (fun _ hk => hk.2) (.slice Ao57 t212.length co57)) (fun _ h_ => h_.1)))); (case side6 => exact (Kd.R_reads' HO211.out).2.1); (case side7 => refine (Kd.S_reads' (e := 38) (base := w.heap.size) (ok := fun k_ => ((((((some k_ ≠ (.slice Ao52 t209.length co52 : Value).ownBlock ∧ some k_ ≠ (.slice Ao36 t189.length co36 : Value).ownBlock) ∧ some k_ ≠ (.slice Ao37 t192.length co37 : Value).ownBlock) ∧ some k_ ≠ (.slice Ao38 t195.length co38 : Value).ownBlock) ∧ some k_ ≠ (.slice Ao39 t198.length co39 : Value).ownBlock) ∧ some k_ ≠ (.slice Ao44 t202.length co44 : Value).ownBlock) ∧ some k_ ≠ (.slice Ao48 t205.length co48 : Value).ownBlock)) (n := t212.length) (c := co57) ?_).2.2; exact (by exact (Kd.S_mono (Kd.S_far (p := ⟨gb215, 1, none⟩) (Kd.S_far (p := ⟨gb215, 0, none⟩) (Kd.S_types HO214.out BK215.out (by decide)) (fun _ hk => hk.2) (.slice Ao52 t209.length co52)) (fun _ hk => hk.2) (.slice Ao57 t212.length co57)) (fun _ h_ => h_.1)))); (case side8 => exact (Kd.S_reads' HO214.out).2.1); rintro e w59 ⟨rfl, hb⟩; refine ⟨_, rfl, ?_⟩; have n0_ := Aside0.mk (Kd.R_below (by exact (Kd.R_mono (Kd.R_far (p := ⟨gb215, 1, none⟩) (Kd.R_far (p := ⟨gb215, 0, none⟩) (Kd.R_types HO191.out BK215.out (by decide)) (fun _ hk => hk.2) (.slice Ao52 t209.length co52)) (fun _ hk => hk.2) (.slice Ao57 t212.length co57)) (fun _ h_ => h_.1))) hb); have n1_ := Aside0.mk (Kd.S_below (by exact (Kd.S_mono (Kd.S_far (p := ⟨gb215, 1, none⟩) (Kd.S_far (p := ⟨gb215, 0, none⟩) (Kd.S_types HO194.out BK215.out (by decide)) (fun _ hk => hk.2) (.slice Ao52 t209.length co52)) (fun _ hk => hk.2) (.slice Ao57 t212.length co57)) (fun _ h_ => h_.1))) hb); have n2_ := Aside0.mk (Kd.R_below (by exact (Kd.R_mono (Kd.R_far (p := ⟨gb215, 1, none⟩) (Kd.R_far (p := ⟨gb215, 0, none⟩) (Kd.R_types HO197.out BK215.out (by decide)) (fun _ hk => hk.2) (.slice Ao52 t209.length co52)) (fun _ hk => hk.2) (.slice Ao57 t212.length co57)) (fun _ h_ => h_.1))) hb); have n3_ := Aside0.mk (Kd.S_below (by exact (Kd.S_mono (Kd.S_far (p := ⟨gb215, 1, none⟩) (Kd.S_far (p := ⟨gb215, 0, none⟩) (Kd.S_types HO200.out BK215.out (by decide)) (fun _ hk => hk.2) (.slice Ao52 t209.length co52)) (fun _ hk => hk.2) (.slice Ao57 t212.length co57)) (fun _ h_ => h_.1))) hb); have n4_ := Aside0.mk (Kd.R_below (by exact (Kd.R_mono (Kd.R_far (p := ⟨gb215, 1, none⟩) (Kd.R_far (p := ⟨gb215, 0, none⟩) (Kd.R_types HO204.out BK215.out (by decide)) (fun _ hk => hk.2) (.slice Ao52 t209.length co52)) (fun _ hk => hk.2) (.slice Ao57 t212.length co57)) (fun _ h_ => h_.1))) hb); have n5_ := Aside0.mk (Kd.S_below (by exact (Kd.S_mono (Kd.S_far (p := ⟨gb215, 1, none⟩) (Kd.S_far (p := ⟨gb215, 0, none⟩) (Kd.S_types HO207.out BK215.out (by decide)) (fun _ hk => hk.2) (.slice Ao52 t209.length co52)) (fun _ hk => hk.2) (.slice Ao57 t212.length co57)) (fun _ h_ => h_.1))) hb); have n6_ := Aside0.mk (Kd.R_below (by exact (Kd.R_mono (Kd.R_far (p := ⟨gb215, 1, none⟩) (Kd.R_far (p := ⟨gb215, 0, none⟩) (Kd.R_types HO211.out BK215.out (by decide)) (fun _ hk => hk.2) (.slice Ao52 t209.length co52)) (fun _ hk => hk.2) (.slice Ao57 t212.length co57)) (fun _ h_ => h_.1))) hb); have n7_ := Aside0.mk (Kd.S_below (by exact (Kd.S_mono (Kd.S_far (p := ⟨gb215, 1, none⟩) (Kd.S_far (p := ⟨gb215, 0, none⟩) (Kd.S_types HO214.out BK215.out (by decide)) (fun _ hk => hk.2) (.slice Ao52 t209.length co52)) (fun _ hk => hk.2) (.slice Ao57 t212.length co57)) (fun _ h_ => h_.1))) hb); have n8_ := Aside0.mk (blk_below (g := gb185) (o := .cells #[.slice A0_0 l0_0.length c0_0, .slice A0_1 l0_1.length c0_1] 25 (0, 0)) (by refine blk_far ?_ NB185_215.out _; refine blk_far ?_ NB185_215.out _; exact BK185.out) hb); have n9_ := Aside0.mk (blk_below (g := gb186) (o := .cells #[.slice A1_0 l1_0.length c1_0, .slice A1_1 l1_1.length c1_1] 25 (0, 0)) (by refine blk_far ?_ NB186_215.out _; refine blk_far ?_ NB186_215.out _; exact BK186.out) hb); have n10_ := Aside0.mk (blk_below (g := gb208) (o := .cells #[.slice Ao44 t202.length co44, .slice Ao48 t205.length co48] 31 (0, 0)) (by refine blk_far ?_ NB208_215.out _; refine blk_far ?_ NB208_215.out _; exact BK208.out) hb); have n11_ := Aside0.mk (blk_below (g := gb215) (o := .cells #[.slice Ao52 t209.length co52, .slice Ao57 t212.length co57] 31 (0, 0)) (by refine blk_put (cs := #[.slice Ao52 t209.length co52, .slice none 0 0]) ?_ 1 _ rfl; refine blk_put (cs := #[.slice none 0 0, .slice none 0 0]) ?_ 0 _ rfl; exact BK215.out) hb); have n12_ := Aside0.mk (below_step (by repeat (first | (with_reducible first | exact HB.out | refine below_set ?_ GE185.out | refine below_set ?_ GE186.out | refine below_set ?_ GE208.out | refine below_set ?_ GE215.out) | exact HB.out)) hb); clear HO191; clear HO194; clear HO197; clear HO200; clear HO204; clear HO207; clear HO211; clear HO214; clear BK185; clear BK186; clear BK208; clear BK215; clear HB; have HO191 := n0_; have HO194 := n1_; have HO197 := n2_; have HO200 := n3_; have HO204 := n4_; have HO207 := n5_; have HO211 := n6_; have HO214 := n7_; have BK185 := n8_; have BK186 := n9_; have BK208 := n10_; have BK215 := n11_; have HB := n12_; clear n0_ n1_ n2_ n3_ n4_ n5_ n6_ n7_ n8_ n9_ n10_ n11_ n12_; (try clear hb); (try clear hb2); (try clear hk); (try clear hi)))
        go_ret
        exact ⟨by first | rfl | (simp [errW_none, errW_some] <;> rfl) | (simp [*, errW_none, errW_some] <;> rfl), by repeat (first | (with_reducible first | exact HB.out | refine below_set ?_ GE185.out | refine below_set ?_ GE186.out | refine below_set ?_ GE208.out | refine below_set ?_ GE215.out) | exact HB.out)⟩
      · rw [if_neg c25] at H
        have c25b0 : (t216 != t201) = false := by simpa using c25
        (try (have c25b1 : decide (t216 = t201) = true := by simpa using c25))
        (try (have c25b2 : (t216 == t201) = true := by simpa using c25))
        clear c25
        replace H := Option.bind_eq_some_iff.mp H
        obtain ⟨⟨t217, t220⟩, A600, H⟩ := H
        replace H : ((laws_eqShape.f k t202 t205 t217 t220).bind fun t223 => (if t223 = true then ((laws_toShape.f k l1_0 l1_1).bind fun bt224 => ((laws_eqShape.f k t209 t212 bt224.1 bt224.2).bind fun t230 => (if t230 = true then (some true) else (some false)))) else (some false))) = some r := H
        have A60 := Aside0.mk A600
        clear A600
        replace H := Option.bind_eq_some_iff.mp H
        obtain ⟨t223, A610, H⟩ := H
        replace H : (if t223 = true then ((laws_toShape.f k l1_0 l1_1).bind fun bt224 => ((laws_eqShape.f k t209 t212 bt224.1 bt224.2).bind fun t230 => (if t230 = true then (some true) else (some false)))) else (some false)) = some r := H
        have A61 := Aside0.mk A610
        clear A610
        by_cases c62 : t223 = true
        · subst c62
          have H1 : ((laws_toShape.f k l1_0 l1_1).bind fun bt224 => ((laws_eqShape.f k t209 t212 bt224.1 bt224.2).bind fun t230 => (if t230 = true then (some true) else (some false)))) = some r := by rw [if_pos rfl] at H; exact H
          clear H
          have H := H1
          clear H1
          replace H := Option.bind_eq_some_iff.mp H
          obtain ⟨⟨t224, t227⟩, A630, H⟩ := H
          replace H : ((laws_eqShape.f k t209 t212 t224 t227).bind fun t230 => (if t230 = true then (some true) else (some false))) = some r := H
          have A63 := Aside0.mk A630
          clear A630
          replace H := Option.bind_eq_some_iff.mp H
          obtain ⟨t230, A640, H⟩ := H
          replace H : (if t230 = true then (some true) else (some false)) = some r := H
          have A64 := Aside0.mk A640
          clear A640
          by_cases c65 : t230 = true
          · subst c65
            have H1 : (some true) = some r := by rw [if_pos rfl] at H; exact H
            clear H
            have H := H1
            clear H1
            obtain rfl := Option.some.inj H
            go_enter Try.func3, Try.ntmps3
            try go_wp2_with (first | ((with_reducible refine gate_dst (N := 2) rfl ?_); refine box_event ?hg (N := 2) ?hd (cs := #[.slice A0_0 l0_0.length c0_0, .slice A0_1 l0_1.length c0_1]) (t := 25) ?hr ?_; (case hd => rfl); (case hg => rfl); (case hr => first | (go_simp; done) | (go_simp; rfl)); intro gb185 hg w66 hbox hb; have n0_ := Aside0.mk (below_step (by repeat (first | (with_reducible first | exact HB.out) | exact HB.out)) hb); have n1_ := Aside0.mk (hbox); have n2_ := Aside0.mk ((by rw [hg]; exact (below_size (by repeat (first | (with_reducible first | exact HB.out) | exact HB.out))) : w.heap.size ≤ gb185)); have n3_ := Aside0.mk ((by rw [hg]; exact (below_size (by repeat (first | (with_reducible first | exact HB.out) | exact HB.out))) : w.heap.size ≤ gb185)); clear HB; have HB := n0_; have BK185 := n1_; have GW185 := n2_; have GE185 := n3_; clear n0_ n1_ n2_ n3_; clear hb hbox hg) | ((with_reducible refine gate_dst (N := 3) rfl ?_); refine box_event ?hg (N := 3) ?hd (cs := #[.slice A1_0 l1_0.length c1_0, .slice A1_1 l1_1.length c1_1]) (t := 25) ?hr ?_; (case hd => rfl); (case hg => rfl); (case hr => first | (go_simp; done) | (go_simp; rfl)); intro gb186 hg w67 hbox hb; have n0_ := Aside0.mk (blk_below (g := gb185) (o := .cells #[.slice A0_0 l0_0.length c0_0, .slice A0_1 l0_1.length c0_1] 25 (0, 0)) (by exact BK185.out) hb); have n1_ := Aside0.mk (below_step (by repeat (first | (with_reducible first | exact HB.out | refine below_set ?_ GE185.out) | exact HB.out)) hb); have n2_ := Aside0.mk (hbox); have n3_ := Aside0.mk ((by rw [hg]; exact (below_size (by repeat (first | (with_reducible first | exact HB.out | refine below_set ?_ GE185.out) | exact HB.out))) : w.heap.size ≤ gb186)); have n4_ := Aside0.mk ((by rw [hg]; exact (below_size (by repeat (first | (with_reducible first | exact HB.out | refine below_set ?_ GE185.out) | exact HB.out))) : w.heap.size ≤ gb186)); have n5_ := Aside0.mk ((by rw [hg]; exact Nat.ne_of_lt (blk_lt (g := gb185) (o := .cells #[.slice A0_0 l0_0.length c0_0, .slice A0_1 l0_1.length c0_1] 25 (0, 0)) (by exact BK185.out)) : gb185 ≠ gb186)); have n6_ := Aside0.mk ((by rw [hg]; exact Nat.ne_of_gt (blk_lt (g := gb185) (o := .cells #[.slice A0_0 l0_0.length c0_0, .slice A0_1 l0_1.length c0_1] 25 (0, 0)) (by exact BK185.out)) : gb186 ≠ gb185)); clear BK185; clear HB; have BK185 := n0_; have HB := n1_; have BK186 := n2_; have GW186 := n3_; have GE186 := n4_; have NB185_186 := n5_; have NB186_185 := n6_; clear n0_ n1_ n2_ n3_ n4_ n5_ n6_; clear hb hbox hg; have hnb68 := NB185_186.out; have hnc68 := NB186_185.out; have hcz69_0 : w67.cell? ⟨gb185, 0, none⟩ = some (.slice A0_0 l0_0.length c0_0) := (blk_cell BK185.out 0).trans rfl; have hcz69_1 : w67.cell? ⟨gb185, 1, none⟩ = some (.slice A0_1 l0_1.length c0_1) := (blk_cell BK185.out 1).trans rfl; have hfz69_0 := blk_frozen BK185.out 0; have hfz69_1 := blk_frozen BK185.out 1) | ((with_reducible refine gate_callee (f := 4) rfl ?_); refine goesL_ (some 12) rfl rfl Try.func4 (by kernel_rfl) rfl #[.agg #[.slice A0_0 l0_0.length c0_0, .slice A0_1 l0_1.length c0_1], .int .i64 1048576] rfl (by (try simp only [List.map_toArray, List.map_cons, List.map_nil]); first | done | rfl | (simp only [List.length_drop, List.length_take]; rfl)) ?_; (with_reducible refine (laws_szShape.calls k _ _ l0_0 _ _ l0_1 1048576 t187 _ ?side1 ?side2 ?side3 ?side4 A3.out).mono ?_); (case side1 => repeat (first | exact (Kd.C_below HR0_0.out HB.out) | (with_reducible refine Kd.C_alloc ?_ _) | (with_reducible refine Kd.C_drewN ?_ _) | (with_reducible refine Kd.C_drew ?_))); (case side2 => exact HC0_0.out); (case side3 => repeat (first | exact (Kd.C_below HR0_1.out HB.out) | (with_reducible refine Kd.C_alloc ?_ _) | (with_reducible refine Kd.C_drewN ?_ _) | (with_reducible refine Kd.C_drew ?_))); (case side4 => exact HC0_1.out); rintro e w70 ⟨rfl, hb⟩; refine ⟨_, rfl, ?_⟩; have n0_ := Aside0.mk (blk_below (g := gb185) (o := .cells #[.slice A0_0 l0_0.length c0_0, .slice A0_1 l0_1.length c0_1] 25 (0, 0)) (by exact BK185.out) hb); have n1_ := Aside0.mk (blk_below (g := gb186) (o := .cells #[.slice A1_0 l1_0.length c1_0, .slice A1_1 l1_1.length c1_1] 25 (0, 0)) (by exact BK186.out) hb); have n2_ := Aside0.mk (below_step (by repeat (first | (with_reducible first | exact HB.out | refine below_set ?_ GE185.out | refine below_set ?_ GE186.out) | exact HB.out)) hb); clear BK185; clear BK186; clear HB; have BK185 := n0_; have BK186 := n1_; have HB := n2_; clear n0_ n1_ n2_; (try clear hb); (try clear hb2); (try clear hk); (try clear hi); have hcz71_0 : w70.cell? ⟨gb186, 0, none⟩ = some (.slice A1_0 l1_0.length c1_0) := (blk_cell BK186.out 0).trans rfl; have hcz71_1 : w70.cell? ⟨gb186, 1, none⟩ = some (.slice A1_1 l1_1.length c1_1) := (blk_cell BK186.out 1).trans rfl; have hfz71_0 := blk_frozen BK186.out 0; have hfz71_1 := blk_frozen BK186.out 1) | ((with_reducible refine gate_callee (f := 4) rfl ?_); refine goesL_ (some 17) rfl rfl Try.func4 (by kernel_rfl) rfl #[.agg #[.slice A1_0 l1_0.length c1_0, .slice A1_1 l1_1.length c1_1], .int .i64 t187] rfl (by (try simp only [List.map_toArray, List.map_cons, List.map_nil]); first | done | rfl | (simp only [List.length_drop, List.length_take]; rfl)) ?_; (with_reducible refine (laws_szShape.calls k _ _ l1_0 _ _ l1_1 t187 t188 _ ?side1 ?side2 ?side3 ?side4 A10.out).mono ?_); (case side1 => repeat (first | exact (Kd.C_below HR1_0.out HB.out) | (with_reducible refine Kd.C_alloc ?_ _) | (with_reducible refine Kd.C_drewN ?_ _) | (with_reducible refine Kd.C_drew ?_))); (case side2 => exact HC1_0.out); (case side3 => repeat (first | exact (Kd.C_below HR1_1.out HB.out) | (with_reducible refine Kd.C_alloc ?_ _) | (with_reducible refine Kd.C_drewN ?_ _) | (with_reducible refine Kd.C_drew ?_))); (case side4 => exact HC1_1.out); rintro e w72 ⟨rfl, hb⟩; refine ⟨_, rfl, ?_⟩; have n0_ := Aside0.mk (blk_below (g := gb185) (o := .cells #[.slice A0_0 l0_0.length c0_0, .slice A0_1 l0_1.length c0_1] 25 (0, 0)) (by exact BK185.out) hb); have n1_ := Aside0.mk (blk_below (g := gb186) (o := .cells #[.slice A1_0 l1_0.length c1_0, .slice A1_1 l1_1.length c1_1] 25 (0, 0)) (by exact BK186.out) hb); have n2_ := Aside0.mk (below_step (by repeat (first | (with_reducible first | exact HB.out | refine below_set ?_ GE185.out | refine below_set ?_ GE186.out) | exact HB.out)) hb); clear BK185; clear BK186; clear HB; have BK185 := n0_; have BK186 := n1_; have HB := n2_; clear n0_ n1_ n2_; (try clear hb); (try clear hb2); (try clear hk); (try clear hi)))
            have n0_ := Aside0.mk (blk_drew BK185.out)
            have n1_ := Aside0.mk (blk_drew BK186.out)
            have n2_ := Aside0.mk (below_drew1 HB.out)
            clear BK185
            clear BK186
            clear HB
            have BK185 := n0_
            have BK186 := n1_
            have HB := n2_
            clear n0_ n1_ n2_
            refine start_ (n := 6) (S := fun w' => w'.cell? ⟨gb185, 0, none⟩ = some (.slice A0_0 l0_0.length c0_0) ∧ w'.cell? ⟨gb185, 1, none⟩ = some (.slice A0_1 l0_1.length c0_1) ∧ w'.cell? ⟨gb186, 0, none⟩ = some (.slice A1_0 l1_0.length c1_0) ∧ w'.cell? ⟨gb186, 1, none⟩ = some (.slice A1_1 l1_1.length c1_1)) (ds := []) #[false, false, false, false, false, false] (by kernel_rfl) rfl rfl ⟨(blk_cell BK185.out 0).trans rfl, (blk_cell BK185.out 1).trans rfl, (blk_cell BK186.out 0).trans rfl, (blk_cell BK186.out 1).trans rfl⟩ (fun hHeld => ?_)
            generalize w72.drew = w73 at BK185 BK186 HB hHeld ⊢
            refine take_ (i := 0) (N := some 20) (v := ?_) (a' := ?_) #[true, false, false, false, false, false] rfl rfl (by kernel_rfl) (fun _ _ _ h => h) (Or.inl ⟨by rfl, ?_⟩) hHeld ?_ ?_
            rotate_left
            · rintro w' ⟨s0, s1, s2, s3⟩
              go_simp
              with_reducible rfl
            rotate_left
            · simp only [Act.put, List.setIfInBounds_toArray, List.set_cons_zero, List.set_cons_succ, i64_w, i32_w]
              rfl
            refine take_ (i := 2) (N := some 22) (v := ?_) (a' := ?_) #[true, false, true, false, false, false] rfl rfl (by kernel_rfl) (fun _ _ _ h => h) (Or.inl ⟨by rfl, ?_⟩) hHeld ?_ ?_
            rotate_left
            · rintro w' ⟨s0, s1, s2, s3⟩
              go_simp
              with_reducible rfl
            rotate_left
            · simp only [Act.put, List.setIfInBounds_toArray, List.set_cons_zero, List.set_cons_succ, i64_w, i32_w]
              rfl
            refine one_ (i := 1) (N := some 21) #[true, true, true, false, false, false] rfl rfl (by kernel_rfl) (by decide) (fun K hK => ?_)
            refine goes_ Try.func6 (by kernel_rfl) rfl #[.agg #[.slice A0_0 l0_0.length c0_0, .slice A0_1 l0_1.length c0_1]] (by rfl) rfl rfl (by (try simp only [List.map_toArray, List.map_cons, List.map_nil]); first | done | rfl | (simp only [List.length_drop, List.length_take]; rfl)) ?_
            with_reducible refine (laws_toShape.calls k _ _ l0_0 _ _ l0_1 t189 t192 _ ?side1 ?side2 ?side3 ?side4 A19.out).mono ?_
            (case side1 => repeat (first | exact (Kd.C_below HR0_0.out HB.out) | (with_reducible refine Kd.C_alloc ?_ _) | (with_reducible refine Kd.C_drewN ?_ _) | (with_reducible refine Kd.C_drew ?_)))
            (case side2 => exact HC0_0.out)
            (case side3 => repeat (first | exact (Kd.C_below HR0_1.out HB.out) | (with_reducible refine Kd.C_alloc ?_ _) | (with_reducible refine Kd.C_drewN ?_ _) | (with_reducible refine Kd.C_drew ?_)))
            (case side4 => exact HC0_1.out)
            rintro e w74 ⟨v190, v193, rfl, ho0, ho1, hb⟩
            refine ⟨_, rfl, ?_⟩
            have n0_ := Aside0.mk (Kd.R_lower ho0 (below_size (by repeat (first | (with_reducible first | exact HB.out | refine below_set ?_ GE185.out | refine below_set ?_ GE186.out) | exact HB.out))))
            have n1_ := Aside0.mk (Kd.S_lower ho1 (below_size (by repeat (first | (with_reducible first | exact HB.out | refine below_set ?_ GE185.out | refine below_set ?_ GE186.out) | exact HB.out))))
            have n2_ := Aside0.mk (blk_below (g := gb185) (o := .cells #[.slice A0_0 l0_0.length c0_0, .slice A0_1 l0_1.length c0_1] 25 (0, 0)) (by exact BK185.out) hb)
            have n3_ := Aside0.mk (blk_below (g := gb186) (o := .cells #[.slice A1_0 l1_0.length c1_0, .slice A1_1 l1_1.length c1_1] 25 (0, 0)) (by exact BK186.out) hb)
            have n4_ := Aside0.mk (below_step (by repeat (first | (with_reducible first | exact HB.out | refine below_set ?_ GE185.out | refine below_set ?_ GE186.out) | exact HB.out)) hb)
            clear BK185
            clear BK186
            clear HB
            have HO191 := n0_
            have HO194 := n1_
            have BK185 := n2_
            have BK186 := n3_
            have HB := n4_
            clear n0_ n1_ n2_ n3_ n4_
            (try clear hb)
            (try clear hb2)
            (try clear hk)
            (try clear hi)
            (try clear ho0)
            (try clear ho1)
            refine hK.out _ _ ⟨(blk_cell BK185.out 0).trans rfl, (blk_cell BK185.out 1).trans rfl, (blk_cell BK186.out 0).trans rfl, (blk_cell BK186.out 1).trans rfl⟩ (fun hHeld => ?_)
            clear hK K
            refine norm_ (a' := ?_) ?_ ?_
            rotate_left
            · show Act.put _ (some 21) _ = _
              simp only [Act.put, List.setIfInBounds_toArray, List.set_cons_zero, List.set_cons_succ, i64_w, i32_w]
              rfl
            refine one_ (i := 3) (N := some 23) #[true, true, true, true, false, false] rfl rfl (by kernel_rfl) (by decide) (fun K hK => ?_)
            refine goes_ Try.func6 (by kernel_rfl) rfl #[.agg #[.slice A1_0 l1_0.length c1_0, .slice A1_1 l1_1.length c1_1]] (by rfl) rfl rfl (by (try simp only [List.map_toArray, List.map_cons, List.map_nil]); first | done | rfl | (simp only [List.length_drop, List.length_take]; rfl)) ?_
            with_reducible refine (laws_toShape.calls k _ _ l1_0 _ _ l1_1 t195 t198 _ ?side1 ?side2 ?side3 ?side4 A20.out).mono ?_
            (case side1 => repeat (first | exact (Kd.C_below HR1_0.out HB.out) | (with_reducible refine Kd.C_alloc ?_ _) | (with_reducible refine Kd.C_drewN ?_ _) | (with_reducible refine Kd.C_drew ?_)))
            (case side2 => exact HC1_0.out)
            (case side3 => repeat (first | exact (Kd.C_below HR1_1.out HB.out) | (with_reducible refine Kd.C_alloc ?_ _) | (with_reducible refine Kd.C_drewN ?_ _) | (with_reducible refine Kd.C_drew ?_)))
            (case side4 => exact HC1_1.out)
            rintro e w75 ⟨v196, v199, rfl, ho0, ho1, hb⟩
            refine ⟨_, rfl, ?_⟩
            have n0_ := Aside0.mk (Kd.R_elder' (by exact HO191.out) (Kd.R_base ho0) hb)
            have n1_ := Aside0.mk (Kd.S_mono (Kd.S_told (Kd.S_told (Kd.S_old (by exact HO194.out) hb) (Kd.R_base ho0)) (Kd.S_base ho1)) (fun _ h_ => h_.1))
            have n2_ := Aside0.mk (Kd.R_lower (Kd.R_new' ho0 (Kd.R_lt (by exact HO191.out))) (below_size (by repeat (first | (with_reducible first | exact HB.out | refine below_set ?_ GE185.out | refine below_set ?_ GE186.out) | exact HB.out))))
            have n3_ := Aside0.mk (Kd.S_lower (Kd.S_new' (Kd.S_new' ho1 (Kd.R_lt (by exact HO191.out))) (Kd.S_lt (by exact HO194.out))) (below_size (by repeat (first | (with_reducible first | exact HB.out | refine below_set ?_ GE185.out | refine below_set ?_ GE186.out) | exact HB.out))))
            have n4_ := Aside0.mk (blk_below (g := gb185) (o := .cells #[.slice A0_0 l0_0.length c0_0, .slice A0_1 l0_1.length c0_1] 25 (0, 0)) (by exact BK185.out) hb)
            have n5_ := Aside0.mk (blk_below (g := gb186) (o := .cells #[.slice A1_0 l1_0.length c1_0, .slice A1_1 l1_1.length c1_1] 25 (0, 0)) (by exact BK186.out) hb)
            have n6_ := Aside0.mk (below_step (by repeat (first | (with_reducible first | exact HB.out | refine below_set ?_ GE185.out | refine below_set ?_ GE186.out) | exact HB.out)) hb)
            clear HO191
            clear HO194
            clear BK185
            clear BK186
            clear HB
            have HO191 := n0_
            have HO194 := n1_
            have HO197 := n2_
            have HO200 := n3_
            have BK185 := n4_
            have BK186 := n5_
            have HB := n6_
            clear n0_ n1_ n2_ n3_ n4_ n5_ n6_
            (try clear hb)
            (try clear hb2)
            (try clear hk)
            (try clear hi)
            (try clear ho0)
            (try clear ho1)
            obtain ⟨Ao76, co76, eo76⟩ := Kd.R_slice HO191.out
            (first | subst eo76 | (injection eo76 with f1_ f2_ f3_; have f4_ := f1_.symm; have f5_ := f3_.symm; clear f1_ f2_ f3_; subst f4_; subst f5_))
            obtain ⟨Ao77, co77, eo77⟩ := Kd.S_slice HO194.out
            (first | subst eo77 | (injection eo77 with f1_ f2_ f3_; have f4_ := f1_.symm; have f5_ := f3_.symm; clear f1_ f2_ f3_; subst f4_; subst f5_))
            obtain ⟨Ao78, co78, eo78⟩ := Kd.R_slice HO197.out
            (first | subst eo78 | (injection eo78 with f1_ f2_ f3_; have f4_ := f1_.symm; have f5_ := f3_.symm; clear f1_ f2_ f3_; subst f4_; subst f5_))
            obtain ⟨Ao79, co79, eo79⟩ := Kd.S_slice HO200.out
            (first | subst eo79 | (injection eo79 with f1_ f2_ f3_; have f4_ := f1_.symm; have f5_ := f3_.symm; clear f1_ f2_ f3_; subst f4_; subst f5_))
            refine hK.out _ _ ⟨(blk_cell BK185.out 0).trans rfl, (blk_cell BK185.out 1).trans rfl, (blk_cell BK186.out 0).trans rfl, (blk_cell BK186.out 1).trans rfl⟩ (fun hHeld => ?_)
            clear hK K
            refine norm_ (a' := ?_) ?_ ?_
            rotate_left
            · show Act.put _ (some 23) _ = _
              simp only [Act.put, List.setIfInBounds_toArray, List.set_cons_zero, List.set_cons_succ, i64_w, i32_w]
              rfl
            refine one_ (i := 4) (N := some 24) #[true, true, true, true, true, false] rfl rfl (by kernel_rfl) (by decide) (fun K hK => ?_)
            refine goes_ Try.func5 (by kernel_rfl) rfl #[.agg #[.slice Ao76 t189.length co76, .slice Ao77 t192.length co77], .agg #[.slice Ao78 t195.length co78, .slice Ao79 t198.length co79]] (by rfl) rfl rfl (by (try simp only [List.map_toArray, List.map_cons, List.map_nil]); first | done | rfl | (simp only [List.length_drop, List.length_take]; rfl)) ?_
            with_reducible refine (spec_ShapeSame.calls k _ _ t189 _ _ t192 _ _ t195 _ _ t198 t201 _ ?side1 ?side2 ?side3 ?side4 ?side5 ?side6 ?side7 ?side8 A21.out).mono ?_
            (case side1 => repeat (first | exact (Kd.R_reads' HO191.out).2.2 | (with_reducible refine Kd.C_alloc ?_ _) | (with_reducible refine Kd.C_drewN ?_ _) | (with_reducible refine Kd.C_drew ?_)))
            (case side2 => exact (Kd.R_reads' HO191.out).2.1)
            (case side3 => repeat (first | exact (Kd.S_reads' HO194.out).2.2 | (with_reducible refine Kd.C_alloc ?_ _) | (with_reducible refine Kd.C_drewN ?_ _) | (with_reducible refine Kd.C_drew ?_)))
            (case side4 => exact (Kd.S_reads' HO194.out).2.1)
            (case side5 => repeat (first | exact (Kd.R_reads' HO197.out).2.2 | (with_reducible refine Kd.C_alloc ?_ _) | (with_reducible refine Kd.C_drewN ?_ _) | (with_reducible refine Kd.C_drew ?_)))
            (case side6 => exact (Kd.R_reads' HO197.out).2.1)
            (case side7 => repeat (first | exact (Kd.S_reads' HO200.out).2.2 | (with_reducible refine Kd.C_alloc ?_ _) | (with_reducible refine Kd.C_drewN ?_ _) | (with_reducible refine Kd.C_drew ?_)))
            (case side8 => exact (Kd.S_reads' HO200.out).2.1)
            rintro e w80 ⟨rfl, hb⟩
            refine ⟨_, rfl, ?_⟩
            have n0_ := Aside0.mk (Kd.R_below (by exact HO191.out) hb)
            have n1_ := Aside0.mk (Kd.S_below (by exact HO194.out) hb)
            have n2_ := Aside0.mk (Kd.R_below (by exact HO197.out) hb)
            have n3_ := Aside0.mk (Kd.S_below (by exact HO200.out) hb)
            have n4_ := Aside0.mk (blk_below (g := gb185) (o := .cells #[.slice A0_0 l0_0.length c0_0, .slice A0_1 l0_1.length c0_1] 25 (0, 0)) (by exact BK185.out) hb)
            have n5_ := Aside0.mk (blk_below (g := gb186) (o := .cells #[.slice A1_0 l1_0.length c1_0, .slice A1_1 l1_1.length c1_1] 25 (0, 0)) (by exact BK186.out) hb)
            have n6_ := Aside0.mk (below_step (by repeat (first | (with_reducible first | exact HB.out | refine below_set ?_ GE185.out | refine below_set ?_ GE186.out) | exact HB.out)) hb)
            clear HO191
            clear HO194
            clear HO197
            clear HO200
            clear BK185
            clear BK186
            clear HB
            have HO191 := n0_
            have HO194 := n1_
            have HO197 := n2_
            have HO200 := n3_
            have BK185 := n4_
            have BK186 := n5_
            have HB := n6_
            clear n0_ n1_ n2_ n3_ n4_ n5_ n6_
            (try clear hb)
            (try clear hb2)
            (try clear hk)
            (try clear hi)
            refine hK.out _ _ ⟨(blk_cell BK185.out 0).trans rfl, (blk_cell BK185.out 1).trans rfl, (blk_cell BK186.out 0).trans rfl, (blk_cell BK186.out 1).trans rfl⟩ (fun hHeld => ?_)
            clear hK K
            refine norm_ (a' := ?_) ?_ ?_
            rotate_left
            · show Act.put _ (some 24) _ = _
              simp only [Act.put, List.setIfInBounds_toArray, List.set_cons_zero, List.set_cons_succ, i64_w, i32_w]
              rfl
            refine pure_ (i := 5) (N := some 6) (v := ?_) (a' := ?_) #[true, true, true, true, true, true] rfl rfl (by kernel_rfl) (fun _ _ _ h => h) (Or.inl ⟨by rfl, ?_⟩) ?_ ?_
            rotate_left
            · intro w'
              go_simp
              with_reducible rfl
            rotate_left
            · simp only [Act.put, List.setIfInBounds_toArray, List.set_cons_zero, List.set_cons_succ, i64_w, i32_w]
              rfl
            refine done_ (by kernel_rfl) ?_
            have hcz81_0 : w80.cell? ⟨gb185, 0, none⟩ = some (.slice A0_0 l0_0.length c0_0) := (blk_cell BK185.out 0).trans rfl
            have hcz81_1 : w80.cell? ⟨gb185, 1, none⟩ = some (.slice A0_1 l0_1.length c0_1) := (blk_cell BK185.out 1).trans rfl
            have hfz81_0 := blk_frozen BK185.out 0
            have hfz81_1 := blk_frozen BK185.out 1
            try go_wp2_with (first | ((with_reducible refine gate_callee (f := 6) rfl ?_); refine goesL_ (some 26) rfl rfl Try.func6 (by kernel_rfl) rfl #[.agg #[.slice A0_0 l0_0.length c0_0, .slice A0_1 l0_1.length c0_1]] rfl (by (try simp only [List.map_toArray, List.map_cons, List.map_nil]); first | done | rfl | (simp only [List.length_drop, List.length_take]; rfl)) ?_; (with_reducible refine (laws_toShape.calls k _ _ l0_0 _ _ l0_1 t202 t205 _ ?side1 ?side2 ?side3 ?side4 A22.out).mono ?_); (case side1 => repeat (first | exact (Kd.C_below HR0_0.out HB.out) | (with_reducible refine Kd.C_alloc ?_ _) | (with_reducible refine Kd.C_drewN ?_ _) | (with_reducible refine Kd.C_drew ?_))); (case side2 => exact HC0_0.out); (case side3 => repeat (first | exact (Kd.C_below HR0_1.out HB.out) | (with_reducible refine Kd.C_alloc ?_ _) | (with_reducible refine Kd.C_drewN ?_ _) | (with_reducible refine Kd.C_drew ?_))); (case side4 => exact HC0_1.out); rintro e w82 ⟨v203, v206, rfl, ho0, ho1, hb⟩; refine ⟨_, rfl, ?_⟩; have n0_ := Aside0.mk (Kd.R_elder' (by exact HO191.out) (Kd.R_base ho0) hb); have n1_ := Aside0.mk (Kd.S_mono (Kd.S_told (Kd.S_told (Kd.S_old (by exact HO194.out) hb) (Kd.R_base ho0)) (Kd.S_base ho1)) (fun _ h_ => h_.1)); have n2_ := Aside0.mk (Kd.R_elder' (by exact HO197.out) (Kd.R_base ho0) hb); have n3_ := Aside0.mk (Kd.S_mono (Kd.S_told (Kd.S_told (Kd.S_old (by exact HO200.out) hb) (Kd.R_base ho0)) (Kd.S_base ho1)) (fun _ h_ => h_.1)); have n4_ := Aside0.mk (Kd.R_lower (Kd.R_new' (Kd.R_new' ho0 (Kd.R_lt (by exact HO191.out))) (Kd.R_lt (by exact HO197.out))) (below_size (by repeat (first | (with_reducible first | exact HB.out | refine below_set ?_ GE185.out | refine below_set ?_ GE186.out) | exact HB.out)))); have n5_ := Aside0.mk (Kd.S_lower (Kd.S_new' (Kd.S_new' (Kd.S_new' (Kd.S_new' ho1 (Kd.R_lt (by exact HO191.out))) (Kd.S_lt (by exact HO194.out))) (Kd.R_lt (by exact HO197.out))) (Kd.S_lt (by exact HO200.out))) (below_size (by repeat (first | (with_reducible first | exact HB.out | refine below_set ?_ GE185.out | refine below_set ?_ GE186.out) | exact HB.out)))); have n6_ := Aside0.mk (blk_below (g := gb185) (o := .cells #[.slice A0_0 l0_0.length c0_0, .slice A0_1 l0_1.length c0_1] 25 (0, 0)) (by exact BK185.out) hb); have n7_ := Aside0.mk (blk_below (g := gb186) (o := .cells #[.slice A1_0 l1_0.length c1_0, .slice A1_1 l1_1.length c1_1] 25 (0, 0)) (by exact BK186.out) hb); have n8_ := Aside0.mk (below_step (by repeat (first | (with_reducible first | exact HB.out | refine below_set ?_ GE185.out | refine below_set ?_ GE186.out) | exact HB.out)) hb); clear HO191; clear HO194; clear HO197; clear HO200; clear BK185; clear BK186; clear HB; have HO191 := n0_; have HO194 := n1_; have HO197 := n2_; have HO200 := n3_; have HO204 := n4_; have HO207 := n5_; have BK185 := n6_; have BK186 := n7_; have HB := n8_; clear n0_ n1_ n2_ n3_ n4_ n5_ n6_ n7_ n8_; (try clear hb); (try clear hb2); (try clear hk); (try clear hi); (try clear ho0); (try clear ho1)) | ((with_reducible refine gate_dst (N := 7) rfl ?_); refine box_event ?hg (N := 7) ?hd (cs := #[.slice none 0 0, .slice none 0 0]) (t := 31) ?hr ?_; (case hd => rfl); (case hg => rfl); (case hr => first | (go_simp; done) | (go_simp; rfl)); intro gb208 hg w83 hbox hb; have n0_ := Aside0.mk (Kd.R_below (by exact HO191.out) hb); have n1_ := Aside0.mk (Kd.S_below (by exact HO194.out) hb); have n2_ := Aside0.mk (Kd.R_below (by exact HO197.out) hb); have n3_ := Aside0.mk (Kd.S_below (by exact HO200.out) hb); have n4_ := Aside0.mk (Kd.R_below (by exact HO204.out) hb); have n5_ := Aside0.mk (Kd.S_below (by exact HO207.out) hb); have n6_ := Aside0.mk (blk_below (g := gb185) (o := .cells #[.slice A0_0 l0_0.length c0_0, .slice A0_1 l0_1.length c0_1] 25 (0, 0)) (by exact BK185.out) hb); have n7_ := Aside0.mk (blk_below (g := gb186) (o := .cells #[.slice A1_0 l1_0.length c1_0, .slice A1_1 l1_1.length c1_1] 25 (0, 0)) (by exact BK186.out) hb); have n8_ := Aside0.mk (below_step (by repeat (first | (with_reducible first | exact HB.out | refine below_set ?_ GE185.out | refine below_set ?_ GE186.out) | exact HB.out)) hb); have n9_ := Aside0.mk (hbox); have n10_ := Aside0.mk ((by rw [hg]; exact (below_size (by repeat (first | (with_reducible first | exact HB.out | refine below_set ?_ GE185.out | refine below_set ?_ GE186.out) | exact HB.out))) : w.heap.size ≤ gb208)); have n11_ := Aside0.mk ((by rw [hg]; exact (below_size (by repeat (first | (with_reducible first | exact HB.out | refine below_set ?_ GE185.out | refine below_set ?_ GE186.out) | exact HB.out))) : w.heap.size ≤ gb208)); have n12_ := Aside0.mk ((by rw [hg]; exact Nat.ne_of_lt (blk_lt (g := gb185) (o := .cells #[.slice A0_0 l0_0.length c0_0, .slice A0_1 l0_1.length c0_1] 25 (0, 0)) (by exact BK185.out)) : gb185 ≠ gb208)); have n13_ := Aside0.mk ((by rw [hg]; exact Nat.ne_of_gt (blk_lt (g := gb185) (o := .cells #[.slice A0_0 l0_0.length c0_0, .slice A0_1 l0_1.length c0_1] 25 (0, 0)) (by exact BK185.out)) : gb208 ≠ gb185)); have n14_ := Aside0.mk ((by rw [hg]; exact Nat.ne_of_lt (blk_lt (g := gb186) (o := .cells #[.slice A1_0 l1_0.length c1_0, .slice A1_1 l1_1.length c1_1] 25 (0, 0)) (by exact BK186.out)) : gb186 ≠ gb208)); have n15_ := Aside0.mk ((by rw [hg]; exact Nat.ne_of_gt (blk_lt (g := gb186) (o := .cells #[.slice A1_0 l1_0.length c1_0, .slice A1_1 l1_1.length c1_1] 25 (0, 0)) (by exact BK186.out)) : gb208 ≠ gb186)); clear HO191; clear HO194; clear HO197; clear HO200; clear HO204; clear HO207; clear BK185; clear BK186; clear HB; have HO191 := n0_; have HO194 := n1_; have HO197 := n2_; have HO200 := n3_; have HO204 := n4_; have HO207 := n5_; have BK185 := n6_; have BK186 := n7_; have HB := n8_; have BK208 := n9_; have GW208 := n10_; have GE208 := n11_; have NB185_208 := n12_; have NB208_185 := n13_; have NB186_208 := n14_; have NB208_186 := n15_; clear n0_ n1_ n2_ n3_ n4_ n5_ n6_ n7_ n8_ n9_ n10_ n11_ n12_ n13_ n14_ n15_; clear hb hbox hg; obtain ⟨Ao84, co84, eo84⟩ := Kd.R_slice HO204.out; subst eo84; have hnb85 := NB208_185.out; have hnc85 := NB185_208.out; have hnb86 := NB208_186.out; have hnc86 := NB186_208.out; have hcz87_0 : w83.cell? ⟨gb208, 0, none⟩ = some (.slice none 0 0) := (blk_cell BK208.out 0).trans rfl; have hcz87_1 : w83.cell? ⟨gb208, 1, none⟩ = some (.slice none 0 0) := (blk_cell BK208.out 1).trans rfl; have hfz87_0 := blk_frozen BK208.out 0; have hfz87_1 := blk_frozen BK208.out 1; obtain ⟨Ao88, co88, eo88⟩ := Kd.S_slice HO207.out; subst eo88; have hcz89_0 : w83.cell? ⟨gb186, 0, none⟩ = some (.slice A1_0 l1_0.length c1_0) := (blk_cell BK186.out 0).trans rfl; have hcz89_1 : w83.cell? ⟨gb186, 1, none⟩ = some (.slice A1_1 l1_1.length c1_1) := (blk_cell BK186.out 1).trans rfl; have hfz89_0 := blk_frozen BK186.out 0; have hfz89_1 := blk_frozen BK186.out 1) | ((with_reducible refine gate_callee (f := 6) rfl ?_); refine goesL_ (some 28) rfl rfl Try.func6 (by kernel_rfl) rfl #[.agg #[.slice A1_0 l1_0.length c1_0, .slice A1_1 l1_1.length c1_1]] rfl (by (try simp only [List.map_toArray, List.map_cons, List.map_nil]); first | done | rfl | (simp only [List.length_drop, List.length_take]; rfl)) ?_; (with_reducible refine (laws_toShape.calls k _ _ l1_0 _ _ l1_1 t209 t212 _ ?side1 ?side2 ?side3 ?side4 A23.out).mono ?_); (case side1 => exact Kd.C_below HR1_0.out (by repeat (first | (with_reducible first | exact HB.out | refine below_set ?_ GE185.out | refine below_set ?_ GE186.out | refine below_set ?_ GE208.out) | exact HB.out))); (case side2 => exact HC1_0.out); (case side3 => exact Kd.C_below HR1_1.out (by repeat (first | (with_reducible first | exact HB.out | refine below_set ?_ GE185.out | refine below_set ?_ GE186.out | refine below_set ?_ GE208.out) | exact HB.out))); (case side4 => exact HC1_1.out); rintro e w90 ⟨v210, v213, rfl, ho0, ho1, hb⟩; refine ⟨_, rfl, ?_⟩; have n0_ := Aside0.mk (Kd.R_elder' (by exact (Kd.R_mono (Kd.R_far (p := ⟨gb208, 1, none⟩) (Kd.R_far (p := ⟨gb208, 0, none⟩) (Kd.R_types HO191.out BK208.out (by decide)) (fun _ hk => hk.2) (.slice Ao84 t202.length co84)) (fun _ hk => hk.2) (.slice Ao88 t205.length co88)) (fun _ h_ => h_.1))) (Kd.R_base ho0) hb); have n1_ := Aside0.mk (Kd.S_mono (Kd.S_told (Kd.S_told (Kd.S_old (by exact (Kd.S_mono (Kd.S_far (p := ⟨gb208, 1, none⟩) (Kd.S_far (p := ⟨gb208, 0, none⟩) (Kd.S_types HO194.out BK208.out (by decide)) (fun _ hk => hk.2) (.slice Ao84 t202.length co84)) (fun _ hk => hk.2) (.slice Ao88 t205.length co88)) (fun _ h_ => h_.1))) hb) (Kd.R_base ho0)) (Kd.S_base ho1)) (fun _ h_ => h_.1)); have n2_ := Aside0.mk (Kd.R_elder' (by exact (Kd.R_mono (Kd.R_far (p := ⟨gb208, 1, none⟩) (Kd.R_far (p := ⟨gb208, 0, none⟩) (Kd.R_types HO197.out BK208.out (by decide)) (fun _ hk => hk.2) (.slice Ao84 t202.length co84)) (fun _ hk => hk.2) (.slice Ao88 t205.length co88)) (fun _ h_ => h_.1))) (Kd.R_base ho0) hb); have n3_ := Aside0.mk (Kd.S_mono (Kd.S_told (Kd.S_told (Kd.S_old (by exact (Kd.S_mono (Kd.S_far (p := ⟨gb208, 1, none⟩) (Kd.S_far (p := ⟨gb208, 0, none⟩) (Kd.S_types HO200.out BK208.out (by decide)) (fun _ hk => hk.2) (.slice Ao84 t202.length co84)) (fun _ hk => hk.2) (.slice Ao88 t205.length co88)) (fun _ h_ => h_.1))) hb) (Kd.R_base ho0)) (Kd.S_base ho1)) (fun _ h_ => h_.1)); have n4_ := Aside0.mk (Kd.R_elder' (by exact (Kd.R_mono (Kd.R_far (p := ⟨gb208, 1, none⟩) (Kd.R_far (p := ⟨gb208, 0, none⟩) (Kd.R_types HO204.out BK208.out (by decide)) (fun _ hk => hk.2) (.slice Ao84 t202.length co84)) (fun _ hk => hk.2) (.slice Ao88 t205.length co88)) (fun _ h_ => h_.1))) (Kd.R_base ho0) hb); have n5_ := Aside0.mk (Kd.S_mono (Kd.S_told (Kd.S_told (Kd.S_old (by exact (Kd.S_mono (Kd.S_far (p := ⟨gb208, 1, none⟩) (Kd.S_far (p := ⟨gb208, 0, none⟩) (Kd.S_types HO207.out BK208.out (by decide)) (fun _ hk => hk.2) (.slice Ao84 t202.length co84)) (fun _ hk => hk.2) (.slice Ao88 t205.length co88)) (fun _ h_ => h_.1))) hb) (Kd.R_base ho0)) (Kd.S_base ho1)) (fun _ h_ => h_.1)); have n6_ := Aside0.mk (Kd.R_lower (Kd.R_new' (Kd.R_new' (Kd.R_new' ho0 (Kd.R_lt (by exact (Kd.R_mono (Kd.R_far (p := ⟨gb208, 1, none⟩) (Kd.R_far (p := ⟨gb208, 0, none⟩) (Kd.R_types HO191.out BK208.out (by decide)) (fun _ hk => hk.2) (.slice Ao84 t202.length co84)) (fun _ hk => hk.2) (.slice Ao88 t205.length co88)) (fun _ h_ => h_.1))))) (Kd.R_lt (by exact (Kd.R_mono (Kd.R_far (p := ⟨gb208, 1, none⟩) (Kd.R_far (p := ⟨gb208, 0, none⟩) (Kd.R_types HO197.out BK208.out (by decide)) (fun _ hk => hk.2) (.slice Ao84 t202.length co84)) (fun _ hk => hk.2) (.slice Ao88 t205.length co88)) (fun _ h_ => h_.1))))) (Kd.R_lt (by exact (Kd.R_mono (Kd.R_far (p := ⟨gb208, 1, none⟩) (Kd.R_far (p := ⟨gb208, 0, none⟩) (Kd.R_types HO204.out BK208.out (by decide)) (fun _ hk => hk.2) (.slice Ao84 t202.length co84)) (fun _ hk => hk.2) (.slice Ao88 t205.length co88)) (fun _ h_ => h_.1))))) (below_size (by repeat (first | (with_reducible first | exact HB.out | refine below_set ?_ GE185.out | refine below_set ?_ GE186.out | refine below_set ?_ GE208.out) | exact HB.out)))); have n7_ := Aside0.mk (Kd.S_lower (Kd.S_new' (Kd.S_new' (Kd.S_new' (Kd.S_new' (Kd.S_new' (Kd.S_new' ho1 (Kd.R_lt (by exact (Kd.R_mono (Kd.R_far (p := ⟨gb208, 1, none⟩) (Kd.R_far (p := ⟨gb208, 0, none⟩) (Kd.R_types HO191.out BK208.out (by decide)) (fun _ hk => hk.2) (.slice Ao84 t202.length co84)) (fun _ hk => hk.2) (.slice Ao88 t205.length co88)) (fun _ h_ => h_.1))))) (Kd.S_lt (by exact (Kd.S_mono (Kd.S_far (p := ⟨gb208, 1, none⟩) (Kd.S_far (p := ⟨gb208, 0, none⟩) (Kd.S_types HO194.out BK208.out (by decide)) (fun _ hk => hk.2) (.slice Ao84 t202.length co84)) (fun _ hk => hk.2) (.slice Ao88 t205.length co88)) (fun _ h_ => h_.1))))) (Kd.R_lt (by exact (Kd.R_mono (Kd.R_far (p := ⟨gb208, 1, none⟩) (Kd.R_far (p := ⟨gb208, 0, none⟩) (Kd.R_types HO197.out BK208.out (by decide)) (fun _ hk => hk.2) (.slice Ao84 t202.length co84)) (fun _ hk => hk.2) (.slice Ao88 t205.length co88)) (fun _ h_ => h_.1))))) (Kd.S_lt (by exact (Kd.S_mono (Kd.S_far (p := ⟨gb208, 1, none⟩) (Kd.S_far (p := ⟨gb208, 0, none⟩) (Kd.S_types HO200.out BK208.out (by decide)) (fun _ hk => hk.2) (.slice Ao84 t202.length co84)) (fun _ hk => hk.2) (.slice Ao88 t205.length co88)) (fun _ h_ => h_.1))))) (Kd.R_lt (by exact (Kd.R_mono (Kd.R_far (p := ⟨gb208, 1, none⟩) (Kd.R_far (p := ⟨gb208, 0, none⟩) (Kd.R_types HO204.out BK208.out (by decide)) (fun _ hk => hk.2) (.slice Ao84 t202.length co84)) (fun _ hk => hk.2) (.slice Ao88 t205.length co88)) (fun _ h_ => h_.1))))) (Kd.S_lt (by exact (Kd.S_mono (Kd.S_far (p := ⟨gb208, 1, none⟩) (Kd.S_far (p := ⟨gb208, 0, none⟩) (Kd.S_types HO207.out BK208.out (by decide)) (fun _ hk => hk.2) (.slice Ao84 t202.length co84)) (fun _ hk => hk.2) (.slice Ao88 t205.length co88)) (fun _ h_ => h_.1))))) (below_size (by repeat (first | (with_reducible first | exact HB.out | refine below_set ?_ GE185.out | refine below_set ?_ GE186.out | refine below_set ?_ GE208.out) | exact HB.out)))); have n8_ := Aside0.mk (blk_below (g := gb185) (o := .cells #[.slice A0_0 l0_0.length c0_0, .slice A0_1 l0_1.length c0_1] 25 (0, 0)) (by refine blk_far ?_ NB185_208.out _; refine blk_far ?_ NB185_208.out _; exact BK185.out) hb); have n9_ := Aside0.mk (blk_below (g := gb186) (o := .cells #[.slice A1_0 l1_0.length c1_0, .slice A1_1 l1_1.length c1_1] 25 (0, 0)) (by refine blk_far ?_ NB186_208.out _; refine blk_far ?_ NB186_208.out _; exact BK186.out) hb); have n10_ := Aside0.mk (blk_below (g := gb208) (o := .cells #[.slice Ao84 t202.length co84, .slice Ao88 t205.length co88] 31 (0, 0)) (by refine blk_put (cs := #[.slice Ao84 t202.length co84, .slice none 0 0]) ?_ 1 _ rfl; refine blk_put (cs := #[.slice none 0 0, .slice none 0 0]) ?_ 0 _ rfl; exact BK208.out) hb); have n11_ := Aside0.mk (below_step (by repeat (first | (with_reducible first | exact HB.out | refine below_set ?_ GE185.out | refine below_set ?_ GE186.out | refine below_set ?_ GE208.out) | exact HB.out)) hb); clear HO191; clear HO194; clear HO197; clear HO200; clear HO204; clear HO207; clear BK185; clear BK186; clear BK208; clear HB; have HO191 := n0_; have HO194 := n1_; have HO197 := n2_; have HO200 := n3_; have HO204 := n4_; have HO207 := n5_; have HO211 := n6_; have HO214 := n7_; have BK185 := n8_; have BK186 := n9_; have BK208 := n10_; have HB := n11_; clear n0_ n1_ n2_ n3_ n4_ n5_ n6_ n7_ n8_ n9_ n10_ n11_; (try clear hb); (try clear hb2); (try clear hk); (try clear hi); (try clear ho0); (try clear ho1)) | ((with_reducible refine gate_dst (N := 8) rfl ?_); refine box_event ?hg (N := 8) ?hd (cs := #[.slice none 0 0, .slice none 0 0]) (t := 31) ?hr ?_; (case hd => rfl); (case hg => rfl); (case hr => first | (go_simp; done) | (go_simp; rfl)); intro gb215 hg w91 hbox hb; have n0_ := Aside0.mk (Kd.R_below (by exact HO191.out) hb); have n1_ := Aside0.mk (Kd.S_below (by exact HO194.out) hb); have n2_ := Aside0.mk (Kd.R_below (by exact HO197.out) hb); have n3_ := Aside0.mk (Kd.S_below (by exact HO200.out) hb); have n4_ := Aside0.mk (Kd.R_below (by exact HO204.out) hb); have n5_ := Aside0.mk (Kd.S_below (by exact HO207.out) hb); have n6_ := Aside0.mk (Kd.R_below (by exact HO211.out) hb); have n7_ := Aside0.mk (Kd.S_below (by exact HO214.out) hb); have n8_ := Aside0.mk (blk_below (g := gb185) (o := .cells #[.slice A0_0 l0_0.length c0_0, .slice A0_1 l0_1.length c0_1] 25 (0, 0)) (by exact BK185.out) hb); have n9_ := Aside0.mk (blk_below (g := gb186) (o := .cells #[.slice A1_0 l1_0.length c1_0, .slice A1_1 l1_1.length c1_1] 25 (0, 0)) (by exact BK186.out) hb); have n10_ := Aside0.mk (blk_below (g := gb208) (o := .cells #[.slice Ao84 t202.length co84, .slice Ao88 t205.length co88] 31 (0, 0)) (by exact BK208.out) hb); have n11_ := Aside0.mk (below_step (by repeat (first | (with_reducible first | exact HB.out | refine below_set ?_ GE185.out | refine below_set ?_ GE186.out | refine below_set ?_ GE208.out) | exact HB.out)) hb); have n12_ := Aside0.mk (hbox); have n13_ := Aside0.mk ((by rw [hg]; exact (below_size (by repeat (first | (with_reducible first | exact HB.out | refine below_set ?_ GE185.out | refine below_set ?_ GE186.out | refine below_set ?_ GE208.out) | exact HB.out))) : w.heap.size ≤ gb215)); have n14_ := Aside0.mk ((by rw [hg]; exact (below_size (by repeat (first | (with_reducible first | exact HB.out | refine below_set ?_ GE185.out | refine below_set ?_ GE186.out | refine below_set ?_ GE208.out) | exact HB.out))) : w.heap.size ≤ gb215)); have n15_ := Aside0.mk ((by rw [hg]; exact Nat.ne_of_lt (blk_lt (g := gb185) (o := .cells #[.slice A0_0 l0_0.length c0_0, .slice A0_1 l0_1.length c0_1] 25 (0, 0)) (by exact BK185.out)) : gb185 ≠ gb215)); have n16_ := Aside0.mk ((by rw [hg]; exact Nat.ne_of_gt (blk_lt (g := gb185) (o := .cells #[.slice A0_0 l0_0.length c0_0, .slice A0_1 l0_1.length c0_1] 25 (0, 0)) (by exact BK185.out)) : gb215 ≠ gb185)); have n17_ := Aside0.mk ((by rw [hg]; exact Nat.ne_of_lt (blk_lt (g := gb186) (o := .cells #[.slice A1_0 l1_0.length c1_0, .slice A1_1 l1_1.length c1_1] 25 (0, 0)) (by exact BK186.out)) : gb186 ≠ gb215)); have n18_ := Aside0.mk ((by rw [hg]; exact Nat.ne_of_gt (blk_lt (g := gb186) (o := .cells #[.slice A1_0 l1_0.length c1_0, .slice A1_1 l1_1.length c1_1] 25 (0, 0)) (by exact BK186.out)) : gb215 ≠ gb186)); have n19_ := Aside0.mk ((by rw [hg]; exact Nat.ne_of_lt (blk_lt (g := gb208) (o := .cells #[.slice Ao84 t202.length co84, .slice Ao88 t205.length co88] 31 (0, 0)) (by exact BK208.out)) : gb208 ≠ gb215)); have n20_ := Aside0.mk ((by rw [hg]; exact Nat.ne_of_gt (blk_lt (g := gb208) (o := .cells #[.slice Ao84 t202.length co84, .slice Ao88 t205.length co88] 31 (0, 0)) (by exact BK208.out)) : gb215 ≠ gb208)); clear HO191; clear HO194; clear HO197; clear HO200; clear HO204; clear HO207; clear HO211; clear HO214; clear BK185; clear BK186; clear BK208; clear HB; have HO191 := n0_; have HO194 := n1_; have HO197 := n2_; have HO200 := n3_; have HO204 := n4_; have HO207 := n5_; have HO211 := n6_; have HO214 := n7_; have BK185 := n8_; have BK186 := n9_; have BK208 := n10_; have HB := n11_; have BK215 := n12_; have GW215 := n13_; have GE215 := n14_; have NB185_215 := n15_; have NB215_185 := n16_; have NB186_215 := n17_; have NB215_186 := n18_; have NB208_215 := n19_; have NB215_208 := n20_; clear n0_ n1_ n2_ n3_ n4_ n5_ n6_ n7_ n8_ n9_ n10_ n11_ n12_ n13_ n14_ n15_ n16_ n17_ n18_ n19_ n20_; clear hb hbox hg; obtain ⟨Ao92, co92, eo92⟩ := Kd.R_slice HO211.out; subst eo92; have hnb93 := NB215_185.out; have hnc93 := NB185_215.out; have hnb94 := NB215_186.out; have hnc94 := NB186_215.out; have hnb95 := NB215_208.out; have hnc95 := NB208_215.out; have hcz96_0 : w91.cell? ⟨gb215, 0, none⟩ = some (.slice none 0 0) := (blk_cell BK215.out 0).trans rfl; have hcz96_1 : w91.cell? ⟨gb215, 1, none⟩ = some (.slice none 0 0) := (blk_cell BK215.out 1).trans rfl; have hfz96_0 := blk_frozen BK215.out 0; have hfz96_1 := blk_frozen BK215.out 1; obtain ⟨Ao97, co97, eo97⟩ := Kd.S_slice HO214.out; subst eo97; have hcz98_0 : w91.cell? ⟨gb208, 0, none⟩ = some (.slice Ao84 t202.length co84) := (blk_cell BK208.out 0).trans rfl; have hcz98_1 : w91.cell? ⟨gb208, 1, none⟩ = some (.slice Ao88 t205.length co88) := (blk_cell BK208.out 1).trans rfl; have hfz98_0 := blk_frozen BK208.out 0; have hfz98_1 := blk_frozen BK208.out 1) | ((with_reducible refine gate_callee (f := 7) rfl ?_); refine goesL_ (some 31) rfl rfl Try.func7 (by kernel_rfl) rfl #[.agg #[.slice Ao84 t202.length co84, .slice Ao88 t205.length co88], .agg #[.slice Ao92 t209.length co92, .slice Ao97 t212.length co97]] rfl (by (try simp only [List.map_toArray, List.map_cons, List.map_nil]); first | done | rfl | (simp only [List.length_drop, List.length_take]; rfl)) ?_; (with_reducible refine (impl_ShapeSame.calls k _ _ t202 _ _ t205 _ _ t209 _ _ t212 t216 _ ?side1 ?side2 ?side3 ?side4 ?side5 ?side6 ?side7 ?side8 A24.out).mono ?_); (case side1 => refine (Kd.R_reads' (e := 42) (base := w.heap.size) (ok := fun k_ => (((True ∧ some k_ ≠ (.slice Ao76 t189.length co76 : Value).ownBlock) ∧ some k_ ≠ (.slice Ao78 t195.length co78 : Value).ownBlock) ∧ some k_ ≠ (.slice Ao92 t209.length co92 : Value).ownBlock)) (n := t202.length) (c := co84) ?_).2.2; exact (by exact (Kd.R_mono (Kd.R_far (p := ⟨gb215, 1, none⟩) (Kd.R_far (p := ⟨gb215, 0, none⟩) (Kd.R_types HO204.out BK215.out (by decide)) (fun _ hk => hk.2) (.slice Ao92 t209.length co92)) (fun _ hk => hk.2) (.slice Ao97 t212.length co97)) (fun _ h_ => h_.1)))); (case side2 => exact (Kd.R_reads' HO204.out).2.1); (case side3 => refine (Kd.S_reads' (e := 38) (base := w.heap.size) (ok := fun k_ => ((((((some k_ ≠ (.slice Ao84 t202.length co84 : Value).ownBlock ∧ some k_ ≠ (.slice Ao76 t189.length co76 : Value).ownBlock) ∧ some k_ ≠ (.slice Ao77 t192.length co77 : Value).ownBlock) ∧ some k_ ≠ (.slice Ao78 t195.length co78 : Value).ownBlock) ∧ some k_ ≠ (.slice Ao79 t198.length co79 : Value).ownBlock) ∧ some k_ ≠ (.slice Ao92 t209.length co92 : Value).ownBlock) ∧ some k_ ≠ (.slice Ao97 t212.length co97 : Value).ownBlock)) (n := t205.length) (c := co88) ?_).2.2; exact (by exact (Kd.S_mono (Kd.S_far (p := ⟨gb215, 1, none⟩) (Kd.S_far (p := ⟨gb215, 0, none⟩) (Kd.S_types HO207.out BK215.out (by decide)) (fun _ hk => hk.2) (.slice Ao92 t209.length co92)) (fun _ hk => hk.2) (.slice Ao97 t212.length co97)) (fun _ h_ => h_.1)))); (case side4 => exact (Kd.S_reads' HO207.out).2.1); (case side5 => refine (Kd.R_reads' (e := 42) (base := w.heap.size) (ok := fun k_ => (((True ∧ some k_ ≠ (.slice Ao76 t189.length co76 : Value).ownBlock) ∧ some k_ ≠ (.slice Ao78 t195.length co78 : Value).ownBlock) ∧ some k_ ≠ (.slice Ao84 t202.length co84 : Value).ownBlock)) (n := t209.length) (c := co92) ?_).2.2; exact (by exact (Kd.R_mono (Kd.R_far (p := ⟨gb215, 1, none⟩) (Kd.R_far (p := ⟨gb215, 0, none⟩) (Kd.R_types HO211.out BK215.out (by decide)) (fun _ hk => hk.2) (.slice Ao92 t209.length co92)) (fun _ hk => hk.2) (.slice Ao97 t212.length co97)) (fun _ h_ => h_.1)))); (case side6 => exact (Kd.R_reads' HO211.out).2.1); (case side7 => refine (Kd.S_reads' (e := 38) (base := w.heap.size) (ok := fun k_ => ((((((some k_ ≠ (.slice Ao92 t209.length co92 : Value).ownBlock ∧ some k_ ≠ (.slice Ao76 t189.length co76 : Value).ownBlock) ∧ some k_ ≠ (.slice Ao77 t192.length co77 : Value).ownBlock) ∧ some k_ ≠ (.slice Ao78 t195.length co78 : Value).ownBlock) ∧ some k_ ≠ (.slice Ao79 t198.length co79 : Value).ownBlock) ∧ some k_ ≠ (.slice Ao84 t202.length co84 : Value).ownBlock) ∧ some k_ ≠ (.slice Ao88 t205.length co88 : Value).ownBlock)) (n := t212.length) (c := co97) ?_).2.2; exact (by exact (Kd.S_mono (Kd.S_far (p := ⟨gb215, 1, none⟩) (Kd.S_far (p := ⟨gb215, 0, none⟩) (Kd.S_types HO214.out BK215.out (by decide)) (fun _ hk => hk.2) (.slice Ao92 t209.length co92)) (fun _ hk => hk.2) (.slice Ao97 t212.length co97)) (fun _ h_ => h_.1)))); (case side8 => exact (Kd.S_reads' HO214.out).2.1); rintro e w99 ⟨rfl, hb⟩; refine ⟨_, rfl, ?_⟩; have n0_ := Aside0.mk (Kd.R_below (by exact (Kd.R_mono (Kd.R_far (p := ⟨gb215, 1, none⟩) (Kd.R_far (p := ⟨gb215, 0, none⟩) (Kd.R_types HO191.out BK215.out (by decide)) (fun _ hk => hk.2) (.slice Ao92 t209.length co92)) (fun _ hk => hk.2) (.slice Ao97 t212.length co97)) (fun _ h_ => h_.1))) hb); have n1_ := Aside0.mk (Kd.S_below (by exact (Kd.S_mono (Kd.S_far (p := ⟨gb215, 1, none⟩) (Kd.S_far (p := ⟨gb215, 0, none⟩) (Kd.S_types HO194.out BK215.out (by decide)) (fun _ hk => hk.2) (.slice Ao92 t209.length co92)) (fun _ hk => hk.2) (.slice Ao97 t212.length co97)) (fun _ h_ => h_.1))) hb); have n2_ := Aside0.mk (Kd.R_below (by exact (Kd.R_mono (Kd.R_far (p := ⟨gb215, 1, none⟩) (Kd.R_far (p := ⟨gb215, 0, none⟩) (Kd.R_types HO197.out BK215.out (by decide)) (fun _ hk => hk.2) (.slice Ao92 t209.length co92)) (fun _ hk => hk.2) (.slice Ao97 t212.length co97)) (fun _ h_ => h_.1))) hb); have n3_ := Aside0.mk (Kd.S_below (by exact (Kd.S_mono (Kd.S_far (p := ⟨gb215, 1, none⟩) (Kd.S_far (p := ⟨gb215, 0, none⟩) (Kd.S_types HO200.out BK215.out (by decide)) (fun _ hk => hk.2) (.slice Ao92 t209.length co92)) (fun _ hk => hk.2) (.slice Ao97 t212.length co97)) (fun _ h_ => h_.1))) hb); have n4_ := Aside0.mk (Kd.R_below (by exact (Kd.R_mono (Kd.R_far (p := ⟨gb215, 1, none⟩) (Kd.R_far (p := ⟨gb215, 0, none⟩) (Kd.R_types HO204.out BK215.out (by decide)) (fun _ hk => hk.2) (.slice Ao92 t209.length co92)) (fun _ hk => hk.2) (.slice Ao97 t212.length co97)) (fun _ h_ => h_.1))) hb); have n5_ := Aside0.mk (Kd.S_below (by exact (Kd.S_mono (Kd.S_far (p := ⟨gb215, 1, none⟩) (Kd.S_far (p := ⟨gb215, 0, none⟩) (Kd.S_types HO207.out BK215.out (by decide)) (fun _ hk => hk.2) (.slice Ao92 t209.length co92)) (fun _ hk => hk.2) (.slice Ao97 t212.length co97)) (fun _ h_ => h_.1))) hb); have n6_ := Aside0.mk (Kd.R_below (by exact (Kd.R_mono (Kd.R_far (p := ⟨gb215, 1, none⟩) (Kd.R_far (p := ⟨gb215, 0, none⟩) (Kd.R_types HO211.out BK215.out (by decide)) (fun _ hk => hk.2) (.slice Ao92 t209.length co92)) (fun _ hk => hk.2) (.slice Ao97 t212.length co97)) (fun _ h_ => h_.1))) hb); have n7_ := Aside0.mk (Kd.S_below (by exact (Kd.S_mono (Kd.S_far (p := ⟨gb215, 1, none⟩) (Kd.S_far (p := ⟨gb215, 0, none⟩) (Kd.S_types HO214.out BK215.out (by decide)) (fun _ hk => hk.2) (.slice Ao92 t209.length co92)) (fun _ hk => hk.2) (.slice Ao97 t212.length co97)) (fun _ h_ => h_.1))) hb); have n8_ := Aside0.mk (blk_below (g := gb185) (o := .cells #[.slice A0_0 l0_0.length c0_0, .slice A0_1 l0_1.length c0_1] 25 (0, 0)) (by refine blk_far ?_ NB185_215.out _; refine blk_far ?_ NB185_215.out _; exact BK185.out) hb); have n9_ := Aside0.mk (blk_below (g := gb186) (o := .cells #[.slice A1_0 l1_0.length c1_0, .slice A1_1 l1_1.length c1_1] 25 (0, 0)) (by refine blk_far ?_ NB186_215.out _; refine blk_far ?_ NB186_215.out _; exact BK186.out) hb); have n10_ := Aside0.mk (blk_below (g := gb208) (o := .cells #[.slice Ao84 t202.length co84, .slice Ao88 t205.length co88] 31 (0, 0)) (by refine blk_far ?_ NB208_215.out _; refine blk_far ?_ NB208_215.out _; exact BK208.out) hb); have n11_ := Aside0.mk (blk_below (g := gb215) (o := .cells #[.slice Ao92 t209.length co92, .slice Ao97 t212.length co97] 31 (0, 0)) (by refine blk_put (cs := #[.slice Ao92 t209.length co92, .slice none 0 0]) ?_ 1 _ rfl; refine blk_put (cs := #[.slice none 0 0, .slice none 0 0]) ?_ 0 _ rfl; exact BK215.out) hb); have n12_ := Aside0.mk (below_step (by repeat (first | (with_reducible first | exact HB.out | refine below_set ?_ GE185.out | refine below_set ?_ GE186.out | refine below_set ?_ GE208.out | refine below_set ?_ GE215.out) | exact HB.out)) hb); clear HO191; clear HO194; clear HO197; clear HO200; clear HO204; clear HO207; clear HO211; clear HO214; clear BK185; clear BK186; clear BK208; clear BK215; clear HB; have HO191 := n0_; have HO194 := n1_; have HO197 := n2_; have HO200 := n3_; have HO204 := n4_; have HO207 := n5_; have HO211 := n6_; have HO214 := n7_; have BK185 := n8_; have BK186 := n9_; have BK208 := n10_; have BK215 := n11_; have HB := n12_; clear n0_ n1_ n2_ n3_ n4_ n5_ n6_ n7_ n8_ n9_ n10_ n11_ n12_; (try clear hb); (try clear hb2); (try clear hk); (try clear hi)))
            have n0_ := Aside0.mk (Kd.R_drew HO191.out)
            have n1_ := Aside0.mk (Kd.S_drew HO194.out)
            have n2_ := Aside0.mk (Kd.R_drew HO197.out)
            have n3_ := Aside0.mk (Kd.S_drew HO200.out)
            have n4_ := Aside0.mk (Kd.R_drew HO204.out)
            have n5_ := Aside0.mk (Kd.S_drew HO207.out)
            have n6_ := Aside0.mk (Kd.R_drew HO211.out)
            have n7_ := Aside0.mk (Kd.S_drew HO214.out)
            have n8_ := Aside0.mk (blk_drew BK185.out)
            have n9_ := Aside0.mk (blk_drew BK186.out)
            have n10_ := Aside0.mk (blk_drew BK208.out)
            have n11_ := Aside0.mk (blk_drew BK215.out)
            have n12_ := Aside0.mk (below_drew1 HB.out)
            clear HO191
            clear HO194
            clear HO197
            clear HO200
            clear HO204
            clear HO207
            clear HO211
            clear HO214
            clear BK185
            clear BK186
            clear BK208
            clear BK215
            clear HB
            have HO191 := n0_
            have HO194 := n1_
            have HO197 := n2_
            have HO200 := n3_
            have HO204 := n4_
            have HO207 := n5_
            have HO211 := n6_
            have HO214 := n7_
            have BK185 := n8_
            have BK186 := n9_
            have BK208 := n10_
            have BK215 := n11_
            have HB := n12_
            clear n0_ n1_ n2_ n3_ n4_ n5_ n6_ n7_ n8_ n9_ n10_ n11_ n12_
            refine start_ (n := 5) (S := fun w' => w'.cell? ⟨gb208, 0, none⟩ = some (.slice Ao84 t202.length co84) ∧ w'.cell? ⟨gb208, 1, none⟩ = some (.slice Ao88 t205.length co88) ∧ w'.cell? ⟨gb185, 0, none⟩ = some (.slice A0_0 l0_0.length c0_0) ∧ w'.cell? ⟨gb185, 1, none⟩ = some (.slice A0_1 l0_1.length c0_1)) (ds := []) #[false, false, false, false, false] (by kernel_rfl) rfl rfl ⟨(blk_cell BK208.out 0).trans rfl, (blk_cell BK208.out 1).trans rfl, (blk_cell BK185.out 0).trans rfl, (blk_cell BK185.out 1).trans rfl⟩ (fun hHeld => ?_)
            generalize w99.drew = w100 at HO191 HO194 HO197 HO200 HO204 HO207 HO211 HO214 BK185 BK186 BK208 BK215 HB hHeld ⊢
            refine take_ (i := 0) (N := some 35) (v := ?_) (a' := ?_) #[true, false, false, false, false] rfl rfl (by kernel_rfl) (fun _ _ _ h => h) (Or.inl ⟨by rfl, ?_⟩) hHeld ?_ ?_
            rotate_left
            · rintro w' ⟨s0, s1, s2, s3⟩
              go_simp
              with_reducible rfl
            rotate_left
            · simp only [Act.put, List.setIfInBounds_toArray, List.set_cons_zero, List.set_cons_succ, i64_w, i32_w]
              rfl
            refine take_ (i := 1) (N := some 36) (v := ?_) (a' := ?_) #[true, true, false, false, false] rfl rfl (by kernel_rfl) (fun _ _ _ h => h) (Or.inl ⟨by rfl, ?_⟩) hHeld ?_ ?_
            rotate_left
            · rintro w' ⟨s0, s1, s2, s3⟩
              go_simp
              with_reducible rfl
            rotate_left
            · simp only [Act.put, List.setIfInBounds_toArray, List.set_cons_zero, List.set_cons_succ, i64_w, i32_w]
              rfl
            refine one_ (i := 2) (N := some 37) #[true, true, true, false, false] rfl rfl (by kernel_rfl) (by decide) (fun K hK => ?_)
            refine goes_ Try.func6 (by kernel_rfl) rfl #[.agg #[.slice A0_0 l0_0.length c0_0, .slice A0_1 l0_1.length c0_1]] (by rfl) rfl rfl (by (try simp only [List.map_toArray, List.map_cons, List.map_nil]); first | done | rfl | (simp only [List.length_drop, List.length_take]; rfl)) ?_
            with_reducible refine (laws_toShape.calls k _ _ l0_0 _ _ l0_1 t217 t220 _ ?side1 ?side2 ?side3 ?side4 A60.out).mono ?_
            (case side1 => repeat (first | exact (Kd.C_below HR0_0.out HB.out) | (with_reducible refine Kd.C_alloc ?_ _) | (with_reducible refine Kd.C_drewN ?_ _) | (with_reducible refine Kd.C_drew ?_)))
            (case side2 => exact HC0_0.out)
            (case side3 => repeat (first | exact (Kd.C_below HR0_1.out HB.out) | (with_reducible refine Kd.C_alloc ?_ _) | (with_reducible refine Kd.C_drewN ?_ _) | (with_reducible refine Kd.C_drew ?_)))
            (case side4 => exact HC0_1.out)
            rintro e w101 ⟨v218, v221, rfl, ho0, ho1, hb⟩
            refine ⟨_, rfl, ?_⟩
            have n0_ := Aside0.mk (Kd.R_elder' (by exact HO191.out) (Kd.R_base ho0) hb)
            have n1_ := Aside0.mk (Kd.S_mono (Kd.S_told (Kd.S_told (Kd.S_old (by exact HO194.out) hb) (Kd.R_base ho0)) (Kd.S_base ho1)) (fun _ h_ => h_.1))
            have n2_ := Aside0.mk (Kd.R_elder' (by exact HO197.out) (Kd.R_base ho0) hb)
            have n3_ := Aside0.mk (Kd.S_mono (Kd.S_told (Kd.S_told (Kd.S_old (by exact HO200.out) hb) (Kd.R_base ho0)) (Kd.S_base ho1)) (fun _ h_ => h_.1))
            have n4_ := Aside0.mk (Kd.R_elder' (by exact HO204.out) (Kd.R_base ho0) hb)
            have n5_ := Aside0.mk (Kd.S_mono (Kd.S_told (Kd.S_told (Kd.S_old (by exact HO207.out) hb) (Kd.R_base ho0)) (Kd.S_base ho1)) (fun _ h_ => h_.1))
            have n6_ := Aside0.mk (Kd.R_elder' (by exact HO211.out) (Kd.R_base ho0) hb)
            have n7_ := Aside0.mk (Kd.S_mono (Kd.S_told (Kd.S_told (Kd.S_old (by exact HO214.out) hb) (Kd.R_base ho0)) (Kd.S_base ho1)) (fun _ h_ => h_.1))
            have n8_ := Aside0.mk (Kd.R_lower (Kd.R_new' (Kd.R_new' (Kd.R_new' (Kd.R_new' ho0 (Kd.R_lt (by exact HO191.out))) (Kd.R_lt (by exact HO197.out))) (Kd.R_lt (by exact HO204.out))) (Kd.R_lt (by exact HO211.out))) (below_size (by repeat (first | (with_reducible first | exact HB.out | refine below_set ?_ GE185.out | refine below_set ?_ GE186.out | refine below_set ?_ GE208.out | refine below_set ?_ GE215.out) | exact HB.out))))
            have n9_ := Aside0.mk (Kd.S_lower (Kd.S_new' (Kd.S_new' (Kd.S_new' (Kd.S_new' (Kd.S_new' (Kd.S_new' (Kd.S_new' (Kd.S_new' ho1 (Kd.R_lt (by exact HO191.out))) (Kd.S_lt (by exact HO194.out))) (Kd.R_lt (by exact HO197.out))) (Kd.S_lt (by exact HO200.out))) (Kd.R_lt (by exact HO204.out))) (Kd.S_lt (by exact HO207.out))) (Kd.R_lt (by exact HO211.out))) (Kd.S_lt (by exact HO214.out))) (below_size (by repeat (first | (with_reducible first | exact HB.out | refine below_set ?_ GE185.out | refine below_set ?_ GE186.out | refine below_set ?_ GE208.out | refine below_set ?_ GE215.out) | exact HB.out))))
            have n10_ := Aside0.mk (blk_below (g := gb185) (o := .cells #[.slice A0_0 l0_0.length c0_0, .slice A0_1 l0_1.length c0_1] 25 (0, 0)) (by exact BK185.out) hb)
            have n11_ := Aside0.mk (blk_below (g := gb186) (o := .cells #[.slice A1_0 l1_0.length c1_0, .slice A1_1 l1_1.length c1_1] 25 (0, 0)) (by exact BK186.out) hb)
            have n12_ := Aside0.mk (blk_below (g := gb208) (o := .cells #[.slice Ao84 t202.length co84, .slice Ao88 t205.length co88] 31 (0, 0)) (by exact BK208.out) hb)
            have n13_ := Aside0.mk (blk_below (g := gb215) (o := .cells #[.slice Ao92 t209.length co92, .slice Ao97 t212.length co97] 31 (0, 0)) (by exact BK215.out) hb)
            have n14_ := Aside0.mk (below_step (by repeat (first | (with_reducible first | exact HB.out | refine below_set ?_ GE185.out | refine below_set ?_ GE186.out | refine below_set ?_ GE208.out | refine below_set ?_ GE215.out) | exact HB.out)) hb)
            clear HO191
            clear HO194
            clear HO197
            clear HO200
            clear HO204
            clear HO207
            clear HO211
            clear HO214
            clear BK185
            clear BK186
            clear BK208
            clear BK215
            clear HB
            have HO191 := n0_
            have HO194 := n1_
            have HO197 := n2_
            have HO200 := n3_
            have HO204 := n4_
            have HO207 := n5_
            have HO211 := n6_
            have HO214 := n7_
            have HO219 := n8_
            have HO222 := n9_
            have BK185 := n10_
            have BK186 := n11_
            have BK208 := n12_
            have BK215 := n13_
            have HB := n14_
            clear n0_ n1_ n2_ n3_ n4_ n5_ n6_ n7_ n8_ n9_ n10_ n11_ n12_ n13_ n14_
            (try clear hb)
            (try clear hb2)
            (try clear hk)
            (try clear hi)
            (try clear ho0)
            (try clear ho1)
            obtain ⟨Ao102, co102, eo102⟩ := Kd.R_slice HO219.out
            (first | subst eo102 | (injection eo102 with f1_ f2_ f3_; have f4_ := f1_.symm; have f5_ := f3_.symm; clear f1_ f2_ f3_; subst f4_; subst f5_))
            obtain ⟨Ao103, co103, eo103⟩ := Kd.S_slice HO222.out
            (first | subst eo103 | (injection eo103 with f1_ f2_ f3_; have f4_ := f1_.symm; have f5_ := f3_.symm; clear f1_ f2_ f3_; subst f4_; subst f5_))
            refine hK.out _ _ ⟨(blk_cell BK208.out 0).trans rfl, (blk_cell BK208.out 1).trans rfl, (blk_cell BK185.out 0).trans rfl, (blk_cell BK185.out 1).trans rfl⟩ (fun hHeld => ?_)
            clear hK K
            refine norm_ (a' := ?_) ?_ ?_
            rotate_left
            · show Act.put _ (some 37) _ = _
              simp only [Act.put, List.setIfInBounds_toArray, List.set_cons_zero, List.set_cons_succ, i64_w, i32_w]
              rfl
            refine one_ (i := 3) (N := some 38) #[true, true, true, true, false] rfl rfl (by kernel_rfl) (by decide) (fun K hK => ?_)
            refine goes_ Try.func8 (by kernel_rfl) rfl #[.agg #[.slice Ao84 t202.length co84, .slice Ao88 t205.length co88], .agg #[.slice Ao102 t217.length co102, .slice Ao103 t220.length co103]] (by rfl) rfl rfl (by (try simp only [List.map_toArray, List.map_cons, List.map_nil]); first | done | rfl | (simp only [List.length_drop, List.length_take]; rfl)) ?_
            with_reducible refine (laws_eqShape.calls k _ _ t202 _ _ t205 _ _ t217 _ _ t220 true _ ?side1 ?side2 ?side3 ?side4 ?side5 ?side6 ?side7 ?side8 A61.out).mono ?_
            (case side1 => repeat (first | exact (Kd.R_reads' HO204.out).2.2 | (with_reducible refine Kd.C_alloc ?_ _) | (with_reducible refine Kd.C_drewN ?_ _) | (with_reducible refine Kd.C_drew ?_)))
            (case side2 => exact (Kd.R_reads' HO204.out).2.1)
            (case side3 => repeat (first | exact (Kd.S_reads' HO207.out).2.2 | (with_reducible refine Kd.C_alloc ?_ _) | (with_reducible refine Kd.C_drewN ?_ _) | (with_reducible refine Kd.C_drew ?_)))
            (case side4 => exact (Kd.S_reads' HO207.out).2.1)
            (case side5 => repeat (first | exact (Kd.R_reads' HO219.out).2.2 | (with_reducible refine Kd.C_alloc ?_ _) | (with_reducible refine Kd.C_drewN ?_ _) | (with_reducible refine Kd.C_drew ?_)))
            (case side6 => exact (Kd.R_reads' HO219.out).2.1)
            (case side7 => repeat (first | exact (Kd.S_reads' HO222.out).2.2 | (with_reducible refine Kd.C_alloc ?_ _) | (with_reducible refine Kd.C_drewN ?_ _) | (with_reducible refine Kd.C_drew ?_)))
            (case side8 => exact (Kd.S_reads' HO222.out).2.1)
            rintro e w104 ⟨rfl, hb⟩
            refine ⟨_, rfl, ?_⟩
            have n0_ := Aside0.mk (Kd.R_below (by exact HO191.out) hb)
            have n1_ := Aside0.mk (Kd.S_below (by exact HO194.out) hb)
            have n2_ := Aside0.mk (Kd.R_below (by exact HO197.out) hb)
            have n3_ := Aside0.mk (Kd.S_below (by exact HO200.out) hb)
            have n4_ := Aside0.mk (Kd.R_below (by exact HO204.out) hb)
            have n5_ := Aside0.mk (Kd.S_below (by exact HO207.out) hb)
            have n6_ := Aside0.mk (Kd.R_below (by exact HO211.out) hb)
            have n7_ := Aside0.mk (Kd.S_below (by exact HO214.out) hb)
            have n8_ := Aside0.mk (Kd.R_below (by exact HO219.out) hb)
            have n9_ := Aside0.mk (Kd.S_below (by exact HO222.out) hb)
            have n10_ := Aside0.mk (blk_below (g := gb185) (o := .cells #[.slice A0_0 l0_0.length c0_0, .slice A0_1 l0_1.length c0_1] 25 (0, 0)) (by exact BK185.out) hb)
            have n11_ := Aside0.mk (blk_below (g := gb186) (o := .cells #[.slice A1_0 l1_0.length c1_0, .slice A1_1 l1_1.length c1_1] 25 (0, 0)) (by exact BK186.out) hb)
            have n12_ := Aside0.mk (blk_below (g := gb208) (o := .cells #[.slice Ao84 t202.length co84, .slice Ao88 t205.length co88] 31 (0, 0)) (by exact BK208.out) hb)
            have n13_ := Aside0.mk (blk_below (g := gb215) (o := .cells #[.slice Ao92 t209.length co92, .slice Ao97 t212.length co97] 31 (0, 0)) (by exact BK215.out) hb)
            have n14_ := Aside0.mk (below_step (by repeat (first | (with_reducible first | exact HB.out | refine below_set ?_ GE185.out | refine below_set ?_ GE186.out | refine below_set ?_ GE208.out | refine below_set ?_ GE215.out) | exact HB.out)) hb)
            clear HO191
            clear HO194
            clear HO197
            clear HO200
            clear HO204
            clear HO207
            clear HO211
            clear HO214
            clear HO219
            clear HO222
            clear BK185
            clear BK186
            clear BK208
            clear BK215
            clear HB
            have HO191 := n0_
            have HO194 := n1_
            have HO197 := n2_
            have HO200 := n3_
            have HO204 := n4_
            have HO207 := n5_
            have HO211 := n6_
            have HO214 := n7_
            have HO219 := n8_
            have HO222 := n9_
            have BK185 := n10_
            have BK186 := n11_
            have BK208 := n12_
            have BK215 := n13_
            have HB := n14_
            clear n0_ n1_ n2_ n3_ n4_ n5_ n6_ n7_ n8_ n9_ n10_ n11_ n12_ n13_ n14_
            (try clear hb)
            (try clear hb2)
            (try clear hk)
            (try clear hi)
            refine hK.out _ _ ⟨(blk_cell BK208.out 0).trans rfl, (blk_cell BK208.out 1).trans rfl, (blk_cell BK185.out 0).trans rfl, (blk_cell BK185.out 1).trans rfl⟩ (fun hHeld => ?_)
            clear hK K
            refine norm_ (a' := ?_) ?_ ?_
            rotate_left
            · show Act.put _ (some 38) _ = _
              simp only [Act.put, List.setIfInBounds_toArray, List.set_cons_zero, List.set_cons_succ, i64_w, i32_w]
              rfl
            refine pure_ (i := 4) (N := some 39) (v := ?_) (a' := ?_) #[true, true, true, true, true] rfl rfl (by kernel_rfl) (fun _ _ _ h => h) (Or.inl ⟨by rfl, ?_⟩) ?_ ?_
            rotate_left
            · intro w'
              go_simp
              with_reducible rfl
            rotate_left
            · simp only [Act.put, List.setIfInBounds_toArray, List.set_cons_zero, List.set_cons_succ, i64_w, i32_w]
              rfl
            refine done_ (by kernel_rfl) ?_
            try go_wp2
            have n0_ := Aside0.mk (Kd.R_drew HO191.out)
            have n1_ := Aside0.mk (Kd.S_drew HO194.out)
            have n2_ := Aside0.mk (Kd.R_drew HO197.out)
            have n3_ := Aside0.mk (Kd.S_drew HO200.out)
            have n4_ := Aside0.mk (Kd.R_drew HO204.out)
            have n5_ := Aside0.mk (Kd.S_drew HO207.out)
            have n6_ := Aside0.mk (Kd.R_drew HO211.out)
            have n7_ := Aside0.mk (Kd.S_drew HO214.out)
            have n8_ := Aside0.mk (Kd.R_drew HO219.out)
            have n9_ := Aside0.mk (Kd.S_drew HO222.out)
            have n10_ := Aside0.mk (blk_drew BK185.out)
            have n11_ := Aside0.mk (blk_drew BK186.out)
            have n12_ := Aside0.mk (blk_drew BK208.out)
            have n13_ := Aside0.mk (blk_drew BK215.out)
            have n14_ := Aside0.mk (below_drew1 HB.out)
            clear HO191
            clear HO194
            clear HO197
            clear HO200
            clear HO204
            clear HO207
            clear HO211
            clear HO214
            clear HO219
            clear HO222
            clear BK185
            clear BK186
            clear BK208
            clear BK215
            clear HB
            have HO191 := n0_
            have HO194 := n1_
            have HO197 := n2_
            have HO200 := n3_
            have HO204 := n4_
            have HO207 := n5_
            have HO211 := n6_
            have HO214 := n7_
            have HO219 := n8_
            have HO222 := n9_
            have BK185 := n10_
            have BK186 := n11_
            have BK208 := n12_
            have BK215 := n13_
            have HB := n14_
            clear n0_ n1_ n2_ n3_ n4_ n5_ n6_ n7_ n8_ n9_ n10_ n11_ n12_ n13_ n14_
            refine start_ (n := 5) (S := fun w' => w'.cell? ⟨gb215, 0, none⟩ = some (.slice Ao92 t209.length co92) ∧ w'.cell? ⟨gb215, 1, none⟩ = some (.slice Ao97 t212.length co97) ∧ w'.cell? ⟨gb186, 0, none⟩ = some (.slice A1_0 l1_0.length c1_0) ∧ w'.cell? ⟨gb186, 1, none⟩ = some (.slice A1_1 l1_1.length c1_1)) (ds := []) #[false, false, false, false, false] (by kernel_rfl) rfl rfl ⟨(blk_cell BK215.out 0).trans rfl, (blk_cell BK215.out 1).trans rfl, (blk_cell BK186.out 0).trans rfl, (blk_cell BK186.out 1).trans rfl⟩ (fun hHeld => ?_)
            generalize w104.drew = w105 at HO191 HO194 HO197 HO200 HO204 HO207 HO211 HO214 HO219 HO222 BK185 BK186 BK208 BK215 HB hHeld ⊢
            refine take_ (i := 0) (N := some 40) (v := ?_) (a' := ?_) #[true, false, false, false, false] rfl rfl (by kernel_rfl) (fun _ _ _ h => h) (Or.inl ⟨by rfl, ?_⟩) hHeld ?_ ?_
            rotate_left
            · rintro w' ⟨s0, s1, s2, s3⟩
              go_simp
              with_reducible rfl
            rotate_left
            · simp only [Act.put, List.setIfInBounds_toArray, List.set_cons_zero, List.set_cons_succ, i64_w, i32_w]
              rfl
            refine take_ (i := 1) (N := some 41) (v := ?_) (a' := ?_) #[true, true, false, false, false] rfl rfl (by kernel_rfl) (fun _ _ _ h => h) (Or.inl ⟨by rfl, ?_⟩) hHeld ?_ ?_
            rotate_left
            · rintro w' ⟨s0, s1, s2, s3⟩
              go_simp
              with_reducible rfl
            rotate_left
            · simp only [Act.put, List.setIfInBounds_toArray, List.set_cons_zero, List.set_cons_succ, i64_w, i32_w]
              rfl
            refine one_ (i := 2) (N := some 42) #[true, true, true, false, false] rfl rfl (by kernel_rfl) (by decide) (fun K hK => ?_)
            refine goes_ Try.func6 (by kernel_rfl) rfl #[.agg #[.slice A1_0 l1_0.length c1_0, .slice A1_1 l1_1.length c1_1]] (by rfl) rfl rfl (by (try simp only [List.map_toArray, List.map_cons, List.map_nil]); first | done | rfl | (simp only [List.length_drop, List.length_take]; rfl)) ?_
            with_reducible refine (laws_toShape.calls k _ _ l1_0 _ _ l1_1 t224 t227 _ ?side1 ?side2 ?side3 ?side4 A63.out).mono ?_
            (case side1 => repeat (first | exact (Kd.C_below HR1_0.out HB.out) | (with_reducible refine Kd.C_alloc ?_ _) | (with_reducible refine Kd.C_drewN ?_ _) | (with_reducible refine Kd.C_drew ?_)))
            (case side2 => exact HC1_0.out)
            (case side3 => repeat (first | exact (Kd.C_below HR1_1.out HB.out) | (with_reducible refine Kd.C_alloc ?_ _) | (with_reducible refine Kd.C_drewN ?_ _) | (with_reducible refine Kd.C_drew ?_)))
            (case side4 => exact HC1_1.out)
            rintro e w106 ⟨v225, v228, rfl, ho0, ho1, hb⟩
            refine ⟨_, rfl, ?_⟩
            have n0_ := Aside0.mk (Kd.R_elder' (by exact HO191.out) (Kd.R_base ho0) hb)
            have n1_ := Aside0.mk (Kd.S_mono (Kd.S_told (Kd.S_told (Kd.S_old (by exact HO194.out) hb) (Kd.R_base ho0)) (Kd.S_base ho1)) (fun _ h_ => h_.1))
            have n2_ := Aside0.mk (Kd.R_elder' (by exact HO197.out) (Kd.R_base ho0) hb)
            have n3_ := Aside0.mk (Kd.S_mono (Kd.S_told (Kd.S_told (Kd.S_old (by exact HO200.out) hb) (Kd.R_base ho0)) (Kd.S_base ho1)) (fun _ h_ => h_.1))
            have n4_ := Aside0.mk (Kd.R_elder' (by exact HO204.out) (Kd.R_base ho0) hb)
            have n5_ := Aside0.mk (Kd.S_mono (Kd.S_told (Kd.S_told (Kd.S_old (by exact HO207.out) hb) (Kd.R_base ho0)) (Kd.S_base ho1)) (fun _ h_ => h_.1))
            have n6_ := Aside0.mk (Kd.R_elder' (by exact HO211.out) (Kd.R_base ho0) hb)
            have n7_ := Aside0.mk (Kd.S_mono (Kd.S_told (Kd.S_told (Kd.S_old (by exact HO214.out) hb) (Kd.R_base ho0)) (Kd.S_base ho1)) (fun _ h_ => h_.1))
            have n8_ := Aside0.mk (Kd.R_elder' (by exact HO219.out) (Kd.R_base ho0) hb)
            have n9_ := Aside0.mk (Kd.S_mono (Kd.S_told (Kd.S_told (Kd.S_old (by exact HO222.out) hb) (Kd.R_base ho0)) (Kd.S_base ho1)) (fun _ h_ => h_.1))
            have n10_ := Aside0.mk (Kd.R_lower (Kd.R_new' (Kd.R_new' (Kd.R_new' (Kd.R_new' (Kd.R_new' ho0 (Kd.R_lt (by exact HO191.out))) (Kd.R_lt (by exact HO197.out))) (Kd.R_lt (by exact HO204.out))) (Kd.R_lt (by exact HO211.out))) (Kd.R_lt (by exact HO219.out))) (below_size (by repeat (first | (with_reducible first | exact HB.out | refine below_set ?_ GE185.out | refine below_set ?_ GE186.out | refine below_set ?_ GE208.out | refine below_set ?_ GE215.out) | exact HB.out))))
            have n11_ := Aside0.mk (Kd.S_lower (Kd.S_new' (Kd.S_new' (Kd.S_new' (Kd.S_new' (Kd.S_new' (Kd.S_new' (Kd.S_new' (Kd.S_new' (Kd.S_new' (Kd.S_new' ho1 (Kd.R_lt (by exact HO191.out))) (Kd.S_lt (by exact HO194.out))) (Kd.R_lt (by exact HO197.out))) (Kd.S_lt (by exact HO200.out))) (Kd.R_lt (by exact HO204.out))) (Kd.S_lt (by exact HO207.out))) (Kd.R_lt (by exact HO211.out))) (Kd.S_lt (by exact HO214.out))) (Kd.R_lt (by exact HO219.out))) (Kd.S_lt (by exact HO222.out))) (below_size (by repeat (first | (with_reducible first | exact HB.out | refine below_set ?_ GE185.out | refine below_set ?_ GE186.out | refine below_set ?_ GE208.out | refine below_set ?_ GE215.out) | exact HB.out))))
            have n12_ := Aside0.mk (blk_below (g := gb185) (o := .cells #[.slice A0_0 l0_0.length c0_0, .slice A0_1 l0_1.length c0_1] 25 (0, 0)) (by exact BK185.out) hb)
            have n13_ := Aside0.mk (blk_below (g := gb186) (o := .cells #[.slice A1_0 l1_0.length c1_0, .slice A1_1 l1_1.length c1_1] 25 (0, 0)) (by exact BK186.out) hb)
            have n14_ := Aside0.mk (blk_below (g := gb208) (o := .cells #[.slice Ao84 t202.length co84, .slice Ao88 t205.length co88] 31 (0, 0)) (by exact BK208.out) hb)
            have n15_ := Aside0.mk (blk_below (g := gb215) (o := .cells #[.slice Ao92 t209.length co92, .slice Ao97 t212.length co97] 31 (0, 0)) (by exact BK215.out) hb)
            have n16_ := Aside0.mk (below_step (by repeat (first | (with_reducible first | exact HB.out | refine below_set ?_ GE185.out | refine below_set ?_ GE186.out | refine below_set ?_ GE208.out | refine below_set ?_ GE215.out) | exact HB.out)) hb)
            clear HO191
            clear HO194
            clear HO197
            clear HO200
            clear HO204
            clear HO207
            clear HO211
            clear HO214
            clear HO219
            clear HO222
            clear BK185
            clear BK186
            clear BK208
            clear BK215
            clear HB
            have HO191 := n0_
            have HO194 := n1_
            have HO197 := n2_
            have HO200 := n3_
            have HO204 := n4_
            have HO207 := n5_
            have HO211 := n6_
            have HO214 := n7_
            have HO219 := n8_
            have HO222 := n9_
            have HO226 := n10_
            have HO229 := n11_
            have BK185 := n12_
            have BK186 := n13_
            have BK208 := n14_
            have BK215 := n15_
            have HB := n16_
            clear n0_ n1_ n2_ n3_ n4_ n5_ n6_ n7_ n8_ n9_ n10_ n11_ n12_ n13_ n14_ n15_ n16_
            (try clear hb)
            (try clear hb2)
            (try clear hk)
            (try clear hi)
            (try clear ho0)
            (try clear ho1)
            obtain ⟨Ao107, co107, eo107⟩ := Kd.R_slice HO226.out
            (first | subst eo107 | (injection eo107 with f1_ f2_ f3_; have f4_ := f1_.symm; have f5_ := f3_.symm; clear f1_ f2_ f3_; subst f4_; subst f5_))
            obtain ⟨Ao108, co108, eo108⟩ := Kd.S_slice HO229.out
            (first | subst eo108 | (injection eo108 with f1_ f2_ f3_; have f4_ := f1_.symm; have f5_ := f3_.symm; clear f1_ f2_ f3_; subst f4_; subst f5_))
            refine hK.out _ _ ⟨(blk_cell BK215.out 0).trans rfl, (blk_cell BK215.out 1).trans rfl, (blk_cell BK186.out 0).trans rfl, (blk_cell BK186.out 1).trans rfl⟩ (fun hHeld => ?_)
            clear hK K
            refine norm_ (a' := ?_) ?_ ?_
            rotate_left
            · show Act.put _ (some 42) _ = _
              simp only [Act.put, List.setIfInBounds_toArray, List.set_cons_zero, List.set_cons_succ, i64_w, i32_w]
              rfl
            refine one_ (i := 3) (N := some 43) #[true, true, true, true, false] rfl rfl (by kernel_rfl) (by decide) (fun K hK => ?_)
            refine goes_ Try.func8 (by kernel_rfl) rfl #[.agg #[.slice Ao92 t209.length co92, .slice Ao97 t212.length co97], .agg #[.slice Ao107 t224.length co107, .slice Ao108 t227.length co108]] (by rfl) rfl rfl (by (try simp only [List.map_toArray, List.map_cons, List.map_nil]); first | done | rfl | (simp only [List.length_drop, List.length_take]; rfl)) ?_
            with_reducible refine (laws_eqShape.calls k _ _ t209 _ _ t212 _ _ t224 _ _ t227 true _ ?side1 ?side2 ?side3 ?side4 ?side5 ?side6 ?side7 ?side8 A64.out).mono ?_
            (case side1 => repeat (first | exact (Kd.R_reads' HO211.out).2.2 | (with_reducible refine Kd.C_alloc ?_ _) | (with_reducible refine Kd.C_drewN ?_ _) | (with_reducible refine Kd.C_drew ?_)))
            (case side2 => exact (Kd.R_reads' HO211.out).2.1)
            (case side3 => repeat (first | exact (Kd.S_reads' HO214.out).2.2 | (with_reducible refine Kd.C_alloc ?_ _) | (with_reducible refine Kd.C_drewN ?_ _) | (with_reducible refine Kd.C_drew ?_)))
            (case side4 => exact (Kd.S_reads' HO214.out).2.1)
            (case side5 => repeat (first | exact (Kd.R_reads' HO226.out).2.2 | (with_reducible refine Kd.C_alloc ?_ _) | (with_reducible refine Kd.C_drewN ?_ _) | (with_reducible refine Kd.C_drew ?_)))
            (case side6 => exact (Kd.R_reads' HO226.out).2.1)
            (case side7 => repeat (first | exact (Kd.S_reads' HO229.out).2.2 | (with_reducible refine Kd.C_alloc ?_ _) | (with_reducible refine Kd.C_drewN ?_ _) | (with_reducible refine Kd.C_drew ?_)))
            (case side8 => exact (Kd.S_reads' HO229.out).2.1)
            rintro e w109 ⟨rfl, hb⟩
            refine ⟨_, rfl, ?_⟩
            have n0_ := Aside0.mk (Kd.R_below (by exact HO191.out) hb)
            have n1_ := Aside0.mk (Kd.S_below (by exact HO194.out) hb)
            have n2_ := Aside0.mk (Kd.R_below (by exact HO197.out) hb)
            have n3_ := Aside0.mk (Kd.S_below (by exact HO200.out) hb)
            have n4_ := Aside0.mk (Kd.R_below (by exact HO204.out) hb)
            have n5_ := Aside0.mk (Kd.S_below (by exact HO207.out) hb)
            have n6_ := Aside0.mk (Kd.R_below (by exact HO211.out) hb)
            have n7_ := Aside0.mk (Kd.S_below (by exact HO214.out) hb)
            have n8_ := Aside0.mk (Kd.R_below (by exact HO219.out) hb)
            have n9_ := Aside0.mk (Kd.S_below (by exact HO222.out) hb)
            have n10_ := Aside0.mk (Kd.R_below (by exact HO226.out) hb)
            have n11_ := Aside0.mk (Kd.S_below (by exact HO229.out) hb)
            have n12_ := Aside0.mk (blk_below (g := gb185) (o := .cells #[.slice A0_0 l0_0.length c0_0, .slice A0_1 l0_1.length c0_1] 25 (0, 0)) (by exact BK185.out) hb)
            have n13_ := Aside0.mk (blk_below (g := gb186) (o := .cells #[.slice A1_0 l1_0.length c1_0, .slice A1_1 l1_1.length c1_1] 25 (0, 0)) (by exact BK186.out) hb)
            have n14_ := Aside0.mk (blk_below (g := gb208) (o := .cells #[.slice Ao84 t202.length co84, .slice Ao88 t205.length co88] 31 (0, 0)) (by exact BK208.out) hb)
            have n15_ := Aside0.mk (blk_below (g := gb215) (o := .cells #[.slice Ao92 t209.length co92, .slice Ao97 t212.length co97] 31 (0, 0)) (by exact BK215.out) hb)
            have n16_ := Aside0.mk (below_step (by repeat (first | (with_reducible first | exact HB.out | refine below_set ?_ GE185.out | refine below_set ?_ GE186.out | refine below_set ?_ GE208.out | refine below_set ?_ GE215.out) | exact HB.out)) hb)
            clear HO191
            clear HO194
            clear HO197
            clear HO200
            clear HO204
            clear HO207
            clear HO211
            clear HO214
            clear HO219
            clear HO222
            clear HO226
            clear HO229
            clear BK185
            clear BK186
            clear BK208
            clear BK215
            clear HB
            have HO191 := n0_
            have HO194 := n1_
            have HO197 := n2_
            have HO200 := n3_
            have HO204 := n4_
            have HO207 := n5_
            have HO211 := n6_
            have HO214 := n7_
            have HO219 := n8_
            have HO222 := n9_
            have HO226 := n10_
            have HO229 := n11_
            have BK185 := n12_
            have BK186 := n13_
            have BK208 := n14_
            have BK215 := n15_
            have HB := n16_
            clear n0_ n1_ n2_ n3_ n4_ n5_ n6_ n7_ n8_ n9_ n10_ n11_ n12_ n13_ n14_ n15_ n16_
            (try clear hb)
            (try clear hb2)
            (try clear hk)
            (try clear hi)
            refine hK.out _ _ ⟨(blk_cell BK215.out 0).trans rfl, (blk_cell BK215.out 1).trans rfl, (blk_cell BK186.out 0).trans rfl, (blk_cell BK186.out 1).trans rfl⟩ (fun hHeld => ?_)
            clear hK K
            refine norm_ (a' := ?_) ?_ ?_
            rotate_left
            · show Act.put _ (some 43) _ = _
              simp only [Act.put, List.setIfInBounds_toArray, List.set_cons_zero, List.set_cons_succ, i64_w, i32_w]
              rfl
            refine pure_ (i := 4) (N := some 44) (v := ?_) (a' := ?_) #[true, true, true, true, true] rfl rfl (by kernel_rfl) (fun _ _ _ h => h) (Or.inl ⟨by rfl, ?_⟩) ?_ ?_
            rotate_left
            · intro w'
              go_simp
              with_reducible rfl
            rotate_left
            · simp only [Act.put, List.setIfInBounds_toArray, List.set_cons_zero, List.set_cons_succ, i64_w, i32_w]
              rfl
            refine done_ (by kernel_rfl) ?_
            try go_wp2
            go_ret
            exact ⟨by first | rfl | (simp [errW_none, errW_some] <;> rfl) | (simp [*, errW_none, errW_some] <;> rfl), by repeat (first | (with_reducible first | exact HB.out | refine below_set ?_ GE185.out | refine below_set ?_ GE186.out | refine below_set ?_ GE208.out | refine below_set ?_ GE215.out) | exact HB.out)⟩
          · replace c65 := Bool.eq_false_iff.mpr c65
            subst c65
            have H1 : (some false) = some r := by rw [if_neg (show ¬ (false = true) by decide)] at H; exact H
            clear H
            have H := H1
            clear H1
            obtain rfl := Option.some.inj H
            go_enter Try.func3, Try.ntmps3
            try go_wp2_with (first | ((with_reducible refine gate_dst (N := 2) rfl ?_); refine box_event ?hg (N := 2) ?hd (cs := #[.slice A0_0 l0_0.length c0_0, .slice A0_1 l0_1.length c0_1]) (t := 25) ?hr ?_; (case hd => rfl); (case hg => rfl); (case hr => first | (go_simp; done) | (go_simp; rfl)); intro gb185 hg w110 hbox hb; have n0_ := Aside0.mk (below_step (by repeat (first | (with_reducible first | exact HB.out) | exact HB.out)) hb); have n1_ := Aside0.mk (hbox); have n2_ := Aside0.mk ((by rw [hg]; exact (below_size (by repeat (first | (with_reducible first | exact HB.out) | exact HB.out))) : w.heap.size ≤ gb185)); have n3_ := Aside0.mk ((by rw [hg]; exact (below_size (by repeat (first | (with_reducible first | exact HB.out) | exact HB.out))) : w.heap.size ≤ gb185)); clear HB; have HB := n0_; have BK185 := n1_; have GW185 := n2_; have GE185 := n3_; clear n0_ n1_ n2_ n3_; clear hb hbox hg) | ((with_reducible refine gate_dst (N := 3) rfl ?_); refine box_event ?hg (N := 3) ?hd (cs := #[.slice A1_0 l1_0.length c1_0, .slice A1_1 l1_1.length c1_1]) (t := 25) ?hr ?_; (case hd => rfl); (case hg => rfl); (case hr => first | (go_simp; done) | (go_simp; rfl)); intro gb186 hg w111 hbox hb; have n0_ := Aside0.mk (blk_below (g := gb185) (o := .cells #[.slice A0_0 l0_0.length c0_0, .slice A0_1 l0_1.length c0_1] 25 (0, 0)) (by exact BK185.out) hb); have n1_ := Aside0.mk (below_step (by repeat (first | (with_reducible first | exact HB.out | refine below_set ?_ GE185.out) | exact HB.out)) hb); have n2_ := Aside0.mk (hbox); have n3_ := Aside0.mk ((by rw [hg]; exact (below_size (by repeat (first | (with_reducible first | exact HB.out | refine below_set ?_ GE185.out) | exact HB.out))) : w.heap.size ≤ gb186)); have n4_ := Aside0.mk ((by rw [hg]; exact (below_size (by repeat (first | (with_reducible first | exact HB.out | refine below_set ?_ GE185.out) | exact HB.out))) : w.heap.size ≤ gb186)); have n5_ := Aside0.mk ((by rw [hg]; exact Nat.ne_of_lt (blk_lt (g := gb185) (o := .cells #[.slice A0_0 l0_0.length c0_0, .slice A0_1 l0_1.length c0_1] 25 (0, 0)) (by exact BK185.out)) : gb185 ≠ gb186)); have n6_ := Aside0.mk ((by rw [hg]; exact Nat.ne_of_gt (blk_lt (g := gb185) (o := .cells #[.slice A0_0 l0_0.length c0_0, .slice A0_1 l0_1.length c0_1] 25 (0, 0)) (by exact BK185.out)) : gb186 ≠ gb185)); clear BK185; clear HB; have BK185 := n0_; have HB := n1_; have BK186 := n2_; have GW186 := n3_; have GE186 := n4_; have NB185_186 := n5_; have NB186_185 := n6_; clear n0_ n1_ n2_ n3_ n4_ n5_ n6_; clear hb hbox hg; have hnb112 := NB185_186.out; have hnc112 := NB186_185.out; have hcz113_0 : w111.cell? ⟨gb185, 0, none⟩ = some (.slice A0_0 l0_0.length c0_0) := (blk_cell BK185.out 0).trans rfl; have hcz113_1 : w111.cell? ⟨gb185, 1, none⟩ = some (.slice A0_1 l0_1.length c0_1) := (blk_cell BK185.out 1).trans rfl; have hfz113_0 := blk_frozen BK185.out 0; have hfz113_1 := blk_frozen BK185.out 1) | ((with_reducible refine gate_callee (f := 4) rfl ?_); refine goesL_ (some 12) rfl rfl Try.func4 (by kernel_rfl) rfl #[.agg #[.slice A0_0 l0_0.length c0_0, .slice A0_1 l0_1.length c0_1], .int .i64 1048576] rfl (by (try simp only [List.map_toArray, List.map_cons, List.map_nil]); first | done | rfl | (simp only [List.length_drop, List.length_take]; rfl)) ?_; (with_reducible refine (laws_szShape.calls k _ _ l0_0 _ _ l0_1 1048576 t187 _ ?side1 ?side2 ?side3 ?side4 A3.out).mono ?_); (case side1 => repeat (first | exact (Kd.C_below HR0_0.out HB.out) | (with_reducible refine Kd.C_alloc ?_ _) | (with_reducible refine Kd.C_drewN ?_ _) | (with_reducible refine Kd.C_drew ?_))); (case side2 => exact HC0_0.out); (case side3 => repeat (first | exact (Kd.C_below HR0_1.out HB.out) | (with_reducible refine Kd.C_alloc ?_ _) | (with_reducible refine Kd.C_drewN ?_ _) | (with_reducible refine Kd.C_drew ?_))); (case side4 => exact HC0_1.out); rintro e w114 ⟨rfl, hb⟩; refine ⟨_, rfl, ?_⟩; have n0_ := Aside0.mk (blk_below (g := gb185) (o := .cells #[.slice A0_0 l0_0.length c0_0, .slice A0_1 l0_1.length c0_1] 25 (0, 0)) (by exact BK185.out) hb); have n1_ := Aside0.mk (blk_below (g := gb186) (o := .cells #[.slice A1_0 l1_0.length c1_0, .slice A1_1 l1_1.length c1_1] 25 (0, 0)) (by exact BK186.out) hb); have n2_ := Aside0.mk (below_step (by repeat (first | (with_reducible first | exact HB.out | refine below_set ?_ GE185.out | refine below_set ?_ GE186.out) | exact HB.out)) hb); clear BK185; clear BK186; clear HB; have BK185 := n0_; have BK186 := n1_; have HB := n2_; clear n0_ n1_ n2_; (try clear hb); (try clear hb2); (try clear hk); (try clear hi); have hcz115_0 : w114.cell? ⟨gb186, 0, none⟩ = some (.slice A1_0 l1_0.length c1_0) := (blk_cell BK186.out 0).trans rfl; have hcz115_1 : w114.cell? ⟨gb186, 1, none⟩ = some (.slice A1_1 l1_1.length c1_1) := (blk_cell BK186.out 1).trans rfl; have hfz115_0 := blk_frozen BK186.out 0; have hfz115_1 := blk_frozen BK186.out 1) | ((with_reducible refine gate_callee (f := 4) rfl ?_); refine goesL_ (some 17) rfl rfl Try.func4 (by kernel_rfl) rfl #[.agg #[.slice A1_0 l1_0.length c1_0, .slice A1_1 l1_1.length c1_1], .int .i64 t187] rfl (by (try simp only [List.map_toArray, List.map_cons, List.map_nil]); first | done | rfl | (simp only [List.length_drop, List.length_take]; rfl)) ?_; (with_reducible refine (laws_szShape.calls k _ _ l1_0 _ _ l1_1 t187 t188 _ ?side1 ?side2 ?side3 ?side4 A10.out).mono ?_); (case side1 => repeat (first | exact (Kd.C_below HR1_0.out HB.out) | (with_reducible refine Kd.C_alloc ?_ _) | (with_reducible refine Kd.C_drewN ?_ _) | (with_reducible refine Kd.C_drew ?_))); (case side2 => exact HC1_0.out); (case side3 => repeat (first | exact (Kd.C_below HR1_1.out HB.out) | (with_reducible refine Kd.C_alloc ?_ _) | (with_reducible refine Kd.C_drewN ?_ _) | (with_reducible refine Kd.C_drew ?_))); (case side4 => exact HC1_1.out); rintro e w116 ⟨rfl, hb⟩; refine ⟨_, rfl, ?_⟩; have n0_ := Aside0.mk (blk_below (g := gb185) (o := .cells #[.slice A0_0 l0_0.length c0_0, .slice A0_1 l0_1.length c0_1] 25 (0, 0)) (by exact BK185.out) hb); have n1_ := Aside0.mk (blk_below (g := gb186) (o := .cells #[.slice A1_0 l1_0.length c1_0, .slice A1_1 l1_1.length c1_1] 25 (0, 0)) (by exact BK186.out) hb); have n2_ := Aside0.mk (below_step (by repeat (first | (with_reducible first | exact HB.out | refine below_set ?_ GE185.out | refine below_set ?_ GE186.out) | exact HB.out)) hb); clear BK185; clear BK186; clear HB; have BK185 := n0_; have BK186 := n1_; have HB := n2_; clear n0_ n1_ n2_; (try clear hb); (try clear hb2); (try clear hk); (try clear hi)))
            have n0_ := Aside0.mk (blk_drew BK185.out)
            have n1_ := Aside0.mk (blk_drew BK186.out)
            have n2_ := Aside0.mk (below_drew1 HB.out)
            clear BK185
            clear BK186
            clear HB
            have BK185 := n0_
            have BK186 := n1_
            have HB := n2_
            clear n0_ n1_ n2_
            refine start_ (n := 6) (S := fun w' => w'.cell? ⟨gb185, 0, none⟩ = some (.slice A0_0 l0_0.length c0_0) ∧ w'.cell? ⟨gb185, 1, none⟩ = some (.slice A0_1 l0_1.length c0_1) ∧ w'.cell? ⟨gb186, 0, none⟩ = some (.slice A1_0 l1_0.length c1_0) ∧ w'.cell? ⟨gb186, 1, none⟩ = some (.slice A1_1 l1_1.length c1_1)) (ds := []) #[false, false, false, false, false, false] (by kernel_rfl) rfl rfl ⟨(blk_cell BK185.out 0).trans rfl, (blk_cell BK185.out 1).trans rfl, (blk_cell BK186.out 0).trans rfl, (blk_cell BK186.out 1).trans rfl⟩ (fun hHeld => ?_)
            generalize w116.drew = w117 at BK185 BK186 HB hHeld ⊢
            refine take_ (i := 0) (N := some 20) (v := ?_) (a' := ?_) #[true, false, false, false, false, false] rfl rfl (by kernel_rfl) (fun _ _ _ h => h) (Or.inl ⟨by rfl, ?_⟩) hHeld ?_ ?_
            rotate_left
            · rintro w' ⟨s0, s1, s2, s3⟩
              go_simp
              with_reducible rfl
            rotate_left
            · simp only [Act.put, List.setIfInBounds_toArray, List.set_cons_zero, List.set_cons_succ, i64_w, i32_w]
              rfl
            refine take_ (i := 2) (N := some 22) (v := ?_) (a' := ?_) #[true, false, true, false, false, false] rfl rfl (by kernel_rfl) (fun _ _ _ h => h) (Or.inl ⟨by rfl, ?_⟩) hHeld ?_ ?_
            rotate_left
            · rintro w' ⟨s0, s1, s2, s3⟩
              go_simp
              with_reducible rfl
            rotate_left
            · simp only [Act.put, List.setIfInBounds_toArray, List.set_cons_zero, List.set_cons_succ, i64_w, i32_w]
              rfl
            refine one_ (i := 1) (N := some 21) #[true, true, true, false, false, false] rfl rfl (by kernel_rfl) (by decide) (fun K hK => ?_)
            refine goes_ Try.func6 (by kernel_rfl) rfl #[.agg #[.slice A0_0 l0_0.length c0_0, .slice A0_1 l0_1.length c0_1]] (by rfl) rfl rfl (by (try simp only [List.map_toArray, List.map_cons, List.map_nil]); first | done | rfl | (simp only [List.length_drop, List.length_take]; rfl)) ?_
            with_reducible refine (laws_toShape.calls k _ _ l0_0 _ _ l0_1 t189 t192 _ ?side1 ?side2 ?side3 ?side4 A19.out).mono ?_
            (case side1 => repeat (first | exact (Kd.C_below HR0_0.out HB.out) | (with_reducible refine Kd.C_alloc ?_ _) | (with_reducible refine Kd.C_drewN ?_ _) | (with_reducible refine Kd.C_drew ?_)))
            (case side2 => exact HC0_0.out)
            (case side3 => repeat (first | exact (Kd.C_below HR0_1.out HB.out) | (with_reducible refine Kd.C_alloc ?_ _) | (with_reducible refine Kd.C_drewN ?_ _) | (with_reducible refine Kd.C_drew ?_)))
            (case side4 => exact HC0_1.out)
            rintro e w118 ⟨v190, v193, rfl, ho0, ho1, hb⟩
            refine ⟨_, rfl, ?_⟩
            have n0_ := Aside0.mk (Kd.R_lower ho0 (below_size (by repeat (first | (with_reducible first | exact HB.out | refine below_set ?_ GE185.out | refine below_set ?_ GE186.out) | exact HB.out))))
            have n1_ := Aside0.mk (Kd.S_lower ho1 (below_size (by repeat (first | (with_reducible first | exact HB.out | refine below_set ?_ GE185.out | refine below_set ?_ GE186.out) | exact HB.out))))
            have n2_ := Aside0.mk (blk_below (g := gb185) (o := .cells #[.slice A0_0 l0_0.length c0_0, .slice A0_1 l0_1.length c0_1] 25 (0, 0)) (by exact BK185.out) hb)
            have n3_ := Aside0.mk (blk_below (g := gb186) (o := .cells #[.slice A1_0 l1_0.length c1_0, .slice A1_1 l1_1.length c1_1] 25 (0, 0)) (by exact BK186.out) hb)
            have n4_ := Aside0.mk (below_step (by repeat (first | (with_reducible first | exact HB.out | refine below_set ?_ GE185.out | refine below_set ?_ GE186.out) | exact HB.out)) hb)
            clear BK185
            clear BK186
            clear HB
            have HO191 := n0_
            have HO194 := n1_
            have BK185 := n2_
            have BK186 := n3_
            have HB := n4_
            clear n0_ n1_ n2_ n3_ n4_
            (try clear hb)
            (try clear hb2)
            (try clear hk)
            (try clear hi)
            (try clear ho0)
            (try clear ho1)
            refine hK.out _ _ ⟨(blk_cell BK185.out 0).trans rfl, (blk_cell BK185.out 1).trans rfl, (blk_cell BK186.out 0).trans rfl, (blk_cell BK186.out 1).trans rfl⟩ (fun hHeld => ?_)
            clear hK K
            refine norm_ (a' := ?_) ?_ ?_
            rotate_left
            · show Act.put _ (some 21) _ = _
              simp only [Act.put, List.setIfInBounds_toArray, List.set_cons_zero, List.set_cons_succ, i64_w, i32_w]
              rfl
            refine one_ (i := 3) (N := some 23) #[true, true, true, true, false, false] rfl rfl (by kernel_rfl) (by decide) (fun K hK => ?_)
            refine goes_ Try.func6 (by kernel_rfl) rfl #[.agg #[.slice A1_0 l1_0.length c1_0, .slice A1_1 l1_1.length c1_1]] (by rfl) rfl rfl (by (try simp only [List.map_toArray, List.map_cons, List.map_nil]); first | done | rfl | (simp only [List.length_drop, List.length_take]; rfl)) ?_
            with_reducible refine (laws_toShape.calls k _ _ l1_0 _ _ l1_1 t195 t198 _ ?side1 ?side2 ?side3 ?side4 A20.out).mono ?_
            (case side1 => repeat (first | exact (Kd.C_below HR1_0.out HB.out) | (with_reducible refine Kd.C_alloc ?_ _) | (with_reducible refine Kd.C_drewN ?_ _) | (with_reducible refine Kd.C_drew ?_)))
            (case side2 => exact HC1_0.out)
            (case side3 => repeat (first | exact (Kd.C_below HR1_1.out HB.out) | (with_reducible refine Kd.C_alloc ?_ _) | (with_reducible refine Kd.C_drewN ?_ _) | (with_reducible refine Kd.C_drew ?_)))
            (case side4 => exact HC1_1.out)
            rintro e w119 ⟨v196, v199, rfl, ho0, ho1, hb⟩
            refine ⟨_, rfl, ?_⟩
            have n0_ := Aside0.mk (Kd.R_elder' (by exact HO191.out) (Kd.R_base ho0) hb)
            have n1_ := Aside0.mk (Kd.S_mono (Kd.S_told (Kd.S_told (Kd.S_old (by exact HO194.out) hb) (Kd.R_base ho0)) (Kd.S_base ho1)) (fun _ h_ => h_.1))
            have n2_ := Aside0.mk (Kd.R_lower (Kd.R_new' ho0 (Kd.R_lt (by exact HO191.out))) (below_size (by repeat (first | (with_reducible first | exact HB.out | refine below_set ?_ GE185.out | refine below_set ?_ GE186.out) | exact HB.out))))
            have n3_ := Aside0.mk (Kd.S_lower (Kd.S_new' (Kd.S_new' ho1 (Kd.R_lt (by exact HO191.out))) (Kd.S_lt (by exact HO194.out))) (below_size (by repeat (first | (with_reducible first | exact HB.out | refine below_set ?_ GE185.out | refine below_set ?_ GE186.out) | exact HB.out))))
            have n4_ := Aside0.mk (blk_below (g := gb185) (o := .cells #[.slice A0_0 l0_0.length c0_0, .slice A0_1 l0_1.length c0_1] 25 (0, 0)) (by exact BK185.out) hb)
            have n5_ := Aside0.mk (blk_below (g := gb186) (o := .cells #[.slice A1_0 l1_0.length c1_0, .slice A1_1 l1_1.length c1_1] 25 (0, 0)) (by exact BK186.out) hb)
            have n6_ := Aside0.mk (below_step (by repeat (first | (with_reducible first | exact HB.out | refine below_set ?_ GE185.out | refine below_set ?_ GE186.out) | exact HB.out)) hb)
            clear HO191
            clear HO194
            clear BK185
            clear BK186
            clear HB
            have HO191 := n0_
            have HO194 := n1_
            have HO197 := n2_
            have HO200 := n3_
            have BK185 := n4_
            have BK186 := n5_
            have HB := n6_
            clear n0_ n1_ n2_ n3_ n4_ n5_ n6_
            (try clear hb)
            (try clear hb2)
            (try clear hk)
            (try clear hi)
            (try clear ho0)
            (try clear ho1)
            obtain ⟨Ao120, co120, eo120⟩ := Kd.R_slice HO191.out
            (first | subst eo120 | (injection eo120 with f1_ f2_ f3_; have f4_ := f1_.symm; have f5_ := f3_.symm; clear f1_ f2_ f3_; subst f4_; subst f5_))
            obtain ⟨Ao121, co121, eo121⟩ := Kd.S_slice HO194.out
            (first | subst eo121 | (injection eo121 with f1_ f2_ f3_; have f4_ := f1_.symm; have f5_ := f3_.symm; clear f1_ f2_ f3_; subst f4_; subst f5_))
            obtain ⟨Ao122, co122, eo122⟩ := Kd.R_slice HO197.out
            (first | subst eo122 | (injection eo122 with f1_ f2_ f3_; have f4_ := f1_.symm; have f5_ := f3_.symm; clear f1_ f2_ f3_; subst f4_; subst f5_))
            obtain ⟨Ao123, co123, eo123⟩ := Kd.S_slice HO200.out
            (first | subst eo123 | (injection eo123 with f1_ f2_ f3_; have f4_ := f1_.symm; have f5_ := f3_.symm; clear f1_ f2_ f3_; subst f4_; subst f5_))
            refine hK.out _ _ ⟨(blk_cell BK185.out 0).trans rfl, (blk_cell BK185.out 1).trans rfl, (blk_cell BK186.out 0).trans rfl, (blk_cell BK186.out 1).trans rfl⟩ (fun hHeld => ?_)
            clear hK K
            refine norm_ (a' := ?_) ?_ ?_
            rotate_left
            · show Act.put _ (some 23) _ = _
              simp only [Act.put, List.setIfInBounds_toArray, List.set_cons_zero, List.set_cons_succ, i64_w, i32_w]
              rfl
            refine one_ (i := 4) (N := some 24) #[true, true, true, true, true, false] rfl rfl (by kernel_rfl) (by decide) (fun K hK => ?_)
            refine goes_ Try.func5 (by kernel_rfl) rfl #[.agg #[.slice Ao120 t189.length co120, .slice Ao121 t192.length co121], .agg #[.slice Ao122 t195.length co122, .slice Ao123 t198.length co123]] (by rfl) rfl rfl (by (try simp only [List.map_toArray, List.map_cons, List.map_nil]); first | done | rfl | (simp only [List.length_drop, List.length_take]; rfl)) ?_
            with_reducible refine (spec_ShapeSame.calls k _ _ t189 _ _ t192 _ _ t195 _ _ t198 t201 _ ?side1 ?side2 ?side3 ?side4 ?side5 ?side6 ?side7 ?side8 A21.out).mono ?_
            (case side1 => repeat (first | exact (Kd.R_reads' HO191.out).2.2 | (with_reducible refine Kd.C_alloc ?_ _) | (with_reducible refine Kd.C_drewN ?_ _) | (with_reducible refine Kd.C_drew ?_)))
            (case side2 => exact (Kd.R_reads' HO191.out).2.1)
            (case side3 => repeat (first | exact (Kd.S_reads' HO194.out).2.2 | (with_reducible refine Kd.C_alloc ?_ _) | (with_reducible refine Kd.C_drewN ?_ _) | (with_reducible refine Kd.C_drew ?_)))
            (case side4 => exact (Kd.S_reads' HO194.out).2.1)
            (case side5 => repeat (first | exact (Kd.R_reads' HO197.out).2.2 | (with_reducible refine Kd.C_alloc ?_ _) | (with_reducible refine Kd.C_drewN ?_ _) | (with_reducible refine Kd.C_drew ?_)))
            (case side6 => exact (Kd.R_reads' HO197.out).2.1)
            (case side7 => repeat (first | exact (Kd.S_reads' HO200.out).2.2 | (with_reducible refine Kd.C_alloc ?_ _) | (with_reducible refine Kd.C_drewN ?_ _) | (with_reducible refine Kd.C_drew ?_)))
            (case side8 => exact (Kd.S_reads' HO200.out).2.1)
            rintro e w124 ⟨rfl, hb⟩
            refine ⟨_, rfl, ?_⟩
            have n0_ := Aside0.mk (Kd.R_below (by exact HO191.out) hb)
            have n1_ := Aside0.mk (Kd.S_below (by exact HO194.out) hb)
            have n2_ := Aside0.mk (Kd.R_below (by exact HO197.out) hb)
            have n3_ := Aside0.mk (Kd.S_below (by exact HO200.out) hb)
            have n4_ := Aside0.mk (blk_below (g := gb185) (o := .cells #[.slice A0_0 l0_0.length c0_0, .slice A0_1 l0_1.length c0_1] 25 (0, 0)) (by exact BK185.out) hb)
            have n5_ := Aside0.mk (blk_below (g := gb186) (o := .cells #[.slice A1_0 l1_0.length c1_0, .slice A1_1 l1_1.length c1_1] 25 (0, 0)) (by exact BK186.out) hb)
            have n6_ := Aside0.mk (below_step (by repeat (first | (with_reducible first | exact HB.out | refine below_set ?_ GE185.out | refine below_set ?_ GE186.out) | exact HB.out)) hb)
            clear HO191
            clear HO194
            clear HO197
            clear HO200
            clear BK185
            clear BK186
            clear HB
            have HO191 := n0_
            have HO194 := n1_
            have HO197 := n2_
            have HO200 := n3_
            have BK185 := n4_
            have BK186 := n5_
            have HB := n6_
            clear n0_ n1_ n2_ n3_ n4_ n5_ n6_
            (try clear hb)
            (try clear hb2)
            (try clear hk)
            (try clear hi)
            refine hK.out _ _ ⟨(blk_cell BK185.out 0).trans rfl, (blk_cell BK185.out 1).trans rfl, (blk_cell BK186.out 0).trans rfl, (blk_cell BK186.out 1).trans rfl⟩ (fun hHeld => ?_)
            clear hK K
            refine norm_ (a' := ?_) ?_ ?_
            rotate_left
            · show Act.put _ (some 24) _ = _
              simp only [Act.put, List.setIfInBounds_toArray, List.set_cons_zero, List.set_cons_succ, i64_w, i32_w]
              rfl
            refine pure_ (i := 5) (N := some 6) (v := ?_) (a' := ?_) #[true, true, true, true, true, true] rfl rfl (by kernel_rfl) (fun _ _ _ h => h) (Or.inl ⟨by rfl, ?_⟩) ?_ ?_
            rotate_left
            · intro w'
              go_simp
              with_reducible rfl
            rotate_left
            · simp only [Act.put, List.setIfInBounds_toArray, List.set_cons_zero, List.set_cons_succ, i64_w, i32_w]
              rfl
            refine done_ (by kernel_rfl) ?_
            have hcz125_0 : w124.cell? ⟨gb185, 0, none⟩ = some (.slice A0_0 l0_0.length c0_0) := (blk_cell BK185.out 0).trans rfl
            have hcz125_1 : w124.cell? ⟨gb185, 1, none⟩ = some (.slice A0_1 l0_1.length c0_1) := (blk_cell BK185.out 1).trans rfl
            have hfz125_0 := blk_frozen BK185.out 0
            have hfz125_1 := blk_frozen BK185.out 1
            try go_wp2_with (first | ((with_reducible refine gate_callee (f := 6) rfl ?_); refine goesL_ (some 26) rfl rfl Try.func6 (by kernel_rfl) rfl #[.agg #[.slice A0_0 l0_0.length c0_0, .slice A0_1 l0_1.length c0_1]] rfl (by (try simp only [List.map_toArray, List.map_cons, List.map_nil]); first | done | rfl | (simp only [List.length_drop, List.length_take]; rfl)) ?_; (with_reducible refine (laws_toShape.calls k _ _ l0_0 _ _ l0_1 t202 t205 _ ?side1 ?side2 ?side3 ?side4 A22.out).mono ?_); (case side1 => repeat (first | exact (Kd.C_below HR0_0.out HB.out) | (with_reducible refine Kd.C_alloc ?_ _) | (with_reducible refine Kd.C_drewN ?_ _) | (with_reducible refine Kd.C_drew ?_))); (case side2 => exact HC0_0.out); (case side3 => repeat (first | exact (Kd.C_below HR0_1.out HB.out) | (with_reducible refine Kd.C_alloc ?_ _) | (with_reducible refine Kd.C_drewN ?_ _) | (with_reducible refine Kd.C_drew ?_))); (case side4 => exact HC0_1.out); rintro e w126 ⟨v203, v206, rfl, ho0, ho1, hb⟩; refine ⟨_, rfl, ?_⟩; have n0_ := Aside0.mk (Kd.R_elder' (by exact HO191.out) (Kd.R_base ho0) hb); have n1_ := Aside0.mk (Kd.S_mono (Kd.S_told (Kd.S_told (Kd.S_old (by exact HO194.out) hb) (Kd.R_base ho0)) (Kd.S_base ho1)) (fun _ h_ => h_.1)); have n2_ := Aside0.mk (Kd.R_elder' (by exact HO197.out) (Kd.R_base ho0) hb); have n3_ := Aside0.mk (Kd.S_mono (Kd.S_told (Kd.S_told (Kd.S_old (by exact HO200.out) hb) (Kd.R_base ho0)) (Kd.S_base ho1)) (fun _ h_ => h_.1)); have n4_ := Aside0.mk (Kd.R_lower (Kd.R_new' (Kd.R_new' ho0 (Kd.R_lt (by exact HO191.out))) (Kd.R_lt (by exact HO197.out))) (below_size (by repeat (first | (with_reducible first | exact HB.out | refine below_set ?_ GE185.out | refine below_set ?_ GE186.out) | exact HB.out)))); have n5_ := Aside0.mk (Kd.S_lower (Kd.S_new' (Kd.S_new' (Kd.S_new' (Kd.S_new' ho1 (Kd.R_lt (by exact HO191.out))) (Kd.S_lt (by exact HO194.out))) (Kd.R_lt (by exact HO197.out))) (Kd.S_lt (by exact HO200.out))) (below_size (by repeat (first | (with_reducible first | exact HB.out | refine below_set ?_ GE185.out | refine below_set ?_ GE186.out) | exact HB.out)))); have n6_ := Aside0.mk (blk_below (g := gb185) (o := .cells #[.slice A0_0 l0_0.length c0_0, .slice A0_1 l0_1.length c0_1] 25 (0, 0)) (by exact BK185.out) hb); have n7_ := Aside0.mk (blk_below (g := gb186) (o := .cells #[.slice A1_0 l1_0.length c1_0, .slice A1_1 l1_1.length c1_1] 25 (0, 0)) (by exact BK186.out) hb); have n8_ := Aside0.mk (below_step (by repeat (first | (with_reducible first | exact HB.out | refine below_set ?_ GE185.out | refine below_set ?_ GE186.out) | exact HB.out)) hb); clear HO191; clear HO194; clear HO197; clear HO200; clear BK185; clear BK186; clear HB; have HO191 := n0_; have HO194 := n1_; have HO197 := n2_; have HO200 := n3_; have HO204 := n4_; have HO207 := n5_; have BK185 := n6_; have BK186 := n7_; have HB := n8_; clear n0_ n1_ n2_ n3_ n4_ n5_ n6_ n7_ n8_; (try clear hb); (try clear hb2); (try clear hk); (try clear hi); (try clear ho0); (try clear ho1)) | ((with_reducible refine gate_dst (N := 7) rfl ?_); refine box_event ?hg (N := 7) ?hd (cs := #[.slice none 0 0, .slice none 0 0]) (t := 31) ?hr ?_; (case hd => rfl); (case hg => rfl); (case hr => first | (go_simp; done) | (go_simp; rfl)); intro gb208 hg w127 hbox hb; have n0_ := Aside0.mk (Kd.R_below (by exact HO191.out) hb); have n1_ := Aside0.mk (Kd.S_below (by exact HO194.out) hb); have n2_ := Aside0.mk (Kd.R_below (by exact HO197.out) hb); have n3_ := Aside0.mk (Kd.S_below (by exact HO200.out) hb); have n4_ := Aside0.mk (Kd.R_below (by exact HO204.out) hb); have n5_ := Aside0.mk (Kd.S_below (by exact HO207.out) hb); have n6_ := Aside0.mk (blk_below (g := gb185) (o := .cells #[.slice A0_0 l0_0.length c0_0, .slice A0_1 l0_1.length c0_1] 25 (0, 0)) (by exact BK185.out) hb); have n7_ := Aside0.mk (blk_below (g := gb186) (o := .cells #[.slice A1_0 l1_0.length c1_0, .slice A1_1 l1_1.length c1_1] 25 (0, 0)) (by exact BK186.out) hb); have n8_ := Aside0.mk (below_step (by repeat (first | (with_reducible first | exact HB.out | refine below_set ?_ GE185.out | refine below_set ?_ GE186.out) | exact HB.out)) hb); have n9_ := Aside0.mk (hbox); have n10_ := Aside0.mk ((by rw [hg]; exact (below_size (by repeat (first | (with_reducible first | exact HB.out | refine below_set ?_ GE185.out | refine below_set ?_ GE186.out) | exact HB.out))) : w.heap.size ≤ gb208)); have n11_ := Aside0.mk ((by rw [hg]; exact (below_size (by repeat (first | (with_reducible first | exact HB.out | refine below_set ?_ GE185.out | refine below_set ?_ GE186.out) | exact HB.out))) : w.heap.size ≤ gb208)); have n12_ := Aside0.mk ((by rw [hg]; exact Nat.ne_of_lt (blk_lt (g := gb185) (o := .cells #[.slice A0_0 l0_0.length c0_0, .slice A0_1 l0_1.length c0_1] 25 (0, 0)) (by exact BK185.out)) : gb185 ≠ gb208)); have n13_ := Aside0.mk ((by rw [hg]; exact Nat.ne_of_gt (blk_lt (g := gb185) (o := .cells #[.slice A0_0 l0_0.length c0_0, .slice A0_1 l0_1.length c0_1] 25 (0, 0)) (by exact BK185.out)) : gb208 ≠ gb185)); have n14_ := Aside0.mk ((by rw [hg]; exact Nat.ne_of_lt (blk_lt (g := gb186) (o := .cells #[.slice A1_0 l1_0.length c1_0, .slice A1_1 l1_1.length c1_1] 25 (0, 0)) (by exact BK186.out)) : gb186 ≠ gb208)); have n15_ := Aside0.mk ((by rw [hg]; exact Nat.ne_of_gt (blk_lt (g := gb186) (o := .cells #[.slice A1_0 l1_0.length c1_0, .slice A1_1 l1_1.length c1_1] 25 (0, 0)) (by exact BK186.out)) : gb208 ≠ gb186)); clear HO191; clear HO194; clear HO197; clear HO200; clear HO204; clear HO207; clear BK185; clear BK186; clear HB; have HO191 := n0_; have HO194 := n1_; have HO197 := n2_; have HO200 := n3_; have HO204 := n4_; have HO207 := n5_; have BK185 := n6_; have BK186 := n7_; have HB := n8_; have BK208 := n9_; have GW208 := n10_; have GE208 := n11_; have NB185_208 := n12_; have NB208_185 := n13_; have NB186_208 := n14_; have NB208_186 := n15_; clear n0_ n1_ n2_ n3_ n4_ n5_ n6_ n7_ n8_ n9_ n10_ n11_ n12_ n13_ n14_ n15_; clear hb hbox hg; obtain ⟨Ao128, co128, eo128⟩ := Kd.R_slice HO204.out; subst eo128; have hnb129 := NB208_185.out; have hnc129 := NB185_208.out; have hnb130 := NB208_186.out; have hnc130 := NB186_208.out; have hcz131_0 : w127.cell? ⟨gb208, 0, none⟩ = some (.slice none 0 0) := (blk_cell BK208.out 0).trans rfl; have hcz131_1 : w127.cell? ⟨gb208, 1, none⟩ = some (.slice none 0 0) := (blk_cell BK208.out 1).trans rfl; have hfz131_0 := blk_frozen BK208.out 0; have hfz131_1 := blk_frozen BK208.out 1; obtain ⟨Ao132, co132, eo132⟩ := Kd.S_slice HO207.out; subst eo132; have hcz133_0 : w127.cell? ⟨gb186, 0, none⟩ = some (.slice A1_0 l1_0.length c1_0) := (blk_cell BK186.out 0).trans rfl; have hcz133_1 : w127.cell? ⟨gb186, 1, none⟩ = some (.slice A1_1 l1_1.length c1_1) := (blk_cell BK186.out 1).trans rfl; have hfz133_0 := blk_frozen BK186.out 0; have hfz133_1 := blk_frozen BK186.out 1) | ((with_reducible refine gate_callee (f := 6) rfl ?_); refine goesL_ (some 28) rfl rfl Try.func6 (by kernel_rfl) rfl #[.agg #[.slice A1_0 l1_0.length c1_0, .slice A1_1 l1_1.length c1_1]] rfl (by (try simp only [List.map_toArray, List.map_cons, List.map_nil]); first | done | rfl | (simp only [List.length_drop, List.length_take]; rfl)) ?_; (with_reducible refine (laws_toShape.calls k _ _ l1_0 _ _ l1_1 t209 t212 _ ?side1 ?side2 ?side3 ?side4 A23.out).mono ?_); (case side1 => exact Kd.C_below HR1_0.out (by repeat (first | (with_reducible first | exact HB.out | refine below_set ?_ GE185.out | refine below_set ?_ GE186.out | refine below_set ?_ GE208.out) | exact HB.out))); (case side2 => exact HC1_0.out); (case side3 => exact Kd.C_below HR1_1.out (by repeat (first | (with_reducible first | exact HB.out | refine below_set ?_ GE185.out | refine below_set ?_ GE186.out | refine below_set ?_ GE208.out) | exact HB.out))); (case side4 => exact HC1_1.out); rintro e w134 ⟨v210, v213, rfl, ho0, ho1, hb⟩; refine ⟨_, rfl, ?_⟩; have n0_ := Aside0.mk (Kd.R_elder' (by exact (Kd.R_mono (Kd.R_far (p := ⟨gb208, 1, none⟩) (Kd.R_far (p := ⟨gb208, 0, none⟩) (Kd.R_types HO191.out BK208.out (by decide)) (fun _ hk => hk.2) (.slice Ao128 t202.length co128)) (fun _ hk => hk.2) (.slice Ao132 t205.length co132)) (fun _ h_ => h_.1))) (Kd.R_base ho0) hb); have n1_ := Aside0.mk (Kd.S_mono (Kd.S_told (Kd.S_told (Kd.S_old (by exact (Kd.S_mono (Kd.S_far (p := ⟨gb208, 1, none⟩) (Kd.S_far (p := ⟨gb208, 0, none⟩) (Kd.S_types HO194.out BK208.out (by decide)) (fun _ hk => hk.2) (.slice Ao128 t202.length co128)) (fun _ hk => hk.2) (.slice Ao132 t205.length co132)) (fun _ h_ => h_.1))) hb) (Kd.R_base ho0)) (Kd.S_base ho1)) (fun _ h_ => h_.1)); have n2_ := Aside0.mk (Kd.R_elder' (by exact (Kd.R_mono (Kd.R_far (p := ⟨gb208, 1, none⟩) (Kd.R_far (p := ⟨gb208, 0, none⟩) (Kd.R_types HO197.out BK208.out (by decide)) (fun _ hk => hk.2) (.slice Ao128 t202.length co128)) (fun _ hk => hk.2) (.slice Ao132 t205.length co132)) (fun _ h_ => h_.1))) (Kd.R_base ho0) hb); have n3_ := Aside0.mk (Kd.S_mono (Kd.S_told (Kd.S_told (Kd.S_old (by exact (Kd.S_mono (Kd.S_far (p := ⟨gb208, 1, none⟩) (Kd.S_far (p := ⟨gb208, 0, none⟩) (Kd.S_types HO200.out BK208.out (by decide)) (fun _ hk => hk.2) (.slice Ao128 t202.length co128)) (fun _ hk => hk.2) (.slice Ao132 t205.length co132)) (fun _ h_ => h_.1))) hb) (Kd.R_base ho0)) (Kd.S_base ho1)) (fun _ h_ => h_.1)); have n4_ := Aside0.mk (Kd.R_elder' (by exact (Kd.R_mono (Kd.R_far (p := ⟨gb208, 1, none⟩) (Kd.R_far (p := ⟨gb208, 0, none⟩) (Kd.R_types HO204.out BK208.out (by decide)) (fun _ hk => hk.2) (.slice Ao128 t202.length co128)) (fun _ hk => hk.2) (.slice Ao132 t205.length co132)) (fun _ h_ => h_.1))) (Kd.R_base ho0) hb); have n5_ := Aside0.mk (Kd.S_mono (Kd.S_told (Kd.S_told (Kd.S_old (by exact (Kd.S_mono (Kd.S_far (p := ⟨gb208, 1, none⟩) (Kd.S_far (p := ⟨gb208, 0, none⟩) (Kd.S_types HO207.out BK208.out (by decide)) (fun _ hk => hk.2) (.slice Ao128 t202.length co128)) (fun _ hk => hk.2) (.slice Ao132 t205.length co132)) (fun _ h_ => h_.1))) hb) (Kd.R_base ho0)) (Kd.S_base ho1)) (fun _ h_ => h_.1)); have n6_ := Aside0.mk (Kd.R_lower (Kd.R_new' (Kd.R_new' (Kd.R_new' ho0 (Kd.R_lt (by exact (Kd.R_mono (Kd.R_far (p := ⟨gb208, 1, none⟩) (Kd.R_far (p := ⟨gb208, 0, none⟩) (Kd.R_types HO191.out BK208.out (by decide)) (fun _ hk => hk.2) (.slice Ao128 t202.length co128)) (fun _ hk => hk.2) (.slice Ao132 t205.length co132)) (fun _ h_ => h_.1))))) (Kd.R_lt (by exact (Kd.R_mono (Kd.R_far (p := ⟨gb208, 1, none⟩) (Kd.R_far (p := ⟨gb208, 0, none⟩) (Kd.R_types HO197.out BK208.out (by decide)) (fun _ hk => hk.2) (.slice Ao128 t202.length co128)) (fun _ hk => hk.2) (.slice Ao132 t205.length co132)) (fun _ h_ => h_.1))))) (Kd.R_lt (by exact (Kd.R_mono (Kd.R_far (p := ⟨gb208, 1, none⟩) (Kd.R_far (p := ⟨gb208, 0, none⟩) (Kd.R_types HO204.out BK208.out (by decide)) (fun _ hk => hk.2) (.slice Ao128 t202.length co128)) (fun _ hk => hk.2) (.slice Ao132 t205.length co132)) (fun _ h_ => h_.1))))) (below_size (by repeat (first | (with_reducible first | exact HB.out | refine below_set ?_ GE185.out | refine below_set ?_ GE186.out | refine below_set ?_ GE208.out) | exact HB.out)))); have n7_ := Aside0.mk (Kd.S_lower (Kd.S_new' (Kd.S_new' (Kd.S_new' (Kd.S_new' (Kd.S_new' (Kd.S_new' ho1 (Kd.R_lt (by exact (Kd.R_mono (Kd.R_far (p := ⟨gb208, 1, none⟩) (Kd.R_far (p := ⟨gb208, 0, none⟩) (Kd.R_types HO191.out BK208.out (by decide)) (fun _ hk => hk.2) (.slice Ao128 t202.length co128)) (fun _ hk => hk.2) (.slice Ao132 t205.length co132)) (fun _ h_ => h_.1))))) (Kd.S_lt (by exact (Kd.S_mono (Kd.S_far (p := ⟨gb208, 1, none⟩) (Kd.S_far (p := ⟨gb208, 0, none⟩) (Kd.S_types HO194.out BK208.out (by decide)) (fun _ hk => hk.2) (.slice Ao128 t202.length co128)) (fun _ hk => hk.2) (.slice Ao132 t205.length co132)) (fun _ h_ => h_.1))))) (Kd.R_lt (by exact (Kd.R_mono (Kd.R_far (p := ⟨gb208, 1, none⟩) (Kd.R_far (p := ⟨gb208, 0, none⟩) (Kd.R_types HO197.out BK208.out (by decide)) (fun _ hk => hk.2) (.slice Ao128 t202.length co128)) (fun _ hk => hk.2) (.slice Ao132 t205.length co132)) (fun _ h_ => h_.1))))) (Kd.S_lt (by exact (Kd.S_mono (Kd.S_far (p := ⟨gb208, 1, none⟩) (Kd.S_far (p := ⟨gb208, 0, none⟩) (Kd.S_types HO200.out BK208.out (by decide)) (fun _ hk => hk.2) (.slice Ao128 t202.length co128)) (fun _ hk => hk.2) (.slice Ao132 t205.length co132)) (fun _ h_ => h_.1))))) (Kd.R_lt (by exact (Kd.R_mono (Kd.R_far (p := ⟨gb208, 1, none⟩) (Kd.R_far (p := ⟨gb208, 0, none⟩) (Kd.R_types HO204.out BK208.out (by decide)) (fun _ hk => hk.2) (.slice Ao128 t202.length co128)) (fun _ hk => hk.2) (.slice Ao132 t205.length co132)) (fun _ h_ => h_.1))))) (Kd.S_lt (by exact (Kd.S_mono (Kd.S_far (p := ⟨gb208, 1, none⟩) (Kd.S_far (p := ⟨gb208, 0, none⟩) (Kd.S_types HO207.out BK208.out (by decide)) (fun _ hk => hk.2) (.slice Ao128 t202.length co128)) (fun _ hk => hk.2) (.slice Ao132 t205.length co132)) (fun _ h_ => h_.1))))) (below_size (by repeat (first | (with_reducible first | exact HB.out | refine below_set ?_ GE185.out | refine below_set ?_ GE186.out | refine below_set ?_ GE208.out) | exact HB.out)))); have n8_ := Aside0.mk (blk_below (g := gb185) (o := .cells #[.slice A0_0 l0_0.length c0_0, .slice A0_1 l0_1.length c0_1] 25 (0, 0)) (by refine blk_far ?_ NB185_208.out _; refine blk_far ?_ NB185_208.out _; exact BK185.out) hb); have n9_ := Aside0.mk (blk_below (g := gb186) (o := .cells #[.slice A1_0 l1_0.length c1_0, .slice A1_1 l1_1.length c1_1] 25 (0, 0)) (by refine blk_far ?_ NB186_208.out _; refine blk_far ?_ NB186_208.out _; exact BK186.out) hb); have n10_ := Aside0.mk (blk_below (g := gb208) (o := .cells #[.slice Ao128 t202.length co128, .slice Ao132 t205.length co132] 31 (0, 0)) (by refine blk_put (cs := #[.slice Ao128 t202.length co128, .slice none 0 0]) ?_ 1 _ rfl; refine blk_put (cs := #[.slice none 0 0, .slice none 0 0]) ?_ 0 _ rfl; exact BK208.out) hb); have n11_ := Aside0.mk (below_step (by repeat (first | (with_reducible first | exact HB.out | refine below_set ?_ GE185.out | refine below_set ?_ GE186.out | refine below_set ?_ GE208.out) | exact HB.out)) hb); clear HO191; clear HO194; clear HO197; clear HO200; clear HO204; clear HO207; clear BK185; clear BK186; clear BK208; clear HB; have HO191 := n0_; have HO194 := n1_; have HO197 := n2_; have HO200 := n3_; have HO204 := n4_; have HO207 := n5_; have HO211 := n6_; have HO214 := n7_; have BK185 := n8_; have BK186 := n9_; have BK208 := n10_; have HB := n11_; clear n0_ n1_ n2_ n3_ n4_ n5_ n6_ n7_ n8_ n9_ n10_ n11_; (try clear hb); (try clear hb2); (try clear hk); (try clear hi); (try clear ho0); (try clear ho1)) | ((with_reducible refine gate_dst (N := 8) rfl ?_); refine box_event ?hg (N := 8) ?hd (cs := #[.slice none 0 0, .slice none 0 0]) (t := 31) ?hr ?_; (case hd => rfl); (case hg => rfl); (case hr => first | (go_simp; done) | (go_simp; rfl)); intro gb215 hg w135 hbox hb; have n0_ := Aside0.mk (Kd.R_below (by exact HO191.out) hb); have n1_ := Aside0.mk (Kd.S_below (by exact HO194.out) hb); have n2_ := Aside0.mk (Kd.R_below (by exact HO197.out) hb); have n3_ := Aside0.mk (Kd.S_below (by exact HO200.out) hb); have n4_ := Aside0.mk (Kd.R_below (by exact HO204.out) hb); have n5_ := Aside0.mk (Kd.S_below (by exact HO207.out) hb); have n6_ := Aside0.mk (Kd.R_below (by exact HO211.out) hb); have n7_ := Aside0.mk (Kd.S_below (by exact HO214.out) hb); have n8_ := Aside0.mk (blk_below (g := gb185) (o := .cells #[.slice A0_0 l0_0.length c0_0, .slice A0_1 l0_1.length c0_1] 25 (0, 0)) (by exact BK185.out) hb); have n9_ := Aside0.mk (blk_below (g := gb186) (o := .cells #[.slice A1_0 l1_0.length c1_0, .slice A1_1 l1_1.length c1_1] 25 (0, 0)) (by exact BK186.out) hb); have n10_ := Aside0.mk (blk_below (g := gb208) (o := .cells #[.slice Ao128 t202.length co128, .slice Ao132 t205.length co132] 31 (0, 0)) (by exact BK208.out) hb); have n11_ := Aside0.mk (below_step (by repeat (first | (with_reducible first | exact HB.out | refine below_set ?_ GE185.out | refine below_set ?_ GE186.out | refine below_set ?_ GE208.out) | exact HB.out)) hb); have n12_ := Aside0.mk (hbox); have n13_ := Aside0.mk ((by rw [hg]; exact (below_size (by repeat (first | (with_reducible first | exact HB.out | refine below_set ?_ GE185.out | refine below_set ?_ GE186.out | refine below_set ?_ GE208.out) | exact HB.out))) : w.heap.size ≤ gb215)); have n14_ := Aside0.mk ((by rw [hg]; exact (below_size (by repeat (first | (with_reducible first | exact HB.out | refine below_set ?_ GE185.out | refine below_set ?_ GE186.out | refine below_set ?_ GE208.out) | exact HB.out))) : w.heap.size ≤ gb215)); have n15_ := Aside0.mk ((by rw [hg]; exact Nat.ne_of_lt (blk_lt (g := gb185) (o := .cells #[.slice A0_0 l0_0.length c0_0, .slice A0_1 l0_1.length c0_1] 25 (0, 0)) (by exact BK185.out)) : gb185 ≠ gb215)); have n16_ := Aside0.mk ((by rw [hg]; exact Nat.ne_of_gt (blk_lt (g := gb185) (o := .cells #[.slice A0_0 l0_0.length c0_0, .slice A0_1 l0_1.length c0_1] 25 (0, 0)) (by exact BK185.out)) : gb215 ≠ gb185)); have n17_ := Aside0.mk ((by rw [hg]; exact Nat.ne_of_lt (blk_lt (g := gb186) (o := .cells #[.slice A1_0 l1_0.length c1_0, .slice A1_1 l1_1.length c1_1] 25 (0, 0)) (by exact BK186.out)) : gb186 ≠ gb215)); have n18_ := Aside0.mk ((by rw [hg]; exact Nat.ne_of_gt (blk_lt (g := gb186) (o := .cells #[.slice A1_0 l1_0.length c1_0, .slice A1_1 l1_1.length c1_1] 25 (0, 0)) (by exact BK186.out)) : gb215 ≠ gb186)); have n19_ := Aside0.mk ((by rw [hg]; exact Nat.ne_of_lt (blk_lt (g := gb208) (o := .cells #[.slice Ao128 t202.length co128, .slice Ao132 t205.length co132] 31 (0, 0)) (by exact BK208.out)) : gb208 ≠ gb215)); have n20_ := Aside0.mk ((by rw [hg]; exact Nat.ne_of_gt (blk_lt (g := gb208) (o := .cells #[.slice Ao128 t202.length co128, .slice Ao132 t205.length co132] 31 (0, 0)) (by exact BK208.out)) : gb215 ≠ gb208)); clear HO191; clear HO194; clear HO197; clear HO200; clear HO204; clear HO207; clear HO211; clear HO214; clear BK185; clear BK186; clear BK208; clear HB; have HO191 := n0_; have HO194 := n1_; have HO197 := n2_; have HO200 := n3_; have HO204 := n4_; have HO207 := n5_; have HO211 := n6_; have HO214 := n7_; have BK185 := n8_; have BK186 := n9_; have BK208 := n10_; have HB := n11_; have BK215 := n12_; have GW215 := n13_; have GE215 := n14_; have NB185_215 := n15_; have NB215_185 := n16_; have NB186_215 := n17_; have NB215_186 := n18_; have NB208_215 := n19_; have NB215_208 := n20_; clear n0_ n1_ n2_ n3_ n4_ n5_ n6_ n7_ n8_ n9_ n10_ n11_ n12_ n13_ n14_ n15_ n16_ n17_ n18_ n19_ n20_; clear hb hbox hg; obtain ⟨Ao136, co136, eo136⟩ := Kd.R_slice HO211.out; subst eo136; have hnb137 := NB215_185.out; have hnc137 := NB185_215.out; have hnb138 := NB215_186.out; have hnc138 := NB186_215.out; have hnb139 := NB215_208.out; have hnc139 := NB208_215.out; have hcz140_0 : w135.cell? ⟨gb215, 0, none⟩ = some (.slice none 0 0) := (blk_cell BK215.out 0).trans rfl; have hcz140_1 : w135.cell? ⟨gb215, 1, none⟩ = some (.slice none 0 0) := (blk_cell BK215.out 1).trans rfl; have hfz140_0 := blk_frozen BK215.out 0; have hfz140_1 := blk_frozen BK215.out 1; obtain ⟨Ao141, co141, eo141⟩ := Kd.S_slice HO214.out; subst eo141; have hcz142_0 : w135.cell? ⟨gb208, 0, none⟩ = some (.slice Ao128 t202.length co128) := (blk_cell BK208.out 0).trans rfl; have hcz142_1 : w135.cell? ⟨gb208, 1, none⟩ = some (.slice Ao132 t205.length co132) := (blk_cell BK208.out 1).trans rfl; have hfz142_0 := blk_frozen BK208.out 0; have hfz142_1 := blk_frozen BK208.out 1) | ((with_reducible refine gate_callee (f := 7) rfl ?_); refine goesL_ (some 31) rfl rfl Try.func7 (by kernel_rfl) rfl #[.agg #[.slice Ao128 t202.length co128, .slice Ao132 t205.length co132], .agg #[.slice Ao136 t209.length co136, .slice Ao141 t212.length co141]] rfl (by (try simp only [List.map_toArray, List.map_cons, List.map_nil]); first | done | rfl | (simp only [List.length_drop, List.length_take]; rfl)) ?_; (with_reducible refine (impl_ShapeSame.calls k _ _ t202 _ _ t205 _ _ t209 _ _ t212 t216 _ ?side1 ?side2 ?side3 ?side4 ?side5 ?side6 ?side7 ?side8 A24.out).mono ?_); (case side1 => refine (Kd.R_reads' (e := 42) (base := w.heap.size) (ok := fun k_ => (((True ∧ some k_ ≠ (.slice Ao120 t189.length co120 : Value).ownBlock) ∧ some k_ ≠ (.slice Ao122 t195.length co122 : Value).ownBlock) ∧ some k_ ≠ (.slice Ao136 t209.length co136 : Value).ownBlock)) (n := t202.length) (c := co128) ?_).2.2; exact (by exact (Kd.R_mono (Kd.R_far (p := ⟨gb215, 1, none⟩) (Kd.R_far (p := ⟨gb215, 0, none⟩) (Kd.R_types HO204.out BK215.out (by decide)) (fun _ hk => hk.2) (.slice Ao136 t209.length co136)) (fun _ hk => hk.2) (.slice Ao141 t212.length co141)) (fun _ h_ => h_.1)))); (case side2 => exact (Kd.R_reads' HO204.out).2.1); (case side3 => refine (Kd.S_reads' (e := 38) (base := w.heap.size) (ok := fun k_ => ((((((some k_ ≠ (.slice Ao128 t202.length co128 : Value).ownBlock ∧ some k_ ≠ (.slice Ao120 t189.length co120 : Value).ownBlock) ∧ some k_ ≠ (.slice Ao121 t192.length co121 : Value).ownBlock) ∧ some k_ ≠ (.slice Ao122 t195.length co122 : Value).ownBlock) ∧ some k_ ≠ (.slice Ao123 t198.length co123 : Value).ownBlock) ∧ some k_ ≠ (.slice Ao136 t209.length co136 : Value).ownBlock) ∧ some k_ ≠ (.slice Ao141 t212.length co141 : Value).ownBlock)) (n := t205.length) (c := co132) ?_).2.2; exact (by exact (Kd.S_mono (Kd.S_far (p := ⟨gb215, 1, none⟩) (Kd.S_far (p := ⟨gb215, 0, none⟩) (Kd.S_types HO207.out BK215.out (by decide)) (fun _ hk => hk.2) (.slice Ao136 t209.length co136)) (fun _ hk => hk.2) (.slice Ao141 t212.length co141)) (fun _ h_ => h_.1)))); (case side4 => exact (Kd.S_reads' HO207.out).2.1); (case side5 => refine (Kd.R_reads' (e := 42) (base := w.heap.size) (ok := fun k_ => (((True ∧ some k_ ≠ (.slice Ao120 t189.length co120 : Value).ownBlock) ∧ some k_ ≠ (.slice Ao122 t195.length co122 : Value).ownBlock) ∧ some k_ ≠ (.slice Ao128 t202.length co128 : Value).ownBlock)) (n := t209.length) (c := co136) ?_).2.2; exact (by exact (Kd.R_mono (Kd.R_far (p := ⟨gb215, 1, none⟩) (Kd.R_far (p := ⟨gb215, 0, none⟩) (Kd.R_types HO211.out BK215.out (by decide)) (fun _ hk => hk.2) (.slice Ao136 t209.length co136)) (fun _ hk => hk.2) (.slice Ao141 t212.length co141)) (fun _ h_ => h_.1)))); (case side6 => exact (Kd.R_reads' HO211.out).2.1); (case side7 => refine (Kd.S_reads' (e := 38) (base := w.heap.size) (ok := fun k_ => ((((((some k_ ≠ (.slice Ao136 t209.length co136 : Value).ownBlock ∧ some k_ ≠ (.slice Ao120 t189.length co120 : Value).ownBlock) ∧ some k_ ≠ (.slice Ao121 t192.length co121 : Value).ownBlock) ∧ some k_ ≠ (.slice Ao122 t195.length co122 : Value).ownBlock) ∧ some k_ ≠ (.slice Ao123 t198.length co123 : Value).ownBlock) ∧ some k_ ≠ (.slice Ao128 t202.length co128 : Value).ownBlock) ∧ some k_ ≠ (.slice Ao132 t205.length co132 : Value).ownBlock)) (n := t212.length) (c := co141) ?_).2.2; exact (by exact (Kd.S_mono (Kd.S_far (p := ⟨gb215, 1, none⟩) (Kd.S_far (p := ⟨gb215, 0, none⟩) (Kd.S_types HO214.out BK215.out (by decide)) (fun _ hk => hk.2) (.slice Ao136 t209.length co136)) (fun _ hk => hk.2) (.slice Ao141 t212.length co141)) (fun _ h_ => h_.1)))); (case side8 => exact (Kd.S_reads' HO214.out).2.1); rintro e w143 ⟨rfl, hb⟩; refine ⟨_, rfl, ?_⟩; have n0_ := Aside0.mk (Kd.R_below (by exact (Kd.R_mono (Kd.R_far (p := ⟨gb215, 1, none⟩) (Kd.R_far (p := ⟨gb215, 0, none⟩) (Kd.R_types HO191.out BK215.out (by decide)) (fun _ hk => hk.2) (.slice Ao136 t209.length co136)) (fun _ hk => hk.2) (.slice Ao141 t212.length co141)) (fun _ h_ => h_.1))) hb); have n1_ := Aside0.mk (Kd.S_below (by exact (Kd.S_mono (Kd.S_far (p := ⟨gb215, 1, none⟩) (Kd.S_far (p := ⟨gb215, 0, none⟩) (Kd.S_types HO194.out BK215.out (by decide)) (fun _ hk => hk.2) (.slice Ao136 t209.length co136)) (fun _ hk => hk.2) (.slice Ao141 t212.length co141)) (fun _ h_ => h_.1))) hb); have n2_ := Aside0.mk (Kd.R_below (by exact (Kd.R_mono (Kd.R_far (p := ⟨gb215, 1, none⟩) (Kd.R_far (p := ⟨gb215, 0, none⟩) (Kd.R_types HO197.out BK215.out (by decide)) (fun _ hk => hk.2) (.slice Ao136 t209.length co136)) (fun _ hk => hk.2) (.slice Ao141 t212.length co141)) (fun _ h_ => h_.1))) hb); have n3_ := Aside0.mk (Kd.S_below (by exact (Kd.S_mono (Kd.S_far (p := ⟨gb215, 1, none⟩) (Kd.S_far (p := ⟨gb215, 0, none⟩) (Kd.S_types HO200.out BK215.out (by decide)) (fun _ hk => hk.2) (.slice Ao136 t209.length co136)) (fun _ hk => hk.2) (.slice Ao141 t212.length co141)) (fun _ h_ => h_.1))) hb); have n4_ := Aside0.mk (Kd.R_below (by exact (Kd.R_mono (Kd.R_far (p := ⟨gb215, 1, none⟩) (Kd.R_far (p := ⟨gb215, 0, none⟩) (Kd.R_types HO204.out BK215.out (by decide)) (fun _ hk => hk.2) (.slice Ao136 t209.length co136)) (fun _ hk => hk.2) (.slice Ao141 t212.length co141)) (fun _ h_ => h_.1))) hb); have n5_ := Aside0.mk (Kd.S_below (by exact (Kd.S_mono (Kd.S_far (p := ⟨gb215, 1, none⟩) (Kd.S_far (p := ⟨gb215, 0, none⟩) (Kd.S_types HO207.out BK215.out (by decide)) (fun _ hk => hk.2) (.slice Ao136 t209.length co136)) (fun _ hk => hk.2) (.slice Ao141 t212.length co141)) (fun _ h_ => h_.1))) hb); have n6_ := Aside0.mk (Kd.R_below (by exact (Kd.R_mono (Kd.R_far (p := ⟨gb215, 1, none⟩) (Kd.R_far (p := ⟨gb215, 0, none⟩) (Kd.R_types HO211.out BK215.out (by decide)) (fun _ hk => hk.2) (.slice Ao136 t209.length co136)) (fun _ hk => hk.2) (.slice Ao141 t212.length co141)) (fun _ h_ => h_.1))) hb); have n7_ := Aside0.mk (Kd.S_below (by exact (Kd.S_mono (Kd.S_far (p := ⟨gb215, 1, none⟩) (Kd.S_far (p := ⟨gb215, 0, none⟩) (Kd.S_types HO214.out BK215.out (by decide)) (fun _ hk => hk.2) (.slice Ao136 t209.length co136)) (fun _ hk => hk.2) (.slice Ao141 t212.length co141)) (fun _ h_ => h_.1))) hb); have n8_ := Aside0.mk (blk_below (g := gb185) (o := .cells #[.slice A0_0 l0_0.length c0_0, .slice A0_1 l0_1.length c0_1] 25 (0, 0)) (by refine blk_far ?_ NB185_215.out _; refine blk_far ?_ NB185_215.out _; exact BK185.out) hb); have n9_ := Aside0.mk (blk_below (g := gb186) (o := .cells #[.slice A1_0 l1_0.length c1_0, .slice A1_1 l1_1.length c1_1] 25 (0, 0)) (by refine blk_far ?_ NB186_215.out _; refine blk_far ?_ NB186_215.out _; exact BK186.out) hb); have n10_ := Aside0.mk (blk_below (g := gb208) (o := .cells #[.slice Ao128 t202.length co128, .slice Ao132 t205.length co132] 31 (0, 0)) (by refine blk_far ?_ NB208_215.out _; refine blk_far ?_ NB208_215.out _; exact BK208.out) hb); have n11_ := Aside0.mk (blk_below (g := gb215) (o := .cells #[.slice Ao136 t209.length co136, .slice Ao141 t212.length co141] 31 (0, 0)) (by refine blk_put (cs := #[.slice Ao136 t209.length co136, .slice none 0 0]) ?_ 1 _ rfl; refine blk_put (cs := #[.slice none 0 0, .slice none 0 0]) ?_ 0 _ rfl; exact BK215.out) hb); have n12_ := Aside0.mk (below_step (by repeat (first | (with_reducible first | exact HB.out | refine below_set ?_ GE185.out | refine below_set ?_ GE186.out | refine below_set ?_ GE208.out | refine below_set ?_ GE215.out) | exact HB.out)) hb); clear HO191; clear HO194; clear HO197; clear HO200; clear HO204; clear HO207; clear HO211; clear HO214; clear BK185; clear BK186; clear BK208; clear BK215; clear HB; have HO191 := n0_; have HO194 := n1_; have HO197 := n2_; have HO200 := n3_; have HO204 := n4_; have HO207 := n5_; have HO211 := n6_; have HO214 := n7_; have BK185 := n8_; have BK186 := n9_; have BK208 := n10_; have BK215 := n11_; have HB := n12_; clear n0_ n1_ n2_ n3_ n4_ n5_ n6_ n7_ n8_ n9_ n10_ n11_ n12_; (try clear hb); (try clear hb2); (try clear hk); (try clear hi)))
            have n0_ := Aside0.mk (Kd.R_drew HO191.out)
            have n1_ := Aside0.mk (Kd.S_drew HO194.out)
            have n2_ := Aside0.mk (Kd.R_drew HO197.out)
            have n3_ := Aside0.mk (Kd.S_drew HO200.out)
            have n4_ := Aside0.mk (Kd.R_drew HO204.out)
            have n5_ := Aside0.mk (Kd.S_drew HO207.out)
            have n6_ := Aside0.mk (Kd.R_drew HO211.out)
            have n7_ := Aside0.mk (Kd.S_drew HO214.out)
            have n8_ := Aside0.mk (blk_drew BK185.out)
            have n9_ := Aside0.mk (blk_drew BK186.out)
            have n10_ := Aside0.mk (blk_drew BK208.out)
            have n11_ := Aside0.mk (blk_drew BK215.out)
            have n12_ := Aside0.mk (below_drew1 HB.out)
            clear HO191
            clear HO194
            clear HO197
            clear HO200
            clear HO204
            clear HO207
            clear HO211
            clear HO214
            clear BK185
            clear BK186
            clear BK208
            clear BK215
            clear HB
            have HO191 := n0_
            have HO194 := n1_
            have HO197 := n2_
            have HO200 := n3_
            have HO204 := n4_
            have HO207 := n5_
            have HO211 := n6_
            have HO214 := n7_
            have BK185 := n8_
            have BK186 := n9_
            have BK208 := n10_
            have BK215 := n11_
            have HB := n12_
            clear n0_ n1_ n2_ n3_ n4_ n5_ n6_ n7_ n8_ n9_ n10_ n11_ n12_
            refine start_ (n := 5) (S := fun w' => w'.cell? ⟨gb208, 0, none⟩ = some (.slice Ao128 t202.length co128) ∧ w'.cell? ⟨gb208, 1, none⟩ = some (.slice Ao132 t205.length co132) ∧ w'.cell? ⟨gb185, 0, none⟩ = some (.slice A0_0 l0_0.length c0_0) ∧ w'.cell? ⟨gb185, 1, none⟩ = some (.slice A0_1 l0_1.length c0_1)) (ds := []) #[false, false, false, false, false] (by kernel_rfl) rfl rfl ⟨(blk_cell BK208.out 0).trans rfl, (blk_cell BK208.out 1).trans rfl, (blk_cell BK185.out 0).trans rfl, (blk_cell BK185.out 1).trans rfl⟩ (fun hHeld => ?_)
            generalize w143.drew = w144 at HO191 HO194 HO197 HO200 HO204 HO207 HO211 HO214 BK185 BK186 BK208 BK215 HB hHeld ⊢
            refine take_ (i := 0) (N := some 35) (v := ?_) (a' := ?_) #[true, false, false, false, false] rfl rfl (by kernel_rfl) (fun _ _ _ h => h) (Or.inl ⟨by rfl, ?_⟩) hHeld ?_ ?_
            rotate_left
            · rintro w' ⟨s0, s1, s2, s3⟩
              go_simp
              with_reducible rfl
            rotate_left
            · simp only [Act.put, List.setIfInBounds_toArray, List.set_cons_zero, List.set_cons_succ, i64_w, i32_w]
              rfl
            refine take_ (i := 1) (N := some 36) (v := ?_) (a' := ?_) #[true, true, false, false, false] rfl rfl (by kernel_rfl) (fun _ _ _ h => h) (Or.inl ⟨by rfl, ?_⟩) hHeld ?_ ?_
            rotate_left
            · rintro w' ⟨s0, s1, s2, s3⟩
              go_simp
              with_reducible rfl
            rotate_left
            · simp only [Act.put, List.setIfInBounds_toArray, List.set_cons_zero, List.set_cons_succ, i64_w, i32_w]
              rfl
            refine one_ (i := 2) (N := some 37) #[true, true, true, false, false] rfl rfl (by kernel_rfl) (by decide) (fun K hK => ?_)
            refine goes_ Try.func6 (by kernel_rfl) rfl #[.agg #[.slice A0_0 l0_0.length c0_0, .slice A0_1 l0_1.length c0_1]] (by rfl) rfl rfl (by (try simp only [List.map_toArray, List.map_cons, List.map_nil]); first | done | rfl | (simp only [List.length_drop, List.length_take]; rfl)) ?_
            with_reducible refine (laws_toShape.calls k _ _ l0_0 _ _ l0_1 t217 t220 _ ?side1 ?side2 ?side3 ?side4 A60.out).mono ?_
            (case side1 => repeat (first | exact (Kd.C_below HR0_0.out HB.out) | (with_reducible refine Kd.C_alloc ?_ _) | (with_reducible refine Kd.C_drewN ?_ _) | (with_reducible refine Kd.C_drew ?_)))
            (case side2 => exact HC0_0.out)
            (case side3 => repeat (first | exact (Kd.C_below HR0_1.out HB.out) | (with_reducible refine Kd.C_alloc ?_ _) | (with_reducible refine Kd.C_drewN ?_ _) | (with_reducible refine Kd.C_drew ?_)))
            (case side4 => exact HC0_1.out)
            rintro e w145 ⟨v218, v221, rfl, ho0, ho1, hb⟩
            refine ⟨_, rfl, ?_⟩
            have n0_ := Aside0.mk (Kd.R_elder' (by exact HO191.out) (Kd.R_base ho0) hb)
            have n1_ := Aside0.mk (Kd.S_mono (Kd.S_told (Kd.S_told (Kd.S_old (by exact HO194.out) hb) (Kd.R_base ho0)) (Kd.S_base ho1)) (fun _ h_ => h_.1))
            have n2_ := Aside0.mk (Kd.R_elder' (by exact HO197.out) (Kd.R_base ho0) hb)
            have n3_ := Aside0.mk (Kd.S_mono (Kd.S_told (Kd.S_told (Kd.S_old (by exact HO200.out) hb) (Kd.R_base ho0)) (Kd.S_base ho1)) (fun _ h_ => h_.1))
            have n4_ := Aside0.mk (Kd.R_elder' (by exact HO204.out) (Kd.R_base ho0) hb)
            have n5_ := Aside0.mk (Kd.S_mono (Kd.S_told (Kd.S_told (Kd.S_old (by exact HO207.out) hb) (Kd.R_base ho0)) (Kd.S_base ho1)) (fun _ h_ => h_.1))
            have n6_ := Aside0.mk (Kd.R_elder' (by exact HO211.out) (Kd.R_base ho0) hb)
            have n7_ := Aside0.mk (Kd.S_mono (Kd.S_told (Kd.S_told (Kd.S_old (by exact HO214.out) hb) (Kd.R_base ho0)) (Kd.S_base ho1)) (fun _ h_ => h_.1))
            have n8_ := Aside0.mk (Kd.R_lower (Kd.R_new' (Kd.R_new' (Kd.R_new' (Kd.R_new' ho0 (Kd.R_lt (by exact HO191.out))) (Kd.R_lt (by exact HO197.out))) (Kd.R_lt (by exact HO204.out))) (Kd.R_lt (by exact HO211.out))) (below_size (by repeat (first | (with_reducible first | exact HB.out | refine below_set ?_ GE185.out | refine below_set ?_ GE186.out | refine below_set ?_ GE208.out | refine below_set ?_ GE215.out) | exact HB.out))))
            have n9_ := Aside0.mk (Kd.S_lower (Kd.S_new' (Kd.S_new' (Kd.S_new' (Kd.S_new' (Kd.S_new' (Kd.S_new' (Kd.S_new' (Kd.S_new' ho1 (Kd.R_lt (by exact HO191.out))) (Kd.S_lt (by exact HO194.out))) (Kd.R_lt (by exact HO197.out))) (Kd.S_lt (by exact HO200.out))) (Kd.R_lt (by exact HO204.out))) (Kd.S_lt (by exact HO207.out))) (Kd.R_lt (by exact HO211.out))) (Kd.S_lt (by exact HO214.out))) (below_size (by repeat (first | (with_reducible first | exact HB.out | refine below_set ?_ GE185.out | refine below_set ?_ GE186.out | refine below_set ?_ GE208.out | refine below_set ?_ GE215.out) | exact HB.out))))
            have n10_ := Aside0.mk (blk_below (g := gb185) (o := .cells #[.slice A0_0 l0_0.length c0_0, .slice A0_1 l0_1.length c0_1] 25 (0, 0)) (by exact BK185.out) hb)
            have n11_ := Aside0.mk (blk_below (g := gb186) (o := .cells #[.slice A1_0 l1_0.length c1_0, .slice A1_1 l1_1.length c1_1] 25 (0, 0)) (by exact BK186.out) hb)
            have n12_ := Aside0.mk (blk_below (g := gb208) (o := .cells #[.slice Ao128 t202.length co128, .slice Ao132 t205.length co132] 31 (0, 0)) (by exact BK208.out) hb)
            have n13_ := Aside0.mk (blk_below (g := gb215) (o := .cells #[.slice Ao136 t209.length co136, .slice Ao141 t212.length co141] 31 (0, 0)) (by exact BK215.out) hb)
            have n14_ := Aside0.mk (below_step (by repeat (first | (with_reducible first | exact HB.out | refine below_set ?_ GE185.out | refine below_set ?_ GE186.out | refine below_set ?_ GE208.out | refine below_set ?_ GE215.out) | exact HB.out)) hb)
            clear HO191
            clear HO194
            clear HO197
            clear HO200
            clear HO204
            clear HO207
            clear HO211
            clear HO214
            clear BK185
            clear BK186
            clear BK208
            clear BK215
            clear HB
            have HO191 := n0_
            have HO194 := n1_
            have HO197 := n2_
            have HO200 := n3_
            have HO204 := n4_
            have HO207 := n5_
            have HO211 := n6_
            have HO214 := n7_
            have HO219 := n8_
            have HO222 := n9_
            have BK185 := n10_
            have BK186 := n11_
            have BK208 := n12_
            have BK215 := n13_
            have HB := n14_
            clear n0_ n1_ n2_ n3_ n4_ n5_ n6_ n7_ n8_ n9_ n10_ n11_ n12_ n13_ n14_
            (try clear hb)
            (try clear hb2)
            (try clear hk)
            (try clear hi)
            (try clear ho0)
            (try clear ho1)
            obtain ⟨Ao146, co146, eo146⟩ := Kd.R_slice HO219.out
            (first | subst eo146 | (injection eo146 with f1_ f2_ f3_; have f4_ := f1_.symm; have f5_ := f3_.symm; clear f1_ f2_ f3_; subst f4_; subst f5_))
            obtain ⟨Ao147, co147, eo147⟩ := Kd.S_slice HO222.out
            (first | subst eo147 | (injection eo147 with f1_ f2_ f3_; have f4_ := f1_.symm; have f5_ := f3_.symm; clear f1_ f2_ f3_; subst f4_; subst f5_))
            refine hK.out _ _ ⟨(blk_cell BK208.out 0).trans rfl, (blk_cell BK208.out 1).trans rfl, (blk_cell BK185.out 0).trans rfl, (blk_cell BK185.out 1).trans rfl⟩ (fun hHeld => ?_)
            clear hK K
            refine norm_ (a' := ?_) ?_ ?_
            rotate_left
            · show Act.put _ (some 37) _ = _
              simp only [Act.put, List.setIfInBounds_toArray, List.set_cons_zero, List.set_cons_succ, i64_w, i32_w]
              rfl
            refine one_ (i := 3) (N := some 38) #[true, true, true, true, false] rfl rfl (by kernel_rfl) (by decide) (fun K hK => ?_)
            refine goes_ Try.func8 (by kernel_rfl) rfl #[.agg #[.slice Ao128 t202.length co128, .slice Ao132 t205.length co132], .agg #[.slice Ao146 t217.length co146, .slice Ao147 t220.length co147]] (by rfl) rfl rfl (by (try simp only [List.map_toArray, List.map_cons, List.map_nil]); first | done | rfl | (simp only [List.length_drop, List.length_take]; rfl)) ?_
            with_reducible refine (laws_eqShape.calls k _ _ t202 _ _ t205 _ _ t217 _ _ t220 true _ ?side1 ?side2 ?side3 ?side4 ?side5 ?side6 ?side7 ?side8 A61.out).mono ?_
            (case side1 => repeat (first | exact (Kd.R_reads' HO204.out).2.2 | (with_reducible refine Kd.C_alloc ?_ _) | (with_reducible refine Kd.C_drewN ?_ _) | (with_reducible refine Kd.C_drew ?_)))
            (case side2 => exact (Kd.R_reads' HO204.out).2.1)
            (case side3 => repeat (first | exact (Kd.S_reads' HO207.out).2.2 | (with_reducible refine Kd.C_alloc ?_ _) | (with_reducible refine Kd.C_drewN ?_ _) | (with_reducible refine Kd.C_drew ?_)))
            (case side4 => exact (Kd.S_reads' HO207.out).2.1)
            (case side5 => repeat (first | exact (Kd.R_reads' HO219.out).2.2 | (with_reducible refine Kd.C_alloc ?_ _) | (with_reducible refine Kd.C_drewN ?_ _) | (with_reducible refine Kd.C_drew ?_)))
            (case side6 => exact (Kd.R_reads' HO219.out).2.1)
            (case side7 => repeat (first | exact (Kd.S_reads' HO222.out).2.2 | (with_reducible refine Kd.C_alloc ?_ _) | (with_reducible refine Kd.C_drewN ?_ _) | (with_reducible refine Kd.C_drew ?_)))
            (case side8 => exact (Kd.S_reads' HO222.out).2.1)
            rintro e w148 ⟨rfl, hb⟩
            refine ⟨_, rfl, ?_⟩
            have n0_ := Aside0.mk (Kd.R_below (by exact HO191.out) hb)
            have n1_ := Aside0.mk (Kd.S_below (by exact HO194.out) hb)
            have n2_ := Aside0.mk (Kd.R_below (by exact HO197.out) hb)
            have n3_ := Aside0.mk (Kd.S_below (by exact HO200.out) hb)
            have n4_ := Aside0.mk (Kd.R_below (by exact HO204.out) hb)
            have n5_ := Aside0.mk (Kd.S_below (by exact HO207.out) hb)
            have n6_ := Aside0.mk (Kd.R_below (by exact HO211.out) hb)
            have n7_ := Aside0.mk (Kd.S_below (by exact HO214.out) hb)
            have n8_ := Aside0.mk (Kd.R_below (by exact HO219.out) hb)
            have n9_ := Aside0.mk (Kd.S_below (by exact HO222.out) hb)
            have n10_ := Aside0.mk (blk_below (g := gb185) (o := .cells #[.slice A0_0 l0_0.length c0_0, .slice A0_1 l0_1.length c0_1] 25 (0, 0)) (by exact BK185.out) hb)
            have n11_ := Aside0.mk (blk_below (g := gb186) (o := .cells #[.slice A1_0 l1_0.length c1_0, .slice A1_1 l1_1.length c1_1] 25 (0, 0)) (by exact BK186.out) hb)
            have n12_ := Aside0.mk (blk_below (g := gb208) (o := .cells #[.slice Ao128 t202.length co128, .slice Ao132 t205.length co132] 31 (0, 0)) (by exact BK208.out) hb)
            have n13_ := Aside0.mk (blk_below (g := gb215) (o := .cells #[.slice Ao136 t209.length co136, .slice Ao141 t212.length co141] 31 (0, 0)) (by exact BK215.out) hb)
            have n14_ := Aside0.mk (below_step (by repeat (first | (with_reducible first | exact HB.out | refine below_set ?_ GE185.out | refine below_set ?_ GE186.out | refine below_set ?_ GE208.out | refine below_set ?_ GE215.out) | exact HB.out)) hb)
            clear HO191
            clear HO194
            clear HO197
            clear HO200
            clear HO204
            clear HO207
            clear HO211
            clear HO214
            clear HO219
            clear HO222
            clear BK185
            clear BK186
            clear BK208
            clear BK215
            clear HB
            have HO191 := n0_
            have HO194 := n1_
            have HO197 := n2_
            have HO200 := n3_
            have HO204 := n4_
            have HO207 := n5_
            have HO211 := n6_
            have HO214 := n7_
            have HO219 := n8_
            have HO222 := n9_
            have BK185 := n10_
            have BK186 := n11_
            have BK208 := n12_
            have BK215 := n13_
            have HB := n14_
            clear n0_ n1_ n2_ n3_ n4_ n5_ n6_ n7_ n8_ n9_ n10_ n11_ n12_ n13_ n14_
            (try clear hb)
            (try clear hb2)
            (try clear hk)
            (try clear hi)
            refine hK.out _ _ ⟨(blk_cell BK208.out 0).trans rfl, (blk_cell BK208.out 1).trans rfl, (blk_cell BK185.out 0).trans rfl, (blk_cell BK185.out 1).trans rfl⟩ (fun hHeld => ?_)
            clear hK K
            refine norm_ (a' := ?_) ?_ ?_
            rotate_left
            · show Act.put _ (some 38) _ = _
              simp only [Act.put, List.setIfInBounds_toArray, List.set_cons_zero, List.set_cons_succ, i64_w, i32_w]
              rfl
            refine pure_ (i := 4) (N := some 39) (v := ?_) (a' := ?_) #[true, true, true, true, true] rfl rfl (by kernel_rfl) (fun _ _ _ h => h) (Or.inl ⟨by rfl, ?_⟩) ?_ ?_
            rotate_left
            · intro w'
              go_simp
              with_reducible rfl
            rotate_left
            · simp only [Act.put, List.setIfInBounds_toArray, List.set_cons_zero, List.set_cons_succ, i64_w, i32_w]
              rfl
            refine done_ (by kernel_rfl) ?_
            try go_wp2
            have n0_ := Aside0.mk (Kd.R_drew HO191.out)
            have n1_ := Aside0.mk (Kd.S_drew HO194.out)
            have n2_ := Aside0.mk (Kd.R_drew HO197.out)
            have n3_ := Aside0.mk (Kd.S_drew HO200.out)
            have n4_ := Aside0.mk (Kd.R_drew HO204.out)
            have n5_ := Aside0.mk (Kd.S_drew HO207.out)
            have n6_ := Aside0.mk (Kd.R_drew HO211.out)
            have n7_ := Aside0.mk (Kd.S_drew HO214.out)
            have n8_ := Aside0.mk (Kd.R_drew HO219.out)
            have n9_ := Aside0.mk (Kd.S_drew HO222.out)
            have n10_ := Aside0.mk (blk_drew BK185.out)
            have n11_ := Aside0.mk (blk_drew BK186.out)
            have n12_ := Aside0.mk (blk_drew BK208.out)
            have n13_ := Aside0.mk (blk_drew BK215.out)
            have n14_ := Aside0.mk (below_drew1 HB.out)
            clear HO191
            clear HO194
            clear HO197
            clear HO200
            clear HO204
            clear HO207
            clear HO211
            clear HO214
            clear HO219
            clear HO222
            clear BK185
            clear BK186
            clear BK208
            clear BK215
            clear HB
            have HO191 := n0_
            have HO194 := n1_
            have HO197 := n2_
            have HO200 := n3_
            have HO204 := n4_
            have HO207 := n5_
            have HO211 := n6_
            have HO214 := n7_
            have HO219 := n8_
            have HO222 := n9_
            have BK185 := n10_
            have BK186 := n11_
            have BK208 := n12_
            have BK215 := n13_
            have HB := n14_
            clear n0_ n1_ n2_ n3_ n4_ n5_ n6_ n7_ n8_ n9_ n10_ n11_ n12_ n13_ n14_
            refine start_ (n := 5) (S := fun w' => w'.cell? ⟨gb215, 0, none⟩ = some (.slice Ao136 t209.length co136) ∧ w'.cell? ⟨gb215, 1, none⟩ = some (.slice Ao141 t212.length co141) ∧ w'.cell? ⟨gb186, 0, none⟩ = some (.slice A1_0 l1_0.length c1_0) ∧ w'.cell? ⟨gb186, 1, none⟩ = some (.slice A1_1 l1_1.length c1_1)) (ds := []) #[false, false, false, false, false] (by kernel_rfl) rfl rfl ⟨(blk_cell BK215.out 0).trans rfl, (blk_cell BK215.out 1).trans rfl, (blk_cell BK186.out 0).trans rfl, (blk_cell BK186.out 1).trans rfl⟩ (fun hHeld => ?_)
            generalize w148.drew = w149 at HO191 HO194 HO197 HO200 HO204 HO207 HO211 HO214 HO219 HO222 BK185 BK186 BK208 BK215 HB hHeld ⊢
            refine take_ (i := 0) (N := some 40) (v := ?_) (a' := ?_) #[true, false, false, false, false] rfl rfl (by kernel_rfl) (fun _ _ _ h => h) (Or.inl ⟨by rfl, ?_⟩) hHeld ?_ ?_
            rotate_left
            · rintro w' ⟨s0, s1, s2, s3⟩
              go_simp
              with_reducible rfl
            rotate_left
            · simp only [Act.put, List.setIfInBounds_toArray, List.set_cons_zero, List.set_cons_succ, i64_w, i32_w]
              rfl
            refine take_ (i := 1) (N := some 41) (v := ?_) (a' := ?_) #[true, true, false, false, false] rfl rfl (by kernel_rfl) (fun _ _ _ h => h) (Or.inl ⟨by rfl, ?_⟩) hHeld ?_ ?_
            rotate_left
            · rintro w' ⟨s0, s1, s2, s3⟩
              go_simp
              with_reducible rfl
            rotate_left
            · simp only [Act.put, List.setIfInBounds_toArray, List.set_cons_zero, List.set_cons_succ, i64_w, i32_w]
              rfl
            refine one_ (i := 2) (N := some 42) #[true, true, true, false, false] rfl rfl (by kernel_rfl) (by decide) (fun K hK => ?_)
            refine goes_ Try.func6 (by kernel_rfl) rfl #[.agg #[.slice A1_0 l1_0.length c1_0, .slice A1_1 l1_1.length c1_1]] (by rfl) rfl rfl (by (try simp only [List.map_toArray, List.map_cons, List.map_nil]); first | done | rfl | (simp only [List.length_drop, List.length_take]; rfl)) ?_
            with_reducible refine (laws_toShape.calls k _ _ l1_0 _ _ l1_1 t224 t227 _ ?side1 ?side2 ?side3 ?side4 A63.out).mono ?_
            (case side1 => repeat (first | exact (Kd.C_below HR1_0.out HB.out) | (with_reducible refine Kd.C_alloc ?_ _) | (with_reducible refine Kd.C_drewN ?_ _) | (with_reducible refine Kd.C_drew ?_)))
            (case side2 => exact HC1_0.out)
            (case side3 => repeat (first | exact (Kd.C_below HR1_1.out HB.out) | (with_reducible refine Kd.C_alloc ?_ _) | (with_reducible refine Kd.C_drewN ?_ _) | (with_reducible refine Kd.C_drew ?_)))
            (case side4 => exact HC1_1.out)
            rintro e w150 ⟨v225, v228, rfl, ho0, ho1, hb⟩
            refine ⟨_, rfl, ?_⟩
            have n0_ := Aside0.mk (Kd.R_elder' (by exact HO191.out) (Kd.R_base ho0) hb)
            have n1_ := Aside0.mk (Kd.S_mono (Kd.S_told (Kd.S_told (Kd.S_old (by exact HO194.out) hb) (Kd.R_base ho0)) (Kd.S_base ho1)) (fun _ h_ => h_.1))
            have n2_ := Aside0.mk (Kd.R_elder' (by exact HO197.out) (Kd.R_base ho0) hb)
            have n3_ := Aside0.mk (Kd.S_mono (Kd.S_told (Kd.S_told (Kd.S_old (by exact HO200.out) hb) (Kd.R_base ho0)) (Kd.S_base ho1)) (fun _ h_ => h_.1))
            have n4_ := Aside0.mk (Kd.R_elder' (by exact HO204.out) (Kd.R_base ho0) hb)
            have n5_ := Aside0.mk (Kd.S_mono (Kd.S_told (Kd.S_told (Kd.S_old (by exact HO207.out) hb) (Kd.R_base ho0)) (Kd.S_base ho1)) (fun _ h_ => h_.1))
            have n6_ := Aside0.mk (Kd.R_elder' (by exact HO211.out) (Kd.R_base ho0) hb)
            have n7_ := Aside0.mk (Kd.S_mono (Kd.S_told (Kd.S_told (Kd.S_old (by exact HO214.out) hb) (Kd.R_base ho0)) (Kd.S_base ho1)) (fun _ h_ => h_.1))
            have n8_ := Aside0.mk (Kd.R_elder' (by exact HO219.out) (Kd.R_base ho0) hb)
            have n9_ := Aside0.mk (Kd.S_mono (Kd.S_told (Kd.S_told (Kd.S_old (by exact HO222.out) hb) (Kd.R_base ho0)) (Kd.S_base ho1)) (fun _ h_ => h_.1))
            have n10_ := Aside0.mk (Kd.R_lower (Kd.R_new' (Kd.R_new' (Kd.R_new' (Kd.R_new' (Kd.R_new' ho0 (Kd.R_lt (by exact HO191.out))) (Kd.R_lt (by exact HO197.out))) (Kd.R_lt (by exact HO204.out))) (Kd.R_lt (by exact HO211.out))) (Kd.R_lt (by exact HO219.out))) (below_size (by repeat (first | (with_reducible first | exact HB.out | refine below_set ?_ GE185.out | refine below_set ?_ GE186.out | refine below_set ?_ GE208.out | refine below_set ?_ GE215.out) | exact HB.out))))
            have n11_ := Aside0.mk (Kd.S_lower (Kd.S_new' (Kd.S_new' (Kd.S_new' (Kd.S_new' (Kd.S_new' (Kd.S_new' (Kd.S_new' (Kd.S_new' (Kd.S_new' (Kd.S_new' ho1 (Kd.R_lt (by exact HO191.out))) (Kd.S_lt (by exact HO194.out))) (Kd.R_lt (by exact HO197.out))) (Kd.S_lt (by exact HO200.out))) (Kd.R_lt (by exact HO204.out))) (Kd.S_lt (by exact HO207.out))) (Kd.R_lt (by exact HO211.out))) (Kd.S_lt (by exact HO214.out))) (Kd.R_lt (by exact HO219.out))) (Kd.S_lt (by exact HO222.out))) (below_size (by repeat (first | (with_reducible first | exact HB.out | refine below_set ?_ GE185.out | refine below_set ?_ GE186.out | refine below_set ?_ GE208.out | refine below_set ?_ GE215.out) | exact HB.out))))
            have n12_ := Aside0.mk (blk_below (g := gb185) (o := .cells #[.slice A0_0 l0_0.length c0_0, .slice A0_1 l0_1.length c0_1] 25 (0, 0)) (by exact BK185.out) hb)
            have n13_ := Aside0.mk (blk_below (g := gb186) (o := .cells #[.slice A1_0 l1_0.length c1_0, .slice A1_1 l1_1.length c1_1] 25 (0, 0)) (by exact BK186.out) hb)
            have n14_ := Aside0.mk (blk_below (g := gb208) (o := .cells #[.slice Ao128 t202.length co128, .slice Ao132 t205.length co132] 31 (0, 0)) (by exact BK208.out) hb)
            have n15_ := Aside0.mk (blk_below (g := gb215) (o := .cells #[.slice Ao136 t209.length co136, .slice Ao141 t212.length co141] 31 (0, 0)) (by exact BK215.out) hb)
            have n16_ := Aside0.mk (below_step (by repeat (first | (with_reducible first | exact HB.out | refine below_set ?_ GE185.out | refine below_set ?_ GE186.out | refine below_set ?_ GE208.out | refine below_set ?_ GE215.out) | exact HB.out)) hb)
            clear HO191
            clear HO194
            clear HO197
            clear HO200
            clear HO204
            clear HO207
            clear HO211
            clear HO214
            clear HO219
            clear HO222
            clear BK185
            clear BK186
            clear BK208
            clear BK215
            clear HB
            have HO191 := n0_
            have HO194 := n1_
            have HO197 := n2_
            have HO200 := n3_
            have HO204 := n4_
            have HO207 := n5_
            have HO211 := n6_
            have HO214 := n7_
            have HO219 := n8_
            have HO222 := n9_
            have HO226 := n10_
            have HO229 := n11_
            have BK185 := n12_
            have BK186 := n13_
            have BK208 := n14_
            have BK215 := n15_
            have HB := n16_
            clear n0_ n1_ n2_ n3_ n4_ n5_ n6_ n7_ n8_ n9_ n10_ n11_ n12_ n13_ n14_ n15_ n16_
            (try clear hb)
            (try clear hb2)
            (try clear hk)
            (try clear hi)
            (try clear ho0)
            (try clear ho1)
            obtain ⟨Ao151, co151, eo151⟩ := Kd.R_slice HO226.out
            (first | subst eo151 | (injection eo151 with f1_ f2_ f3_; have f4_ := f1_.symm; have f5_ := f3_.symm; clear f1_ f2_ f3_; subst f4_; subst f5_))
            obtain ⟨Ao152, co152, eo152⟩ := Kd.S_slice HO229.out
            (first | subst eo152 | (injection eo152 with f1_ f2_ f3_; have f4_ := f1_.symm; have f5_ := f3_.symm; clear f1_ f2_ f3_; subst f4_; subst f5_))
            refine hK.out _ _ ⟨(blk_cell BK215.out 0).trans rfl, (blk_cell BK215.out 1).trans rfl, (blk_cell BK186.out 0).trans rfl, (blk_cell BK186.out 1).trans rfl⟩ (fun hHeld => ?_)
            clear hK K
            refine norm_ (a' := ?_) ?_ ?_
            rotate_left
            · show Act.put _ (some 42) _ = _
              simp only [Act.put, List.setIfInBounds_toArray, List.set_cons_zero, List.set_cons_succ, i64_w, i32_w]
              rfl
            refine one_ (i := 3) (N := some 43) #[true, true, true, true, false] rfl rfl (by kernel_rfl) (by decide) (fun K hK => ?_)
            refine goes_ Try.func8 (by kernel_rfl) rfl #[.agg #[.slice Ao136 t209.length co136, .slice Ao141 t212.length co141], .agg #[.slice Ao151 t224.length co151, .slice Ao152 t227.length co152]] (by rfl) rfl rfl (by (try simp only [List.map_toArray, List.map_cons, List.map_nil]); first | done | rfl | (simp only [List.length_drop, List.length_take]; rfl)) ?_
            with_reducible refine (laws_eqShape.calls k _ _ t209 _ _ t212 _ _ t224 _ _ t227 false _ ?side1 ?side2 ?side3 ?side4 ?side5 ?side6 ?side7 ?side8 A64.out).mono ?_
            (case side1 => repeat (first | exact (Kd.R_reads' HO211.out).2.2 | (with_reducible refine Kd.C_alloc ?_ _) | (with_reducible refine Kd.C_drewN ?_ _) | (with_reducible refine Kd.C_drew ?_)))
            (case side2 => exact (Kd.R_reads' HO211.out).2.1)
            (case side3 => repeat (first | exact (Kd.S_reads' HO214.out).2.2 | (with_reducible refine Kd.C_alloc ?_ _) | (with_reducible refine Kd.C_drewN ?_ _) | (with_reducible refine Kd.C_drew ?_)))
            (case side4 => exact (Kd.S_reads' HO214.out).2.1)
            (case side5 => repeat (first | exact (Kd.R_reads' HO226.out).2.2 | (with_reducible refine Kd.C_alloc ?_ _) | (with_reducible refine Kd.C_drewN ?_ _) | (with_reducible refine Kd.C_drew ?_)))
            (case side6 => exact (Kd.R_reads' HO226.out).2.1)
            (case side7 => repeat (first | exact (Kd.S_reads' HO229.out).2.2 | (with_reducible refine Kd.C_alloc ?_ _) | (with_reducible refine Kd.C_drewN ?_ _) | (with_reducible refine Kd.C_drew ?_)))
            (case side8 => exact (Kd.S_reads' HO229.out).2.1)
            rintro e w153 ⟨rfl, hb⟩
            refine ⟨_, rfl, ?_⟩
            have n0_ := Aside0.mk (Kd.R_below (by exact HO191.out) hb)
            have n1_ := Aside0.mk (Kd.S_below (by exact HO194.out) hb)
            have n2_ := Aside0.mk (Kd.R_below (by exact HO197.out) hb)
            have n3_ := Aside0.mk (Kd.S_below (by exact HO200.out) hb)
            have n4_ := Aside0.mk (Kd.R_below (by exact HO204.out) hb)
            have n5_ := Aside0.mk (Kd.S_below (by exact HO207.out) hb)
            have n6_ := Aside0.mk (Kd.R_below (by exact HO211.out) hb)
            have n7_ := Aside0.mk (Kd.S_below (by exact HO214.out) hb)
            have n8_ := Aside0.mk (Kd.R_below (by exact HO219.out) hb)
            have n9_ := Aside0.mk (Kd.S_below (by exact HO222.out) hb)
            have n10_ := Aside0.mk (Kd.R_below (by exact HO226.out) hb)
            have n11_ := Aside0.mk (Kd.S_below (by exact HO229.out) hb)
            have n12_ := Aside0.mk (blk_below (g := gb185) (o := .cells #[.slice A0_0 l0_0.length c0_0, .slice A0_1 l0_1.length c0_1] 25 (0, 0)) (by exact BK185.out) hb)
            have n13_ := Aside0.mk (blk_below (g := gb186) (o := .cells #[.slice A1_0 l1_0.length c1_0, .slice A1_1 l1_1.length c1_1] 25 (0, 0)) (by exact BK186.out) hb)
            have n14_ := Aside0.mk (blk_below (g := gb208) (o := .cells #[.slice Ao128 t202.length co128, .slice Ao132 t205.length co132] 31 (0, 0)) (by exact BK208.out) hb)
            have n15_ := Aside0.mk (blk_below (g := gb215) (o := .cells #[.slice Ao136 t209.length co136, .slice Ao141 t212.length co141] 31 (0, 0)) (by exact BK215.out) hb)
            have n16_ := Aside0.mk (below_step (by repeat (first | (with_reducible first | exact HB.out | refine below_set ?_ GE185.out | refine below_set ?_ GE186.out | refine below_set ?_ GE208.out | refine below_set ?_ GE215.out) | exact HB.out)) hb)
            clear HO191
            clear HO194
            clear HO197
            clear HO200
            clear HO204
            clear HO207
            clear HO211
            clear HO214
            clear HO219
            clear HO222
            clear HO226
            clear HO229
            clear BK185
            clear BK186
            clear BK208
            clear BK215
            clear HB
            have HO191 := n0_
            have HO194 := n1_
            have HO197 := n2_
            have HO200 := n3_
            have HO204 := n4_
            have HO207 := n5_
            have HO211 := n6_
            have HO214 := n7_
            have HO219 := n8_
            have HO222 := n9_
            have HO226 := n10_
            have HO229 := n11_
            have BK185 := n12_
            have BK186 := n13_
            have BK208 := n14_
            have BK215 := n15_
            have HB := n16_
            clear n0_ n1_ n2_ n3_ n4_ n5_ n6_ n7_ n8_ n9_ n10_ n11_ n12_ n13_ n14_ n15_ n16_
            (try clear hb)
            (try clear hb2)
            (try clear hk)
            (try clear hi)
            refine hK.out _ _ ⟨(blk_cell BK215.out 0).trans rfl, (blk_cell BK215.out 1).trans rfl, (blk_cell BK186.out 0).trans rfl, (blk_cell BK186.out 1).trans rfl⟩ (fun hHeld => ?_)
            clear hK K
            refine norm_ (a' := ?_) ?_ ?_
            rotate_left
            · show Act.put _ (some 43) _ = _
              simp only [Act.put, List.setIfInBounds_toArray, List.set_cons_zero, List.set_cons_succ, i64_w, i32_w]
              rfl
            refine pure_ (i := 4) (N := some 44) (v := ?_) (a' := ?_) #[true, true, true, true, true] rfl rfl (by kernel_rfl) (fun _ _ _ h => h) (Or.inl ⟨by rfl, ?_⟩) ?_ ?_
            rotate_left
            · intro w'
              go_simp
              with_reducible rfl
            rotate_left
            · simp only [Act.put, List.setIfInBounds_toArray, List.set_cons_zero, List.set_cons_succ, i64_w, i32_w]
              rfl
            refine done_ (by kernel_rfl) ?_
            try go_wp2
            go_ret
            exact ⟨by first | rfl | (simp [errW_none, errW_some] <;> rfl) | (simp [*, errW_none, errW_some] <;> rfl), by repeat (first | (with_reducible first | exact HB.out | refine below_set ?_ GE185.out | refine below_set ?_ GE186.out | refine below_set ?_ GE208.out | refine below_set ?_ GE215.out) | exact HB.out)⟩
        · replace c62 := Bool.eq_false_iff.mpr c62
          subst c62
          have H1 : (some false) = some r := by rw [if_neg (show ¬ (false = true) by decide)] at H; exact H
          clear H
          have H := H1
          clear H1
          obtain rfl := Option.some.inj H
          go_enter Try.func3, Try.ntmps3
          try go_wp2_with (first | ((with_reducible refine gate_dst (N := 2) rfl ?_); refine box_event ?hg (N := 2) ?hd (cs := #[.slice A0_0 l0_0.length c0_0, .slice A0_1 l0_1.length c0_1]) (t := 25) ?hr ?_; (case hd => rfl); (case hg => rfl); (case hr => first | (go_simp; done) | (go_simp; rfl)); intro gb185 hg w154 hbox hb; have n0_ := Aside0.mk (below_step (by repeat (first | (with_reducible first | exact HB.out) | exact HB.out)) hb); have n1_ := Aside0.mk (hbox); have n2_ := Aside0.mk ((by rw [hg]; exact (below_size (by repeat (first | (with_reducible first | exact HB.out) | exact HB.out))) : w.heap.size ≤ gb185)); have n3_ := Aside0.mk ((by rw [hg]; exact (below_size (by repeat (first | (with_reducible first | exact HB.out) | exact HB.out))) : w.heap.size ≤ gb185)); clear HB; have HB := n0_; have BK185 := n1_; have GW185 := n2_; have GE185 := n3_; clear n0_ n1_ n2_ n3_; clear hb hbox hg) | ((with_reducible refine gate_dst (N := 3) rfl ?_); refine box_event ?hg (N := 3) ?hd (cs := #[.slice A1_0 l1_0.length c1_0, .slice A1_1 l1_1.length c1_1]) (t := 25) ?hr ?_; (case hd => rfl); (case hg => rfl); (case hr => first | (go_simp; done) | (go_simp; rfl)); intro gb186 hg w155 hbox hb; have n0_ := Aside0.mk (blk_below (g := gb185) (o := .cells #[.slice A0_0 l0_0.length c0_0, .slice A0_1 l0_1.length c0_1] 25 (0, 0)) (by exact BK185.out) hb); have n1_ := Aside0.mk (below_step (by repeat (first | (with_reducible first | exact HB.out | refine below_set ?_ GE185.out) | exact HB.out)) hb); have n2_ := Aside0.mk (hbox); have n3_ := Aside0.mk ((by rw [hg]; exact (below_size (by repeat (first | (with_reducible first | exact HB.out | refine below_set ?_ GE185.out) | exact HB.out))) : w.heap.size ≤ gb186)); have n4_ := Aside0.mk ((by rw [hg]; exact (below_size (by repeat (first | (with_reducible first | exact HB.out | refine below_set ?_ GE185.out) | exact HB.out))) : w.heap.size ≤ gb186)); have n5_ := Aside0.mk ((by rw [hg]; exact Nat.ne_of_lt (blk_lt (g := gb185) (o := .cells #[.slice A0_0 l0_0.length c0_0, .slice A0_1 l0_1.length c0_1] 25 (0, 0)) (by exact BK185.out)) : gb185 ≠ gb186)); have n6_ := Aside0.mk ((by rw [hg]; exact Nat.ne_of_gt (blk_lt (g := gb185) (o := .cells #[.slice A0_0 l0_0.length c0_0, .slice A0_1 l0_1.length c0_1] 25 (0, 0)) (by exact BK185.out)) : gb186 ≠ gb185)); clear BK185; clear HB; have BK185 := n0_; have HB := n1_; have BK186 := n2_; have GW186 := n3_; have GE186 := n4_; have NB185_186 := n5_; have NB186_185 := n6_; clear n0_ n1_ n2_ n3_ n4_ n5_ n6_; clear hb hbox hg; have hnb156 := NB185_186.out; have hnc156 := NB186_185.out; have hcz157_0 : w155.cell? ⟨gb185, 0, none⟩ = some (.slice A0_0 l0_0.length c0_0) := (blk_cell BK185.out 0).trans rfl; have hcz157_1 : w155.cell? ⟨gb185, 1, none⟩ = some (.slice A0_1 l0_1.length c0_1) := (blk_cell BK185.out 1).trans rfl; have hfz157_0 := blk_frozen BK185.out 0; have hfz157_1 := blk_frozen BK185.out 1) | ((with_reducible refine gate_callee (f := 4) rfl ?_); refine goesL_ (some 12) rfl rfl Try.func4 (by kernel_rfl) rfl #[.agg #[.slice A0_0 l0_0.length c0_0, .slice A0_1 l0_1.length c0_1], .int .i64 1048576] rfl (by (try simp only [List.map_toArray, List.map_cons, List.map_nil]); first | done | rfl | (simp only [List.length_drop, List.length_take]; rfl)) ?_; (with_reducible refine (laws_szShape.calls k _ _ l0_0 _ _ l0_1 1048576 t187 _ ?side1 ?side2 ?side3 ?side4 A3.out).mono ?_); (case side1 => repeat (first | exact (Kd.C_below HR0_0.out HB.out) | (with_reducible refine Kd.C_alloc ?_ _) | (with_reducible refine Kd.C_drewN ?_ _) | (with_reducible refine Kd.C_drew ?_))); (case side2 => exact HC0_0.out); (case side3 => repeat (first | exact (Kd.C_below HR0_1.out HB.out) | (with_reducible refine Kd.C_alloc ?_ _) | (with_reducible refine Kd.C_drewN ?_ _) | (with_reducible refine Kd.C_drew ?_))); (case side4 => exact HC0_1.out); rintro e w158 ⟨rfl, hb⟩; refine ⟨_, rfl, ?_⟩; have n0_ := Aside0.mk (blk_below (g := gb185) (o := .cells #[.slice A0_0 l0_0.length c0_0, .slice A0_1 l0_1.length c0_1] 25 (0, 0)) (by exact BK185.out) hb); have n1_ := Aside0.mk (blk_below (g := gb186) (o := .cells #[.slice A1_0 l1_0.length c1_0, .slice A1_1 l1_1.length c1_1] 25 (0, 0)) (by exact BK186.out) hb); have n2_ := Aside0.mk (below_step (by repeat (first | (with_reducible first | exact HB.out | refine below_set ?_ GE185.out | refine below_set ?_ GE186.out) | exact HB.out)) hb); clear BK185; clear BK186; clear HB; have BK185 := n0_; have BK186 := n1_; have HB := n2_; clear n0_ n1_ n2_; (try clear hb); (try clear hb2); (try clear hk); (try clear hi); have hcz159_0 : w158.cell? ⟨gb186, 0, none⟩ = some (.slice A1_0 l1_0.length c1_0) := (blk_cell BK186.out 0).trans rfl; have hcz159_1 : w158.cell? ⟨gb186, 1, none⟩ = some (.slice A1_1 l1_1.length c1_1) := (blk_cell BK186.out 1).trans rfl; have hfz159_0 := blk_frozen BK186.out 0; have hfz159_1 := blk_frozen BK186.out 1) | ((with_reducible refine gate_callee (f := 4) rfl ?_); refine goesL_ (some 17) rfl rfl Try.func4 (by kernel_rfl) rfl #[.agg #[.slice A1_0 l1_0.length c1_0, .slice A1_1 l1_1.length c1_1], .int .i64 t187] rfl (by (try simp only [List.map_toArray, List.map_cons, List.map_nil]); first | done | rfl | (simp only [List.length_drop, List.length_take]; rfl)) ?_; (with_reducible refine (laws_szShape.calls k _ _ l1_0 _ _ l1_1 t187 t188 _ ?side1 ?side2 ?side3 ?side4 A10.out).mono ?_); (case side1 => repeat (first | exact (Kd.C_below HR1_0.out HB.out) | (with_reducible refine Kd.C_alloc ?_ _) | (with_reducible refine Kd.C_drewN ?_ _) | (with_reducible refine Kd.C_drew ?_))); (case side2 => exact HC1_0.out); (case side3 => repeat (first | exact (Kd.C_below HR1_1.out HB.out) | (with_reducible refine Kd.C_alloc ?_ _) | (with_reducible refine Kd.C_drewN ?_ _) | (with_reducible refine Kd.C_drew ?_))); (case side4 => exact HC1_1.out); rintro e w160 ⟨rfl, hb⟩; refine ⟨_, rfl, ?_⟩; have n0_ := Aside0.mk (blk_below (g := gb185) (o := .cells #[.slice A0_0 l0_0.length c0_0, .slice A0_1 l0_1.length c0_1] 25 (0, 0)) (by exact BK185.out) hb); have n1_ := Aside0.mk (blk_below (g := gb186) (o := .cells #[.slice A1_0 l1_0.length c1_0, .slice A1_1 l1_1.length c1_1] 25 (0, 0)) (by exact BK186.out) hb); have n2_ := Aside0.mk (below_step (by repeat (first | (with_reducible first | exact HB.out | refine below_set ?_ GE185.out | refine below_set ?_ GE186.out) | exact HB.out)) hb); clear BK185; clear BK186; clear HB; have BK185 := n0_; have BK186 := n1_; have HB := n2_; clear n0_ n1_ n2_; (try clear hb); (try clear hb2); (try clear hk); (try clear hi)))
          have n0_ := Aside0.mk (blk_drew BK185.out)
          have n1_ := Aside0.mk (blk_drew BK186.out)
          have n2_ := Aside0.mk (below_drew1 HB.out)
          clear BK185
          clear BK186
          clear HB
          have BK185 := n0_
          have BK186 := n1_
          have HB := n2_
          clear n0_ n1_ n2_
          refine start_ (n := 6) (S := fun w' => w'.cell? ⟨gb185, 0, none⟩ = some (.slice A0_0 l0_0.length c0_0) ∧ w'.cell? ⟨gb185, 1, none⟩ = some (.slice A0_1 l0_1.length c0_1) ∧ w'.cell? ⟨gb186, 0, none⟩ = some (.slice A1_0 l1_0.length c1_0) ∧ w'.cell? ⟨gb186, 1, none⟩ = some (.slice A1_1 l1_1.length c1_1)) (ds := []) #[false, false, false, false, false, false] (by kernel_rfl) rfl rfl ⟨(blk_cell BK185.out 0).trans rfl, (blk_cell BK185.out 1).trans rfl, (blk_cell BK186.out 0).trans rfl, (blk_cell BK186.out 1).trans rfl⟩ (fun hHeld => ?_)
          generalize w160.drew = w161 at BK185 BK186 HB hHeld ⊢
          refine take_ (i := 0) (N := some 20) (v := ?_) (a' := ?_) #[true, false, false, false, false, false] rfl rfl (by kernel_rfl) (fun _ _ _ h => h) (Or.inl ⟨by rfl, ?_⟩) hHeld ?_ ?_
          rotate_left
          · rintro w' ⟨s0, s1, s2, s3⟩
            go_simp
            with_reducible rfl
          rotate_left
          · simp only [Act.put, List.setIfInBounds_toArray, List.set_cons_zero, List.set_cons_succ, i64_w, i32_w]
            rfl
          refine take_ (i := 2) (N := some 22) (v := ?_) (a' := ?_) #[true, false, true, false, false, false] rfl rfl (by kernel_rfl) (fun _ _ _ h => h) (Or.inl ⟨by rfl, ?_⟩) hHeld ?_ ?_
          rotate_left
          · rintro w' ⟨s0, s1, s2, s3⟩
            go_simp
            with_reducible rfl
          rotate_left
          · simp only [Act.put, List.setIfInBounds_toArray, List.set_cons_zero, List.set_cons_succ, i64_w, i32_w]
            rfl
          refine one_ (i := 1) (N := some 21) #[true, true, true, false, false, false] rfl rfl (by kernel_rfl) (by decide) (fun K hK => ?_)
          refine goes_ Try.func6 (by kernel_rfl) rfl #[.agg #[.slice A0_0 l0_0.length c0_0, .slice A0_1 l0_1.length c0_1]] (by rfl) rfl rfl (by (try simp only [List.map_toArray, List.map_cons, List.map_nil]); first | done | rfl | (simp only [List.length_drop, List.length_take]; rfl)) ?_
          with_reducible refine (laws_toShape.calls k _ _ l0_0 _ _ l0_1 t189 t192 _ ?side1 ?side2 ?side3 ?side4 A19.out).mono ?_
          (case side1 => repeat (first | exact (Kd.C_below HR0_0.out HB.out) | (with_reducible refine Kd.C_alloc ?_ _) | (with_reducible refine Kd.C_drewN ?_ _) | (with_reducible refine Kd.C_drew ?_)))
          (case side2 => exact HC0_0.out)
          (case side3 => repeat (first | exact (Kd.C_below HR0_1.out HB.out) | (with_reducible refine Kd.C_alloc ?_ _) | (with_reducible refine Kd.C_drewN ?_ _) | (with_reducible refine Kd.C_drew ?_)))
          (case side4 => exact HC0_1.out)
          rintro e w162 ⟨v190, v193, rfl, ho0, ho1, hb⟩
          refine ⟨_, rfl, ?_⟩
          have n0_ := Aside0.mk (Kd.R_lower ho0 (below_size (by repeat (first | (with_reducible first | exact HB.out | refine below_set ?_ GE185.out | refine below_set ?_ GE186.out) | exact HB.out))))
          have n1_ := Aside0.mk (Kd.S_lower ho1 (below_size (by repeat (first | (with_reducible first | exact HB.out | refine below_set ?_ GE185.out | refine below_set ?_ GE186.out) | exact HB.out))))
          have n2_ := Aside0.mk (blk_below (g := gb185) (o := .cells #[.slice A0_0 l0_0.length c0_0, .slice A0_1 l0_1.length c0_1] 25 (0, 0)) (by exact BK185.out) hb)
          have n3_ := Aside0.mk (blk_below (g := gb186) (o := .cells #[.slice A1_0 l1_0.length c1_0, .slice A1_1 l1_1.length c1_1] 25 (0, 0)) (by exact BK186.out) hb)
          have n4_ := Aside0.mk (below_step (by repeat (first | (with_reducible first | exact HB.out | refine below_set ?_ GE185.out | refine below_set ?_ GE186.out) | exact HB.out)) hb)
          clear BK185
          clear BK186
          clear HB
          have HO191 := n0_
          have HO194 := n1_
          have BK185 := n2_
          have BK186 := n3_
          have HB := n4_
          clear n0_ n1_ n2_ n3_ n4_
          (try clear hb)
          (try clear hb2)
          (try clear hk)
          (try clear hi)
          (try clear ho0)
          (try clear ho1)
          refine hK.out _ _ ⟨(blk_cell BK185.out 0).trans rfl, (blk_cell BK185.out 1).trans rfl, (blk_cell BK186.out 0).trans rfl, (blk_cell BK186.out 1).trans rfl⟩ (fun hHeld => ?_)
          clear hK K
          refine norm_ (a' := ?_) ?_ ?_
          rotate_left
          · show Act.put _ (some 21) _ = _
            simp only [Act.put, List.setIfInBounds_toArray, List.set_cons_zero, List.set_cons_succ, i64_w, i32_w]
            rfl
          refine one_ (i := 3) (N := some 23) #[true, true, true, true, false, false] rfl rfl (by kernel_rfl) (by decide) (fun K hK => ?_)
          refine goes_ Try.func6 (by kernel_rfl) rfl #[.agg #[.slice A1_0 l1_0.length c1_0, .slice A1_1 l1_1.length c1_1]] (by rfl) rfl rfl (by (try simp only [List.map_toArray, List.map_cons, List.map_nil]); first | done | rfl | (simp only [List.length_drop, List.length_take]; rfl)) ?_
          with_reducible refine (laws_toShape.calls k _ _ l1_0 _ _ l1_1 t195 t198 _ ?side1 ?side2 ?side3 ?side4 A20.out).mono ?_
          (case side1 => repeat (first | exact (Kd.C_below HR1_0.out HB.out) | (with_reducible refine Kd.C_alloc ?_ _) | (with_reducible refine Kd.C_drewN ?_ _) | (with_reducible refine Kd.C_drew ?_)))
          (case side2 => exact HC1_0.out)
          (case side3 => repeat (first | exact (Kd.C_below HR1_1.out HB.out) | (with_reducible refine Kd.C_alloc ?_ _) | (with_reducible refine Kd.C_drewN ?_ _) | (with_reducible refine Kd.C_drew ?_)))
          (case side4 => exact HC1_1.out)
          rintro e w163 ⟨v196, v199, rfl, ho0, ho1, hb⟩
          refine ⟨_, rfl, ?_⟩
          have n0_ := Aside0.mk (Kd.R_elder' (by exact HO191.out) (Kd.R_base ho0) hb)
          have n1_ := Aside0.mk (Kd.S_mono (Kd.S_told (Kd.S_told (Kd.S_old (by exact HO194.out) hb) (Kd.R_base ho0)) (Kd.S_base ho1)) (fun _ h_ => h_.1))
          have n2_ := Aside0.mk (Kd.R_lower (Kd.R_new' ho0 (Kd.R_lt (by exact HO191.out))) (below_size (by repeat (first | (with_reducible first | exact HB.out | refine below_set ?_ GE185.out | refine below_set ?_ GE186.out) | exact HB.out))))
          have n3_ := Aside0.mk (Kd.S_lower (Kd.S_new' (Kd.S_new' ho1 (Kd.R_lt (by exact HO191.out))) (Kd.S_lt (by exact HO194.out))) (below_size (by repeat (first | (with_reducible first | exact HB.out | refine below_set ?_ GE185.out | refine below_set ?_ GE186.out) | exact HB.out))))
          have n4_ := Aside0.mk (blk_below (g := gb185) (o := .cells #[.slice A0_0 l0_0.length c0_0, .slice A0_1 l0_1.length c0_1] 25 (0, 0)) (by exact BK185.out) hb)
          have n5_ := Aside0.mk (blk_below (g := gb186) (o := .cells #[.slice A1_0 l1_0.length c1_0, .slice A1_1 l1_1.length c1_1] 25 (0, 0)) (by exact BK186.out) hb)
          have n6_ := Aside0.mk (below_step (by repeat (first | (with_reducible first | exact HB.out | refine below_set ?_ GE185.out | refine below_set ?_ GE186.out) | exact HB.out)) hb)
          clear HO191
          clear HO194
          clear BK185
          clear BK186
          clear HB
          have HO191 := n0_
          have HO194 := n1_
          have HO197 := n2_
          have HO200 := n3_
          have BK185 := n4_
          have BK186 := n5_
          have HB := n6_
          clear n0_ n1_ n2_ n3_ n4_ n5_ n6_
          (try clear hb)
          (try clear hb2)
          (try clear hk)
          (try clear hi)
          (try clear ho0)
          (try clear ho1)
          obtain ⟨Ao164, co164, eo164⟩ := Kd.R_slice HO191.out
          (first | subst eo164 | (injection eo164 with f1_ f2_ f3_; have f4_ := f1_.symm; have f5_ := f3_.symm; clear f1_ f2_ f3_; subst f4_; subst f5_))
          obtain ⟨Ao165, co165, eo165⟩ := Kd.S_slice HO194.out
          (first | subst eo165 | (injection eo165 with f1_ f2_ f3_; have f4_ := f1_.symm; have f5_ := f3_.symm; clear f1_ f2_ f3_; subst f4_; subst f5_))
          obtain ⟨Ao166, co166, eo166⟩ := Kd.R_slice HO197.out
          (first | subst eo166 | (injection eo166 with f1_ f2_ f3_; have f4_ := f1_.symm; have f5_ := f3_.symm; clear f1_ f2_ f3_; subst f4_; subst f5_))
          obtain ⟨Ao167, co167, eo167⟩ := Kd.S_slice HO200.out
          (first | subst eo167 | (injection eo167 with f1_ f2_ f3_; have f4_ := f1_.symm; have f5_ := f3_.symm; clear f1_ f2_ f3_; subst f4_; subst f5_))
          refine hK.out _ _ ⟨(blk_cell BK185.out 0).trans rfl, (blk_cell BK185.out 1).trans rfl, (blk_cell BK186.out 0).trans rfl, (blk_cell BK186.out 1).trans rfl⟩ (fun hHeld => ?_)
          clear hK K
          refine norm_ (a' := ?_) ?_ ?_
          rotate_left
          · show Act.put _ (some 23) _ = _
            simp only [Act.put, List.setIfInBounds_toArray, List.set_cons_zero, List.set_cons_succ, i64_w, i32_w]
            rfl
          refine one_ (i := 4) (N := some 24) #[true, true, true, true, true, false] rfl rfl (by kernel_rfl) (by decide) (fun K hK => ?_)
          refine goes_ Try.func5 (by kernel_rfl) rfl #[.agg #[.slice Ao164 t189.length co164, .slice Ao165 t192.length co165], .agg #[.slice Ao166 t195.length co166, .slice Ao167 t198.length co167]] (by rfl) rfl rfl (by (try simp only [List.map_toArray, List.map_cons, List.map_nil]); first | done | rfl | (simp only [List.length_drop, List.length_take]; rfl)) ?_
          with_reducible refine (spec_ShapeSame.calls k _ _ t189 _ _ t192 _ _ t195 _ _ t198 t201 _ ?side1 ?side2 ?side3 ?side4 ?side5 ?side6 ?side7 ?side8 A21.out).mono ?_
          (case side1 => repeat (first | exact (Kd.R_reads' HO191.out).2.2 | (with_reducible refine Kd.C_alloc ?_ _) | (with_reducible refine Kd.C_drewN ?_ _) | (with_reducible refine Kd.C_drew ?_)))
          (case side2 => exact (Kd.R_reads' HO191.out).2.1)
          (case side3 => repeat (first | exact (Kd.S_reads' HO194.out).2.2 | (with_reducible refine Kd.C_alloc ?_ _) | (with_reducible refine Kd.C_drewN ?_ _) | (with_reducible refine Kd.C_drew ?_)))
          (case side4 => exact (Kd.S_reads' HO194.out).2.1)
          (case side5 => repeat (first | exact (Kd.R_reads' HO197.out).2.2 | (with_reducible refine Kd.C_alloc ?_ _) | (with_reducible refine Kd.C_drewN ?_ _) | (with_reducible refine Kd.C_drew ?_)))
          (case side6 => exact (Kd.R_reads' HO197.out).2.1)
          (case side7 => repeat (first | exact (Kd.S_reads' HO200.out).2.2 | (with_reducible refine Kd.C_alloc ?_ _) | (with_reducible refine Kd.C_drewN ?_ _) | (with_reducible refine Kd.C_drew ?_)))
          (case side8 => exact (Kd.S_reads' HO200.out).2.1)
          rintro e w168 ⟨rfl, hb⟩
          refine ⟨_, rfl, ?_⟩
          have n0_ := Aside0.mk (Kd.R_below (by exact HO191.out) hb)
          have n1_ := Aside0.mk (Kd.S_below (by exact HO194.out) hb)
          have n2_ := Aside0.mk (Kd.R_below (by exact HO197.out) hb)
          have n3_ := Aside0.mk (Kd.S_below (by exact HO200.out) hb)
          have n4_ := Aside0.mk (blk_below (g := gb185) (o := .cells #[.slice A0_0 l0_0.length c0_0, .slice A0_1 l0_1.length c0_1] 25 (0, 0)) (by exact BK185.out) hb)
          have n5_ := Aside0.mk (blk_below (g := gb186) (o := .cells #[.slice A1_0 l1_0.length c1_0, .slice A1_1 l1_1.length c1_1] 25 (0, 0)) (by exact BK186.out) hb)
          have n6_ := Aside0.mk (below_step (by repeat (first | (with_reducible first | exact HB.out | refine below_set ?_ GE185.out | refine below_set ?_ GE186.out) | exact HB.out)) hb)
          clear HO191
          clear HO194
          clear HO197
          clear HO200
          clear BK185
          clear BK186
          clear HB
          have HO191 := n0_
          have HO194 := n1_
          have HO197 := n2_
          have HO200 := n3_
          have BK185 := n4_
          have BK186 := n5_
          have HB := n6_
          clear n0_ n1_ n2_ n3_ n4_ n5_ n6_
          (try clear hb)
          (try clear hb2)
          (try clear hk)
          (try clear hi)
          refine hK.out _ _ ⟨(blk_cell BK185.out 0).trans rfl, (blk_cell BK185.out 1).trans rfl, (blk_cell BK186.out 0).trans rfl, (blk_cell BK186.out 1).trans rfl⟩ (fun hHeld => ?_)
          clear hK K
          refine norm_ (a' := ?_) ?_ ?_
          rotate_left
          · show Act.put _ (some 24) _ = _
            simp only [Act.put, List.setIfInBounds_toArray, List.set_cons_zero, List.set_cons_succ, i64_w, i32_w]
            rfl
          refine pure_ (i := 5) (N := some 6) (v := ?_) (a' := ?_) #[true, true, true, true, true, true] rfl rfl (by kernel_rfl) (fun _ _ _ h => h) (Or.inl ⟨by rfl, ?_⟩) ?_ ?_
          rotate_left
          · intro w'
            go_simp
            with_reducible rfl
          rotate_left
          · simp only [Act.put, List.setIfInBounds_toArray, List.set_cons_zero, List.set_cons_succ, i64_w, i32_w]
            rfl
          refine done_ (by kernel_rfl) ?_
          have hcz169_0 : w168.cell? ⟨gb185, 0, none⟩ = some (.slice A0_0 l0_0.length c0_0) := (blk_cell BK185.out 0).trans rfl
          have hcz169_1 : w168.cell? ⟨gb185, 1, none⟩ = some (.slice A0_1 l0_1.length c0_1) := (blk_cell BK185.out 1).trans rfl
          have hfz169_0 := blk_frozen BK185.out 0
          have hfz169_1 := blk_frozen BK185.out 1
          try go_wp2_with (first | ((with_reducible refine gate_callee (f := 6) rfl ?_); refine goesL_ (some 26) rfl rfl Try.func6 (by kernel_rfl) rfl #[.agg #[.slice A0_0 l0_0.length c0_0, .slice A0_1 l0_1.length c0_1]] rfl (by (try simp only [List.map_toArray, List.map_cons, List.map_nil]); first | done | rfl | (simp only [List.length_drop, List.length_take]; rfl)) ?_; (with_reducible refine (laws_toShape.calls k _ _ l0_0 _ _ l0_1 t202 t205 _ ?side1 ?side2 ?side3 ?side4 A22.out).mono ?_); (case side1 => repeat (first | exact (Kd.C_below HR0_0.out HB.out) | (with_reducible refine Kd.C_alloc ?_ _) | (with_reducible refine Kd.C_drewN ?_ _) | (with_reducible refine Kd.C_drew ?_))); (case side2 => exact HC0_0.out); (case side3 => repeat (first | exact (Kd.C_below HR0_1.out HB.out) | (with_reducible refine Kd.C_alloc ?_ _) | (with_reducible refine Kd.C_drewN ?_ _) | (with_reducible refine Kd.C_drew ?_))); (case side4 => exact HC0_1.out); rintro e w170 ⟨v203, v206, rfl, ho0, ho1, hb⟩; refine ⟨_, rfl, ?_⟩; have n0_ := Aside0.mk (Kd.R_elder' (by exact HO191.out) (Kd.R_base ho0) hb); have n1_ := Aside0.mk (Kd.S_mono (Kd.S_told (Kd.S_told (Kd.S_old (by exact HO194.out) hb) (Kd.R_base ho0)) (Kd.S_base ho1)) (fun _ h_ => h_.1)); have n2_ := Aside0.mk (Kd.R_elder' (by exact HO197.out) (Kd.R_base ho0) hb); have n3_ := Aside0.mk (Kd.S_mono (Kd.S_told (Kd.S_told (Kd.S_old (by exact HO200.out) hb) (Kd.R_base ho0)) (Kd.S_base ho1)) (fun _ h_ => h_.1)); have n4_ := Aside0.mk (Kd.R_lower (Kd.R_new' (Kd.R_new' ho0 (Kd.R_lt (by exact HO191.out))) (Kd.R_lt (by exact HO197.out))) (below_size (by repeat (first | (with_reducible first | exact HB.out | refine below_set ?_ GE185.out | refine below_set ?_ GE186.out) | exact HB.out)))); have n5_ := Aside0.mk (Kd.S_lower (Kd.S_new' (Kd.S_new' (Kd.S_new' (Kd.S_new' ho1 (Kd.R_lt (by exact HO191.out))) (Kd.S_lt (by exact HO194.out))) (Kd.R_lt (by exact HO197.out))) (Kd.S_lt (by exact HO200.out))) (below_size (by repeat (first | (with_reducible first | exact HB.out | refine below_set ?_ GE185.out | refine below_set ?_ GE186.out) | exact HB.out)))); have n6_ := Aside0.mk (blk_below (g := gb185) (o := .cells #[.slice A0_0 l0_0.length c0_0, .slice A0_1 l0_1.length c0_1] 25 (0, 0)) (by exact BK185.out) hb); have n7_ := Aside0.mk (blk_below (g := gb186) (o := .cells #[.slice A1_0 l1_0.length c1_0, .slice A1_1 l1_1.length c1_1] 25 (0, 0)) (by exact BK186.out) hb); have n8_ := Aside0.mk (below_step (by repeat (first | (with_reducible first | exact HB.out | refine below_set ?_ GE185.out | refine below_set ?_ GE186.out) | exact HB.out)) hb); clear HO191; clear HO194; clear HO197; clear HO200; clear BK185; clear BK186; clear HB; have HO191 := n0_; have HO194 := n1_; have HO197 := n2_; have HO200 := n3_; have HO204 := n4_; have HO207 := n5_; have BK185 := n6_; have BK186 := n7_; have HB := n8_; clear n0_ n1_ n2_ n3_ n4_ n5_ n6_ n7_ n8_; (try clear hb); (try clear hb2); (try clear hk); (try clear hi); (try clear ho0); (try clear ho1)) | ((with_reducible refine gate_dst (N := 7) rfl ?_); refine box_event ?hg (N := 7) ?hd (cs := #[.slice none 0 0, .slice none 0 0]) (t := 31) ?hr ?_; (case hd => rfl); (case hg => rfl); (case hr => first | (go_simp; done) | (go_simp; rfl)); intro gb208 hg w171 hbox hb; have n0_ := Aside0.mk (Kd.R_below (by exact HO191.out) hb); have n1_ := Aside0.mk (Kd.S_below (by exact HO194.out) hb); have n2_ := Aside0.mk (Kd.R_below (by exact HO197.out) hb); have n3_ := Aside0.mk (Kd.S_below (by exact HO200.out) hb); have n4_ := Aside0.mk (Kd.R_below (by exact HO204.out) hb); have n5_ := Aside0.mk (Kd.S_below (by exact HO207.out) hb); have n6_ := Aside0.mk (blk_below (g := gb185) (o := .cells #[.slice A0_0 l0_0.length c0_0, .slice A0_1 l0_1.length c0_1] 25 (0, 0)) (by exact BK185.out) hb); have n7_ := Aside0.mk (blk_below (g := gb186) (o := .cells #[.slice A1_0 l1_0.length c1_0, .slice A1_1 l1_1.length c1_1] 25 (0, 0)) (by exact BK186.out) hb); have n8_ := Aside0.mk (below_step (by repeat (first | (with_reducible first | exact HB.out | refine below_set ?_ GE185.out | refine below_set ?_ GE186.out) | exact HB.out)) hb); have n9_ := Aside0.mk (hbox); have n10_ := Aside0.mk ((by rw [hg]; exact (below_size (by repeat (first | (with_reducible first | exact HB.out | refine below_set ?_ GE185.out | refine below_set ?_ GE186.out) | exact HB.out))) : w.heap.size ≤ gb208)); have n11_ := Aside0.mk ((by rw [hg]; exact (below_size (by repeat (first | (with_reducible first | exact HB.out | refine below_set ?_ GE185.out | refine below_set ?_ GE186.out) | exact HB.out))) : w.heap.size ≤ gb208)); have n12_ := Aside0.mk ((by rw [hg]; exact Nat.ne_of_lt (blk_lt (g := gb185) (o := .cells #[.slice A0_0 l0_0.length c0_0, .slice A0_1 l0_1.length c0_1] 25 (0, 0)) (by exact BK185.out)) : gb185 ≠ gb208)); have n13_ := Aside0.mk ((by rw [hg]; exact Nat.ne_of_gt (blk_lt (g := gb185) (o := .cells #[.slice A0_0 l0_0.length c0_0, .slice A0_1 l0_1.length c0_1] 25 (0, 0)) (by exact BK185.out)) : gb208 ≠ gb185)); have n14_ := Aside0.mk ((by rw [hg]; exact Nat.ne_of_lt (blk_lt (g := gb186) (o := .cells #[.slice A1_0 l1_0.length c1_0, .slice A1_1 l1_1.length c1_1] 25 (0, 0)) (by exact BK186.out)) : gb186 ≠ gb208)); have n15_ := Aside0.mk ((by rw [hg]; exact Nat.ne_of_gt (blk_lt (g := gb186) (o := .cells #[.slice A1_0 l1_0.length c1_0, .slice A1_1 l1_1.length c1_1] 25 (0, 0)) (by exact BK186.out)) : gb208 ≠ gb186)); clear HO191; clear HO194; clear HO197; clear HO200; clear HO204; clear HO207; clear BK185; clear BK186; clear HB; have HO191 := n0_; have HO194 := n1_; have HO197 := n2_; have HO200 := n3_; have HO204 := n4_; have HO207 := n5_; have BK185 := n6_; have BK186 := n7_; have HB := n8_; have BK208 := n9_; have GW208 := n10_; have GE208 := n11_; have NB185_208 := n12_; have NB208_185 := n13_; have NB186_208 := n14_; have NB208_186 := n15_; clear n0_ n1_ n2_ n3_ n4_ n5_ n6_ n7_ n8_ n9_ n10_ n11_ n12_ n13_ n14_ n15_; clear hb hbox hg; obtain ⟨Ao172, co172, eo172⟩ := Kd.R_slice HO204.out; subst eo172; have hnb173 := NB208_185.out; have hnc173 := NB185_208.out; have hnb174 := NB208_186.out; have hnc174 := NB186_208.out; have hcz175_0 : w171.cell? ⟨gb208, 0, none⟩ = some (.slice none 0 0) := (blk_cell BK208.out 0).trans rfl; have hcz175_1 : w171.cell? ⟨gb208, 1, none⟩ = some (.slice none 0 0) := (blk_cell BK208.out 1).trans rfl; have hfz175_0 := blk_frozen BK208.out 0; have hfz175_1 := blk_frozen BK208.out 1; obtain ⟨Ao176, co176, eo176⟩ := Kd.S_slice HO207.out; subst eo176; have hcz177_0 : w171.cell? ⟨gb186, 0, none⟩ = some (.slice A1_0 l1_0.length c1_0) := (blk_cell BK186.out 0).trans rfl; have hcz177_1 : w171.cell? ⟨gb186, 1, none⟩ = some (.slice A1_1 l1_1.length c1_1) := (blk_cell BK186.out 1).trans rfl; have hfz177_0 := blk_frozen BK186.out 0; have hfz177_1 := blk_frozen BK186.out 1) | ((with_reducible refine gate_callee (f := 6) rfl ?_); refine goesL_ (some 28) rfl rfl Try.func6 (by kernel_rfl) rfl #[.agg #[.slice A1_0 l1_0.length c1_0, .slice A1_1 l1_1.length c1_1]] rfl (by (try simp only [List.map_toArray, List.map_cons, List.map_nil]); first | done | rfl | (simp only [List.length_drop, List.length_take]; rfl)) ?_; (with_reducible refine (laws_toShape.calls k _ _ l1_0 _ _ l1_1 t209 t212 _ ?side1 ?side2 ?side3 ?side4 A23.out).mono ?_); (case side1 => exact Kd.C_below HR1_0.out (by repeat (first | (with_reducible first | exact HB.out | refine below_set ?_ GE185.out | refine below_set ?_ GE186.out | refine below_set ?_ GE208.out) | exact HB.out))); (case side2 => exact HC1_0.out); (case side3 => exact Kd.C_below HR1_1.out (by repeat (first | (with_reducible first | exact HB.out | refine below_set ?_ GE185.out | refine below_set ?_ GE186.out | refine below_set ?_ GE208.out) | exact HB.out))); (case side4 => exact HC1_1.out); rintro e w178 ⟨v210, v213, rfl, ho0, ho1, hb⟩; refine ⟨_, rfl, ?_⟩; have n0_ := Aside0.mk (Kd.R_elder' (by exact (Kd.R_mono (Kd.R_far (p := ⟨gb208, 1, none⟩) (Kd.R_far (p := ⟨gb208, 0, none⟩) (Kd.R_types HO191.out BK208.out (by decide)) (fun _ hk => hk.2) (.slice Ao172 t202.length co172)) (fun _ hk => hk.2) (.slice Ao176 t205.length co176)) (fun _ h_ => h_.1))) (Kd.R_base ho0) hb); have n1_ := Aside0.mk (Kd.S_mono (Kd.S_told (Kd.S_told (Kd.S_old (by exact (Kd.S_mono (Kd.S_far (p := ⟨gb208, 1, none⟩) (Kd.S_far (p := ⟨gb208, 0, none⟩) (Kd.S_types HO194.out BK208.out (by decide)) (fun _ hk => hk.2) (.slice Ao172 t202.length co172)) (fun _ hk => hk.2) (.slice Ao176 t205.length co176)) (fun _ h_ => h_.1))) hb) (Kd.R_base ho0)) (Kd.S_base ho1)) (fun _ h_ => h_.1)); have n2_ := Aside0.mk (Kd.R_elder' (by exact (Kd.R_mono (Kd.R_far (p := ⟨gb208, 1, none⟩) (Kd.R_far (p := ⟨gb208, 0, none⟩) (Kd.R_types HO197.out BK208.out (by decide)) (fun _ hk => hk.2) (.slice Ao172 t202.length co172)) (fun _ hk => hk.2) (.slice Ao176 t205.length co176)) (fun _ h_ => h_.1))) (Kd.R_base ho0) hb); have n3_ := Aside0.mk (Kd.S_mono (Kd.S_told (Kd.S_told (Kd.S_old (by exact (Kd.S_mono (Kd.S_far (p := ⟨gb208, 1, none⟩) (Kd.S_far (p := ⟨gb208, 0, none⟩) (Kd.S_types HO200.out BK208.out (by decide)) (fun _ hk => hk.2) (.slice Ao172 t202.length co172)) (fun _ hk => hk.2) (.slice Ao176 t205.length co176)) (fun _ h_ => h_.1))) hb) (Kd.R_base ho0)) (Kd.S_base ho1)) (fun _ h_ => h_.1)); have n4_ := Aside0.mk (Kd.R_elder' (by exact (Kd.R_mono (Kd.R_far (p := ⟨gb208, 1, none⟩) (Kd.R_far (p := ⟨gb208, 0, none⟩) (Kd.R_types HO204.out BK208.out (by decide)) (fun _ hk => hk.2) (.slice Ao172 t202.length co172)) (fun _ hk => hk.2) (.slice Ao176 t205.length co176)) (fun _ h_ => h_.1))) (Kd.R_base ho0) hb); have n5_ := Aside0.mk (Kd.S_mono (Kd.S_told (Kd.S_told (Kd.S_old (by exact (Kd.S_mono (Kd.S_far (p := ⟨gb208, 1, none⟩) (Kd.S_far (p := ⟨gb208, 0, none⟩) (Kd.S_types HO207.out BK208.out (by decide)) (fun _ hk => hk.2) (.slice Ao172 t202.length co172)) (fun _ hk => hk.2) (.slice Ao176 t205.length co176)) (fun _ h_ => h_.1))) hb) (Kd.R_base ho0)) (Kd.S_base ho1)) (fun _ h_ => h_.1)); have n6_ := Aside0.mk (Kd.R_lower (Kd.R_new' (Kd.R_new' (Kd.R_new' ho0 (Kd.R_lt (by exact (Kd.R_mono (Kd.R_far (p := ⟨gb208, 1, none⟩) (Kd.R_far (p := ⟨gb208, 0, none⟩) (Kd.R_types HO191.out BK208.out (by decide)) (fun _ hk => hk.2) (.slice Ao172 t202.length co172)) (fun _ hk => hk.2) (.slice Ao176 t205.length co176)) (fun _ h_ => h_.1))))) (Kd.R_lt (by exact (Kd.R_mono (Kd.R_far (p := ⟨gb208, 1, none⟩) (Kd.R_far (p := ⟨gb208, 0, none⟩) (Kd.R_types HO197.out BK208.out (by decide)) (fun _ hk => hk.2) (.slice Ao172 t202.length co172)) (fun _ hk => hk.2) (.slice Ao176 t205.length co176)) (fun _ h_ => h_.1))))) (Kd.R_lt (by exact (Kd.R_mono (Kd.R_far (p := ⟨gb208, 1, none⟩) (Kd.R_far (p := ⟨gb208, 0, none⟩) (Kd.R_types HO204.out BK208.out (by decide)) (fun _ hk => hk.2) (.slice Ao172 t202.length co172)) (fun _ hk => hk.2) (.slice Ao176 t205.length co176)) (fun _ h_ => h_.1))))) (below_size (by repeat (first | (with_reducible first | exact HB.out | refine below_set ?_ GE185.out | refine below_set ?_ GE186.out | refine below_set ?_ GE208.out) | exact HB.out)))); have n7_ := Aside0.mk (Kd.S_lower (Kd.S_new' (Kd.S_new' (Kd.S_new' (Kd.S_new' (Kd.S_new' (Kd.S_new' ho1 (Kd.R_lt (by exact (Kd.R_mono (Kd.R_far (p := ⟨gb208, 1, none⟩) (Kd.R_far (p := ⟨gb208, 0, none⟩) (Kd.R_types HO191.out BK208.out (by decide)) (fun _ hk => hk.2) (.slice Ao172 t202.length co172)) (fun _ hk => hk.2) (.slice Ao176 t205.length co176)) (fun _ h_ => h_.1))))) (Kd.S_lt (by exact (Kd.S_mono (Kd.S_far (p := ⟨gb208, 1, none⟩) (Kd.S_far (p := ⟨gb208, 0, none⟩) (Kd.S_types HO194.out BK208.out (by decide)) (fun _ hk => hk.2) (.slice Ao172 t202.length co172)) (fun _ hk => hk.2) (.slice Ao176 t205.length co176)) (fun _ h_ => h_.1))))) (Kd.R_lt (by exact (Kd.R_mono (Kd.R_far (p := ⟨gb208, 1, none⟩) (Kd.R_far (p := ⟨gb208, 0, none⟩) (Kd.R_types HO197.out BK208.out (by decide)) (fun _ hk => hk.2) (.slice Ao172 t202.length co172)) (fun _ hk => hk.2) (.slice Ao176 t205.length co176)) (fun _ h_ => h_.1))))) (Kd.S_lt (by exact (Kd.S_mono (Kd.S_far (p := ⟨gb208, 1, none⟩) (Kd.S_far (p := ⟨gb208, 0, none⟩) (Kd.S_types HO200.out BK208.out (by decide)) (fun _ hk => hk.2) (.slice Ao172 t202.length co172)) (fun _ hk => hk.2) (.slice Ao176 t205.length co176)) (fun _ h_ => h_.1))))) (Kd.R_lt (by exact (Kd.R_mono (Kd.R_far (p := ⟨gb208, 1, none⟩) (Kd.R_far (p := ⟨gb208, 0, none⟩) (Kd.R_types HO204.out BK208.out (by decide)) (fun _ hk => hk.2) (.slice Ao172 t202.length co172)) (fun _ hk => hk.2) (.slice Ao176 t205.length co176)) (fun _ h_ => h_.1))))) (Kd.S_lt (by exact (Kd.S_mono (Kd.S_far (p := ⟨gb208, 1, none⟩) (Kd.S_far (p := ⟨gb208, 0, none⟩) (Kd.S_types HO207.out BK208.out (by decide)) (fun _ hk => hk.2) (.slice Ao172 t202.length co172)) (fun _ hk => hk.2) (.slice Ao176 t205.length co176)) (fun _ h_ => h_.1))))) (below_size (by repeat (first | (with_reducible first | exact HB.out | refine below_set ?_ GE185.out | refine below_set ?_ GE186.out | refine below_set ?_ GE208.out) | exact HB.out)))); have n8_ := Aside0.mk (blk_below (g := gb185) (o := .cells #[.slice A0_0 l0_0.length c0_0, .slice A0_1 l0_1.length c0_1] 25 (0, 0)) (by refine blk_far ?_ NB185_208.out _; refine blk_far ?_ NB185_208.out _; exact BK185.out) hb); have n9_ := Aside0.mk (blk_below (g := gb186) (o := .cells #[.slice A1_0 l1_0.length c1_0, .slice A1_1 l1_1.length c1_1] 25 (0, 0)) (by refine blk_far ?_ NB186_208.out _; refine blk_far ?_ NB186_208.out _; exact BK186.out) hb); have n10_ := Aside0.mk (blk_below (g := gb208) (o := .cells #[.slice Ao172 t202.length co172, .slice Ao176 t205.length co176] 31 (0, 0)) (by refine blk_put (cs := #[.slice Ao172 t202.length co172, .slice none 0 0]) ?_ 1 _ rfl; refine blk_put (cs := #[.slice none 0 0, .slice none 0 0]) ?_ 0 _ rfl; exact BK208.out) hb); have n11_ := Aside0.mk (below_step (by repeat (first | (with_reducible first | exact HB.out | refine below_set ?_ GE185.out | refine below_set ?_ GE186.out | refine below_set ?_ GE208.out) | exact HB.out)) hb); clear HO191; clear HO194; clear HO197; clear HO200; clear HO204; clear HO207; clear BK185; clear BK186; clear BK208; clear HB; have HO191 := n0_; have HO194 := n1_; have HO197 := n2_; have HO200 := n3_; have HO204 := n4_; have HO207 := n5_; have HO211 := n6_; have HO214 := n7_; have BK185 := n8_; have BK186 := n9_; have BK208 := n10_; have HB := n11_; clear n0_ n1_ n2_ n3_ n4_ n5_ n6_ n7_ n8_ n9_ n10_ n11_; (try clear hb); (try clear hb2); (try clear hk); (try clear hi); (try clear ho0); (try clear ho1)) | ((with_reducible refine gate_dst (N := 8) rfl ?_); refine box_event ?hg (N := 8) ?hd (cs := #[.slice none 0 0, .slice none 0 0]) (t := 31) ?hr ?_; (case hd => rfl); (case hg => rfl); (case hr => first | (go_simp; done) | (go_simp; rfl)); intro gb215 hg w179 hbox hb; have n0_ := Aside0.mk (Kd.R_below (by exact HO191.out) hb); have n1_ := Aside0.mk (Kd.S_below (by exact HO194.out) hb); have n2_ := Aside0.mk (Kd.R_below (by exact HO197.out) hb); have n3_ := Aside0.mk (Kd.S_below (by exact HO200.out) hb); have n4_ := Aside0.mk (Kd.R_below (by exact HO204.out) hb); have n5_ := Aside0.mk (Kd.S_below (by exact HO207.out) hb); have n6_ := Aside0.mk (Kd.R_below (by exact HO211.out) hb); have n7_ := Aside0.mk (Kd.S_below (by exact HO214.out) hb); have n8_ := Aside0.mk (blk_below (g := gb185) (o := .cells #[.slice A0_0 l0_0.length c0_0, .slice A0_1 l0_1.length c0_1] 25 (0, 0)) (by exact BK185.out) hb); have n9_ := Aside0.mk (blk_below (g := gb186) (o := .cells #[.slice A1_0 l1_0.length c1_0, .slice A1_1 l1_1.length c1_1] 25 (0, 0)) (by exact BK186.out) hb); have n10_ := Aside0.mk (blk_below (g := gb208) (o := .cells #[.slice Ao172 t202.length co172, .slice Ao176 t205.length co176] 31 (0, 0)) (by exact BK208.out) hb); have n11_ := Aside0.mk (below_step (by repeat (first | (with_reducible first | exact HB.out | refine below_set ?_ GE185.out | refine below_set ?_ GE186.out | refine below_set ?_ GE208.out) | exact HB.out)) hb); have n12_ := Aside0.mk (hbox); have n13_ := Aside0.mk ((by rw [hg]; exact (below_size (by repeat (first | (with_reducible first | exact HB.out | refine below_set ?_ GE185.out | refine below_set ?_ GE186.out | refine below_set ?_ GE208.out) | exact HB.out))) : w.heap.size ≤ gb215)); have n14_ := Aside0.mk ((by rw [hg]; exact (below_size (by repeat (first | (with_reducible first | exact HB.out | refine below_set ?_ GE185.out | refine below_set ?_ GE186.out | refine below_set ?_ GE208.out) | exact HB.out))) : w.heap.size ≤ gb215)); have n15_ := Aside0.mk ((by rw [hg]; exact Nat.ne_of_lt (blk_lt (g := gb185) (o := .cells #[.slice A0_0 l0_0.length c0_0, .slice A0_1 l0_1.length c0_1] 25 (0, 0)) (by exact BK185.out)) : gb185 ≠ gb215)); have n16_ := Aside0.mk ((by rw [hg]; exact Nat.ne_of_gt (blk_lt (g := gb185) (o := .cells #[.slice A0_0 l0_0.length c0_0, .slice A0_1 l0_1.length c0_1] 25 (0, 0)) (by exact BK185.out)) : gb215 ≠ gb185)); have n17_ := Aside0.mk ((by rw [hg]; exact Nat.ne_of_lt (blk_lt (g := gb186) (o := .cells #[.slice A1_0 l1_0.length c1_0, .slice A1_1 l1_1.length c1_1] 25 (0, 0)) (by exact BK186.out)) : gb186 ≠ gb215)); have n18_ := Aside0.mk ((by rw [hg]; exact Nat.ne_of_gt (blk_lt (g := gb186) (o := .cells #[.slice A1_0 l1_0.length c1_0, .slice A1_1 l1_1.length c1_1] 25 (0, 0)) (by exact BK186.out)) : gb215 ≠ gb186)); have n19_ := Aside0.mk ((by rw [hg]; exact Nat.ne_of_lt (blk_lt (g := gb208) (o := .cells #[.slice Ao172 t202.length co172, .slice Ao176 t205.length co176] 31 (0, 0)) (by exact BK208.out)) : gb208 ≠ gb215)); have n20_ := Aside0.mk ((by rw [hg]; exact Nat.ne_of_gt (blk_lt (g := gb208) (o := .cells #[.slice Ao172 t202.length co172, .slice Ao176 t205.length co176] 31 (0, 0)) (by exact BK208.out)) : gb215 ≠ gb208)); clear HO191; clear HO194; clear HO197; clear HO200; clear HO204; clear HO207; clear HO211; clear HO214; clear BK185; clear BK186; clear BK208; clear HB; have HO191 := n0_; have HO194 := n1_; have HO197 := n2_; have HO200 := n3_; have HO204 := n4_; have HO207 := n5_; have HO211 := n6_; have HO214 := n7_; have BK185 := n8_; have BK186 := n9_; have BK208 := n10_; have HB := n11_; have BK215 := n12_; have GW215 := n13_; have GE215 := n14_; have NB185_215 := n15_; have NB215_185 := n16_; have NB186_215 := n17_; have NB215_186 := n18_; have NB208_215 := n19_; have NB215_208 := n20_; clear n0_ n1_ n2_ n3_ n4_ n5_ n6_ n7_ n8_ n9_ n10_ n11_ n12_ n13_ n14_ n15_ n16_ n17_ n18_ n19_ n20_; clear hb hbox hg; obtain ⟨Ao180, co180, eo180⟩ := Kd.R_slice HO211.out; subst eo180; have hnb181 := NB215_185.out; have hnc181 := NB185_215.out; have hnb182 := NB215_186.out; have hnc182 := NB186_215.out; have hnb183 := NB215_208.out; have hnc183 := NB208_215.out; have hcz184_0 : w179.cell? ⟨gb215, 0, none⟩ = some (.slice none 0 0) := (blk_cell BK215.out 0).trans rfl; have hcz184_1 : w179.cell? ⟨gb215, 1, none⟩ = some (.slice none 0 0) := (blk_cell BK215.out 1).trans rfl; have hfz184_0 := blk_frozen BK215.out 0; have hfz184_1 := blk_frozen BK215.out 1; obtain ⟨Ao185, co185, eo185⟩ := Kd.S_slice HO214.out; subst eo185; have hcz186_0 : w179.cell? ⟨gb208, 0, none⟩ = some (.slice Ao172 t202.length co172) := (blk_cell BK208.out 0).trans rfl; have hcz186_1 : w179.cell? ⟨gb208, 1, none⟩ = some (.slice Ao176 t205.length co176) := (blk_cell BK208.out 1).trans rfl; have hfz186_0 := blk_frozen BK208.out 0; have hfz186_1 := blk_frozen BK208.out 1) | ((with_reducible refine gate_callee (f := 7) rfl ?_); refine goesL_ (some 31) rfl rfl Try.func7 (by kernel_rfl) rfl #[.agg #[.slice Ao172 t202.length co172, .slice Ao176 t205.length co176], .agg #[.slice Ao180 t209.length co180, .slice Ao185 t212.length co185]] rfl (by (try simp only [List.map_toArray, List.map_cons, List.map_nil]); first | done | rfl | (simp only [List.length_drop, List.length_take]; rfl)) ?_; (with_reducible refine (impl_ShapeSame.calls k _ _ t202 _ _ t205 _ _ t209 _ _ t212 t216 _ ?side1 ?side2 ?side3 ?side4 ?side5 ?side6 ?side7 ?side8 A24.out).mono ?_); (case side1 => refine (Kd.R_reads' (e := 42) (base := w.heap.size) (ok := fun k_ => (((True ∧ some k_ ≠ (.slice Ao164 t189.length co164 : Value).ownBlock) ∧ some k_ ≠ (.slice Ao166 t195.length co166 : Value).ownBlock) ∧ some k_ ≠ (.slice Ao180 t209.length co180 : Value).ownBlock)) (n := t202.length) (c := co172) ?_).2.2; exact (by exact (Kd.R_mono (Kd.R_far (p := ⟨gb215, 1, none⟩) (Kd.R_far (p := ⟨gb215, 0, none⟩) (Kd.R_types HO204.out BK215.out (by decide)) (fun _ hk => hk.2) (.slice Ao180 t209.length co180)) (fun _ hk => hk.2) (.slice Ao185 t212.length co185)) (fun _ h_ => h_.1)))); (case side2 => exact (Kd.R_reads' HO204.out).2.1); (case side3 => refine (Kd.S_reads' (e := 38) (base := w.heap.size) (ok := fun k_ => ((((((some k_ ≠ (.slice Ao172 t202.length co172 : Value).ownBlock ∧ some k_ ≠ (.slice Ao164 t189.length co164 : Value).ownBlock) ∧ some k_ ≠ (.slice Ao165 t192.length co165 : Value).ownBlock) ∧ some k_ ≠ (.slice Ao166 t195.length co166 : Value).ownBlock) ∧ some k_ ≠ (.slice Ao167 t198.length co167 : Value).ownBlock) ∧ some k_ ≠ (.slice Ao180 t209.length co180 : Value).ownBlock) ∧ some k_ ≠ (.slice Ao185 t212.length co185 : Value).ownBlock)) (n := t205.length) (c := co176) ?_).2.2; exact (by exact (Kd.S_mono (Kd.S_far (p := ⟨gb215, 1, none⟩) (Kd.S_far (p := ⟨gb215, 0, none⟩) (Kd.S_types HO207.out BK215.out (by decide)) (fun _ hk => hk.2) (.slice Ao180 t209.length co180)) (fun _ hk => hk.2) (.slice Ao185 t212.length co185)) (fun _ h_ => h_.1)))); (case side4 => exact (Kd.S_reads' HO207.out).2.1); (case side5 => refine (Kd.R_reads' (e := 42) (base := w.heap.size) (ok := fun k_ => (((True ∧ some k_ ≠ (.slice Ao164 t189.length co164 : Value).ownBlock) ∧ some k_ ≠ (.slice Ao166 t195.length co166 : Value).ownBlock) ∧ some k_ ≠ (.slice Ao172 t202.length co172 : Value).ownBlock)) (n := t209.length) (c := co180) ?_).2.2; exact (by exact (Kd.R_mono (Kd.R_far (p := ⟨gb215, 1, none⟩) (Kd.R_far (p := ⟨gb215, 0, none⟩) (Kd.R_types HO211.out BK215.out (by decide)) (fun _ hk => hk.2) (.slice Ao180 t209.length co180)) (fun _ hk => hk.2) (.slice Ao185 t212.length co185)) (fun _ h_ => h_.1)))); (case side6 => exact (Kd.R_reads' HO211.out).2.1); (case side7 => refine (Kd.S_reads' (e := 38) (base := w.heap.size) (ok := fun k_ => ((((((some k_ ≠ (.slice Ao180 t209.length co180 : Value).ownBlock ∧ some k_ ≠ (.slice Ao164 t189.length co164 : Value).ownBlock) ∧ some k_ ≠ (.slice Ao165 t192.length co165 : Value).ownBlock) ∧ some k_ ≠ (.slice Ao166 t195.length co166 : Value).ownBlock) ∧ some k_ ≠ (.slice Ao167 t198.length co167 : Value).ownBlock) ∧ some k_ ≠ (.slice Ao172 t202.length co172 : Value).ownBlock) ∧ some k_ ≠ (.slice Ao176 t205.length co176 : Value).ownBlock)) (n := t212.length) (c := co185) ?_).2.2; exact (by exact (Kd.S_mono (Kd.S_far (p := ⟨gb215, 1, none⟩) (Kd.S_far (p := ⟨gb215, 0, none⟩) (Kd.S_types HO214.out BK215.out (by decide)) (fun _ hk => hk.2) (.slice Ao180 t209.length co180)) (fun _ hk => hk.2) (.slice Ao185 t212.length co185)) (fun _ h_ => h_.1)))); (case side8 => exact (Kd.S_reads' HO214.out).2.1); rintro e w187 ⟨rfl, hb⟩; refine ⟨_, rfl, ?_⟩; have n0_ := Aside0.mk (Kd.R_below (by exact (Kd.R_mono (Kd.R_far (p := ⟨gb215, 1, none⟩) (Kd.R_far (p := ⟨gb215, 0, none⟩) (Kd.R_types HO191.out BK215.out (by decide)) (fun _ hk => hk.2) (.slice Ao180 t209.length co180)) (fun _ hk => hk.2) (.slice Ao185 t212.length co185)) (fun _ h_ => h_.1))) hb); have n1_ := Aside0.mk (Kd.S_below (by exact (Kd.S_mono (Kd.S_far (p := ⟨gb215, 1, none⟩) (Kd.S_far (p := ⟨gb215, 0, none⟩) (Kd.S_types HO194.out BK215.out (by decide)) (fun _ hk => hk.2) (.slice Ao180 t209.length co180)) (fun _ hk => hk.2) (.slice Ao185 t212.length co185)) (fun _ h_ => h_.1))) hb); have n2_ := Aside0.mk (Kd.R_below (by exact (Kd.R_mono (Kd.R_far (p := ⟨gb215, 1, none⟩) (Kd.R_far (p := ⟨gb215, 0, none⟩) (Kd.R_types HO197.out BK215.out (by decide)) (fun _ hk => hk.2) (.slice Ao180 t209.length co180)) (fun _ hk => hk.2) (.slice Ao185 t212.length co185)) (fun _ h_ => h_.1))) hb); have n3_ := Aside0.mk (Kd.S_below (by exact (Kd.S_mono (Kd.S_far (p := ⟨gb215, 1, none⟩) (Kd.S_far (p := ⟨gb215, 0, none⟩) (Kd.S_types HO200.out BK215.out (by decide)) (fun _ hk => hk.2) (.slice Ao180 t209.length co180)) (fun _ hk => hk.2) (.slice Ao185 t212.length co185)) (fun _ h_ => h_.1))) hb); have n4_ := Aside0.mk (Kd.R_below (by exact (Kd.R_mono (Kd.R_far (p := ⟨gb215, 1, none⟩) (Kd.R_far (p := ⟨gb215, 0, none⟩) (Kd.R_types HO204.out BK215.out (by decide)) (fun _ hk => hk.2) (.slice Ao180 t209.length co180)) (fun _ hk => hk.2) (.slice Ao185 t212.length co185)) (fun _ h_ => h_.1))) hb); have n5_ := Aside0.mk (Kd.S_below (by exact (Kd.S_mono (Kd.S_far (p := ⟨gb215, 1, none⟩) (Kd.S_far (p := ⟨gb215, 0, none⟩) (Kd.S_types HO207.out BK215.out (by decide)) (fun _ hk => hk.2) (.slice Ao180 t209.length co180)) (fun _ hk => hk.2) (.slice Ao185 t212.length co185)) (fun _ h_ => h_.1))) hb); have n6_ := Aside0.mk (Kd.R_below (by exact (Kd.R_mono (Kd.R_far (p := ⟨gb215, 1, none⟩) (Kd.R_far (p := ⟨gb215, 0, none⟩) (Kd.R_types HO211.out BK215.out (by decide)) (fun _ hk => hk.2) (.slice Ao180 t209.length co180)) (fun _ hk => hk.2) (.slice Ao185 t212.length co185)) (fun _ h_ => h_.1))) hb); have n7_ := Aside0.mk (Kd.S_below (by exact (Kd.S_mono (Kd.S_far (p := ⟨gb215, 1, none⟩) (Kd.S_far (p := ⟨gb215, 0, none⟩) (Kd.S_types HO214.out BK215.out (by decide)) (fun _ hk => hk.2) (.slice Ao180 t209.length co180)) (fun _ hk => hk.2) (.slice Ao185 t212.length co185)) (fun _ h_ => h_.1))) hb); have n8_ := Aside0.mk (blk_below (g := gb185) (o := .cells #[.slice A0_0 l0_0.length c0_0, .slice A0_1 l0_1.length c0_1] 25 (0, 0)) (by refine blk_far ?_ NB185_215.out _; refine blk_far ?_ NB185_215.out _; exact BK185.out) hb); have n9_ := Aside0.mk (blk_below (g := gb186) (o := .cells #[.slice A1_0 l1_0.length c1_0, .slice A1_1 l1_1.length c1_1] 25 (0, 0)) (by refine blk_far ?_ NB186_215.out _; refine blk_far ?_ NB186_215.out _; exact BK186.out) hb); have n10_ := Aside0.mk (blk_below (g := gb208) (o := .cells #[.slice Ao172 t202.length co172, .slice Ao176 t205.length co176] 31 (0, 0)) (by refine blk_far ?_ NB208_215.out _; refine blk_far ?_ NB208_215.out _; exact BK208.out) hb); have n11_ := Aside0.mk (blk_below (g := gb215) (o := .cells #[.slice Ao180 t209.length co180, .slice Ao185 t212.length co185] 31 (0, 0)) (by refine blk_put (cs := #[.slice Ao180 t209.length co180, .slice none 0 0]) ?_ 1 _ rfl; refine blk_put (cs := #[.slice none 0 0, .slice none 0 0]) ?_ 0 _ rfl; exact BK215.out) hb); have n12_ := Aside0.mk (below_step (by repeat (first | (with_reducible first | exact HB.out | refine below_set ?_ GE185.out | refine below_set ?_ GE186.out | refine below_set ?_ GE208.out | refine below_set ?_ GE215.out) | exact HB.out)) hb); clear HO191; clear HO194; clear HO197; clear HO200; clear HO204; clear HO207; clear HO211; clear HO214; clear BK185; clear BK186; clear BK208; clear BK215; clear HB; have HO191 := n0_; have HO194 := n1_; have HO197 := n2_; have HO200 := n3_; have HO204 := n4_; have HO207 := n5_; have HO211 := n6_; have HO214 := n7_; have BK185 := n8_; have BK186 := n9_; have BK208 := n10_; have BK215 := n11_; have HB := n12_; clear n0_ n1_ n2_ n3_ n4_ n5_ n6_ n7_ n8_ n9_ n10_ n11_ n12_; (try clear hb); (try clear hb2); (try clear hk); (try clear hi)))
          have n0_ := Aside0.mk (Kd.R_drew HO191.out)
          have n1_ := Aside0.mk (Kd.S_drew HO194.out)
          have n2_ := Aside0.mk (Kd.R_drew HO197.out)
          have n3_ := Aside0.mk (Kd.S_drew HO200.out)
          have n4_ := Aside0.mk (Kd.R_drew HO204.out)
          have n5_ := Aside0.mk (Kd.S_drew HO207.out)
          have n6_ := Aside0.mk (Kd.R_drew HO211.out)
          have n7_ := Aside0.mk (Kd.S_drew HO214.out)
          have n8_ := Aside0.mk (blk_drew BK185.out)
          have n9_ := Aside0.mk (blk_drew BK186.out)
          have n10_ := Aside0.mk (blk_drew BK208.out)
          have n11_ := Aside0.mk (blk_drew BK215.out)
          have n12_ := Aside0.mk (below_drew1 HB.out)
          clear HO191
          clear HO194
          clear HO197
          clear HO200
          clear HO204
          clear HO207
          clear HO211
          clear HO214
          clear BK185
          clear BK186
          clear BK208
          clear BK215
          clear HB
          have HO191 := n0_
          have HO194 := n1_
          have HO197 := n2_
          have HO200 := n3_
          have HO204 := n4_
          have HO207 := n5_
          have HO211 := n6_
          have HO214 := n7_
          have BK185 := n8_
          have BK186 := n9_
          have BK208 := n10_
          have BK215 := n11_
          have HB := n12_
          clear n0_ n1_ n2_ n3_ n4_ n5_ n6_ n7_ n8_ n9_ n10_ n11_ n12_
          refine start_ (n := 5) (S := fun w' => w'.cell? ⟨gb208, 0, none⟩ = some (.slice Ao172 t202.length co172) ∧ w'.cell? ⟨gb208, 1, none⟩ = some (.slice Ao176 t205.length co176) ∧ w'.cell? ⟨gb185, 0, none⟩ = some (.slice A0_0 l0_0.length c0_0) ∧ w'.cell? ⟨gb185, 1, none⟩ = some (.slice A0_1 l0_1.length c0_1)) (ds := []) #[false, false, false, false, false] (by kernel_rfl) rfl rfl ⟨(blk_cell BK208.out 0).trans rfl, (blk_cell BK208.out 1).trans rfl, (blk_cell BK185.out 0).trans rfl, (blk_cell BK185.out 1).trans rfl⟩ (fun hHeld => ?_)
          generalize w187.drew = w188 at HO191 HO194 HO197 HO200 HO204 HO207 HO211 HO214 BK185 BK186 BK208 BK215 HB hHeld ⊢
          refine take_ (i := 0) (N := some 35) (v := ?_) (a' := ?_) #[true, false, false, false, false] rfl rfl (by kernel_rfl) (fun _ _ _ h => h) (Or.inl ⟨by rfl, ?_⟩) hHeld ?_ ?_
          rotate_left
          · rintro w' ⟨s0, s1, s2, s3⟩
            go_simp
            with_reducible rfl
          rotate_left
          · simp only [Act.put, List.setIfInBounds_toArray, List.set_cons_zero, List.set_cons_succ, i64_w, i32_w]
            rfl
          refine take_ (i := 1) (N := some 36) (v := ?_) (a' := ?_) #[true, true, false, false, false] rfl rfl (by kernel_rfl) (fun _ _ _ h => h) (Or.inl ⟨by rfl, ?_⟩) hHeld ?_ ?_
          rotate_left
          · rintro w' ⟨s0, s1, s2, s3⟩
            go_simp
            with_reducible rfl
          rotate_left
          · simp only [Act.put, List.setIfInBounds_toArray, List.set_cons_zero, List.set_cons_succ, i64_w, i32_w]
            rfl
          refine one_ (i := 2) (N := some 37) #[true, true, true, false, false] rfl rfl (by kernel_rfl) (by decide) (fun K hK => ?_)
          refine goes_ Try.func6 (by kernel_rfl) rfl #[.agg #[.slice A0_0 l0_0.length c0_0, .slice A0_1 l0_1.length c0_1]] (by rfl) rfl rfl (by (try simp only [List.map_toArray, List.map_cons, List.map_nil]); first | done | rfl | (simp only [List.length_drop, List.length_take]; rfl)) ?_
          with_reducible refine (laws_toShape.calls k _ _ l0_0 _ _ l0_1 t217 t220 _ ?side1 ?side2 ?side3 ?side4 A60.out).mono ?_
          (case side1 => repeat (first | exact (Kd.C_below HR0_0.out HB.out) | (with_reducible refine Kd.C_alloc ?_ _) | (with_reducible refine Kd.C_drewN ?_ _) | (with_reducible refine Kd.C_drew ?_)))
          (case side2 => exact HC0_0.out)
          (case side3 => repeat (first | exact (Kd.C_below HR0_1.out HB.out) | (with_reducible refine Kd.C_alloc ?_ _) | (with_reducible refine Kd.C_drewN ?_ _) | (with_reducible refine Kd.C_drew ?_)))
          (case side4 => exact HC0_1.out)
          rintro e w189 ⟨v218, v221, rfl, ho0, ho1, hb⟩
          refine ⟨_, rfl, ?_⟩
          have n0_ := Aside0.mk (Kd.R_elder' (by exact HO191.out) (Kd.R_base ho0) hb)
          have n1_ := Aside0.mk (Kd.S_mono (Kd.S_told (Kd.S_told (Kd.S_old (by exact HO194.out) hb) (Kd.R_base ho0)) (Kd.S_base ho1)) (fun _ h_ => h_.1))
          have n2_ := Aside0.mk (Kd.R_elder' (by exact HO197.out) (Kd.R_base ho0) hb)
          have n3_ := Aside0.mk (Kd.S_mono (Kd.S_told (Kd.S_told (Kd.S_old (by exact HO200.out) hb) (Kd.R_base ho0)) (Kd.S_base ho1)) (fun _ h_ => h_.1))
          have n4_ := Aside0.mk (Kd.R_elder' (by exact HO204.out) (Kd.R_base ho0) hb)
          have n5_ := Aside0.mk (Kd.S_mono (Kd.S_told (Kd.S_told (Kd.S_old (by exact HO207.out) hb) (Kd.R_base ho0)) (Kd.S_base ho1)) (fun _ h_ => h_.1))
          have n6_ := Aside0.mk (Kd.R_elder' (by exact HO211.out) (Kd.R_base ho0) hb)
          have n7_ := Aside0.mk (Kd.S_mono (Kd.S_told (Kd.S_told (Kd.S_old (by exact HO214.out) hb) (Kd.R_base ho0)) (Kd.S_base ho1)) (fun _ h_ => h_.1))
          have n8_ := Aside0.mk (Kd.R_lower (Kd.R_new' (Kd.R_new' (Kd.R_new' (Kd.R_new' ho0 (Kd.R_lt (by exact HO191.out))) (Kd.R_lt (by exact HO197.out))) (Kd.R_lt (by exact HO204.out))) (Kd.R_lt (by exact HO211.out))) (below_size (by repeat (first | (with_reducible first | exact HB.out | refine below_set ?_ GE185.out | refine below_set ?_ GE186.out | refine below_set ?_ GE208.out | refine below_set ?_ GE215.out) | exact HB.out))))
          have n9_ := Aside0.mk (Kd.S_lower (Kd.S_new' (Kd.S_new' (Kd.S_new' (Kd.S_new' (Kd.S_new' (Kd.S_new' (Kd.S_new' (Kd.S_new' ho1 (Kd.R_lt (by exact HO191.out))) (Kd.S_lt (by exact HO194.out))) (Kd.R_lt (by exact HO197.out))) (Kd.S_lt (by exact HO200.out))) (Kd.R_lt (by exact HO204.out))) (Kd.S_lt (by exact HO207.out))) (Kd.R_lt (by exact HO211.out))) (Kd.S_lt (by exact HO214.out))) (below_size (by repeat (first | (with_reducible first | exact HB.out | refine below_set ?_ GE185.out | refine below_set ?_ GE186.out | refine below_set ?_ GE208.out | refine below_set ?_ GE215.out) | exact HB.out))))
          have n10_ := Aside0.mk (blk_below (g := gb185) (o := .cells #[.slice A0_0 l0_0.length c0_0, .slice A0_1 l0_1.length c0_1] 25 (0, 0)) (by exact BK185.out) hb)
          have n11_ := Aside0.mk (blk_below (g := gb186) (o := .cells #[.slice A1_0 l1_0.length c1_0, .slice A1_1 l1_1.length c1_1] 25 (0, 0)) (by exact BK186.out) hb)
          have n12_ := Aside0.mk (blk_below (g := gb208) (o := .cells #[.slice Ao172 t202.length co172, .slice Ao176 t205.length co176] 31 (0, 0)) (by exact BK208.out) hb)
          have n13_ := Aside0.mk (blk_below (g := gb215) (o := .cells #[.slice Ao180 t209.length co180, .slice Ao185 t212.length co185] 31 (0, 0)) (by exact BK215.out) hb)
          have n14_ := Aside0.mk (below_step (by repeat (first | (with_reducible first | exact HB.out | refine below_set ?_ GE185.out | refine below_set ?_ GE186.out | refine below_set ?_ GE208.out | refine below_set ?_ GE215.out) | exact HB.out)) hb)
          clear HO191
          clear HO194
          clear HO197
          clear HO200
          clear HO204
          clear HO207
          clear HO211
          clear HO214
          clear BK185
          clear BK186
          clear BK208
          clear BK215
          clear HB
          have HO191 := n0_
          have HO194 := n1_
          have HO197 := n2_
          have HO200 := n3_
          have HO204 := n4_
          have HO207 := n5_
          have HO211 := n6_
          have HO214 := n7_
          have HO219 := n8_
          have HO222 := n9_
          have BK185 := n10_
          have BK186 := n11_
          have BK208 := n12_
          have BK215 := n13_
          have HB := n14_
          clear n0_ n1_ n2_ n3_ n4_ n5_ n6_ n7_ n8_ n9_ n10_ n11_ n12_ n13_ n14_
          (try clear hb)
          (try clear hb2)
          (try clear hk)
          (try clear hi)
          (try clear ho0)
          (try clear ho1)
          obtain ⟨Ao190, co190, eo190⟩ := Kd.R_slice HO219.out
          (first | subst eo190 | (injection eo190 with f1_ f2_ f3_; have f4_ := f1_.symm; have f5_ := f3_.symm; clear f1_ f2_ f3_; subst f4_; subst f5_))
          obtain ⟨Ao191, co191, eo191⟩ := Kd.S_slice HO222.out
          (first | subst eo191 | (injection eo191 with f1_ f2_ f3_; have f4_ := f1_.symm; have f5_ := f3_.symm; clear f1_ f2_ f3_; subst f4_; subst f5_))
          refine hK.out _ _ ⟨(blk_cell BK208.out 0).trans rfl, (blk_cell BK208.out 1).trans rfl, (blk_cell BK185.out 0).trans rfl, (blk_cell BK185.out 1).trans rfl⟩ (fun hHeld => ?_)
          clear hK K
          refine norm_ (a' := ?_) ?_ ?_
          rotate_left
          · show Act.put _ (some 37) _ = _
            simp only [Act.put, List.setIfInBounds_toArray, List.set_cons_zero, List.set_cons_succ, i64_w, i32_w]
            rfl
          refine one_ (i := 3) (N := some 38) #[true, true, true, true, false] rfl rfl (by kernel_rfl) (by decide) (fun K hK => ?_)
          refine goes_ Try.func8 (by kernel_rfl) rfl #[.agg #[.slice Ao172 t202.length co172, .slice Ao176 t205.length co176], .agg #[.slice Ao190 t217.length co190, .slice Ao191 t220.length co191]] (by rfl) rfl rfl (by (try simp only [List.map_toArray, List.map_cons, List.map_nil]); first | done | rfl | (simp only [List.length_drop, List.length_take]; rfl)) ?_
          with_reducible refine (laws_eqShape.calls k _ _ t202 _ _ t205 _ _ t217 _ _ t220 false _ ?side1 ?side2 ?side3 ?side4 ?side5 ?side6 ?side7 ?side8 A61.out).mono ?_
          (case side1 => repeat (first | exact (Kd.R_reads' HO204.out).2.2 | (with_reducible refine Kd.C_alloc ?_ _) | (with_reducible refine Kd.C_drewN ?_ _) | (with_reducible refine Kd.C_drew ?_)))
          (case side2 => exact (Kd.R_reads' HO204.out).2.1)
          (case side3 => repeat (first | exact (Kd.S_reads' HO207.out).2.2 | (with_reducible refine Kd.C_alloc ?_ _) | (with_reducible refine Kd.C_drewN ?_ _) | (with_reducible refine Kd.C_drew ?_)))
          (case side4 => exact (Kd.S_reads' HO207.out).2.1)
          (case side5 => repeat (first | exact (Kd.R_reads' HO219.out).2.2 | (with_reducible refine Kd.C_alloc ?_ _) | (with_reducible refine Kd.C_drewN ?_ _) | (with_reducible refine Kd.C_drew ?_)))
          (case side6 => exact (Kd.R_reads' HO219.out).2.1)
          (case side7 => repeat (first | exact (Kd.S_reads' HO222.out).2.2 | (with_reducible refine Kd.C_alloc ?_ _) | (with_reducible refine Kd.C_drewN ?_ _) | (with_reducible refine Kd.C_drew ?_)))
          (case side8 => exact (Kd.S_reads' HO222.out).2.1)
          rintro e w192 ⟨rfl, hb⟩
          refine ⟨_, rfl, ?_⟩
          have n0_ := Aside0.mk (Kd.R_below (by exact HO191.out) hb)
          have n1_ := Aside0.mk (Kd.S_below (by exact HO194.out) hb)
          have n2_ := Aside0.mk (Kd.R_below (by exact HO197.out) hb)
          have n3_ := Aside0.mk (Kd.S_below (by exact HO200.out) hb)
          have n4_ := Aside0.mk (Kd.R_below (by exact HO204.out) hb)
          have n5_ := Aside0.mk (Kd.S_below (by exact HO207.out) hb)
          have n6_ := Aside0.mk (Kd.R_below (by exact HO211.out) hb)
          have n7_ := Aside0.mk (Kd.S_below (by exact HO214.out) hb)
          have n8_ := Aside0.mk (Kd.R_below (by exact HO219.out) hb)
          have n9_ := Aside0.mk (Kd.S_below (by exact HO222.out) hb)
          have n10_ := Aside0.mk (blk_below (g := gb185) (o := .cells #[.slice A0_0 l0_0.length c0_0, .slice A0_1 l0_1.length c0_1] 25 (0, 0)) (by exact BK185.out) hb)
          have n11_ := Aside0.mk (blk_below (g := gb186) (o := .cells #[.slice A1_0 l1_0.length c1_0, .slice A1_1 l1_1.length c1_1] 25 (0, 0)) (by exact BK186.out) hb)
          have n12_ := Aside0.mk (blk_below (g := gb208) (o := .cells #[.slice Ao172 t202.length co172, .slice Ao176 t205.length co176] 31 (0, 0)) (by exact BK208.out) hb)
          have n13_ := Aside0.mk (blk_below (g := gb215) (o := .cells #[.slice Ao180 t209.length co180, .slice Ao185 t212.length co185] 31 (0, 0)) (by exact BK215.out) hb)
          have n14_ := Aside0.mk (below_step (by repeat (first | (with_reducible first | exact HB.out | refine below_set ?_ GE185.out | refine below_set ?_ GE186.out | refine below_set ?_ GE208.out | refine below_set ?_ GE215.out) | exact HB.out)) hb)
          clear HO191
          clear HO194
          clear HO197
          clear HO200
          clear HO204
          clear HO207
          clear HO211
          clear HO214
          clear HO219
          clear HO222
          clear BK185
          clear BK186
          clear BK208
          clear BK215
          clear HB
          have HO191 := n0_
          have HO194 := n1_
          have HO197 := n2_
          have HO200 := n3_
          have HO204 := n4_
          have HO207 := n5_
          have HO211 := n6_
          have HO214 := n7_
          have HO219 := n8_
          have HO222 := n9_
          have BK185 := n10_
          have BK186 := n11_
          have BK208 := n12_
          have BK215 := n13_
          have HB := n14_
          clear n0_ n1_ n2_ n3_ n4_ n5_ n6_ n7_ n8_ n9_ n10_ n11_ n12_ n13_ n14_
          (try clear hb)
          (try clear hb2)
          (try clear hk)
          (try clear hi)
          refine hK.out _ _ ⟨(blk_cell BK208.out 0).trans rfl, (blk_cell BK208.out 1).trans rfl, (blk_cell BK185.out 0).trans rfl, (blk_cell BK185.out 1).trans rfl⟩ (fun hHeld => ?_)
          clear hK K
          refine norm_ (a' := ?_) ?_ ?_
          rotate_left
          · show Act.put _ (some 38) _ = _
            simp only [Act.put, List.setIfInBounds_toArray, List.set_cons_zero, List.set_cons_succ, i64_w, i32_w]
            rfl
          refine pure_ (i := 4) (N := some 39) (v := ?_) (a' := ?_) #[true, true, true, true, true] rfl rfl (by kernel_rfl) (fun _ _ _ h => h) (Or.inl ⟨by rfl, ?_⟩) ?_ ?_
          rotate_left
          · intro w'
            go_simp
            with_reducible rfl
          rotate_left
          · simp only [Act.put, List.setIfInBounds_toArray, List.set_cons_zero, List.set_cons_succ, i64_w, i32_w]
            rfl
          refine done_ (by kernel_rfl) ?_
          try go_wp2
          go_ret
          exact ⟨by first | rfl | (simp [errW_none, errW_some] <;> rfl) | (simp [*, errW_none, errW_some] <;> rfl), by repeat (first | (with_reducible first | exact HB.out | refine below_set ?_ GE185.out | refine below_set ?_ GE186.out | refine below_set ?_ GE208.out | refine below_set ?_ GE215.out) | exact HB.out)⟩

end Go.Proofs.Ytnmpedbamhhbgaa.PFnExactShapeSame
