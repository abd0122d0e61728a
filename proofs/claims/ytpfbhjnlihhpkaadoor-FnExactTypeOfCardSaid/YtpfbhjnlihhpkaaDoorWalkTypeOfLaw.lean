/- TypeOf: the law's own function. -/
import Derived.Test.YtpfbhjnlihhpkaaDoorWalkTypeOf
namespace Go.Proofs.YtpfbhjnlihhpkaaDoor.TypeOf
open Go Go.RowKit Go.Proofs.YtpfbhjnlihhpkaaDoor.PFnExactTypeOf Go.Proofs.YtpfbhjnlihhpkaaDoorW.PrintWords Go.Proofs.YtpfbhjnlihhpkaaDoorW.PrintLast Go.Proofs.YtpfbhjnlihhpkaaDoorW.PrintMore
set_option linter.unusedVariables false
set_option linter.unusedSimpArgs false
set_option maxHeartbeats 8000000 in
set_option maxRecDepth 100000 in
theorem law (a b : Int) (w : World) (hT : TabAt w) : Calls Tryd.prog 3 #[.agg #[.int .i64 a, .int .i64 b]] w fun e w' => e = .returned (.bool true) ∧ Below w.heap.size w w' := by
  have hu23 := Tryd.underlying23
  obtain ⟨r, hr⟩ : ∃ r, spec_TypeOf.f 3 a b = some r := (impl_TypeOf a b w hT).elim fun r h => ⟨r, h.1⟩
  have ci : ∀ w', TabAt w' → Calls Tryd.prog 6 #[.agg #[.int .i64 a, .int .i64 b]] w' fun e w2 => e = .returned (.string r) ∧ Below w'.heap.size w' w2 := by
    intro w' h'
    obtain ⟨r', h1, h2⟩ := impl_TypeOf a b w' h'
    obtain rfl := Option.some.inj (h1.symm.trans hr)
    exact h2
  have HB := Aside0.mk (Below.refl w.heap.size w)
  have HT := Aside0.mk hT
  have CI := Aside0.mk ci
  have HR := Aside0.mk hr
  clear hT ci hr
  go_enter Tryd.func3, Tryd.ntmps3
  go_wp2_with (first | ((with_reducible refine gate_dst (N := 1) rfl ?_); refine box_event ?hg (N := 1) ?hd (cs := #[.int .i64 a, .int .i64 b]) (t := 23) ?hr ?_; (case hd => rfl); (case hg => rfl); (case hr => first | (go_simp; done) | (go_simp; rfl)); intro gb hg w5 hbox hb; have n0_ := Aside0.mk (below_step (by repeat (first | (with_reducible first | exact HB.out | apply below_alloc | apply pw_below_drewN | apply below_drew1) | exact HB.out)) hb); have n1_ := Aside0.mk (hbox); have n2_ := Aside0.mk ((by rw [hg]; exact (below_size (by repeat (first | (with_reducible first | exact HB.out | apply below_alloc | apply pw_below_drewN | apply below_drew1) | exact HB.out))) : w.heap.size ≤ gb)); clear HB; have HB := n0_; have BK := n1_; have GE := n2_; clear n0_ n1_ n2_; clear hb hbox hg; have hcz6_0 : w5.cell? ⟨gb, 0, none⟩ = some (.int .i64 a) := (blk_cell BK.out 0).trans rfl; have hcz6_1 : w5.cell? ⟨gb, 1, none⟩ = some (.int .i64 b) := (blk_cell BK.out 1).trans rfl; have hfz6_0 := blk_frozen BK.out 0; have hfz6_1 := blk_frozen BK.out 1) | (go_at_call 5; (with_reducible refine (laws_toVal.calls a b a b _ rfl).mono ?_); rintro e w6 ⟨rfl, hb⟩; have n0_ := Aside0.mk (blk_below (g := gb) (o := .cells #[.int .i64 a, .int .i64 b] 23 (0, 0)) (by (with_reducible repeat (first | refine blk_drewN ?_ _ | refine blk_drew ?_ | refine blk_alloc ?_ _)); exact BK.out) hb); have n1_ := Aside0.mk (below_step (by repeat (first | (with_reducible first | exact HB.out | apply below_alloc | apply pw_below_drewN | apply below_drew1) | exact HB.out)) hb); clear BK; clear HB; have BK := n0_; have HB := n1_; clear n0_ n1_; clear hb; have hcq_0 := (blk_cell BK.out 0).trans (rfl : _ = some (Value.int .i64 a)); have hcq_1 := (blk_cell BK.out 1).trans (rfl : _ = some (Value.int .i64 b)); have hfq_0 := blk_frozen BK.out 0; have hfq_1 := blk_frozen BK.out 1) | (go_at_call 4; (with_reducible refine (spec_TypeOf.calls 3 a b r _ HR.out).mono ?_); rintro e w7 ⟨rfl, hb⟩; have n0_ := Aside0.mk (blk_below (g := gb) (o := .cells #[.int .i64 a, .int .i64 b] 23 (0, 0)) (by (with_reducible repeat (first | refine blk_drewN ?_ _ | refine blk_drew ?_ | refine blk_alloc ?_ _)); exact BK.out) hb); have n1_ := Aside0.mk (below_step (by repeat (first | (with_reducible first | exact HB.out | apply below_alloc | apply pw_below_drewN | apply below_drew1) | exact HB.out)) hb); clear BK; clear HB; have BK := n0_; have HB := n1_; clear n0_ n1_; clear hb; have hcq_0 := (blk_cell BK.out 0).trans (rfl : _ = some (Value.int .i64 a)); have hcq_1 := (blk_cell BK.out 1).trans (rfl : _ = some (Value.int .i64 b)); have hfq_0 := blk_frozen BK.out 0; have hfq_1 := blk_frozen BK.out 1) | (go_at_call 6; (refine (CI.out _ (TabAt.below HT.out ?side1)).mono ?_); (case side1 => repeat (first | (with_reducible first | exact HB.out | apply below_alloc | apply pw_below_drewN | apply below_drew1) | exact HB.out)); rintro e w8 ⟨rfl, hb⟩; have n0_ := Aside0.mk (blk_below (g := gb) (o := .cells #[.int .i64 a, .int .i64 b] 23 (0, 0)) (by (with_reducible repeat (first | refine blk_drewN ?_ _ | refine blk_drew ?_ | refine blk_alloc ?_ _)); exact BK.out) hb); have n1_ := Aside0.mk (below_step (by repeat (first | (with_reducible first | exact HB.out | apply below_alloc | apply pw_below_drewN | apply below_drew1) | exact HB.out)) hb); clear BK; clear HB; have BK := n0_; have HB := n1_; clear n0_ n1_; clear hb; have hcq_0 := (blk_cell BK.out 0).trans (rfl : _ = some (Value.int .i64 a)); have hcq_1 := (blk_cell BK.out 1).trans (rfl : _ = some (Value.int .i64 b)); have hfq_0 := blk_frozen BK.out 0; have hfq_1 := blk_frozen BK.out 1))
  go_ret
  exact ⟨rfl, by repeat (first | (with_reducible first | exact HB.out | apply below_alloc | apply pw_below_drewN | apply below_drew1) | exact HB.out)⟩
end Go.Proofs.YtpfbhjnlihhpkaaDoor.TypeOf
