-- PRINTED BY print.sh 35421559b90ae4d0a3588c463048766b98c2df88dd9212a6774a882060cdf62d: not written by this session
import Derived.Test.YtpfbhjnlihhpkaaPFnExactNewArenax0
import Derived.Test.YtpfbhjnlihhpkaaPFnExactNewArenax1
import Derived.Test.YtpfbhjnlihhpkaaPFnExactNewArenax2
import Derived.Test.YtpfbhjnlihhpkaaPFnExactNewArenax3
namespace Go.Proofs.Ytpfbhjnlihhpkaa.PFnExactNewArena
open Go.RowKit Go.Proofs.YtpfbhjnlihhpkaaW.PrintWords Go.Proofs.YtpfbhjnlihhpkaaW.PrintLast Go.Proofs.YtpfbhjnlihhpkaaW.PrintMore
attribute [local go_sem] max2_int min2_int max_two min_two max_three min_three max_four min_four   -- for this text's walks alone
set_option linter.unusedVariables false
set_option linter.unusedSimpArgs false

/-! ### laws_FnExactNewArena: function 3 -/
mutual
def laws_FnExactNewArena.j0 : Nat → Int → Int → Bool → Bool → List Int → Int → Int → Int → Bool → Int → Int → Int → Int → List (S44) → List Int → Int → Int → Int → Bool → Int → Int → Int → Int → List (S44) → Option (Bool)
  | 0, _, _, _, _, _, _, _, _, _, _, _, _, _, _, _, _, _, _, _, _, _, _, _, _ => none
  | k + 1, x0, x1, x6, x33, x160000, x160001, x160002, x160003, x160004, x160005, x160006, x160007, x160008, x160009, x176000, x176001, x176002, x176003, x176004, x176005, x176006, x176007, x176008, x176009 => if x33 = true then (some false) else ((laws_markArena.f k x176000 x176001 x176002 x176003 x176004 x176005 x176006 x176007 x176008 x176009 1).bind fun bt177 => ((laws_heldArena.f k bt177.2.1 x176001 x176002 x176003 x176004 x176005 x176006 x176007 x176008 bt177.2.2 1).bind fun t180 => (if t180 < 0 then (some false) else (if t180 = bt177.1 then ((impl_NewArena.f x0 x1).bind fun bt181 => ((laws_eqArena.f k bt181.1 bt181.2.1 bt181.2.2.1 bt181.2.2.2.1 bt181.2.2.2.2.1 bt181.2.2.2.2.2.1 bt181.2.2.2.2.2.2.1 bt181.2.2.2.2.2.2.2.1 bt181.2.2.2.2.2.2.2.2.1 bt181.2.2.2.2.2.2.2.2.2.1 x160000 x160001 x160002 x160003 x160004 x160005 x160006 x160007 x160008 x160009).bind fun t197 => (if t197 = true then (laws_FnExactNewArena.j1 k bt177.1 (bt181.2.2.2.2.2.2.2.2.2.2 != x6) bt177.2.1 x176001 x176002 x176003 x176004 x176005 x176006 x176007 x176008 bt177.2.2) else (laws_FnExactNewArena.j1 k bt177.1 true bt177.2.1 x176001 x176002 x176003 x176004 x176005 x176006 x176007 x176008 bt177.2.2)))) else (some false)))))
def laws_FnExactNewArena.j1 : Nat → Int → Bool → List Int → Int → Int → Int → Bool → Int → Int → Int → Int → List (S44) → Option (Bool)
  | 0, _, _, _, _, _, _, _, _, _, _, _, _ => none
  | k + 1, x9, x59, x176000, x176001, x176002, x176003, x176004, x176005, x176006, x176007, x176008, x176009 => if x59 = true then (some false) else ((laws_heldArena.f k x176000 x176001 x176002 x176003 x176004 x176005 x176006 x176007 x176008 x176009 1).bind fun t198 => (if t198 < 0 then (some false) else (if t198 = x9 then (some true) else (some false))))
end
def laws_FnExactNewArena.f (k : Nat) (a0 : Int) (a1 : Int) : Option (Bool) := (spec_NewArena.f a0 a1).bind fun bt144 => ((impl_NewArena.f a0 a1).bind fun bt160 => ((laws_eqArena.f k bt160.1 bt160.2.1 bt160.2.2.1 bt160.2.2.2.1 bt160.2.2.2.2.1 bt160.2.2.2.2.2.1 bt160.2.2.2.2.2.2.1 bt160.2.2.2.2.2.2.2.1 bt160.2.2.2.2.2.2.2.2.1 bt160.2.2.2.2.2.2.2.2.2.1 bt144.1 bt144.2.1 bt144.2.2.1 bt144.2.2.2.1 bt144.2.2.2.2.1 bt144.2.2.2.2.2.1 bt144.2.2.2.2.2.2.1 bt144.2.2.2.2.2.2.2.1 bt144.2.2.2.2.2.2.2.2.1 bt144.2.2.2.2.2.2.2.2.2.1).bind fun t176 => (if t176 = true then (laws_FnExactNewArena.j0 k a0 a1 bt144.2.2.2.2.2.2.2.2.2.2 (bt160.2.2.2.2.2.2.2.2.2.2 != bt144.2.2.2.2.2.2.2.2.2.2) bt144.1 bt144.2.1 bt144.2.2.1 bt144.2.2.2.1 bt144.2.2.2.2.1 bt144.2.2.2.2.2.1 bt144.2.2.2.2.2.2.1 bt144.2.2.2.2.2.2.2.1 bt144.2.2.2.2.2.2.2.2.1 bt144.2.2.2.2.2.2.2.2.2.1 bt160.1 bt160.2.1 bt160.2.2.1 bt160.2.2.2.1 bt160.2.2.2.2.1 bt160.2.2.2.2.2.1 bt160.2.2.2.2.2.2.1 bt160.2.2.2.2.2.2.2.1 bt160.2.2.2.2.2.2.2.2.1 bt160.2.2.2.2.2.2.2.2.2.1) else (laws_FnExactNewArena.j0 k a0 a1 bt144.2.2.2.2.2.2.2.2.2.2 true bt144.1 bt144.2.1 bt144.2.2.1 bt144.2.2.2.1 bt144.2.2.2.2.1 bt144.2.2.2.2.2.1 bt144.2.2.2.2.2.2.1 bt144.2.2.2.2.2.2.2.1 bt144.2.2.2.2.2.2.2.2.1 bt144.2.2.2.2.2.2.2.2.2.1 bt160.1 bt160.2.1 bt160.2.2.1 bt160.2.2.2.1 bt160.2.2.2.2.1 bt160.2.2.2.2.2.1 bt160.2.2.2.2.2.2.1 bt160.2.2.2.2.2.2.2.1 bt160.2.2.2.2.2.2.2.2.1 bt160.2.2.2.2.2.2.2.2.2.1))))
theorem laws_FnExactNewArena.mono_l : ∀ k, (∀ y0 y1 y2 y3 y4 y5 y6 y7 y8 y9 y10 y11 y12 y13 y14 y15 y16 y17 y18 y19 y20 y21 y22 y23, LeO (laws_FnExactNewArena.j0 k y0 y1 y2 y3 y4 y5 y6 y7 y8 y9 y10 y11 y12 y13 y14 y15 y16 y17 y18 y19 y20 y21 y22 y23) (laws_FnExactNewArena.j0 (k + 1) y0 y1 y2 y3 y4 y5 y6 y7 y8 y9 y10 y11 y12 y13 y14 y15 y16 y17 y18 y19 y20 y21 y22 y23)) ∧ (∀ y0 y1 y2 y3 y4 y5 y6 y7 y8 y9 y10 y11, LeO (laws_FnExactNewArena.j1 k y0 y1 y2 y3 y4 y5 y6 y7 y8 y9 y10 y11) (laws_FnExactNewArena.j1 (k + 1) y0 y1 y2 y3 y4 y5 y6 y7 y8 y9 y10 y11))
  | 0 => ⟨fun _ _ _ _ _ _ _ _ _ _ _ _ _ _ _ _ _ _ _ _ _ _ _ _ r h => by simp [laws_FnExactNewArena.j0] at h, fun _ _ _ _ _ _ _ _ _ _ _ _ r h => by simp [laws_FnExactNewArena.j1] at h⟩
  | k + 1 => by
    obtain ⟨ih0, ih1⟩ := laws_FnExactNewArena.mono_l k
    refine ⟨?_, ?_⟩
    · intro y0 y1 y2 y3 y4 y5 y6 y7 y8 y9 y10 y11 y12 y13 y14 y15 y16 y17 y18 y19 y20 y21 y22 y23
      unfold laws_FnExactNewArena.j0
      repeat' first
      | (with_reducible exact ih0 _ _ _ _ _ _ _ _ _ _ _ _ _ _ _ _ _ _ _ _ _ _ _ _)
      | (with_reducible exact ih1 _ _ _ _ _ _ _ _ _ _ _ _)
      | (with_reducible exact laws_eqArena.mono _ _ _ _ _ _ _ _ _ _ _ _ _ _ _ _ _ _ _ _ _)
      | (with_reducible exact laws_heldArena.mono _ _ _ _ _ _ _ _ _ _ _ _)
      | (with_reducible exact laws_markArena.mono _ _ _ _ _ _ _ _ _ _ _ _)
      | (with_reducible exact LeO.refl _)
      | (with_reducible exact LeO.none _)
      | (with_reducible refine LeO.ite ?_ ?_)
      | (with_reducible refine LeO.bind ?_ (fun _ => ?_))
      | exact ih0 _ _ _ _ _ _ _ _ _ _ _ _ _ _ _ _ _ _ _ _ _ _ _ _
      | exact ih1 _ _ _ _ _ _ _ _ _ _ _ _
      | exact laws_eqArena.mono _ _ _ _ _ _ _ _ _ _ _ _ _ _ _ _ _ _ _ _ _
      | exact laws_heldArena.mono _ _ _ _ _ _ _ _ _ _ _ _
      | exact laws_markArena.mono _ _ _ _ _ _ _ _ _ _ _ _
      | exact LeO.none _
      | refine LeO.ite ?_ ?_
      | refine LeO.bind ?_ (fun _ => ?_)
    · intro y0 y1 y2 y3 y4 y5 y6 y7 y8 y9 y10 y11
      unfold laws_FnExactNewArena.j1
      repeat' first
      | (with_reducible exact ih0 _ _ _ _ _ _ _ _ _ _ _ _ _ _ _ _ _ _ _ _ _ _ _ _)
      | (with_reducible exact ih1 _ _ _ _ _ _ _ _ _ _ _ _)
      | (with_reducible exact laws_eqArena.mono _ _ _ _ _ _ _ _ _ _ _ _ _ _ _ _ _ _ _ _ _)
      | (with_reducible exact laws_heldArena.mono _ _ _ _ _ _ _ _ _ _ _ _)
      | (with_reducible exact laws_markArena.mono _ _ _ _ _ _ _ _ _ _ _ _)
      | (with_reducible exact LeO.refl _)
      | (with_reducible exact LeO.none _)
      | (with_reducible refine LeO.ite ?_ ?_)
      | (with_reducible refine LeO.bind ?_ (fun _ => ?_))
      | exact ih0 _ _ _ _ _ _ _ _ _ _ _ _ _ _ _ _ _ _ _ _ _ _ _ _
      | exact ih1 _ _ _ _ _ _ _ _ _ _ _ _
      | exact laws_eqArena.mono _ _ _ _ _ _ _ _ _ _ _ _ _ _ _ _ _ _ _ _ _
      | exact laws_heldArena.mono _ _ _ _ _ _ _ _ _ _ _ _
      | exact laws_markArena.mono _ _ _ _ _ _ _ _ _ _ _ _
      | exact LeO.none _
      | refine LeO.ite ?_ ?_
      | refine LeO.bind ?_ (fun _ => ?_)
theorem laws_FnExactNewArena.mono : ∀ a0 a1 k, LeO (laws_FnExactNewArena.f k a0 a1) (laws_FnExactNewArena.f (k + 1) a0 a1) := by
  intro a0 a1 k
  obtain ⟨ih0, ih1⟩ := laws_FnExactNewArena.mono_l k
  unfold laws_FnExactNewArena.f
  repeat' first
      | (with_reducible exact ih0 _ _ _ _ _ _ _ _ _ _ _ _ _ _ _ _ _ _ _ _ _ _ _ _)
      | (with_reducible exact ih1 _ _ _ _ _ _ _ _ _ _ _ _)
      | (with_reducible exact laws_eqArena.mono _ _ _ _ _ _ _ _ _ _ _ _ _ _ _ _ _ _ _ _ _)
      | (with_reducible exact laws_heldArena.mono _ _ _ _ _ _ _ _ _ _ _ _)
      | (with_reducible exact laws_markArena.mono _ _ _ _ _ _ _ _ _ _ _ _)
      | (with_reducible exact LeO.refl _)
      | (with_reducible exact LeO.none _)
      | (with_reducible refine LeO.ite ?_ ?_)
      | (with_reducible refine LeO.bind ?_ (fun _ => ?_))
      | exact ih0 _ _ _ _ _ _ _ _ _ _ _ _ _ _ _ _ _ _ _ _ _ _ _ _
      | exact ih1 _ _ _ _ _ _ _ _ _ _ _ _
      | exact laws_eqArena.mono _ _ _ _ _ _ _ _ _ _ _ _ _ _ _ _ _ _ _ _ _
      | exact laws_heldArena.mono _ _ _ _ _ _ _ _ _ _ _ _
      | exact laws_markArena.mono _ _ _ _ _ _ _ _ _ _ _ _
      | exact LeO.none _
      | refine LeO.ite ?_ ?_
      | refine LeO.bind ?_ (fun _ => ?_)
set_option maxHeartbeats 8000000 in
set_option maxRecDepth 100000 in
theorem laws_FnExactNewArena.calls (k : Nat) (a0 : Int) (a1 : Int) (r : Bool) (w : World) (h : laws_FnExactNewArena.f k a0 a1 = some r) :
    Calls Try.prog 3 #[.int .i64 a0, .int .i64 a1] w fun e w' => e = .returned (.bool r) ∧ Below w.heap.size w w' := by
  have hu25 := Try.underlying25
  have HB := Aside0.mk (Below.refl w.heap.size w)
  have H : ((spec_NewArena.f a0 a1).bind fun bt144 => ((impl_NewArena.f a0 a1).bind fun bt160 => ((laws_eqArena.f k bt160.1 bt160.2.1 bt160.2.2.1 bt160.2.2.2.1 bt160.2.2.2.2.1 bt160.2.2.2.2.2.1 bt160.2.2.2.2.2.2.1 bt160.2.2.2.2.2.2.2.1 bt160.2.2.2.2.2.2.2.2.1 bt160.2.2.2.2.2.2.2.2.2.1 bt144.1 bt144.2.1 bt144.2.2.1 bt144.2.2.2.1 bt144.2.2.2.2.1 bt144.2.2.2.2.2.1 bt144.2.2.2.2.2.2.1 bt144.2.2.2.2.2.2.2.1 bt144.2.2.2.2.2.2.2.2.1 bt144.2.2.2.2.2.2.2.2.2.1).bind fun t176 => (if t176 = true then (laws_FnExactNewArena.j0 k a0 a1 bt144.2.2.2.2.2.2.2.2.2.2 (bt160.2.2.2.2.2.2.2.2.2.2 != bt144.2.2.2.2.2.2.2.2.2.2) bt144.1 bt144.2.1 bt144.2.2.1 bt144.2.2.2.1 bt144.2.2.2.2.1 bt144.2.2.2.2.2.1 bt144.2.2.2.2.2.2.1 bt144.2.2.2.2.2.2.2.1 bt144.2.2.2.2.2.2.2.2.1 bt144.2.2.2.2.2.2.2.2.2.1 bt160.1 bt160.2.1 bt160.2.2.1 bt160.2.2.2.1 bt160.2.2.2.2.1 bt160.2.2.2.2.2.1 bt160.2.2.2.2.2.2.1 bt160.2.2.2.2.2.2.2.1 bt160.2.2.2.2.2.2.2.2.1 bt160.2.2.2.2.2.2.2.2.2.1) else (laws_FnExactNewArena.j0 k a0 a1 bt144.2.2.2.2.2.2.2.2.2.2 true bt144.1 bt144.2.1 bt144.2.2.1 bt144.2.2.2.1 bt144.2.2.2.2.1 bt144.2.2.2.2.2.1 bt144.2.2.2.2.2.2.1 bt144.2.2.2.2.2.2.2.1 bt144.2.2.2.2.2.2.2.2.1 bt144.2.2.2.2.2.2.2.2.2.1 bt160.1 bt160.2.1 bt160.2.2.1 bt160.2.2.2.1 bt160.2.2.2.2.1 bt160.2.2.2.2.2.1 bt160.2.2.2.2.2.2.1 bt160.2.2.2.2.2.2.2.1 bt160.2.2.2.2.2.2.2.2.1 bt160.2.2.2.2.2.2.2.2.2.1))))) = some r := h
  clear h
  replace H := Option.bind_eq_some_iff.mp H
  obtain ⟨⟨t144, t147, t148, t149, t150, t151, t152, t153, t154, t155, t158⟩, A30, H⟩ := H
  replace H : ((impl_NewArena.f a0 a1).bind fun bt160 => ((laws_eqArena.f k bt160.1 bt160.2.1 bt160.2.2.1 bt160.2.2.2.1 bt160.2.2.2.2.1 bt160.2.2.2.2.2.1 bt160.2.2.2.2.2.2.1 bt160.2.2.2.2.2.2.2.1 bt160.2.2.2.2.2.2.2.2.1 bt160.2.2.2.2.2.2.2.2.2.1 t144 t147 t148 t149 t150 t151 t152 t153 t154 t155).bind fun t176 => (if t176 = true then (laws_FnExactNewArena.j0 k a0 a1 t158 (bt160.2.2.2.2.2.2.2.2.2.2 != t158) t144 t147 t148 t149 t150 t151 t152 t153 t154 t155 bt160.1 bt160.2.1 bt160.2.2.1 bt160.2.2.2.1 bt160.2.2.2.2.1 bt160.2.2.2.2.2.1 bt160.2.2.2.2.2.2.1 bt160.2.2.2.2.2.2.2.1 bt160.2.2.2.2.2.2.2.2.1 bt160.2.2.2.2.2.2.2.2.2.1) else (laws_FnExactNewArena.j0 k a0 a1 t158 true t144 t147 t148 t149 t150 t151 t152 t153 t154 t155 bt160.1 bt160.2.1 bt160.2.2.1 bt160.2.2.2.1 bt160.2.2.2.2.1 bt160.2.2.2.2.2.1 bt160.2.2.2.2.2.2.1 bt160.2.2.2.2.2.2.2.1 bt160.2.2.2.2.2.2.2.2.1 bt160.2.2.2.2.2.2.2.2.2.1)))) = some r := H
  have A3 := Aside0.mk A30
  clear A30
  replace H := Option.bind_eq_some_iff.mp H
  obtain ⟨⟨t160, t163, t164, t165, t166, t167, t168, t169, t170, t171, t174⟩, A40, H⟩ := H
  replace H : ((laws_eqArena.f k t160 t163 t164 t165 t166 t167 t168 t169 t170 t171 t144 t147 t148 t149 t150 t151 t152 t153 t154 t155).bind fun t176 => (if t176 = true then (laws_FnExactNewArena.j0 k a0 a1 t158 (t174 != t158) t144 t147 t148 t149 t150 t151 t152 t153 t154 t155 t160 t163 t164 t165 t166 t167 t168 t169 t170 t171) else (laws_FnExactNewArena.j0 k a0 a1 t158 true t144 t147 t148 t149 t150 t151 t152 t153 t154 t155 t160 t163 t164 t165 t166 t167 t168 t169 t170 t171))) = some r := H
  have A4 := Aside0.mk A40
  clear A40
  have HC5 := Aside0.mk H
  clear H
  go_enter Try.func3, Try.ntmps3
  go_upto_region 3 with (first | ((with_reducible refine gate_callee (f := 10) rfl ?_); refine goesL_ (some 16) rfl rfl Try.func10 (by kernel_rfl) rfl #[.int .i64 a0, .int .i64 a1] rfl (by (try simp only [List.map_toArray, List.map_cons, List.map_nil]); first | done | rfl | (simp only [List.length_drop, List.length_take]; rfl)) ?_; (with_reducible refine (spec_NewArena.calls a0 a1 t144 t147 t148 t149 t150 t151 t152 t153 t154 t155 t158 _ A3.out).mono ?_); rintro e w6 ⟨v145, v156, rfl, ho0, ho1, hb⟩; refine ⟨_, rfl, ?_⟩; have n0_ := Aside0.mk (Kd.R_lower ho0 (below_size (by repeat (first | (with_reducible first | exact HB.out | apply below_alloc | apply pw_below_drewN | apply below_drew1) | exact HB.out)))); have n1_ := Aside0.mk (Kd.R_lower ho1 (below_size (by repeat (first | (with_reducible first | exact HB.out | apply below_alloc | apply pw_below_drewN | apply below_drew1) | exact HB.out)))); have n2_ := Aside0.mk (below_step (by repeat (first | (with_reducible first | exact HB.out | apply below_alloc | apply pw_below_drewN | apply below_drew1) | exact HB.out)) hb); clear HB; have HO146 := n0_; have HO157 := n1_; have HB := n2_; clear n0_ n1_ n2_; (try clear hb); (try clear hb2); (try clear hk); (try clear hi); (try clear ho0); (try clear ho1)) | ((with_reducible refine gate_dst (N := 5) rfl ?_); refine box_event ?hg (N := 5) ?hd (cs := #[.slice none 0 0, .int .i64 0, .int .i64 0, .int .i64 0, .bool false, .int .i64 0, .int .i64 0, .int .i64 0, .int .i64 0, .slice none 0 0]) (t := 25) ?hr ?_; (case hd => rfl); (case hg => rfl); (case hr => first | (go_simp; done) | (go_simp; rfl)); intro gb159 hg w7 hbox hb; have n0_ := Aside0.mk (Kd.R_below (by (with_reducible repeat (first | apply Kd.R_alloc | apply Kd.R_drewN | apply Kd.R_drew)); exact HO146.out) hb); have n1_ := Aside0.mk (Kd.R_below (by (with_reducible repeat (first | apply Kd.R_alloc | apply Kd.R_drewN | apply Kd.R_drew)); exact HO157.out) hb); have n2_ := Aside0.mk (below_step (by repeat (first | (with_reducible first | exact HB.out | apply below_alloc | apply pw_below_drewN | apply below_drew1) | exact HB.out)) hb); have n3_ := Aside0.mk (hbox); have n4_ := Aside0.mk ((by rw [hg]; exact (below_size (by repeat (first | (with_reducible first | exact HB.out | apply below_alloc | apply pw_below_drewN | apply below_drew1) | exact HB.out))) : w.heap.size ≤ gb159)); have n5_ := Aside0.mk ((by rw [hg]; exact (below_size (by repeat (first | (with_reducible first | exact HB.out | apply below_alloc | apply pw_below_drewN | apply below_drew1) | exact HB.out))) : w.heap.size ≤ gb159)); clear HO146; clear HO157; clear HB; have HO146 := n0_; have HO157 := n1_; have HB := n2_; have BK159 := n3_; have GW159 := n4_; have GE159 := n5_; clear n0_ n1_ n2_ n3_ n4_ n5_; clear hb hbox hg; obtain ⟨Ao8, co8, eo8⟩ := Kd.R_slice HO146.out; subst eo8; have hcz9_0 : w7.cell? ⟨gb159, 0, none⟩ = some (.slice none 0 0) := (blk_cell BK159.out 0).trans rfl; have hcz9_1 : w7.cell? ⟨gb159, 1, none⟩ = some (.int .i64 0) := (blk_cell BK159.out 1).trans rfl; have hcz9_2 : w7.cell? ⟨gb159, 2, none⟩ = some (.int .i64 0) := (blk_cell BK159.out 2).trans rfl; have hcz9_3 : w7.cell? ⟨gb159, 3, none⟩ = some (.int .i64 0) := (blk_cell BK159.out 3).trans rfl; have hcz9_4 : w7.cell? ⟨gb159, 4, none⟩ = some (.bool false) := (blk_cell BK159.out 4).trans rfl; have hcz9_5 : w7.cell? ⟨gb159, 5, none⟩ = some (.int .i64 0) := (blk_cell BK159.out 5).trans rfl; have hcz9_6 : w7.cell? ⟨gb159, 6, none⟩ = some (.int .i64 0) := (blk_cell BK159.out 6).trans rfl; have hcz9_7 : w7.cell? ⟨gb159, 7, none⟩ = some (.int .i64 0) := (blk_cell BK159.out 7).trans rfl; have hcz9_8 : w7.cell? ⟨gb159, 8, none⟩ = some (.int .i64 0) := (blk_cell BK159.out 8).trans rfl; have hcz9_9 : w7.cell? ⟨gb159, 9, none⟩ = some (.slice none 0 0) := (blk_cell BK159.out 9).trans rfl; have hfz9_0 := blk_frozen BK159.out 0; have hfz9_1 := blk_frozen BK159.out 1; have hfz9_2 := blk_frozen BK159.out 2; have hfz9_3 := blk_frozen BK159.out 3; have hfz9_4 := blk_frozen BK159.out 4; have hfz9_5 := blk_frozen BK159.out 5; have hfz9_6 := blk_frozen BK159.out 6; have hfz9_7 := blk_frozen BK159.out 7; have hfz9_8 := blk_frozen BK159.out 8; have hfz9_9 := blk_frozen BK159.out 9; obtain ⟨Ao10, co10, eo10⟩ := Kd.R_slice HO157.out; subst eo10) | ((with_reducible refine gate_callee (f := 11) rfl ?_); refine goesL_ (some 22) rfl rfl Try.func11 (by kernel_rfl) rfl #[.int .i64 a0, .int .i64 a1] rfl (by (try simp only [List.map_toArray, List.map_cons, List.map_nil]); first | done | rfl | (simp only [List.length_drop, List.length_take]; rfl)) ?_; (with_reducible refine (impl_NewArena.calls a0 a1 t160 t163 t164 t165 t166 t167 t168 t169 t170 t171 t174 _ A4.out).mono ?_); rintro e w11 ⟨v161, v172, rfl, ho0, ho1, hb⟩; refine ⟨_, rfl, ?_⟩; have n0_ := Aside0.mk (Kd.R_elder' (by (with_reducible repeat (first | apply Kd.R_alloc | apply Kd.R_drewN | apply Kd.R_drew)); exact (Kd.R_mono (Kd.R_far (p := ⟨gb159, 9, none⟩) (Kd.R_far (p := ⟨gb159, 8, none⟩) (Kd.R_far (p := ⟨gb159, 7, none⟩) (Kd.R_far (p := ⟨gb159, 6, none⟩) (Kd.R_far (p := ⟨gb159, 5, none⟩) (Kd.R_far (p := ⟨gb159, 4, none⟩) (Kd.R_far (p := ⟨gb159, 3, none⟩) (Kd.R_far (p := ⟨gb159, 2, none⟩) (Kd.R_far (p := ⟨gb159, 1, none⟩) (Kd.R_far (p := ⟨gb159, 0, none⟩) (Kd.R_types HO146.out BK159.out (by decide)) (fun _ hk => hk.2) (.slice Ao8 t144.length co8)) (fun _ hk => hk.2) (.int .i64 t147)) (fun _ hk => hk.2) (.int .i64 t148)) (fun _ hk => hk.2) (.int .i64 t149)) (fun _ hk => hk.2) (.bool t150)) (fun _ hk => hk.2) (.int .i64 t151)) (fun _ hk => hk.2) (.int .i64 t152)) (fun _ hk => hk.2) (.int .i64 t153)) (fun _ hk => hk.2) (.int .i64 t154)) (fun _ hk => hk.2) (.slice Ao10 t155.length co10)) (fun _ h_ => h_.1))) (Kd.R_base ho0) hb); have n1_ := Aside0.mk (Kd.R_elder' (by (with_reducible repeat (first | apply Kd.R_alloc | apply Kd.R_drewN | apply Kd.R_drew)); exact (Kd.R_mono (Kd.R_far (p := ⟨gb159, 9, none⟩) (Kd.R_far (p := ⟨gb159, 8, none⟩) (Kd.R_far (p := ⟨gb159, 7, none⟩) (Kd.R_far (p := ⟨gb159, 6, none⟩) (Kd.R_far (p := ⟨gb159, 5, none⟩) (Kd.R_far (p := ⟨gb159, 4, none⟩) (Kd.R_far (p := ⟨gb159, 3, none⟩) (Kd.R_far (p := ⟨gb159, 2, none⟩) (Kd.R_far (p := ⟨gb159, 1, none⟩) (Kd.R_far (p := ⟨gb159, 0, none⟩) (Kd.R_types HO157.out BK159.out (by decide)) (fun _ hk => hk.2) (.slice Ao8 t144.length co8)) (fun _ hk => hk.2) (.int .i64 t147)) (fun _ hk => hk.2) (.int .i64 t148)) (fun _ hk => hk.2) (.int .i64 t149)) (fun _ hk => hk.2) (.bool t150)) (fun _ hk => hk.2) (.int .i64 t151)) (fun _ hk => hk.2) (.int .i64 t152)) (fun _ hk => hk.2) (.int .i64 t153)) (fun _ hk => hk.2) (.int .i64 t154)) (fun _ hk => hk.2) (.slice Ao10 t155.length co10)) (fun _ h_ => h_.1))) (Kd.R_base ho1) hb); have n2_ := Aside0.mk (Kd.R_lower (Kd.R_new' ho0 (Kd.R_lt (by (with_reducible repeat (first | apply Kd.R_alloc | apply Kd.R_drewN | apply Kd.R_drew)); exact (Kd.R_mono (Kd.R_far (p := ⟨gb159, 9, none⟩) (Kd.R_far (p := ⟨gb159, 8, none⟩) (Kd.R_far (p := ⟨gb159, 7, none⟩) (Kd.R_far (p := ⟨gb159, 6, none⟩) (Kd.R_far (p := ⟨gb159, 5, none⟩) (Kd.R_far (p := ⟨gb159, 4, none⟩) (Kd.R_far (p := ⟨gb159, 3, none⟩) (Kd.R_far (p := ⟨gb159, 2, none⟩) (Kd.R_far (p := ⟨gb159, 1, none⟩) (Kd.R_far (p := ⟨gb159, 0, none⟩) (Kd.R_types HO146.out BK159.out (by decide)) (fun _ hk => hk.2) (.slice Ao8 t144.length co8)) (fun _ hk => hk.2) (.int .i64 t147)) (fun _ hk => hk.2) (.int .i64 t148)) (fun _ hk => hk.2) (.int .i64 t149)) (fun _ hk => hk.2) (.bool t150)) (fun _ hk => hk.2) (.int .i64 t151)) (fun _ hk => hk.2) (.int .i64 t152)) (fun _ hk => hk.2) (.int .i64 t153)) (fun _ hk => hk.2) (.int .i64 t154)) (fun _ hk => hk.2) (.slice Ao10 t155.length co10)) (fun _ h_ => h_.1))))) (below_size (by repeat (first | (with_reducible first | exact HB.out | apply below_alloc | apply pw_below_drewN | apply below_drew1 | refine below_set ?_ GE159.out) | exact HB.out)))); have n3_ := Aside0.mk (Kd.R_lower (Kd.R_new' ho1 (Kd.R_lt (by (with_reducible repeat (first | apply Kd.R_alloc | apply Kd.R_drewN | apply Kd.R_drew)); exact (Kd.R_mono (Kd.R_far (p := ⟨gb159, 9, none⟩) (Kd.R_far (p := ⟨gb159, 8, none⟩) (Kd.R_far (p := ⟨gb159, 7, none⟩) (Kd.R_far (p := ⟨gb159, 6, none⟩) (Kd.R_far (p := ⟨gb159, 5, none⟩) (Kd.R_far (p := ⟨gb159, 4, none⟩) (Kd.R_far (p := ⟨gb159, 3, none⟩) (Kd.R_far (p := ⟨gb159, 2, none⟩) (Kd.R_far (p := ⟨gb159, 1, none⟩) (Kd.R_far (p := ⟨gb159, 0, none⟩) (Kd.R_types HO157.out BK159.out (by decide)) (fun _ hk => hk.2) (.slice Ao8 t144.length co8)) (fun _ hk => hk.2) (.int .i64 t147)) (fun _ hk => hk.2) (.int .i64 t148)) (fun _ hk => hk.2) (.int .i64 t149)) (fun _ hk => hk.2) (.bool t150)) (fun _ hk => hk.2) (.int .i64 t151)) (fun _ hk => hk.2) (.int .i64 t152)) (fun _ hk => hk.2) (.int .i64 t153)) (fun _ hk => hk.2) (.int .i64 t154)) (fun _ hk => hk.2) (.slice Ao10 t155.length co10)) (fun _ h_ => h_.1))))) (below_size (by repeat (first | (with_reducible first | exact HB.out | apply below_alloc | apply pw_below_drewN | apply below_drew1 | refine below_set ?_ GE159.out) | exact HB.out)))); have n4_ := Aside0.mk (blk_below (g := gb159) (o := .cells #[.slice Ao8 t144.length co8, .int .i64 t147, .int .i64 t148, .int .i64 t149, .bool t150, .int .i64 t151, .int .i64 t152, .int .i64 t153, .int .i64 t154, .slice Ao10 t155.length co10] 25 (0, 0)) (by (with_reducible repeat (first | refine blk_drewN ?_ _ | refine blk_drew ?_ | refine blk_alloc ?_ _)); refine blk_put (cs := #[.slice Ao8 t144.length co8, .int .i64 t147, .int .i64 t148, .int .i64 t149, .bool t150, .int .i64 t151, .int .i64 t152, .int .i64 t153, .int .i64 t154, .slice none 0 0]) ?_ 9 _ rfl; (with_reducible repeat (first | refine blk_drewN ?_ _ | refine blk_drew ?_ | refine blk_alloc ?_ _)); refine blk_put (cs := #[.slice Ao8 t144.length co8, .int .i64 t147, .int .i64 t148, .int .i64 t149, .bool t150, .int .i64 t151, .int .i64 t152, .int .i64 t153, .int .i64 0, .slice none 0 0]) ?_ 8 _ rfl; (with_reducible repeat (first | refine blk_drewN ?_ _ | refine blk_drew ?_ | refine blk_alloc ?_ _)); refine blk_put (cs := #[.slice Ao8 t144.length co8, .int .i64 t147, .int .i64 t148, .int .i64 t149, .bool t150, .int .i64 t151, .int .i64 t152, .int .i64 0, .int .i64 0, .slice none 0 0]) ?_ 7 _ rfl; (with_reducible repeat (first | refine blk_drewN ?_ _ | refine blk_drew ?_ | refine blk_alloc ?_ _)); refine blk_put (cs := #[.slice Ao8 t144.length co8, .int .i64 t147, .int .i64 t148, .int .i64 t149, .bool t150, .int .i64 t151, .int .i64 0, .int .i64 0, .int .i64 0, .slice none 0 0]) ?_ 6 _ rfl; (with_reducible repeat (first | refine blk_drewN ?_ _ | refine blk_drew ?_ | refine blk_alloc ?_ _)); refine blk_put (cs := #[.slice Ao8 t144.length co8, .int .i64 t147, .int .i64 t148, .int .i64 t149, .bool t150, .int .i64 0, .int .i64 0, .int .i64 0, .int .i64 0, .slice none 0 0]) ?_ 5 _ rfl; (with_reducible repeat (first | refine blk_drewN ?_ _ | refine blk_drew ?_ | refine blk_alloc ?_ _)); refine blk_put (cs := #[.slice Ao8 t144.length co8, .int .i64 t147, .int .i64 t148, .int .i64 t149, .bool false, .int .i64 0, .int .i64 0, .int .i64 0, .int .i64 0, .slice none 0 0]) ?_ 4 _ rfl; (with_reducible repeat (first | refine blk_drewN ?_ _ | refine blk_drew ?_ | refine blk_alloc ?_ _)); refine blk_put (cs := #[.slice Ao8 t144.length co8, .int .i64 t147, .int .i64 t148, .int .i64 0, .bool false, .int .i64 0, .int .i64 0, .int .i64 0, .int .i64 0, .slice none 0 0]) ?_ 3 _ rfl; (with_reducible repeat (first | refine blk_drewN ?_ _ | refine blk_drew ?_ | refine blk_alloc ?_ _)); refine blk_put (cs := #[.slice Ao8 t144.length co8, .int .i64 t147, .int .i64 0, .int .i64 0, .bool false, .int .i64 0, .int .i64 0, .int .i64 0, .int .i64 0, .slice none 0 0]) ?_ 2 _ rfl; (with_reducible repeat (first | refine blk_drewN ?_ _ | refine blk_drew ?_ | refine blk_alloc ?_ _)); refine blk_put (cs := #[.slice Ao8 t144.length co8, .int .i64 0, .int .i64 0, .int .i64 0, .bool false, .int .i64 0, .int .i64 0, .int .i64 0, .int .i64 0, .slice none 0 0]) ?_ 1 _ rfl; (with_reducible repeat (first | refine blk_drewN ?_ _ | refine blk_drew ?_ | refine blk_alloc ?_ _)); refine blk_put (cs := #[.slice none 0 0, .int .i64 0, .int .i64 0, .int .i64 0, .bool false, .int .i64 0, .int .i64 0, .int .i64 0, .int .i64 0, .slice none 0 0]) ?_ 0 _ rfl; (with_reducible repeat (first | refine blk_drewN ?_ _ | refine blk_drew ?_ | refine blk_alloc ?_ _)); exact BK159.out) hb); have n5_ := Aside0.mk (below_step (by repeat (first | (with_reducible first | exact HB.out | apply below_alloc | apply pw_below_drewN | apply below_drew1 | refine below_set ?_ GE159.out) | exact HB.out)) hb); clear HO146; clear HO157; clear BK159; clear HB; have HO146 := n0_; have HO157 := n1_; have HO162 := n2_; have HO173 := n3_; have BK159 := n4_; have HB := n5_; clear n0_ n1_ n2_ n3_ n4_ n5_; (try clear hb); (try clear hb2); (try clear hk); (try clear hi); (try clear ho0); (try clear ho1)) | ((with_reducible refine gate_dst (N := 7) rfl ?_); refine box_event ?hg (N := 7) ?hd (cs := #[.slice none 0 0, .int .i64 0, .int .i64 0, .int .i64 0, .bool false, .int .i64 0, .int .i64 0, .int .i64 0, .int .i64 0, .slice none 0 0]) (t := 25) ?hr ?_; (case hd => rfl); (case hg => rfl); (case hr => first | (go_simp; done) | (go_simp; rfl)); intro gb175 hg w12 hbox hb; have n0_ := Aside0.mk (Kd.R_below (by (with_reducible repeat (first | apply Kd.R_alloc | apply Kd.R_drewN | apply Kd.R_drew)); exact HO146.out) hb); have n1_ := Aside0.mk (Kd.R_below (by (with_reducible repeat (first | apply Kd.R_alloc | apply Kd.R_drewN | apply Kd.R_drew)); exact HO157.out) hb); have n2_ := Aside0.mk (Kd.R_below (by (with_reducible repeat (first | apply Kd.R_alloc | apply Kd.R_drewN | apply Kd.R_drew)); exact HO162.out) hb); have n3_ := Aside0.mk (Kd.R_below (by (with_reducible repeat (first | apply Kd.R_alloc | apply Kd.R_drewN | apply Kd.R_drew)); exact HO173.out) hb); have n4_ := Aside0.mk (blk_below (g := gb159) (o := .cells #[.slice Ao8 t144.length co8, .int .i64 t147, .int .i64 t148, .int .i64 t149, .bool t150, .int .i64 t151, .int .i64 t152, .int .i64 t153, .int .i64 t154, .slice Ao10 t155.length co10] 25 (0, 0)) (by (with_reducible repeat (first | refine blk_drewN ?_ _ | refine blk_drew ?_ | refine blk_alloc ?_ _)); exact BK159.out) hb); have n5_ := Aside0.mk (below_step (by repeat (first | (with_reducible first | exact HB.out | apply below_alloc | apply pw_below_drewN | apply below_drew1 | refine below_set ?_ GE159.out) | exact HB.out)) hb); have n6_ := Aside0.mk (hbox); have n7_ := Aside0.mk ((by rw [hg]; exact (below_size (by repeat (first | (with_reducible first | exact HB.out | apply below_alloc | apply pw_below_drewN | apply below_drew1 | refine below_set ?_ GE159.out) | exact HB.out))) : w.heap.size ≤ gb175)); have n8_ := Aside0.mk ((by rw [hg]; exact (below_size (by repeat (first | (with_reducible first | exact HB.out | apply below_alloc | apply pw_below_drewN | apply below_drew1 | refine below_set ?_ GE159.out) | exact HB.out))) : w.heap.size ≤ gb175)); have n9_ := Aside0.mk ((by rw [hg]; exact Nat.ne_of_lt (blk_lt (g := gb159) (o := .cells #[.slice Ao8 t144.length co8, .int .i64 t147, .int .i64 t148, .int .i64 t149, .bool t150, .int .i64 t151, .int .i64 t152, .int .i64 t153, .int .i64 t154, .slice Ao10 t155.length co10] 25 (0, 0)) (by (with_reducible repeat (first | refine blk_drewN ?_ _ | refine blk_drew ?_ | refine blk_alloc ?_ _)); exact BK159.out)) : gb159 ≠ gb175)); have n10_ := Aside0.mk ((by rw [hg]; exact Nat.ne_of_gt (blk_lt (g := gb159) (o := .cells #[.slice Ao8 t144.length co8, .int .i64 t147, .int .i64 t148, .int .i64 t149, .bool t150, .int .i64 t151, .int .i64 t152, .int .i64 t153, .int .i64 t154, .slice Ao10 t155.length co10] 25 (0, 0)) (by (with_reducible repeat (first | refine blk_drewN ?_ _ | refine blk_drew ?_ | refine blk_alloc ?_ _)); exact BK159.out)) : gb175 ≠ gb159)); clear HO146; clear HO157; clear HO162; clear HO173; clear BK159; clear HB; have HO146 := n0_; have HO157 := n1_; have HO162 := n2_; have HO173 := n3_; have BK159 := n4_; have HB := n5_; have BK175 := n6_; have GW175 := n7_; have GE175 := n8_; have NB159_175 := n9_; have NB175_159 := n10_; clear n0_ n1_ n2_ n3_ n4_ n5_ n6_ n7_ n8_ n9_ n10_; clear hb hbox hg; obtain ⟨Ao13, co13, eo13⟩ := Kd.R_slice HO162.out; subst eo13; have hnb14 := NB175_159.out; have hnc14 := NB159_175.out; have hcz15_0 : w12.cell? ⟨gb175, 0, none⟩ = some (.slice none 0 0) := (blk_cell BK175.out 0).trans rfl; have hcz15_1 : w12.cell? ⟨gb175, 1, none⟩ = some (.int .i64 0) := (blk_cell BK175.out 1).trans rfl; have hcz15_2 : w12.cell? ⟨gb175, 2, none⟩ = some (.int .i64 0) := (blk_cell BK175.out 2).trans rfl; have hcz15_3 : w12.cell? ⟨gb175, 3, none⟩ = some (.int .i64 0) := (blk_cell BK175.out 3).trans rfl; have hcz15_4 : w12.cell? ⟨gb175, 4, none⟩ = some (.bool false) := (blk_cell BK175.out 4).trans rfl; have hcz15_5 : w12.cell? ⟨gb175, 5, none⟩ = some (.int .i64 0) := (blk_cell BK175.out 5).trans rfl; have hcz15_6 : w12.cell? ⟨gb175, 6, none⟩ = some (.int .i64 0) := (blk_cell BK175.out 6).trans rfl; have hcz15_7 : w12.cell? ⟨gb175, 7, none⟩ = some (.int .i64 0) := (blk_cell BK175.out 7).trans rfl; have hcz15_8 : w12.cell? ⟨gb175, 8, none⟩ = some (.int .i64 0) := (blk_cell BK175.out 8).trans rfl; have hcz15_9 : w12.cell? ⟨gb175, 9, none⟩ = some (.slice none 0 0) := (blk_cell BK175.out 9).trans rfl; have hfz15_0 := blk_frozen BK175.out 0; have hfz15_1 := blk_frozen BK175.out 1; have hfz15_2 := blk_frozen BK175.out 2; have hfz15_3 := blk_frozen BK175.out 3; have hfz15_4 := blk_frozen BK175.out 4; have hfz15_5 := blk_frozen BK175.out 5; have hfz15_6 := blk_frozen BK175.out 6; have hfz15_7 := blk_frozen BK175.out 7; have hfz15_8 := blk_frozen BK175.out 8; have hfz15_9 := blk_frozen BK175.out 9; obtain ⟨Ao16, co16, eo16⟩ := Kd.R_slice HO173.out; subst eo16))
  (try simp only [Act.put, List.setIfInBounds_toArray, List.set_cons_zero, List.set_cons_succ])
  go_cut [33] (fun v33 wc => ∃ (kq : Nat) (x33_4 : Bool), v33 = .bool x33_4 ∧ Aside0 (laws_FnExactNewArena.j0 kq a0 a1 t158 x33_4 t144 t147 t148 t149 t150 t151 t152 t153 t154 t155 t160 t163 t164 t165 t166 t167 t168 t169 t170 t171 = some r) ∧ Aside0 (kq ≤ k) ∧ Aside0 (Kd.R (Kd.int .u64) 49 wc w.heap.size (fun k_ => some k_ ≠ ((.slice Ao13 t160.length co13) : Value).ownBlock) (.slice Ao8 t144.length co8) t144) ∧ Aside0 (Kd.R k44 44 wc w.heap.size (fun k_ => some k_ ≠ ((.slice Ao16 t171.length co16) : Value).ownBlock) (.slice Ao10 t155.length co10) t155) ∧ Aside0 (Kd.R (Kd.int .u64) 49 wc w.heap.size (fun k_ => some k_ ≠ ((.slice Ao8 t144.length co8) : Value).ownBlock) (.slice Ao13 t160.length co13) t160) ∧ Aside0 (Kd.R k44 44 wc w.heap.size (fun k_ => some k_ ≠ ((.slice Ao10 t155.length co10) : Value).ownBlock) (.slice Ao16 t171.length co16) t171) ∧ Aside0 (wc.heap[gb159]? = some (.cells #[(.slice Ao8 t144.length co8), .int .i64 t147, .int .i64 t148, .int .i64 t149, .bool t150, .int .i64 t151, .int .i64 t152, .int .i64 t153, .int .i64 t154, (.slice Ao10 t155.length co10)] 25 (0, 0))) ∧ Aside0 (wc.heap[gb175]? = some (.cells #[(.slice Ao13 t160.length co13), .int .i64 t163, .int .i64 t164, .int .i64 t165, .bool t166, .int .i64 t167, .int .i64 t168, .int .i64 t169, .int .i64 t170, (.slice Ao16 t171.length co16)] 25 (0, 0))) ∧ Aside0 (Below w.heap.size w wc))
  case first =>
    have H := HC5.out
    clear HC5
    replace H := Option.bind_eq_some_iff.mp H
    obtain ⟨t176, A170, H⟩ := H
    replace H : (if t176 = true then (laws_FnExactNewArena.j0 k a0 a1 t158 (t174 != t158) t144 t147 t148 t149 t150 t151 t152 t153 t154 t155 t160 t163 t164 t165 t166 t167 t168 t169 t170 t171) else (laws_FnExactNewArena.j0 k a0 a1 t158 true t144 t147 t148 t149 t150 t151 t152 t153 t154 t155 t160 t163 t164 t165 t166 t167 t168 t169 t170 t171)) = some r := H
    have A17 := Aside0.mk A170
    clear A170
    by_cases c18 : t176 = true
    · subst c18
      have H1 : (laws_FnExactNewArena.j0 k a0 a1 t158 (t174 != t158) t144 t147 t148 t149 t150 t151 t152 t153 t154 t155 t160 t163 t164 t165 t166 t167 t168 t169 t170 t171) = some r := by rw [if_pos rfl] at H; exact H
      clear H
      have H := H1
      clear H1
      have H' := Aside0.mk H
      clear H
      have hnb19 := NB175_159.out
      have hnc19 := NB159_175.out
      have hcz20_0 : w12.cell? ⟨gb175, 0, none⟩ = some (.slice none 0 0) := (blk_cell BK175.out 0).trans rfl
      have hcz20_1 : w12.cell? ⟨gb175, 1, none⟩ = some (.int .i64 0) := (blk_cell BK175.out 1).trans rfl
      have hcz20_2 : w12.cell? ⟨gb175, 2, none⟩ = some (.int .i64 0) := (blk_cell BK175.out 2).trans rfl
      have hcz20_3 : w12.cell? ⟨gb175, 3, none⟩ = some (.int .i64 0) := (blk_cell BK175.out 3).trans rfl
      have hcz20_4 : w12.cell? ⟨gb175, 4, none⟩ = some (.bool false) := (blk_cell BK175.out 4).trans rfl
      have hcz20_5 : w12.cell? ⟨gb175, 5, none⟩ = some (.int .i64 0) := (blk_cell BK175.out 5).trans rfl
      have hcz20_6 : w12.cell? ⟨gb175, 6, none⟩ = some (.int .i64 0) := (blk_cell BK175.out 6).trans rfl
      have hcz20_7 : w12.cell? ⟨gb175, 7, none⟩ = some (.int .i64 0) := (blk_cell BK175.out 7).trans rfl
      have hcz20_8 : w12.cell? ⟨gb175, 8, none⟩ = some (.int .i64 0) := (blk_cell BK175.out 8).trans rfl
      have hcz20_9 : w12.cell? ⟨gb175, 9, none⟩ = some (.slice none 0 0) := (blk_cell BK175.out 9).trans rfl
      have hfz20_0 := blk_frozen BK175.out 0
      have hfz20_1 := blk_frozen BK175.out 1
      have hfz20_2 := blk_frozen BK175.out 2
      have hfz20_3 := blk_frozen BK175.out 3
      have hfz20_4 := blk_frozen BK175.out 4
      have hfz20_5 := blk_frozen BK175.out 5
      have hfz20_6 := blk_frozen BK175.out 6
      have hfz20_7 := blk_frozen BK175.out 7
      have hfz20_8 := blk_frozen BK175.out 8
      have hfz20_9 := blk_frozen BK175.out 9
      have hcz21_0 : w12.cell? ⟨gb159, 0, none⟩ = some (.slice Ao8 t144.length co8) := (blk_cell BK159.out 0).trans rfl
      have hcz21_1 : w12.cell? ⟨gb159, 1, none⟩ = some (.int .i64 t147) := (blk_cell BK159.out 1).trans rfl
      have hcz21_2 : w12.cell? ⟨gb159, 2, none⟩ = some (.int .i64 t148) := (blk_cell BK159.out 2).trans rfl
      have hcz21_3 : w12.cell? ⟨gb159, 3, none⟩ = some (.int .i64 t149) := (blk_cell BK159.out 3).trans rfl
      have hcz21_4 : w12.cell? ⟨gb159, 4, none⟩ = some (.bool t150) := (blk_cell BK159.out 4).trans rfl
      have hcz21_5 : w12.cell? ⟨gb159, 5, none⟩ = some (.int .i64 t151) := (blk_cell BK159.out 5).trans rfl
      have hcz21_6 : w12.cell? ⟨gb159, 6, none⟩ = some (.int .i64 t152) := (blk_cell BK159.out 6).trans rfl
      have hcz21_7 : w12.cell? ⟨gb159, 7, none⟩ = some (.int .i64 t153) := (blk_cell BK159.out 7).trans rfl
      have hcz21_8 : w12.cell? ⟨gb159, 8, none⟩ = some (.int .i64 t154) := (blk_cell BK159.out 8).trans rfl
      have hcz21_9 : w12.cell? ⟨gb159, 9, none⟩ = some (.slice Ao10 t155.length co10) := (blk_cell BK159.out 9).trans rfl
      have hfz21_0 := blk_frozen BK159.out 0
      have hfz21_1 := blk_frozen BK159.out 1
      have hfz21_2 := blk_frozen BK159.out 2
      have hfz21_3 := blk_frozen BK159.out 3
      have hfz21_4 := blk_frozen BK159.out 4
      have hfz21_5 := blk_frozen BK159.out 5
      have hfz21_6 := blk_frozen BK159.out 6
      have hfz21_7 := blk_frozen BK159.out 7
      have hfz21_8 := blk_frozen BK159.out 8
      have hfz21_9 := blk_frozen BK159.out 9
      go_wp2_with (first | ((with_reducible refine gate_callee (f := 12) rfl ?_); refine goesL_ (some 27) rfl rfl Try.func12 (by kernel_rfl) rfl #[.agg #[.slice Ao13 t160.length co13, .int .i64 t163, .int .i64 t164, .int .i64 t165, .bool t166, .int .i64 t167, .int .i64 t168, .int .i64 t169, .int .i64 t170, .slice Ao16 t171.length co16], .agg #[.slice Ao8 t144.length co8, .int .i64 t147, .int .i64 t148, .int .i64 t149, .bool t150, .int .i64 t151, .int .i64 t152, .int .i64 t153, .int .i64 t154, .slice Ao10 t155.length co10]] rfl (by (try simp only [List.map_toArray, List.map_cons, List.map_nil]); first | done | rfl | (simp only [List.length_drop, List.length_take]; rfl)) ?_; (with_reducible refine (laws_eqArena.calls k _ _ t160 t163 t164 t165 t166 t167 t168 t169 t170 _ _ t171 _ _ t144 t147 t148 t149 t150 t151 t152 t153 t154 _ _ t155 true _ ?side1 ?side2 ?side3 ?side4 ?side5 ?side6 ?side7 ?side8 A17.out).mono ?_); (case side1 => refine (Kd.R_reads' (e := 49) (base := w.heap.size) (ok := fun k_ => (True ∧ some k_ ≠ (.slice Ao8 t144.length co8 : Value).ownBlock)) (n := t160.length) (c := co13) ?_).2.2; exact (by (with_reducible repeat (first | apply Kd.R_alloc | apply Kd.R_drewN | apply Kd.R_drew)); exact (Kd.R_mono (Kd.R_far (p := ⟨gb175, 9, none⟩) (Kd.R_far (p := ⟨gb175, 8, none⟩) (Kd.R_far (p := ⟨gb175, 7, none⟩) (Kd.R_far (p := ⟨gb175, 6, none⟩) (Kd.R_far (p := ⟨gb175, 5, none⟩) (Kd.R_far (p := ⟨gb175, 4, none⟩) (Kd.R_far (p := ⟨gb175, 3, none⟩) (Kd.R_far (p := ⟨gb175, 2, none⟩) (Kd.R_far (p := ⟨gb175, 1, none⟩) (Kd.R_far (p := ⟨gb175, 0, none⟩) (Kd.R_types HO162.out BK175.out (by decide)) (fun _ hk => hk.2) (.slice Ao13 t160.length co13)) (fun _ hk => hk.2) (.int .i64 t163)) (fun _ hk => hk.2) (.int .i64 t164)) (fun _ hk => hk.2) (.int .i64 t165)) (fun _ hk => hk.2) (.bool t166)) (fun _ hk => hk.2) (.int .i64 t167)) (fun _ hk => hk.2) (.int .i64 t168)) (fun _ hk => hk.2) (.int .i64 t169)) (fun _ hk => hk.2) (.int .i64 t170)) (fun _ hk => hk.2) (.slice Ao16 t171.length co16)) (fun _ h_ => h_.1)))); (case side2 => exact (Kd.R_reads' HO162.out).2.1); (case side3 => refine (Kd.R_reads' (e := 44) (base := w.heap.size) (ok := fun k_ => (True ∧ some k_ ≠ (.slice Ao10 t155.length co10 : Value).ownBlock)) (n := t171.length) (c := co16) ?_).2.2; exact (by (with_reducible repeat (first | apply Kd.R_alloc | apply Kd.R_drewN | apply Kd.R_drew)); exact (Kd.R_mono (Kd.R_far (p := ⟨gb175, 9, none⟩) (Kd.R_far (p := ⟨gb175, 8, none⟩) (Kd.R_far (p := ⟨gb175, 7, none⟩) (Kd.R_far (p := ⟨gb175, 6, none⟩) (Kd.R_far (p := ⟨gb175, 5, none⟩) (Kd.R_far (p := ⟨gb175, 4, none⟩) (Kd.R_far (p := ⟨gb175, 3, none⟩) (Kd.R_far (p := ⟨gb175, 2, none⟩) (Kd.R_far (p := ⟨gb175, 1, none⟩) (Kd.R_far (p := ⟨gb175, 0, none⟩) (Kd.R_types HO173.out BK175.out (by decide)) (fun _ hk => hk.2) (.slice Ao13 t160.length co13)) (fun _ hk => hk.2) (.int .i64 t163)) (fun _ hk => hk.2) (.int .i64 t164)) (fun _ hk => hk.2) (.int .i64 t165)) (fun _ hk => hk.2) (.bool t166)) (fun _ hk => hk.2) (.int .i64 t167)) (fun _ hk => hk.2) (.int .i64 t168)) (fun _ hk => hk.2) (.int .i64 t169)) (fun _ hk => hk.2) (.int .i64 t170)) (fun _ hk => hk.2) (.slice Ao16 t171.length co16)) (fun _ h_ => h_.1)))); (case side4 => exact (Kd.R_reads' HO173.out).2.1); (case side5 => refine (Kd.R_reads' (e := 49) (base := w.heap.size) (ok := fun k_ => (True ∧ some k_ ≠ (.slice Ao13 t160.length co13 : Value).ownBlock)) (n := t144.length) (c := co8) ?_).2.2; exact (by (with_reducible repeat (first | apply Kd.R_alloc | apply Kd.R_drewN | apply Kd.R_drew)); exact (Kd.R_mono (Kd.R_far (p := ⟨gb175, 9, none⟩) (Kd.R_far (p := ⟨gb175, 8, none⟩) (Kd.R_far (p := ⟨gb175, 7, none⟩) (Kd.R_far (p := ⟨gb175, 6, none⟩) (Kd.R_far (p := ⟨gb175, 5, none⟩) (Kd.R_far (p := ⟨gb175, 4, none⟩) (Kd.R_far (p := ⟨gb175, 3, none⟩) (Kd.R_far (p := ⟨gb175, 2, none⟩) (Kd.R_far (p := ⟨gb175, 1, none⟩) (Kd.R_far (p := ⟨gb175, 0, none⟩) (Kd.R_types HO146.out BK175.out (by decide)) (fun _ hk => hk.2) (.slice Ao13 t160.length co13)) (fun _ hk => hk.2) (.int .i64 t163)) (fun _ hk => hk.2) (.int .i64 t164)) (fun _ hk => hk.2) (.int .i64 t165)) (fun _ hk => hk.2) (.bool t166)) (fun _ hk => hk.2) (.int .i64 t167)) (fun _ hk => hk.2) (.int .i64 t168)) (fun _ hk => hk.2) (.int .i64 t169)) (fun _ hk => hk.2) (.int .i64 t170)) (fun _ hk => hk.2) (.slice Ao16 t171.length co16)) (fun _ h_ => h_.1)))); (case side6 => exact (Kd.R_reads' HO146.out).2.1); (case side7 => refine (Kd.R_reads' (e := 44) (base := w.heap.size) (ok := fun k_ => (True ∧ some k_ ≠ (.slice Ao16 t171.length co16 : Value).ownBlock)) (n := t155.length) (c := co10) ?_).2.2; exact (by (with_reducible repeat (first | apply Kd.R_alloc | apply Kd.R_drewN | apply Kd.R_drew)); exact (Kd.R_mono (Kd.R_far (p := ⟨gb175, 9, none⟩) (Kd.R_far (p := ⟨gb175, 8, none⟩) (Kd.R_far (p := ⟨gb175, 7, none⟩) (Kd.R_far (p := ⟨gb175, 6, none⟩) (Kd.R_far (p := ⟨gb175, 5, none⟩) (Kd.R_far (p := ⟨gb175, 4, none⟩) (Kd.R_far (p := ⟨gb175, 3, none⟩) (Kd.R_far (p := ⟨gb175, 2, none⟩) (Kd.R_far (p := ⟨gb175, 1, none⟩) (Kd.R_far (p := ⟨gb175, 0, none⟩) (Kd.R_types HO157.out BK175.out (by decide)) (fun _ hk => hk.2) (.slice Ao13 t160.length co13)) (fun _ hk => hk.2) (.int .i64 t163)) (fun _ hk => hk.2) (.int .i64 t164)) (fun _ hk => hk.2) (.int .i64 t165)) (fun _ hk => hk.2) (.bool t166)) (fun _ hk => hk.2) (.int .i64 t167)) (fun _ hk => hk.2) (.int .i64 t168)) (fun _ hk => hk.2) (.int .i64 t169)) (fun _ hk => hk.2) (.int .i64 t170)) (fun _ hk => hk.2) (.slice Ao16 t171.length co16)) (fun _ h_ => h_.1)))); (case side8 => exact (Kd.R_reads' HO157.out).2.1); rintro e w22 ⟨rfl, hb⟩; refine ⟨_, rfl, ?_⟩; have n0_ := Aside0.mk (Kd.R_below (by (with_reducible repeat (first | apply Kd.R_alloc | apply Kd.R_drewN | apply Kd.R_drew)); exact (Kd.R_mono (Kd.R_far (p := ⟨gb175, 9, none⟩) (Kd.R_far (p := ⟨gb175, 8, none⟩) (Kd.R_far (p := ⟨gb175, 7, none⟩) (Kd.R_far (p := ⟨gb175, 6, none⟩) (Kd.R_far (p := ⟨gb175, 5, none⟩) (Kd.R_far (p := ⟨gb175, 4, none⟩) (Kd.R_far (p := ⟨gb175, 3, none⟩) (Kd.R_far (p := ⟨gb175, 2, none⟩) (Kd.R_far (p := ⟨gb175, 1, none⟩) (Kd.R_far (p := ⟨gb175, 0, none⟩) (Kd.R_types HO146.out BK175.out (by decide)) (fun _ hk => hk.2) (.slice Ao13 t160.length co13)) (fun _ hk => hk.2) (.int .i64 t163)) (fun _ hk => hk.2) (.int .i64 t164)) (fun _ hk => hk.2) (.int .i64 t165)) (fun _ hk => hk.2) (.bool t166)) (fun _ hk => hk.2) (.int .i64 t167)) (fun _ hk => hk.2) (.int .i64 t168)) (fun _ hk => hk.2) (.int .i64 t169)) (fun _ hk => hk.2) (.int .i64 t170)) (fun _ hk => hk.2) (.slice Ao16 t171.length co16)) (fun _ h_ => h_.1))) hb); have n1_ := Aside0.mk (Kd.R_below (by (with_reducible repeat (first | apply Kd.R_alloc | apply Kd.R_drewN | apply Kd.R_drew)); exact (Kd.R_mono (Kd.R_far (p := ⟨gb175, 9, none⟩) (Kd.R_far (p := ⟨gb175, 8, none⟩) (Kd.R_far (p := ⟨gb175, 7, none⟩) (Kd.R_far (p := ⟨gb175, 6, none⟩) (Kd.R_far (p := ⟨gb175, 5, none⟩) (Kd.R_far (p := ⟨gb175, 4, none⟩) (Kd.R_far (p := ⟨gb175, 3, none⟩) (Kd.R_far (p := ⟨gb175, 2, none⟩) (Kd.R_far (p := ⟨gb175, 1, none⟩) (Kd.R_far (p := ⟨gb175, 0, none⟩) (Kd.R_types HO157.out BK175.out (by decide)) (fun _ hk => hk.2) (.slice Ao13 t160.length co13)) (fun _ hk => hk.2) (.int .i64 t163)) (fun _ hk => hk.2) (.int .i64 t164)) (fun _ hk => hk.2) (.int .i64 t165)) (fun _ hk => hk.2) (.bool t166)) (fun _ hk => hk.2) (.int .i64 t167)) (fun _ hk => hk.2) (.int .i64 t168)) (fun _ hk => hk.2) (.int .i64 t169)) (fun _ hk => hk.2) (.int .i64 t170)) (fun _ hk => hk.2) (.slice Ao16 t171.length co16)) (fun _ h_ => h_.1))) hb); have n2_ := Aside0.mk (Kd.R_below (by (with_reducible repeat (first | apply Kd.R_alloc | apply Kd.R_drewN | apply Kd.R_drew)); exact (Kd.R_mono (Kd.R_far (p := ⟨gb175, 9, none⟩) (Kd.R_far (p := ⟨gb175, 8, none⟩) (Kd.R_far (p := ⟨gb175, 7, none⟩) (Kd.R_far (p := ⟨gb175, 6, none⟩) (Kd.R_far (p := ⟨gb175, 5, none⟩) (Kd.R_far (p := ⟨gb175, 4, none⟩) (Kd.R_far (p := ⟨gb175, 3, none⟩) (Kd.R_far (p := ⟨gb175, 2, none⟩) (Kd.R_far (p := ⟨gb175, 1, none⟩) (Kd.R_far (p := ⟨gb175, 0, none⟩) (Kd.R_types HO162.out BK175.out (by decide)) (fun _ hk => hk.2) (.slice Ao13 t160.length co13)) (fun _ hk => hk.2) (.int .i64 t163)) (fun _ hk => hk.2) (.int .i64 t164)) (fun _ hk => hk.2) (.int .i64 t165)) (fun _ hk => hk.2) (.bool t166)) (fun _ hk => hk.2) (.int .i64 t167)) (fun _ hk => hk.2) (.int .i64 t168)) (fun _ hk => hk.2) (.int .i64 t169)) (fun _ hk => hk.2) (.int .i64 t170)) (fun _ hk => hk.2) (.slice Ao16 t171.length co16)) (fun _ h_ => h_.1))) hb); have n3_ := Aside0.mk (Kd.R_below (by (with_reducible repeat (first | apply Kd.R_alloc | apply Kd.R_drewN | apply Kd.R_drew)); exact (Kd.R_mono (Kd.R_far (p := ⟨gb175, 9, none⟩) (Kd.R_far (p := ⟨gb175, 8, none⟩) (Kd.R_far (p := ⟨gb175, 7, none⟩) (Kd.R_far (p := ⟨gb175, 6, none⟩) (Kd.R_far (p := ⟨gb175, 5, none⟩) (Kd.R_far (p := ⟨gb175, 4, none⟩) (Kd.R_far (p := ⟨gb175, 3, none⟩) (Kd.R_far (p := ⟨gb175, 2, none⟩) (Kd.R_far (p := ⟨gb175, 1, none⟩) (Kd.R_far (p := ⟨gb175, 0, none⟩) (Kd.R_types HO173.out BK175.out (by decide)) (fun _ hk => hk.2) (.slice Ao13 t160.length co13)) (fun _ hk => hk.2) (.int .i64 t163)) (fun _ hk => hk.2) (.int .i64 t164)) (fun _ hk => hk.2) (.int .i64 t165)) (fun _ hk => hk.2) (.bool t166)) (fun _ hk => hk.2) (.int .i64 t167)) (fun _ hk => hk.2) (.int .i64 t168)) (fun _ hk => hk.2) (.int .i64 t169)) (fun _ hk => hk.2) (.int .i64 t170)) (fun _ hk => hk.2) (.slice Ao16 t171.length co16)) (fun _ h_ => h_.1))) hb); have n4_ := Aside0.mk (blk_below (g := gb159) (o := .cells #[.slice Ao8 t144.length co8, .int .i64 t147, .int .i64 t148, .int .i64 t149, .bool t150, .int .i64 t151, .int .i64 t152, .int .i64 t153, .int .i64 t154, .slice Ao10 t155.length co10] 25 (0, 0)) (by (with_reducible repeat (first | refine blk_drewN ?_ _ | refine blk_drew ?_ | refine blk_alloc ?_ _)); refine blk_far ?_ NB159_175.out _; (with_reducible repeat (first | refine blk_drewN ?_ _ | refine blk_drew ?_ | refine blk_alloc ?_ _)); refine blk_far ?_ NB159_175.out _; (with_reducible repeat (first | refine blk_drewN ?_ _ | refine blk_drew ?_ | refine blk_alloc ?_ _)); refine blk_far ?_ NB159_175.out _; (with_reducible repeat (first | refine blk_drewN ?_ _ | refine blk_drew ?_ | refine blk_alloc ?_ _)); refine blk_far ?_ NB159_175.out _; (with_reducible repeat (first | refine blk_drewN ?_ _ | refine blk_drew ?_ | refine blk_alloc ?_ _)); refine blk_far ?_ NB159_175.out _; (with_reducible repeat (first | refine blk_drewN ?_ _ | refine blk_drew ?_ | refine blk_alloc ?_ _)); refine blk_far ?_ NB159_175.out _; (with_reducible repeat (first | refine blk_drewN ?_ _ | refine blk_drew ?_ | refine blk_alloc ?_ _)); refine blk_far ?_ NB159_175.out _; (with_reducible repeat (first | refine blk_drewN ?_ _ | refine blk_drew ?_ | refine blk_alloc ?_ _)); refine blk_far ?_ NB159_175.out _; (with_reducible repeat (first | refine blk_drewN ?_ _ | refine blk_drew ?_ | refine blk_alloc ?_ _)); refine blk_far ?_ NB159_175.out _; (with_reducible repeat (first | refine blk_drewN ?_ _ | refine blk_drew ?_ | refine blk_alloc ?_ _)); refine blk_far ?_ NB159_175.out _; (with_reducible repeat (first | refine blk_drewN ?_ _ | refine blk_drew ?_ | refine blk_alloc ?_ _)); exact BK159.out) hb); have n5_ := Aside0.mk (blk_below (g := gb175) (o := .cells #[.slice Ao13 t160.length co13, .int .i64 t163, .int .i64 t164, .int .i64 t165, .bool t166, .int .i64 t167, .int .i64 t168, .int .i64 t169, .int .i64 t170, .slice Ao16 t171.length co16] 25 (0, 0)) (by (with_reducible repeat (first | refine blk_drewN ?_ _ | refine blk_drew ?_ | refine blk_alloc ?_ _)); refine blk_put (cs := #[.slice Ao13 t160.length co13, .int .i64 t163, .int .i64 t164, .int .i64 t165, .bool t166, .int .i64 t167, .int .i64 t168, .int .i64 t169, .int .i64 t170, .slice none 0 0]) ?_ 9 _ rfl; (with_reducible repeat (first | refine blk_drewN ?_ _ | refine blk_drew ?_ | refine blk_alloc ?_ _)); refine blk_put (cs := #[.slice Ao13 t160.length co13, .int .i64 t163, .int .i64 t164, .int .i64 t165, .bool t166, .int .i64 t167, .int .i64 t168, .int .i64 t169, .int .i64 0, .slice none 0 0]) ?_ 8 _ rfl; (with_reducible repeat (first | refine blk_drewN ?_ _ | refine blk_drew ?_ | refine blk_alloc ?_ _)); refine blk_put (cs := #[.slice Ao13 t160.length co13, .int .i64 t163, .int .i64 t164, .int .i64 t165, .bool t166, .int .i64 t167, .int .i64 t168, .int .i64 0, .int .i64 0, .slice none 0 0]) ?_ 7 _ rfl; (with_reducible repeat (first | refine blk_drewN ?_ _ | refine blk_drew ?_ | refine blk_alloc ?_ _)); refine blk_put (cs := #[.slice Ao13 t160.length co13, .int .i64 t163, .int .i64 t164, .int .i64 t165, .bool t166, .int .i64 t167, .int .i64 0, .int .i64 0, .int .i64 0, .slice none 0 0]) ?_ 6 _ rfl; (with_reducible repeat (first | refine blk_drewN ?_ _ | refine blk_drew ?_ | refine blk_alloc ?_ _)); refine blk_put (cs := #[.slice Ao13 t160.length co13, .int .i64 t163, .int .i64 t164, .int .i64 t165, .bool t166, .int .i64 0, .int .i64 0, .int .i64 0, .int .i64 0, .slice none 0 0]) ?_ 5 _ rfl; (with_reducible repeat (first | refine blk_drewN ?_ _ | refine blk_drew ?_ | refine blk_alloc ?_ _)); refine blk_put (cs := #[.slice Ao13 t160.length co13, .int .i64 t163, .int .i64 t164, .int .i64 t165, .bool false, .int .i64 0, .int .i64 0, .int .i64 0, .int .i64 0, .slice none 0 0]) ?_ 4 _ rfl; (with_reducible repeat (first | refine blk_drewN ?_ _ | refine blk_drew ?_ | refine blk_alloc ?_ _)); refine blk_put (cs := #[.slice Ao13 t160.length co13, .int .i64 t163, .int .i64 t164, .int .i64 0, .bool false, .int .i64 0, .int .i64 0, .int .i64 0, .int .i64 0, .slice none 0 0]) ?_ 3 _ rfl; (with_reducible repeat (first | refine blk_drewN ?_ _ | refine blk_drew ?_ | refine blk_alloc ?_ _)); refine blk_put (cs := #[.slice Ao13 t160.length co13, .int .i64 t163, .int .i64 0, .int .i64 0, .bool false, .int .i64 0, .int .i64 0, .int .i64 0, .int .i64 0, .slice none 0 0]) ?_ 2 _ rfl; (with_reducible repeat (first | refine blk_drewN ?_ _ | refine blk_drew ?_ | refine blk_alloc ?_ _)); refine blk_put (cs := #[.slice Ao13 t160.length co13, .int .i64 0, .int .i64 0, .int .i64 0, .bool false, .int .i64 0, .int .i64 0, .int .i64 0, .int .i64 0, .slice none 0 0]) ?_ 1 _ rfl; (with_reducible repeat (first | refine blk_drewN ?_ _ | refine blk_drew ?_ | refine blk_alloc ?_ _)); refine blk_put (cs := #[.slice none 0 0, .int .i64 0, .int .i64 0, .int .i64 0, .bool false, .int .i64 0, .int .i64 0, .int .i64 0, .int .i64 0, .slice none 0 0]) ?_ 0 _ rfl; (with_reducible repeat (first | refine blk_drewN ?_ _ | refine blk_drew ?_ | refine blk_alloc ?_ _)); exact BK175.out) hb); have n6_ := Aside0.mk (below_step (by repeat (first | (with_reducible first | exact HB.out | apply below_alloc | apply pw_below_drewN | apply below_drew1 | refine below_set ?_ GE159.out | refine below_set ?_ GE175.out) | exact HB.out)) hb); clear HO146; clear HO157; clear HO162; clear HO173; clear BK159; clear BK175; clear HB; have HO146 := n0_; have HO157 := n1_; have HO162 := n2_; have HO173 := n3_; have BK159 := n4_; have BK175 := n5_; have HB := n6_; clear n0_ n1_ n2_ n3_ n4_ n5_ n6_; (try clear hb); (try clear hb2); (try clear hk); (try clear hi)))
      go_meet
      case rel => exact ⟨_, ((t174 != t158)), (by first | rfl | (simp; done) | (simp [*]; done)), H', ⟨by first | omega | exact Nat.le_refl _⟩, ⟨by (with_reducible repeat (first | apply Kd.R_alloc | apply Kd.R_drewN | apply Kd.R_drew)); exact Kd.R_mono HO146.out (fun _ hk => hk.2)⟩, ⟨by (with_reducible repeat (first | apply Kd.R_alloc | apply Kd.R_drewN | apply Kd.R_drew)); exact Kd.R_mono HO157.out (fun _ hk => hk.2)⟩, ⟨by (with_reducible repeat (first | apply Kd.R_alloc | apply Kd.R_drewN | apply Kd.R_drew)); exact Kd.R_mono HO162.out (fun _ hk => hk.2)⟩, ⟨by (with_reducible repeat (first | apply Kd.R_alloc | apply Kd.R_drewN | apply Kd.R_drew)); exact Kd.R_mono HO173.out (fun _ hk => hk.2)⟩, ⟨by (with_reducible repeat (first | refine blk_drewN ?_ _ | refine blk_drew ?_ | refine blk_alloc ?_ _)); exact BK159.out⟩, ⟨by (with_reducible repeat (first | refine blk_drewN ?_ _ | refine blk_drew ?_ | refine blk_alloc ?_ _)); exact BK175.out⟩, ⟨by repeat (first | (with_reducible first | exact HB.out | apply below_alloc | apply pw_below_drewN | apply below_drew1 | refine below_set ?_ GE159.out | refine below_set ?_ GE175.out) | exact HB.out)⟩⟩
    · replace c18 := Bool.eq_false_iff.mpr c18
      subst c18
      have H1 : (laws_FnExactNewArena.j0 k a0 a1 t158 true t144 t147 t148 t149 t150 t151 t152 t153 t154 t155 t160 t163 t164 t165 t166 t167 t168 t169 t170 t171) = some r := by rw [if_neg (show ¬ (false = true) by decide)] at H; exact H
      clear H
      have H := H1
      clear H1
      have H' := Aside0.mk H
      clear H
      have hnb23 := NB175_159.out
      have hnc23 := NB159_175.out
      have hcz24_0 : w12.cell? ⟨gb175, 0, none⟩ = some (.slice none 0 0) := (blk_cell BK175.out 0).trans rfl
      have hcz24_1 : w12.cell? ⟨gb175, 1, none⟩ = some (.int .i64 0) := (blk_cell BK175.out 1).trans rfl
      have hcz24_2 : w12.cell? ⟨gb175, 2, none⟩ = some (.int .i64 0) := (blk_cell BK175.out 2).trans rfl
      have hcz24_3 : w12.cell? ⟨gb175, 3, none⟩ = some (.int .i64 0) := (blk_cell BK175.out 3).trans rfl
      have hcz24_4 : w12.cell? ⟨gb175, 4, none⟩ = some (.bool false) := (blk_cell BK175.out 4).trans rfl
      have hcz24_5 : w12.cell? ⟨gb175, 5, none⟩ = some (.int .i64 0) := (blk_cell BK175.out 5).trans rfl
      have hcz24_6 : w12.cell? ⟨gb175, 6, none⟩ = some (.int .i64 0) := (blk_cell BK175.out 6).trans rfl
      have hcz24_7 : w12.cell? ⟨gb175, 7, none⟩ = some (.int .i64 0) := (blk_cell BK175.out 7).trans rfl
      have hcz24_8 : w12.cell? ⟨gb175, 8, none⟩ = some (.int .i64 0) := (blk_cell BK175.out 8).trans rfl
      have hcz24_9 : w12.cell? ⟨gb175, 9, none⟩ = some (.slice none 0 0) := (blk_cell BK175.out 9).trans rfl
      have hfz24_0 := blk_frozen BK175.out 0
      have hfz24_1 := blk_frozen BK175.out 1
      have hfz24_2 := blk_frozen BK175.out 2
      have hfz24_3 := blk_frozen BK175.out 3
      have hfz24_4 := blk_frozen BK175.out 4
      have hfz24_5 := blk_frozen BK175.out 5
      have hfz24_6 := blk_frozen BK175.out 6
      have hfz24_7 := blk_frozen BK175.out 7
      have hfz24_8 := blk_frozen BK175.out 8
      have hfz24_9 := blk_frozen BK175.out 9
      have hcz25_0 : w12.cell? ⟨gb159, 0, none⟩ = some (.slice Ao8 t144.length co8) := (blk_cell BK159.out 0).trans rfl
      have hcz25_1 : w12.cell? ⟨gb159, 1, none⟩ = some (.int .i64 t147) := (blk_cell BK159.out 1).trans rfl
      have hcz25_2 : w12.cell? ⟨gb159, 2, none⟩ = some (.int .i64 t148) := (blk_cell BK159.out 2).trans rfl
      have hcz25_3 : w12.cell? ⟨gb159, 3, none⟩ = some (.int .i64 t149) := (blk_cell BK159.out 3).trans rfl
      have hcz25_4 : w12.cell? ⟨gb159, 4, none⟩ = some (.bool t150) := (blk_cell BK159.out 4).trans rfl
      have hcz25_5 : w12.cell? ⟨gb159, 5, none⟩ = some (.int .i64 t151) := (blk_cell BK159.out 5).trans rfl
      have hcz25_6 : w12.cell? ⟨gb159, 6, none⟩ = some (.int .i64 t152) := (blk_cell BK159.out 6).trans rfl
      have hcz25_7 : w12.cell? ⟨gb159, 7, none⟩ = some (.int .i64 t153) := (blk_cell BK159.out 7).trans rfl
      have hcz25_8 : w12.cell? ⟨gb159, 8, none⟩ = some (.int .i64 t154) := (blk_cell BK159.out 8).trans rfl
      have hcz25_9 : w12.cell? ⟨gb159, 9, none⟩ = some (.slice Ao10 t155.length co10) := (blk_cell BK159.out 9).trans rfl
      have hfz25_0 := blk_frozen BK159.out 0
      have hfz25_1 := blk_frozen BK159.out 1
      have hfz25_2 := blk_frozen BK159.out 2
      have hfz25_3 := blk_frozen BK159.out 3
      have hfz25_4 := blk_frozen BK159.out 4
      have hfz25_5 := blk_frozen BK159.out 5
      have hfz25_6 := blk_frozen BK159.out 6
      have hfz25_7 := blk_frozen BK159.out 7
      have hfz25_8 := blk_frozen BK159.out 8
      have hfz25_9 := blk_frozen BK159.out 9
      go_wp2_with (first | ((with_reducible refine gate_callee (f := 12) rfl ?_); refine goesL_ (some 27) rfl rfl Try.func12 (by kernel_rfl) rfl #[.agg #[.slice Ao13 t160.length co13, .int .i64 t163, .int .i64 t164, .int .i64 t165, .bool t166, .int .i64 t167, .int .i64 t168, .int .i64 t169, .int .i64 t170, .slice Ao16 t171.length co16], .agg #[.slice Ao8 t144.length co8, .int .i64 t147, .int .i64 t148, .int .i64 t149, .bool t150, .int .i64 t151, .int .i64 t152, .int .i64 t153, .int .i64 t154, .slice Ao10 t155.length co10]] rfl (by (try simp only [List.map_toArray, List.map_cons, List.map_nil]); first | done | rfl | (simp only [List.length_drop, List.length_take]; rfl)) ?_; (with_reducible refine (laws_eqArena.calls k _ _ t160 t163 t164 t165 t166 t167 t168 t169 t170 _ _ t171 _ _ t144 t147 t148 t149 t150 t151 t152 t153 t154 _ _ t155 false _ ?side1 ?side2 ?side3 ?side4 ?side5 ?side6 ?side7 ?side8 A17.out).mono ?_); (case side1 => refine (Kd.R_reads' (e := 49) (base := w.heap.size) (ok := fun k_ => (True ∧ some k_ ≠ (.slice Ao8 t144.length co8 : Value).ownBlock)) (n := t160.length) (c := co13) ?_).2.2; exact (by (with_reducible repeat (first | apply Kd.R_alloc | apply Kd.R_drewN | apply Kd.R_drew)); exact (Kd.R_mono (Kd.R_far (p := ⟨gb175, 9, none⟩) (Kd.R_far (p := ⟨gb175, 8, none⟩) (Kd.R_far (p := ⟨gb175, 7, none⟩) (Kd.R_far (p := ⟨gb175, 6, none⟩) (Kd.R_far (p := ⟨gb175, 5, none⟩) (Kd.R_far (p := ⟨gb175, 4, none⟩) (Kd.R_far (p := ⟨gb175, 3, none⟩) (Kd.R_far (p := ⟨gb175, 2, none⟩) (Kd.R_far (p := ⟨gb175, 1, none⟩) (Kd.R_far (p := ⟨gb175, 0, none⟩) (Kd.R_types HO162.out BK175.out (by decide)) (fun _ hk => hk.2) (.slice Ao13 t160.length co13)) (fun _ hk => hk.2) (.int .i64 t163)) (fun _ hk => hk.2) (.int .i64 t164)) (fun _ hk => hk.2) (.int .i64 t165)) (fun _ hk => hk.2) (.bool t166)) (fun _ hk => hk.2) (.int .i64 t167)) (fun _ hk => hk.2) (.int .i64 t168)) (fun _ hk => hk.2) (.int .i64 t169)) (fun _ hk => hk.2) (.int .i64 t170)) (fun _ hk => hk.2) (.slice Ao16 t171.length co16)) (fun _ h_ => h_.1)))); (case side2 => exact (Kd.R_reads' HO162.out).2.1); (case side3 => refine (Kd.R_reads' (e := 44) (base := w.heap.size) (ok := fun k_ => (True ∧ some k_ ≠ (.slice Ao10 t155.length co10 : Value).ownBlock)) (n := t171.length) (c := co16) ?_).2.2; exact (by (with_reducible repeat (first | apply Kd.R_alloc | apply Kd.R_drewN | apply Kd.R_drew)); exact (Kd.R_mono (Kd.R_far (p := ⟨gb175, 9, none⟩) (Kd.R_far (p := ⟨gb175, 8, none⟩) (Kd.R_far (p := ⟨gb175, 7, none⟩) (Kd.R_far (p := ⟨gb175, 6, none⟩) (Kd.R_far (p := ⟨gb175, 5, none⟩) (Kd.R_far (p := ⟨gb175, 4, none⟩) (Kd.R_far (p := ⟨gb175, 3, none⟩) (Kd.R_far (p := ⟨gb175, 2, none⟩) (Kd.R_far (p := ⟨gb175, 1, none⟩) (Kd.R_far (p := ⟨gb175, 0, none⟩) (Kd.R_types HO173.out BK175.out (by decide)) (fun _ hk => hk.2) (.slice Ao13 t160.length co13)) (fun _ hk => hk.2) (.int .i64 t163)) (fun _ hk => hk.2) (.int .i64 t164)) (fun _ hk => hk.2) (.int .i64 t165)) (fun _ hk => hk.2) (.bool t166)) (fun _ hk => hk.2) (.int .i64 t167)) (fun _ hk => hk.2) (.int .i64 t168)) (fun _ hk => hk.2) (.int .i64 t169)) (fun _ hk => hk.2) (.int .i64 t170)) (fun _ hk => hk.2) (.slice Ao16 t171.length co16)) (fun _ h_ => h_.1)))); (case side4 => exact (Kd.R_reads' HO173.out).2.1); (case side5 => refine (Kd.R_reads' (e := 49) (base := w.heap.size) (ok := fun k_ => (True ∧ some k_ ≠ (.slice Ao13 t160.length co13 : Value).ownBlock)) (n := t144.length) (c := co8) ?_).2.2; exact (by (with_reducible repeat (first | apply Kd.R_alloc | apply Kd.R_drewN | apply Kd.R_drew)); exact (Kd.R_mono (Kd.R_far (p := ⟨gb175, 9, none⟩) (Kd.R_far (p := ⟨gb175, 8, none⟩) (Kd.R_far (p := ⟨gb175, 7, none⟩) (Kd.R_far (p := ⟨gb175, 6, none⟩) (Kd.R_far (p := ⟨gb175, 5, none⟩) (Kd.R_far (p := ⟨gb175, 4, none⟩) (Kd.R_far (p := ⟨gb175, 3, none⟩) (Kd.R_far (p := ⟨gb175, 2, none⟩) (Kd.R_far (p := ⟨gb175, 1, none⟩) (Kd.R_far (p := ⟨gb175, 0, none⟩) (Kd.R_types HO146.out BK175.out (by decide)) (fun _ hk => hk.2) (.slice Ao13 t160.length co13)) (fun _ hk => hk.2) (.int .i64 t163)) (fun _ hk => hk.2) (.int .i64 t164)) (fun _ hk => hk.2) (.int .i64 t165)) (fun _ hk => hk.2) (.bool t166)) (fun _ hk => hk.2) (.int .i64 t167)) (fun _ hk => hk.2) (.int .i64 t168)) (fun _ hk => hk.2) (.int .i64 t169)) (fun _ hk => hk.2) (.int .i64 t170)) (fun _ hk => hk.2) (.slice Ao16 t171.length co16)) (fun _ h_ => h_.1)))); (case side6 => exact (Kd.R_reads' HO146.out).2.1); (case side7 => refine (Kd.R_reads' (e := 44) (base := w.heap.size) (ok := fun k_ => (True ∧ some k_ ≠ (.slice Ao16 t171.length co16 : Value).ownBlock)) (n := t155.length) (c := co10) ?_).2.2; exact (by (with_reducible repeat (first | apply Kd.R_alloc | apply Kd.R_drewN | apply Kd.R_drew)); exact (Kd.R_mono (Kd.R_far (p := ⟨gb175, 9, none⟩) (Kd.R_far (p := ⟨gb175, 8, none⟩) (Kd.R_far (p := ⟨gb175, 7, none⟩) (Kd.R_far (p := ⟨gb175, 6, none⟩) (Kd.R_far (p := ⟨gb175, 5, none⟩) (Kd.R_far (p := ⟨gb175, 4, none⟩) (Kd.R_far (p := ⟨gb175, 3, none⟩) (Kd.R_far (p := ⟨gb175, 2, none⟩) (Kd.R_far (p := ⟨gb175, 1, none⟩) (Kd.R_far (p := ⟨gb175, 0, none⟩) (Kd.R_types HO157.out BK175.out (by decide)) (fun _ hk => hk.2) (.slice Ao13 t160.length co13)) (fun _ hk => hk.2) (.int .i64 t163)) (fun _ hk => hk.2) (.int .i64 t164)) (fun _ hk => hk.2) (.int .i64 t165)) (fun _ hk => hk.2) (.bool t166)) (fun _ hk => hk.2) (.int .i64 t167)) (fun _ hk => hk.2) (.int .i64 t168)) (fun _ hk => hk.2) (.int .i64 t169)) (fun _ hk => hk.2) (.int .i64 t170)) (fun _ hk => hk.2) (.slice Ao16 t171.length co16)) (fun _ h_ => h_.1)))); (case side8 => exact (Kd.R_reads' HO157.out).2.1); rintro e w26 ⟨rfl, hb⟩; refine ⟨_, rfl, ?_⟩; have n0_ := Aside0.mk (Kd.R_below (by (with_reducible repeat (first | apply Kd.R_alloc | apply Kd.R_drewN | apply Kd.R_drew)); exact (Kd.R_mono (Kd.R_far (p := ⟨gb175, 9, none⟩) (Kd.R_far (p := ⟨gb175, 8, none⟩) (Kd.R_far (p := ⟨gb175, 7, none⟩) (Kd.R_far (p := ⟨gb175, 6, none⟩) (Kd.R_far (p := ⟨gb175, 5, none⟩) (Kd.R_far (p := ⟨gb175, 4, none⟩) (Kd.R_far (p := ⟨gb175, 3, none⟩) (Kd.R_far (p := ⟨gb175, 2, none⟩) (Kd.R_far (p := ⟨gb175, 1, none⟩) (Kd.R_far (p := ⟨gb175, 0, none⟩) (Kd.R_types HO146.out BK175.out (by decide)) (fun _ hk => hk.2) (.slice Ao13 t160.length co13)) (fun _ hk => hk.2) (.int .i64 t163)) (fun _ hk => hk.2) (.int .i64 t164)) (fun _ hk => hk.2) (.int .i64 t165)) (fun _ hk => hk.2) (.bool t166)) (fun _ hk => hk.2) (.int .i64 t167)) (fun _ hk => hk.2) (.int .i64 t168)) (fun _ hk => hk.2) (.int .i64 t169)) (fun _ hk => hk.2) (.int .i64 t170)) (fun _ hk => hk.2) (.slice Ao16 t171.length co16)) (fun _ h_ => h_.1))) hb); have n1_ := Aside0.mk (Kd.R_below (by (with_reducible repeat (first | apply Kd.R_alloc | apply Kd.R_drewN | apply Kd.R_drew)); exact (Kd.R_mono (Kd.R_far (p := ⟨gb175, 9, none⟩) (Kd.R_far (p := ⟨gb175, 8, none⟩) (Kd.R_far (p := ⟨gb175, 7, none⟩) (Kd.R_far (p := ⟨gb175, 6, none⟩) (Kd.R_far (p := ⟨gb175, 5, none⟩) (Kd.R_far (p := ⟨gb175, 4, none⟩) (Kd.R_far (p := ⟨gb175, 3, none⟩) (Kd.R_far (p := ⟨gb175, 2, none⟩) (Kd.R_far (p := ⟨gb175, 1, none⟩) (Kd.R_far (p := ⟨gb175, 0, none⟩) (Kd.R_types HO157.out BK175.out (by decide)) (fun _ hk => hk.2) (.slice Ao13 t160.length co13)) (fun _ hk => hk.2) (.int .i64 t163)) (fun _ hk => hk.2) (.int .i64 t164)) (fun _ hk => hk.2) (.int .i64 t165)) (fun _ hk => hk.2) (.bool t166)) (fun _ hk => hk.2) (.int .i64 t167)) (fun _ hk => hk.2) (.int .i64 t168)) (fun _ hk => hk.2) (.int .i64 t169)) (fun _ hk => hk.2) (.int .i64 t170)) (fun _ hk => hk.2) (.slice Ao16 t171.length co16)) (fun _ h_ => h_.1))) hb); have n2_ := Aside0.mk (Kd.R_below (by (with_reducible repeat (first | apply Kd.R_alloc | apply Kd.R_drewN | apply Kd.R_drew)); exact (Kd.R_mono (Kd.R_far (p := ⟨gb175, 9, none⟩) (Kd.R_far (p := ⟨gb175, 8, none⟩) (Kd.R_far (p := ⟨gb175, 7, none⟩) (Kd.R_far (p := ⟨gb175, 6, none⟩) (Kd.R_far (p := ⟨gb175, 5, none⟩) (Kd.R_far (p := ⟨gb175, 4, none⟩) (Kd.R_far (p := ⟨gb175, 3, none⟩) (Kd.R_far (p := ⟨gb175, 2, none⟩) (Kd.R_far (p := ⟨gb175, 1, none⟩) (Kd.R_far (p := ⟨gb175, 0, none⟩) (Kd.R_types HO162.out BK175.out (by decide)) (fun _ hk => hk.2) (.slice Ao13 t160.length co13)) (fun _ hk => hk.2) (.int .i64 t163)) (fun _ hk => hk.2) (.int .i64 t164)) (fun _ hk => hk.2) (.int .i64 t165)) (fun _ hk => hk.2) (.bool t166)) (fun _ hk => hk.2) (.int .i64 t167)) (fun _ hk => hk.2) (.int .i64 t168)) (fun _ hk => hk.2) (.int .i64 t169)) (fun _ hk => hk.2) (.int .i64 t170)) (fun _ hk => hk.2) (.slice Ao16 t171.length co16)) (fun _ h_ => h_.1))) hb); have n3_ := Aside0.mk (Kd.R_below (by (with_reducible repeat (first | apply Kd.R_alloc | apply Kd.R_drewN | apply Kd.R_drew)); exact (Kd.R_mono (Kd.R_far (p := ⟨gb175, 9, none⟩) (Kd.R_far (p := ⟨gb175, 8, none⟩) (Kd.R_far (p := ⟨gb175, 7, none⟩) (Kd.R_far (p := ⟨gb175, 6, none⟩) (Kd.R_far (p := ⟨gb175, 5, none⟩) (Kd.R_far (p := ⟨gb175, 4, none⟩) (Kd.R_far (p := ⟨gb175, 3, none⟩) (Kd.R_far (p := ⟨gb175, 2, none⟩) (Kd.R_far (p := ⟨gb175, 1, none⟩) (Kd.R_far (p := ⟨gb175, 0, none⟩) (Kd.R_types HO173.out BK175.out (by decide)) (fun _ hk => hk.2) (.slice Ao13 t160.length co13)) (fun _ hk => hk.2) (.int .i64 t163)) (fun _ hk => hk.2) (.int .i64 t164)) (fun _ hk => hk.2) (.int .i64 t165)) (fun _ hk => hk.2) (.bool t166)) (fun _ hk => hk.2) (.int .i64 t167)) (fun _ hk => hk.2) (.int .i64 t168)) (fun _ hk => hk.2) (.int .i64 t169)) (fun _ hk => hk.2) (.int .i64 t170)) (fun _ hk => hk.2) (.slice Ao16 t171.length co16)) (fun _ h_ => h_.1))) hb); have n4_ := Aside0.mk (blk_below (g := gb159) (o := .cells #[.slice Ao8 t144.length co8, .int .i64 t147, .int .i64 t148, .int .i64 t149, .bool t150, .int .i64 t151, .int .i64 t152, .int .i64 t153, .int .i64 t154, .slice Ao10 t155.length co10] 25 (0, 0)) (by (with_reducible repeat (first | refine blk_drewN ?_ _ | refine blk_drew ?_ | refine blk_alloc ?_ _)); refine blk_far ?_ NB159_175.out _; (with_reducible repeat (first | refine blk_drewN ?_ _ | refine blk_drew ?_ | refine blk_alloc ?_ _)); refine blk_far ?_ NB159_175.out _; (with_reducible repeat (first | refine blk_drewN ?_ _ | refine blk_drew ?_ | refine blk_alloc ?_ _)); refine blk_far ?_ NB159_175.out _; (with_reducible repeat (first | refine blk_drewN ?_ _ | refine blk_drew ?_ | refine blk_alloc ?_ _)); refine blk_far ?_ NB159_175.out _; (with_reducible repeat (first | refine blk_drewN ?_ _ | refine blk_drew ?_ | refine blk_alloc ?_ _)); refine blk_far ?_ NB159_175.out _; (with_reducible repeat (first | refine blk_drewN ?_ _ | refine blk_drew ?_ | refine blk_alloc ?_ _)); refine blk_far ?_ NB159_175.out _; (with_reducible repeat (first | refine blk_drewN ?_ _ | refine blk_drew ?_ | refine blk_alloc ?_ _)); refine blk_far ?_ NB159_175.out _; (with_reducible repeat (first | refine blk_drewN ?_ _ | refine blk_drew ?_ | refine blk_alloc ?_ _)); refine blk_far ?_ NB159_175.out _; (with_reducible repeat (first | refine blk_drewN ?_ _ | refine blk_drew ?_ | refine blk_alloc ?_ _)); refine blk_far ?_ NB159_175.out _; (with_reducible repeat (first | refine blk_drewN ?_ _ | refine blk_drew ?_ | refine blk_alloc ?_ _)); refine blk_far ?_ NB159_175.out _; (with_reducible repeat (first | refine blk_drewN ?_ _ | refine blk_drew ?_ | refine blk_alloc ?_ _)); exact BK159.out) hb); have n5_ := Aside0.mk (blk_below (g := gb175) (o := .cells #[.slice Ao13 t160.length co13, .int .i64 t163, .int .i64 t164, .int .i64 t165, .bool t166, .int .i64 t167, .int .i64 t168, .int .i64 t169, .int .i64 t170, .slice Ao16 t171.length co16] 25 (0, 0)) (by (with_reducible repeat (first | refine blk_drewN ?_ _ | refine blk_drew ?_ | refine blk_alloc ?_ _)); refine blk_put (cs := #[.slice Ao13 t160.length co13, .int .i64 t163, .int .i64 t164, .int .i64 t165, .bool t166, .int .i64 t167, .int .i64 t168, .int .i64 t169, .int .i64 t170, .slice none 0 0]) ?_ 9 _ rfl; (with_reducible repeat (first | refine blk_drewN ?_ _ | refine blk_drew ?_ | refine blk_alloc ?_ _)); refine blk_put (cs := #[.slice Ao13 t160.length co13, .int .i64 t163, .int .i64 t164, .int .i64 t165, .bool t166, .int .i64 t167, .int .i64 t168, .int .i64 t169, .int .i64 0, .slice none 0 0]) ?_ 8 _ rfl; (with_reducible repeat (first | refine blk_drewN ?_ _ | refine blk_drew ?_ | refine blk_alloc ?_ _)); refine blk_put (cs := #[.slice Ao13 t160.length co13, .int .i64 t163, .int .i64 t164, .int .i64 t165, .bool t166, .int .i64 t167, .int .i64 t168, .int .i64 0, .int .i64 0, .slice none 0 0]) ?_ 7 _ rfl; (with_reducible repeat (first | refine blk_drewN ?_ _ | refine blk_drew ?_ | refine blk_alloc ?_ _)); refine blk_put (cs := #[.slice Ao13 t160.length co13, .int .i64 t163, .int .i64 t164, .int .i64 t165, .bool t166, .int .i64 t167, .int .i64 0, .int .i64 0, .int .i64 0, .slice none 0 0]) ?_ 6 _ rfl; (with_reducible repeat (first | refine blk_drewN ?_ _ | refine blk_drew ?_ | refine blk_alloc ?_ _)); refine blk_put (cs := #[.slice Ao13 t160.length co13, .int .i64 t163, .int .i64 t164, .int .i64 t165, .bool t166, .int .i64 0, .int .i64 0, .int .i64 0, .int .i64 0, .slice none 0 0]) ?_ 5 _ rfl; (with_reducible repeat (first | refine blk_drewN ?_ _ | refine blk_drew ?_ | refine blk_alloc ?_ _)); refine blk_put (cs := #[.slice Ao13 t160.length co13, .int .i64 t163, .int .i64 t164, .int .i64 t165, .bool false, .int .i64 0, .int .i64 0, .int .i64 0, .int .i64 0, .slice none 0 0]) ?_ 4 _ rfl; (with_reducible repeat (first | refine blk_drewN ?_ _ | refine blk_drew ?_ | refine blk_alloc ?_ _)); refine blk_put (cs := #[.slice Ao13 t160.length co13, .int .i64 t163, .int .i64 t164, .int .i64 0, .bool false, .int .i64 0, .int .i64 0, .int .i64 0, .int .i64 0, .slice none 0 0]) ?_ 3 _ rfl; (with_reducible repeat (first | refine blk_drewN ?_ _ | refine blk_drew ?_ | refine blk_alloc ?_ _)); refine blk_put (cs := #[.slice Ao13 t160.length co13, .int .i64 t163, .int .i64 0, .int .i64 0, .bool false, .int .i64 0, .int .i64 0, .int .i64 0, .int .i64 0, .slice none 0 0]) ?_ 2 _ rfl; (with_reducible repeat (first | refine blk_drewN ?_ _ | refine blk_drew ?_ | refine blk_alloc ?_ _)); refine blk_put (cs := #[.slice Ao13 t160.length co13, .int .i64 0, .int .i64 0, .int .i64 0, .bool false, .int .i64 0, .int .i64 0, .int .i64 0, .int .i64 0, .slice none 0 0]) ?_ 1 _ rfl; (with_reducible repeat (first | refine blk_drewN ?_ _ | refine blk_drew ?_ | refine blk_alloc ?_ _)); refine blk_put (cs := #[.slice none 0 0, .int .i64 0, .int .i64 0, .int .i64 0, .bool false, .int .i64 0, .int .i64 0, .int .i64 0, .int .i64 0, .slice none 0 0]) ?_ 0 _ rfl; (with_reducible repeat (first | refine blk_drewN ?_ _ | refine blk_drew ?_ | refine blk_alloc ?_ _)); exact BK175.out) hb); have n6_ := Aside0.mk (below_step (by repeat (first | (with_reducible first | exact HB.out | apply below_alloc | apply pw_below_drewN | apply below_drew1 | refine below_set ?_ GE159.out | refine below_set ?_ GE175.out) | exact HB.out)) hb); clear HO146; clear HO157; clear HO162; clear HO173; clear BK159; clear BK175; clear HB; have HO146 := n0_; have HO157 := n1_; have HO162 := n2_; have HO173 := n3_; have BK159 := n4_; have BK175 := n5_; have HB := n6_; clear n0_ n1_ n2_ n3_ n4_ n5_ n6_; (try clear hb); (try clear hb2); (try clear hk); (try clear hi)))
      go_meet
      case rel => exact ⟨_, (true), (by first | rfl | (simp; done) | (simp [*]; done)), H', ⟨by first | omega | exact Nat.le_refl _⟩, ⟨by (with_reducible repeat (first | apply Kd.R_alloc | apply Kd.R_drewN | apply Kd.R_drew)); exact Kd.R_mono HO146.out (fun _ hk => hk.2)⟩, ⟨by (with_reducible repeat (first | apply Kd.R_alloc | apply Kd.R_drewN | apply Kd.R_drew)); exact Kd.R_mono HO157.out (fun _ hk => hk.2)⟩, ⟨by (with_reducible repeat (first | apply Kd.R_alloc | apply Kd.R_drewN | apply Kd.R_drew)); exact Kd.R_mono HO162.out (fun _ hk => hk.2)⟩, ⟨by (with_reducible repeat (first | apply Kd.R_alloc | apply Kd.R_drewN | apply Kd.R_drew)); exact Kd.R_mono HO173.out (fun _ hk => hk.2)⟩, ⟨by (with_reducible repeat (first | refine blk_drewN ?_ _ | refine blk_drew ?_ | refine blk_alloc ?_ _)); exact BK159.out⟩, ⟨by (with_reducible repeat (first | refine blk_drewN ?_ _ | refine blk_drew ?_ | refine blk_alloc ?_ _)); exact BK175.out⟩, ⟨by repeat (first | (with_reducible first | exact HB.out | apply below_alloc | apply pw_below_drewN | apply below_drew1 | refine below_set ?_ GE159.out | refine below_set ?_ GE175.out) | exact HB.out)⟩⟩
  case rest =>
    clear HC5
    try clear c1
    try clear c2
    try clear p2
    try clear c3
    try clear c10
    try clear c11
    try clear c12
    try clear c14
    try clear c18
    try clear c19
    try clear c23
    try clear hcz15_0
    try clear hcz15_1
    try clear hcz15_2
    try clear hcz15_3
    try clear hcz15_4
    try clear hcz15_5
    try clear hcz15_6
    try clear hcz15_7
    try clear hcz15_8
    try clear hcz15_9
    try clear hcz20_0
    try clear hcz20_1
    try clear hcz20_2
    try clear hcz20_3
    try clear hcz20_4
    try clear hcz20_5
    try clear hcz20_6
    try clear hcz20_7
    try clear hcz20_8
    try clear hcz20_9
    try clear hcz21_0
    try clear hcz21_1
    try clear hcz21_2
    try clear hcz21_3
    try clear hcz21_4
    try clear hcz21_5
    try clear hcz21_6
    try clear hcz21_7
    try clear hcz21_8
    try clear hcz21_9
    try clear hcz24_0
    try clear hcz24_1
    try clear hcz24_2
    try clear hcz24_3
    try clear hcz24_4
    try clear hcz24_5
    try clear hcz24_6
    try clear hcz24_7
    try clear hcz24_8
    try clear hcz24_9
    try clear hcz25_0
    try clear hcz25_1
    try clear hcz25_2
    try clear hcz25_3
    try clear hcz25_4
    try clear hcz25_5
    try clear hcz25_6
    try clear hcz25_7
    try clear hcz25_8
    try clear hcz25_9
    try clear hcz9_0
    try clear hcz9_1
    try clear hcz9_2
    try clear hcz9_3
    try clear hcz9_4
    try clear hcz9_5
    try clear hcz9_6
    try clear hcz9_7
    try clear hcz9_8
    try clear hcz9_9
    try clear hfz15_0
    try clear hfz15_1
    try clear hfz15_2
    try clear hfz15_3
    try clear hfz15_4
    try clear hfz15_5
    try clear hfz15_6
    try clear hfz15_7
    try clear hfz15_8
    try clear hfz15_9
    try clear hfz20_0
    try clear hfz20_1
    try clear hfz20_2
    try clear hfz20_3
    try clear hfz20_4
    try clear hfz20_5
    try clear hfz20_6
    try clear hfz20_7
    try clear hfz20_8
    try clear hfz20_9
    try clear hfz21_0
    try clear hfz21_1
    try clear hfz21_2
    try clear hfz21_3
    try clear hfz21_4
    try clear hfz21_5
    try clear hfz21_6
    try clear hfz21_7
    try clear hfz21_8
    try clear hfz21_9
    try clear hfz24_0
    try clear hfz24_1
    try clear hfz24_2
    try clear hfz24_3
    try clear hfz24_4
    try clear hfz24_5
    try clear hfz24_6
    try clear hfz24_7
    try clear hfz24_8
    try clear hfz24_9
    try clear hfz25_0
    try clear hfz25_1
    try clear hfz25_2
    try clear hfz25_3
    try clear hfz25_4
    try clear hfz25_5
    try clear hfz25_6
    try clear hfz25_7
    try clear hfz25_8
    try clear hfz25_9
    try clear hfz9_0
    try clear hfz9_1
    try clear hfz9_2
    try clear hfz9_3
    try clear hfz9_4
    try clear hfz9_5
    try clear hfz9_6
    try clear hfz9_7
    try clear hfz9_8
    try clear hfz9_9
    obtain ⟨kq, x33_4, rfl, HA, HJ4, HO_160000, HO_160009, HO_176000, HO_176009, BK159, BK175, HB⟩ := hcut
    cases kq with
    | zero => exact absurd HA.out (by simp [laws_FnExactNewArena.j0])
    | succ kj4 =>
      have H := HA.out
      clear HA
      simp only [laws_FnExactNewArena.j0] at H
      by_cases c27 : x33_4 = true
      · subst c27
        have H1 : (some false) = some r := by rw [if_pos rfl] at H; exact H
        clear H
        have H := H1
        clear H1
        obtain rfl := Option.some.inj H
        go_wp2
        go_ret
        exact ⟨by first | rfl | (simp [errW_none, errW_some] <;> rfl) | (simp [*, errW_none, errW_some] <;> rfl), by repeat (first | (with_reducible first | exact HB.out | apply below_alloc | apply pw_below_drewN | apply below_drew1 | refine below_set ?_ GE159.out | refine below_set ?_ GE175.out) | exact HB.out)⟩
      · replace c27 := Bool.eq_false_iff.mpr c27
        subst c27
        have H1 : ((laws_markArena.f kj4 t160 t163 t164 t165 t166 t167 t168 t169 t170 t171 1).bind fun bt177 => ((laws_heldArena.f kj4 bt177.2.1 t163 t164 t165 t166 t167 t168 t169 t170 bt177.2.2 1).bind fun t180 => (if t180 < 0 then (some false) else (if t180 = bt177.1 then ((impl_NewArena.f a0 a1).bind fun bt181 => ((laws_eqArena.f kj4 bt181.1 bt181.2.1 bt181.2.2.1 bt181.2.2.2.1 bt181.2.2.2.2.1 bt181.2.2.2.2.2.1 bt181.2.2.2.2.2.2.1 bt181.2.2.2.2.2.2.2.1 bt181.2.2.2.2.2.2.2.2.1 bt181.2.2.2.2.2.2.2.2.2.1 t144 t147 t148 t149 t150 t151 t152 t153 t154 t155).bind fun t197 => (if t197 = true then (laws_FnExactNewArena.j1 kj4 bt177.1 (bt181.2.2.2.2.2.2.2.2.2.2 != t158) bt177.2.1 t163 t164 t165 t166 t167 t168 t169 t170 bt177.2.2) else (laws_FnExactNewArena.j1 kj4 bt177.1 true bt177.2.1 t163 t164 t165 t166 t167 t168 t169 t170 bt177.2.2)))) else (some false))))) = some r := by rw [if_neg (show ¬ (false = true) by decide)] at H; exact H
        clear H
        have H := H1
        clear H1
        replace H := Option.bind_eq_some_iff.mp H
        obtain ⟨⟨t177, t178, t179⟩, A280, H⟩ := H
        replace H : ((laws_heldArena.f kj4 t178 t163 t164 t165 t166 t167 t168 t169 t170 t179 1).bind fun t180 => (if t180 < 0 then (some false) else (if t180 = t177 then ((impl_NewArena.f a0 a1).bind fun bt181 => ((laws_eqArena.f kj4 bt181.1 bt181.2.1 bt181.2.2.1 bt181.2.2.2.1 bt181.2.2.2.2.1 bt181.2.2.2.2.2.1 bt181.2.2.2.2.2.2.1 bt181.2.2.2.2.2.2.2.1 bt181.2.2.2.2.2.2.2.2.1 bt181.2.2.2.2.2.2.2.2.2.1 t144 t147 t148 t149 t150 t151 t152 t153 t154 t155).bind fun t197 => (if t197 = true then (laws_FnExactNewArena.j1 kj4 t177 (bt181.2.2.2.2.2.2.2.2.2.2 != t158) t178 t163 t164 t165 t166 t167 t168 t169 t170 t179) else (laws_FnExactNewArena.j1 kj4 t177 true t178 t163 t164 t165 t166 t167 t168 t169 t170 t179)))) else (some false)))) = some r := H
        have A28 := Aside0.mk A280
        clear A280
        replace H := Option.bind_eq_some_iff.mp H
        obtain ⟨t180, A290, H⟩ := H
        replace H : (if t180 < 0 then (some false) else (if t180 = t177 then ((impl_NewArena.f a0 a1).bind fun bt181 => ((laws_eqArena.f kj4 bt181.1 bt181.2.1 bt181.2.2.1 bt181.2.2.2.1 bt181.2.2.2.2.1 bt181.2.2.2.2.2.1 bt181.2.2.2.2.2.2.1 bt181.2.2.2.2.2.2.2.1 bt181.2.2.2.2.2.2.2.2.1 bt181.2.2.2.2.2.2.2.2.2.1 t144 t147 t148 t149 t150 t151 t152 t153 t154 t155).bind fun t197 => (if t197 = true then (laws_FnExactNewArena.j1 kj4 t177 (bt181.2.2.2.2.2.2.2.2.2.2 != t158) t178 t163 t164 t165 t166 t167 t168 t169 t170 t179) else (laws_FnExactNewArena.j1 kj4 t177 true t178 t163 t164 t165 t166 t167 t168 t169 t170 t179)))) else (some false))) = some r := H
        have A29 := Aside0.mk A290
        clear A290
        by_cases c30 : t180 < 0
        · rw [if_pos c30] at H
          have c30b0 : decide (t180 < 0) = true := decide_eq_true c30
          clear c30
          obtain rfl := Option.some.inj H
          have hnb31 := NB175_159.out
          have hnc31 := NB159_175.out
          have hcz32_0 : wc.cell? ⟨gb175, 0, none⟩ = some (.slice Ao13 t160.length co13) := (blk_cell BK175.out 0).trans rfl
          have hcz32_1 : wc.cell? ⟨gb175, 1, none⟩ = some (.int .i64 t163) := (blk_cell BK175.out 1).trans rfl
          have hcz32_2 : wc.cell? ⟨gb175, 2, none⟩ = some (.int .i64 t164) := (blk_cell BK175.out 2).trans rfl
          have hcz32_3 : wc.cell? ⟨gb175, 3, none⟩ = some (.int .i64 t165) := (blk_cell BK175.out 3).trans rfl
          have hcz32_4 : wc.cell? ⟨gb175, 4, none⟩ = some (.bool t166) := (blk_cell BK175.out 4).trans rfl
          have hcz32_5 : wc.cell? ⟨gb175, 5, none⟩ = some (.int .i64 t167) := (blk_cell BK175.out 5).trans rfl
          have hcz32_6 : wc.cell? ⟨gb175, 6, none⟩ = some (.int .i64 t168) := (blk_cell BK175.out 6).trans rfl
          have hcz32_7 : wc.cell? ⟨gb175, 7, none⟩ = some (.int .i64 t169) := (blk_cell BK175.out 7).trans rfl
          have hcz32_8 : wc.cell? ⟨gb175, 8, none⟩ = some (.int .i64 t170) := (blk_cell BK175.out 8).trans rfl
          have hcz32_9 : wc.cell? ⟨gb175, 9, none⟩ = some (.slice Ao16 t171.length co16) := (blk_cell BK175.out 9).trans rfl
          have hfz32_0 := blk_frozen BK175.out 0
          have hfz32_1 := blk_frozen BK175.out 1
          have hfz32_2 := blk_frozen BK175.out 2
          have hfz32_3 := blk_frozen BK175.out 3
          have hfz32_4 := blk_frozen BK175.out 4
          have hfz32_5 := blk_frozen BK175.out 5
          have hfz32_6 := blk_frozen BK175.out 6
          have hfz32_7 := blk_frozen BK175.out 7
          have hfz32_8 := blk_frozen BK175.out 8
          have hfz32_9 := blk_frozen BK175.out 9
          go_wp2_with (first | ((with_reducible refine gate_callee (f := 13) rfl ?_); refine goesL_ (some 36) rfl rfl Try.func13 (by kernel_rfl) rfl #[.agg #[.slice Ao13 t160.length co13, .int .i64 t163, .int .i64 t164, .int .i64 t165, .bool t166, .int .i64 t167, .int .i64 t168, .int .i64 t169, .int .i64 t170, .slice Ao16 t171.length co16], .int .i64 1] rfl (by (try simp only [List.map_toArray, List.map_cons, List.map_nil]); first | done | rfl | (simp only [List.length_drop, List.length_take]; rfl)) ?_; (with_reducible refine (laws_markArena.calls kj4 (fun k_ => some k_ = (.slice Ao13 t160.length co13 : Value).ownBlock) (.slice Ao13 t160.length co13) t160 t163 t164 t165 t166 t167 t168 t169 t170 (fun k_ => some k_ = (.slice Ao16 t171.length co16 : Value).ownBlock) (.slice Ao16 t171.length co16) t171 1 t177 t178 t179 w _ ?side1 ?side2 ?side3 A28.out).mono ?_); (case side1 => repeat (first | (with_reducible first | exact HB.out | apply below_alloc | apply pw_below_drewN | apply below_drew1 | refine below_set ?_ GE159.out | refine below_set ?_ GE175.out) | exact HB.out)); (case side2 => exact Kd.R_tight rfl HO_176000.out); (case side3 => exact Kd.R_tight rfl HO_176009.out); rintro e w33 ⟨rfl, hy0, hy1, hb, hkp⟩; refine ⟨_, rfl, ?_⟩; have n0_ := Aside0.mk (Kd.R_mono (ok' := fun k_ => some k_ ≠ (.slice Ao13 t160.length co13 : Value).ownBlock) (Kd.R_keptB ((Kd.R_apart' HO_160000.out (Kd.R_typed HO_176009.out) (by decide))) hkp (fun k_ hk_ hs_ => Or.elim hs_ (fun e_ => (hk_.1) e_) (fun e_ => (hk_.2) e_))) (fun k_ hk_ => hk_.1.1)); have n1_ := Aside0.mk (Kd.R_mono (ok' := fun k_ => some k_ ≠ (.slice Ao16 t171.length co16 : Value).ownBlock) (Kd.R_keptB ((Kd.R_apart' HO_160009.out (Kd.R_typed HO_176000.out) (by decide))) hkp (fun k_ hk_ hs_ => Or.elim hs_ (fun e_ => (hk_.2) e_) (fun e_ => (hk_.1) e_))) (fun k_ hk_ => hk_.1.1)); have n2_ := Aside0.mk (Kd.R_reok rfl hy0 (fun k_ e_ => HO_176000.out.1 k_ e_)); have n3_ := Aside0.mk (Kd.R_reok rfl hy1 (fun k_ e_ => HO_176009.out.1 k_ e_)); have n4_ := Aside0.mk (blk_kept (by (with_reducible repeat (first | refine blk_drewN ?_ _ | refine blk_drew ?_ | refine blk_alloc ?_ _)); exact BK159.out) hkp (fun hs_ => Or.elim hs_ (fun e_ => (fun e_ => (Kd.R_ne HO_176000.out BK159.out (by decide)) e_) e_) (fun e_ => (fun e_ => (Kd.R_ne HO_176009.out BK159.out (by decide)) e_) e_))); have n5_ := Aside0.mk (blk_kept (by (with_reducible repeat (first | refine blk_drewN ?_ _ | refine blk_drew ?_ | refine blk_alloc ?_ _)); exact BK175.out) hkp (fun hs_ => Or.elim hs_ (fun e_ => (fun e_ => (Kd.R_ne HO_176000.out BK175.out (by decide)) e_) e_) (fun e_ => (fun e_ => (Kd.R_ne HO_176009.out BK175.out (by decide)) e_) e_))); have n6_ := Aside0.mk (hb); clear HO_160000; clear HO_160009; clear HO_176000; clear HO_176009; clear BK159; clear BK175; clear HB; have HO_160000 := n0_; have HO_160009 := n1_; have HO_176000 := n2_; have HO_176009 := n3_; have BK159 := n4_; have BK175 := n5_; have HB := n6_; clear n0_ n1_ n2_ n3_ n4_ n5_ n6_; (try clear hb); (try clear hkp); (try clear hy0); (try clear hy1); have hcz34_0 : w33.cell? ⟨gb175, 0, none⟩ = some (.slice Ao13 t160.length co13) := (blk_cell BK175.out 0).trans rfl; have hcz34_1 : w33.cell? ⟨gb175, 1, none⟩ = some (.int .i64 t163) := (blk_cell BK175.out 1).trans rfl; have hcz34_2 : w33.cell? ⟨gb175, 2, none⟩ = some (.int .i64 t164) := (blk_cell BK175.out 2).trans rfl; have hcz34_3 : w33.cell? ⟨gb175, 3, none⟩ = some (.int .i64 t165) := (blk_cell BK175.out 3).trans rfl; have hcz34_4 : w33.cell? ⟨gb175, 4, none⟩ = some (.bool t166) := (blk_cell BK175.out 4).trans rfl; have hcz34_5 : w33.cell? ⟨gb175, 5, none⟩ = some (.int .i64 t167) := (blk_cell BK175.out 5).trans rfl; have hcz34_6 : w33.cell? ⟨gb175, 6, none⟩ = some (.int .i64 t168) := (blk_cell BK175.out 6).trans rfl; have hcz34_7 : w33.cell? ⟨gb175, 7, none⟩ = some (.int .i64 t169) := (blk_cell BK175.out 7).trans rfl; have hcz34_8 : w33.cell? ⟨gb175, 8, none⟩ = some (.int .i64 t170) := (blk_cell BK175.out 8).trans rfl; have hcz34_9 : w33.cell? ⟨gb175, 9, none⟩ = some (.slice Ao16 t171.length co16) := (blk_cell BK175.out 9).trans rfl; have hfz34_0 := blk_frozen BK175.out 0; have hfz34_1 := blk_frozen BK175.out 1; have hfz34_2 := blk_frozen BK175.out 2; have hfz34_3 := blk_frozen BK175.out 3; have hfz34_4 := blk_frozen BK175.out 4; have hfz34_5 := blk_frozen BK175.out 5; have hfz34_6 := blk_frozen BK175.out 6; have hfz34_7 := blk_frozen BK175.out 7; have hfz34_8 := blk_frozen BK175.out 8; have hfz34_9 := blk_frozen BK175.out 9) | ((with_reducible refine gate_callee (f := 14) rfl ?_); refine goesL_ (some 39) rfl rfl Try.func14 (by kernel_rfl) rfl #[.agg #[.slice Ao13 t178.length co13, .int .i64 t163, .int .i64 t164, .int .i64 t165, .bool t166, .int .i64 t167, .int .i64 t168, .int .i64 t169, .int .i64 t170, .slice Ao16 t179.length co16], .int .i64 1] rfl (by (try simp only [List.map_toArray, List.map_cons, List.map_nil]); first | done | (rw [show t178.length = t160.length from (Kd.R_reads' HO_176000.out).1.symm, show t179.length = t171.length from (Kd.R_reads' HO_176009.out).1.symm] <;> rfl) | rfl | (simp only [List.length_drop, List.length_take]; rfl)) ?_; (with_reducible refine (laws_heldArena.calls kj4 _ _ t178 t163 t164 t165 t166 t167 t168 t169 t170 _ _ t179 1 t180 _ ?side1 ?side2 ?side3 ?side4 A29.out).mono ?_); (case side1 => repeat (first | exact (Kd.R_reads' HO_176000.out).2.2 | (with_reducible refine Kd.C_alloc ?_ _) | (with_reducible refine Kd.C_drewN ?_ _) | (with_reducible refine Kd.C_drew ?_))); (case side2 => rw [show t178.length = t160.length from (Kd.R_reads' HO_176000.out).1.symm]; exact (Kd.R_reads' HO_176000.out).2.1); (case side3 => repeat (first | exact (Kd.R_reads' HO_176009.out).2.2 | (with_reducible refine Kd.C_alloc ?_ _) | (with_reducible refine Kd.C_drewN ?_ _) | (with_reducible refine Kd.C_drew ?_))); (case side4 => rw [show t179.length = t171.length from (Kd.R_reads' HO_176009.out).1.symm]; exact (Kd.R_reads' HO_176009.out).2.1); rintro e w35 ⟨rfl, hb⟩; refine ⟨_, rfl, ?_⟩; have n0_ := Aside0.mk (Kd.R_below (by (with_reducible repeat (first | apply Kd.R_alloc | apply Kd.R_drewN | apply Kd.R_drew)); exact HO_160000.out) hb); have n1_ := Aside0.mk (Kd.R_below (by (with_reducible repeat (first | apply Kd.R_alloc | apply Kd.R_drewN | apply Kd.R_drew)); exact HO_160009.out) hb); have n2_ := Aside0.mk (Kd.R_below (by (with_reducible repeat (first | apply Kd.R_alloc | apply Kd.R_drewN | apply Kd.R_drew)); exact HO_176000.out) hb); have n3_ := Aside0.mk (Kd.R_below (by (with_reducible repeat (first | apply Kd.R_alloc | apply Kd.R_drewN | apply Kd.R_drew)); exact HO_176009.out) hb); have n4_ := Aside0.mk (blk_below (g := gb159) (o := .cells #[.slice Ao8 t144.length co8, .int .i64 t147, .int .i64 t148, .int .i64 t149, .bool t150, .int .i64 t151, .int .i64 t152, .int .i64 t153, .int .i64 t154, .slice Ao10 t155.length co10] 25 (0, 0)) (by (with_reducible repeat (first | refine blk_drewN ?_ _ | refine blk_drew ?_ | refine blk_alloc ?_ _)); exact BK159.out) hb); have n5_ := Aside0.mk (blk_below (g := gb175) (o := .cells #[.slice Ao13 t160.length co13, .int .i64 t163, .int .i64 t164, .int .i64 t165, .bool t166, .int .i64 t167, .int .i64 t168, .int .i64 t169, .int .i64 t170, .slice Ao16 t171.length co16] 25 (0, 0)) (by (with_reducible repeat (first | refine blk_drewN ?_ _ | refine blk_drew ?_ | refine blk_alloc ?_ _)); exact BK175.out) hb); have n6_ := Aside0.mk (below_step (by repeat (first | (with_reducible first | exact HB.out | apply below_alloc | apply pw_below_drewN | apply below_drew1 | refine below_set ?_ GE159.out | refine below_set ?_ GE175.out) | exact HB.out)) hb); clear HO_160000; clear HO_160009; clear HO_176000; clear HO_176009; clear BK159; clear BK175; clear HB; have HO_160000 := n0_; have HO_160009 := n1_; have HO_176000 := n2_; have HO_176009 := n3_; have BK159 := n4_; have BK175 := n5_; have HB := n6_; clear n0_ n1_ n2_ n3_ n4_ n5_ n6_; (try clear hb); (try clear hb2); (try clear hk); (try clear hi)))
          go_ret
          exact ⟨by first | rfl | (simp [errW_none, errW_some] <;> rfl) | (simp [*, errW_none, errW_some] <;> rfl), by repeat (first | (with_reducible first | exact HB.out | apply below_alloc | apply pw_below_drewN | apply below_drew1 | refine below_set ?_ GE159.out | refine below_set ?_ GE175.out) | exact HB.out)⟩
        · rw [if_neg c30] at H
          have c30b0 : decide (t180 < 0) = false := decide_eq_false c30
          clear c30
          by_cases c36 : t180 = t177
          · rw [if_pos c36] at H
            have c36b0 : (t180 == t177) = true := beq_iff_eq.mpr c36
            have c36b1 : (t180 != t177) = false := bne_eq_false_iff_eq.mpr c36
            clear c36
            replace H := Option.bind_eq_some_iff.mp H
            obtain ⟨⟨t181, t184, t185, t186, t187, t188, t189, t190, t191, t192, t195⟩, A370, H⟩ := H
            replace H : ((laws_eqArena.f kj4 t181 t184 t185 t186 t187 t188 t189 t190 t191 t192 t144 t147 t148 t149 t150 t151 t152 t153 t154 t155).bind fun t197 => (if t197 = true then (laws_FnExactNewArena.j1 kj4 t177 (t195 != t158) t178 t163 t164 t165 t166 t167 t168 t169 t170 t179) else (laws_FnExactNewArena.j1 kj4 t177 true t178 t163 t164 t165 t166 t167 t168 t169 t170 t179))) = some r := H
            have A37 := Aside0.mk A370
            clear A370
            have HC38 := Aside0.mk H
            clear H
            have hnb39 := NB175_159.out
            have hnc39 := NB159_175.out
            have hcz40_0 : wc.cell? ⟨gb175, 0, none⟩ = some (.slice Ao13 t160.length co13) := (blk_cell BK175.out 0).trans rfl
            have hcz40_1 : wc.cell? ⟨gb175, 1, none⟩ = some (.int .i64 t163) := (blk_cell BK175.out 1).trans rfl
            have hcz40_2 : wc.cell? ⟨gb175, 2, none⟩ = some (.int .i64 t164) := (blk_cell BK175.out 2).trans rfl
            have hcz40_3 : wc.cell? ⟨gb175, 3, none⟩ = some (.int .i64 t165) := (blk_cell BK175.out 3).trans rfl
            have hcz40_4 : wc.cell? ⟨gb175, 4, none⟩ = some (.bool t166) := (blk_cell BK175.out 4).trans rfl
            have hcz40_5 : wc.cell? ⟨gb175, 5, none⟩ = some (.int .i64 t167) := (blk_cell BK175.out 5).trans rfl
            have hcz40_6 : wc.cell? ⟨gb175, 6, none⟩ = some (.int .i64 t168) := (blk_cell BK175.out 6).trans rfl
            have hcz40_7 : wc.cell? ⟨gb175, 7, none⟩ = some (.int .i64 t169) := (blk_cell BK175.out 7).trans rfl
            have hcz40_8 : wc.cell? ⟨gb175, 8, none⟩ = some (.int .i64 t170) := (blk_cell BK175.out 8).trans rfl
            have hcz40_9 : wc.cell? ⟨gb175, 9, none⟩ = some (.slice Ao16 t171.length co16) := (blk_cell BK175.out 9).trans rfl
            have hfz40_0 := blk_frozen BK175.out 0
            have hfz40_1 := blk_frozen BK175.out 1
            have hfz40_2 := blk_frozen BK175.out 2
            have hfz40_3 := blk_frozen BK175.out 3
            have hfz40_4 := blk_frozen BK175.out 4
            have hfz40_5 := blk_frozen BK175.out 5
            have hfz40_6 := blk_frozen BK175.out 6
            have hfz40_7 := blk_frozen BK175.out 7
            have hfz40_8 := blk_frozen BK175.out 8
            have hfz40_9 := blk_frozen BK175.out 9
            go_upto_region 14 with (first | ((with_reducible refine gate_callee (f := 13) rfl ?_); refine goesL_ (some 36) rfl rfl Try.func13 (by kernel_rfl) rfl #[.agg #[.slice Ao13 t160.length co13, .int .i64 t163, .int .i64 t164, .int .i64 t165, .bool t166, .int .i64 t167, .int .i64 t168, .int .i64 t169, .int .i64 t170, .slice Ao16 t171.length co16], .int .i64 1] rfl (by (try simp only [List.map_toArray, List.map_cons, List.map_nil]); first | done | rfl | (simp only [List.length_drop, List.length_take]; rfl)) ?_; (with_reducible refine (laws_markArena.calls kj4 (fun k_ => some k_ = (.slice Ao13 t160.length co13 : Value).ownBlock) (.slice Ao13 t160.length co13) t160 t163 t164 t165 t166 t167 t168 t169 t170 (fun k_ => some k_ = (.slice Ao16 t171.length co16 : Value).ownBlock) (.slice Ao16 t171.length co16) t171 1 t177 t178 t179 w _ ?side1 ?side2 ?side3 A28.out).mono ?_); (case side1 => repeat (first | (with_reducible first | exact HB.out | apply below_alloc | apply pw_below_drewN | apply below_drew1 | refine below_set ?_ GE159.out | refine below_set ?_ GE175.out) | exact HB.out)); (case side2 => exact Kd.R_tight rfl HO_176000.out); (case side3 => exact Kd.R_tight rfl HO_176009.out); rintro e w41 ⟨rfl, hy0, hy1, hb, hkp⟩; refine ⟨_, rfl, ?_⟩; have n0_ := Aside0.mk (Kd.R_mono (ok' := fun k_ => some k_ ≠ (.slice Ao13 t160.length co13 : Value).ownBlock) (Kd.R_keptB ((Kd.R_apart' HO_160000.out (Kd.R_typed HO_176009.out) (by decide))) hkp (fun k_ hk_ hs_ => Or.elim hs_ (fun e_ => (hk_.1) e_) (fun e_ => (hk_.2) e_))) (fun k_ hk_ => hk_.1.1)); have n1_ := Aside0.mk (Kd.R_mono (ok' := fun k_ => some k_ ≠ (.slice Ao16 t171.length co16 : Value).ownBlock) (Kd.R_keptB ((Kd.R_apart' HO_160009.out (Kd.R_typed HO_176000.out) (by decide))) hkp (fun k_ hk_ hs_ => Or.elim hs_ (fun e_ => (hk_.2) e_) (fun e_ => (hk_.1) e_))) (fun k_ hk_ => hk_.1.1)); have n2_ := Aside0.mk (Kd.R_reok rfl hy0 (fun k_ e_ => HO_176000.out.1 k_ e_)); have n3_ := Aside0.mk (Kd.R_reok rfl hy1 (fun k_ e_ => HO_176009.out.1 k_ e_)); have n4_ := Aside0.mk (blk_kept (by (with_reducible repeat (first | refine blk_drewN ?_ _ | refine blk_drew ?_ | refine blk_alloc ?_ _)); exact BK159.out) hkp (fun hs_ => Or.elim hs_ (fun e_ => (fun e_ => (Kd.R_ne HO_176000.out BK159.out (by decide)) e_) e_) (fun e_ => (fun e_ => (Kd.R_ne HO_176009.out BK159.out (by decide)) e_) e_))); have n5_ := Aside0.mk (blk_kept (by (with_reducible repeat (first | refine blk_drewN ?_ _ | refine blk_drew ?_ | refine blk_alloc ?_ _)); exact BK175.out) hkp (fun hs_ => Or.elim hs_ (fun e_ => (fun e_ => (Kd.R_ne HO_176000.out BK175.out (by decide)) e_) e_) (fun e_ => (fun e_ => (Kd.R_ne HO_176009.out BK175.out (by decide)) e_) e_))); have n6_ := Aside0.mk (hb); clear HO_160000; clear HO_160009; clear HO_176000; clear HO_176009; clear BK159; clear BK175; clear HB; have HO_160000 := n0_; have HO_160009 := n1_; have HO_176000 := n2_; have HO_176009 := n3_; have BK159 := n4_; have BK175 := n5_; have HB := n6_; clear n0_ n1_ n2_ n3_ n4_ n5_ n6_; (try clear hb); (try clear hkp); (try clear hy0); (try clear hy1); have hcz42_0 : w41.cell? ⟨gb175, 0, none⟩ = some (.slice Ao13 t160.length co13) := (blk_cell BK175.out 0).trans rfl; have hcz42_1 : w41.cell? ⟨gb175, 1, none⟩ = some (.int .i64 t163) := (blk_cell BK175.out 1).trans rfl; have hcz42_2 : w41.cell? ⟨gb175, 2, none⟩ = some (.int .i64 t164) := (blk_cell BK175.out 2).trans rfl; have hcz42_3 : w41.cell? ⟨gb175, 3, none⟩ = some (.int .i64 t165) := (blk_cell BK175.out 3).trans rfl; have hcz42_4 : w41.cell? ⟨gb175, 4, none⟩ = some (.bool t166) := (blk_cell BK175.out 4).trans rfl; have hcz42_5 : w41.cell? ⟨gb175, 5, none⟩ = some (.int .i64 t167) := (blk_cell BK175.out 5).trans rfl; have hcz42_6 : w41.cell? ⟨gb175, 6, none⟩ = some (.int .i64 t168) := (blk_cell BK175.out 6).trans rfl; have hcz42_7 : w41.cell? ⟨gb175, 7, none⟩ = some (.int .i64 t169) := (blk_cell BK175.out 7).trans rfl; have hcz42_8 : w41.cell? ⟨gb175, 8, none⟩ = some (.int .i64 t170) := (blk_cell BK175.out 8).trans rfl; have hcz42_9 : w41.cell? ⟨gb175, 9, none⟩ = some (.slice Ao16 t171.length co16) := (blk_cell BK175.out 9).trans rfl; have hfz42_0 := blk_frozen BK175.out 0; have hfz42_1 := blk_frozen BK175.out 1; have hfz42_2 := blk_frozen BK175.out 2; have hfz42_3 := blk_frozen BK175.out 3; have hfz42_4 := blk_frozen BK175.out 4; have hfz42_5 := blk_frozen BK175.out 5; have hfz42_6 := blk_frozen BK175.out 6; have hfz42_7 := blk_frozen BK175.out 7; have hfz42_8 := blk_frozen BK175.out 8; have hfz42_9 := blk_frozen BK175.out 9) | ((with_reducible refine gate_callee (f := 14) rfl ?_); refine goesL_ (some 39) rfl rfl Try.func14 (by kernel_rfl) rfl #[.agg #[.slice Ao13 t178.length co13, .int .i64 t163, .int .i64 t164, .int .i64 t165, .bool t166, .int .i64 t167, .int .i64 t168, .int .i64 t169, .int .i64 t170, .slice Ao16 t179.length co16], .int .i64 1] rfl (by (try simp only [List.map_toArray, List.map_cons, List.map_nil]); first | done | (rw [show t178.length = t160.length from (Kd.R_reads' HO_176000.out).1.symm, show t179.length = t171.length from (Kd.R_reads' HO_176009.out).1.symm] <;> rfl) | rfl | (simp only [List.length_drop, List.length_take]; rfl)) ?_; (with_reducible refine (laws_heldArena.calls kj4 _ _ t178 t163 t164 t165 t166 t167 t168 t169 t170 _ _ t179 1 t180 _ ?side1 ?side2 ?side3 ?side4 A29.out).mono ?_); (case side1 => repeat (first | exact (Kd.R_reads' HO_176000.out).2.2 | (with_reducible refine Kd.C_alloc ?_ _) | (with_reducible refine Kd.C_drewN ?_ _) | (with_reducible refine Kd.C_drew ?_))); (case side2 => rw [show t178.length = t160.length from (Kd.R_reads' HO_176000.out).1.symm]; exact (Kd.R_reads' HO_176000.out).2.1); (case side3 => repeat (first | exact (Kd.R_reads' HO_176009.out).2.2 | (with_reducible refine Kd.C_alloc ?_ _) | (with_reducible refine Kd.C_drewN ?_ _) | (with_reducible refine Kd.C_drew ?_))); (case side4 => rw [show t179.length = t171.length from (Kd.R_reads' HO_176009.out).1.symm]; exact (Kd.R_reads' HO_176009.out).2.1); rintro e w43 ⟨rfl, hb⟩; refine ⟨_, rfl, ?_⟩; have n0_ := Aside0.mk (Kd.R_below (by (with_reducible repeat (first | apply Kd.R_alloc | apply Kd.R_drewN | apply Kd.R_drew)); exact HO_160000.out) hb); have n1_ := Aside0.mk (Kd.R_below (by (with_reducible repeat (first | apply Kd.R_alloc | apply Kd.R_drewN | apply Kd.R_drew)); exact HO_160009.out) hb); have n2_ := Aside0.mk (Kd.R_below (by (with_reducible repeat (first | apply Kd.R_alloc | apply Kd.R_drewN | apply Kd.R_drew)); exact HO_176000.out) hb); have n3_ := Aside0.mk (Kd.R_below (by (with_reducible repeat (first | apply Kd.R_alloc | apply Kd.R_drewN | apply Kd.R_drew)); exact HO_176009.out) hb); have n4_ := Aside0.mk (blk_below (g := gb159) (o := .cells #[.slice Ao8 t144.length co8, .int .i64 t147, .int .i64 t148, .int .i64 t149, .bool t150, .int .i64 t151, .int .i64 t152, .int .i64 t153, .int .i64 t154, .slice Ao10 t155.length co10] 25 (0, 0)) (by (with_reducible repeat (first | refine blk_drewN ?_ _ | refine blk_drew ?_ | refine blk_alloc ?_ _)); exact BK159.out) hb); have n5_ := Aside0.mk (blk_below (g := gb175) (o := .cells #[.slice Ao13 t160.length co13, .int .i64 t163, .int .i64 t164, .int .i64 t165, .bool t166, .int .i64 t167, .int .i64 t168, .int .i64 t169, .int .i64 t170, .slice Ao16 t171.length co16] 25 (0, 0)) (by (with_reducible repeat (first | refine blk_drewN ?_ _ | refine blk_drew ?_ | refine blk_alloc ?_ _)); exact BK175.out) hb); have n6_ := Aside0.mk (below_step (by repeat (first | (with_reducible first | exact HB.out | apply below_alloc | apply pw_below_drewN | apply below_drew1 | refine below_set ?_ GE159.out | refine below_set ?_ GE175.out) | exact HB.out)) hb); clear HO_160000; clear HO_160009; clear HO_176000; clear HO_176009; clear BK159; clear BK175; clear HB; have HO_160000 := n0_; have HO_160009 := n1_; have HO_176000 := n2_; have HO_176009 := n3_; have BK159 := n4_; have BK175 := n5_; have HB := n6_; clear n0_ n1_ n2_ n3_ n4_ n5_ n6_; (try clear hb); (try clear hb2); (try clear hk); (try clear hi)) | ((with_reducible refine gate_callee (f := 11) rfl ?_); refine goesL_ (some 48) rfl rfl Try.func11 (by kernel_rfl) rfl #[.int .i64 a0, .int .i64 a1] rfl (by (try simp only [List.map_toArray, List.map_cons, List.map_nil]); first | done | rfl | (simp only [List.length_drop, List.length_take]; rfl)) ?_; (with_reducible refine (impl_NewArena.calls a0 a1 t181 t184 t185 t186 t187 t188 t189 t190 t191 t192 t195 _ A37.out).mono ?_); rintro e w44 ⟨v182, v193, rfl, ho0, ho1, hb⟩; refine ⟨_, rfl, ?_⟩; have n0_ := Aside0.mk (Kd.R_elder' (by (with_reducible repeat (first | apply Kd.R_alloc | apply Kd.R_drewN | apply Kd.R_drew)); exact HO_160000.out) (Kd.R_base ho0) hb); have n1_ := Aside0.mk (Kd.R_elder' (by (with_reducible repeat (first | apply Kd.R_alloc | apply Kd.R_drewN | apply Kd.R_drew)); exact HO_160009.out) (Kd.R_base ho1) hb); have n2_ := Aside0.mk (Kd.R_elder' (by (with_reducible repeat (first | apply Kd.R_alloc | apply Kd.R_drewN | apply Kd.R_drew)); exact HO_176000.out) (Kd.R_base ho0) hb); have n3_ := Aside0.mk (Kd.R_elder' (by (with_reducible repeat (first | apply Kd.R_alloc | apply Kd.R_drewN | apply Kd.R_drew)); exact HO_176009.out) (Kd.R_base ho1) hb); have n4_ := Aside0.mk (Kd.R_lower (Kd.R_new' (Kd.R_new' ho0 (Kd.R_lt (by (with_reducible repeat (first | apply Kd.R_alloc | apply Kd.R_drewN | apply Kd.R_drew)); exact HO_160000.out))) (Kd.R_lt (by (with_reducible repeat (first | apply Kd.R_alloc | apply Kd.R_drewN | apply Kd.R_drew)); exact HO_176000.out))) (below_size (by repeat (first | (with_reducible first | exact HB.out | apply below_alloc | apply pw_below_drewN | apply below_drew1 | refine below_set ?_ GE159.out | refine below_set ?_ GE175.out) | exact HB.out)))); have n5_ := Aside0.mk (Kd.R_lower (Kd.R_new' (Kd.R_new' ho1 (Kd.R_lt (by (with_reducible repeat (first | apply Kd.R_alloc | apply Kd.R_drewN | apply Kd.R_drew)); exact HO_160009.out))) (Kd.R_lt (by (with_reducible repeat (first | apply Kd.R_alloc | apply Kd.R_drewN | apply Kd.R_drew)); exact HO_176009.out))) (below_size (by repeat (first | (with_reducible first | exact HB.out | apply below_alloc | apply pw_below_drewN | apply below_drew1 | refine below_set ?_ GE159.out | refine below_set ?_ GE175.out) | exact HB.out)))); have n6_ := Aside0.mk (blk_below (g := gb159) (o := .cells #[.slice Ao8 t144.length co8, .int .i64 t147, .int .i64 t148, .int .i64 t149, .bool t150, .int .i64 t151, .int .i64 t152, .int .i64 t153, .int .i64 t154, .slice Ao10 t155.length co10] 25 (0, 0)) (by (with_reducible repeat (first | refine blk_drewN ?_ _ | refine blk_drew ?_ | refine blk_alloc ?_ _)); exact BK159.out) hb); have n7_ := Aside0.mk (blk_below (g := gb175) (o := .cells #[.slice Ao13 t160.length co13, .int .i64 t163, .int .i64 t164, .int .i64 t165, .bool t166, .int .i64 t167, .int .i64 t168, .int .i64 t169, .int .i64 t170, .slice Ao16 t171.length co16] 25 (0, 0)) (by (with_reducible repeat (first | refine blk_drewN ?_ _ | refine blk_drew ?_ | refine blk_alloc ?_ _)); exact BK175.out) hb); have n8_ := Aside0.mk (below_step (by repeat (first | (with_reducible first | exact HB.out | apply below_alloc | apply pw_below_drewN | apply below_drew1 | refine below_set ?_ GE159.out | refine below_set ?_ GE175.out) | exact HB.out)) hb); clear HO_160000; clear HO_160009; clear HO_176000; clear HO_176009; clear BK159; clear BK175; clear HB; have HO_160000 := n0_; have HO_160009 := n1_; have HO_176000 := n2_; have HO_176009 := n3_; have HO183 := n4_; have HO194 := n5_; have BK159 := n6_; have BK175 := n7_; have HB := n8_; clear n0_ n1_ n2_ n3_ n4_ n5_ n6_ n7_ n8_; (try clear hb); (try clear hb2); (try clear hk); (try clear hi); (try clear ho0); (try clear ho1)) | ((with_reducible refine gate_dst (N := 11) rfl ?_); refine box_event ?hg (N := 11) ?hd (cs := #[.slice none 0 0, .int .i64 0, .int .i64 0, .int .i64 0, .bool false, .int .i64 0, .int .i64 0, .int .i64 0, .int .i64 0, .slice none 0 0]) (t := 25) ?hr ?_; (case hd => rfl); (case hg => rfl); (case hr => first | (go_simp; done) | (go_simp; rfl)); intro gb196 hg w45 hbox hb; have n0_ := Aside0.mk (Kd.R_below (by (with_reducible repeat (first | apply Kd.R_alloc | apply Kd.R_drewN | apply Kd.R_drew)); exact HO_160000.out) hb); have n1_ := Aside0.mk (Kd.R_below (by (with_reducible repeat (first | apply Kd.R_alloc | apply Kd.R_drewN | apply Kd.R_drew)); exact HO_160009.out) hb); have n2_ := Aside0.mk (Kd.R_below (by (with_reducible repeat (first | apply Kd.R_alloc | apply Kd.R_drewN | apply Kd.R_drew)); exact HO_176000.out) hb); have n3_ := Aside0.mk (Kd.R_below (by (with_reducible repeat (first | apply Kd.R_alloc | apply Kd.R_drewN | apply Kd.R_drew)); exact HO_176009.out) hb); have n4_ := Aside0.mk (Kd.R_below (by (with_reducible repeat (first | apply Kd.R_alloc | apply Kd.R_drewN | apply Kd.R_drew)); exact HO183.out) hb); have n5_ := Aside0.mk (Kd.R_below (by (with_reducible repeat (first | apply Kd.R_alloc | apply Kd.R_drewN | apply Kd.R_drew)); exact HO194.out) hb); have n6_ := Aside0.mk (blk_below (g := gb159) (o := .cells #[.slice Ao8 t144.length co8, .int .i64 t147, .int .i64 t148, .int .i64 t149, .bool t150, .int .i64 t151, .int .i64 t152, .int .i64 t153, .int .i64 t154, .slice Ao10 t155.length co10] 25 (0, 0)) (by (with_reducible repeat (first | refine blk_drewN ?_ _ | refine blk_drew ?_ | refine blk_alloc ?_ _)); exact BK159.out) hb); have n7_ := Aside0.mk (blk_below (g := gb175) (o := .cells #[.slice Ao13 t160.length co13, .int .i64 t163, .int .i64 t164, .int .i64 t165, .bool t166, .int .i64 t167, .int .i64 t168, .int .i64 t169, .int .i64 t170, .slice Ao16 t171.length co16] 25 (0, 0)) (by (with_reducible repeat (first | refine blk_drewN ?_ _ | refine blk_drew ?_ | refine blk_alloc ?_ _)); exact BK175.out) hb); have n8_ := Aside0.mk (below_step (by repeat (first | (with_reducible first | exact HB.out | apply below_alloc | apply pw_below_drewN | apply below_drew1 | refine below_set ?_ GE159.out | refine below_set ?_ GE175.out) | exact HB.out)) hb); have n9_ := Aside0.mk (hbox); have n10_ := Aside0.mk ((by rw [hg]; exact (below_size (by repeat (first | (with_reducible first | exact HB.out | apply below_alloc | apply pw_below_drewN | apply below_drew1 | refine below_set ?_ GE159.out | refine below_set ?_ GE175.out) | exact HB.out))) : w.heap.size ≤ gb196)); have n11_ := Aside0.mk ((by rw [hg]; exact (below_size (by repeat (first | (with_reducible first | exact HB.out | apply below_alloc | apply pw_below_drewN | apply below_drew1 | refine below_set ?_ GE159.out | refine below_set ?_ GE175.out) | exact HB.out))) : w.heap.size ≤ gb196)); have n12_ := Aside0.mk ((by rw [hg]; exact Nat.ne_of_lt (blk_lt (g := gb159) (o := .cells #[.slice Ao8 t144.length co8, .int .i64 t147, .int .i64 t148, .int .i64 t149, .bool t150, .int .i64 t151, .int .i64 t152, .int .i64 t153, .int .i64 t154, .slice Ao10 t155.length co10] 25 (0, 0)) (by (with_reducible repeat (first | refine blk_drewN ?_ _ | refine blk_drew ?_ | refine blk_alloc ?_ _)); exact BK159.out)) : gb159 ≠ gb196)); have n13_ := Aside0.mk ((by rw [hg]; exact Nat.ne_of_gt (blk_lt (g := gb159) (o := .cells #[.slice Ao8 t144.length co8, .int .i64 t147, .int .i64 t148, .int .i64 t149, .bool t150, .int .i64 t151, .int .i64 t152, .int .i64 t153, .int .i64 t154, .slice Ao10 t155.length co10] 25 (0, 0)) (by (with_reducible repeat (first | refine blk_drewN ?_ _ | refine blk_drew ?_ | refine blk_alloc ?_ _)); exact BK159.out)) : gb196 ≠ gb159)); have n14_ := Aside0.mk ((by rw [hg]; exact Nat.ne_of_lt (blk_lt (g := gb175) (o := .cells #[.slice Ao13 t160.length co13, .int .i64 t163, .int .i64 t164, .int .i64 t165, .bool t166, .int .i64 t167, .int .i64 t168, .int .i64 t169, .int .i64 t170, .slice Ao16 t171.length co16] 25 (0, 0)) (by (with_reducible repeat (first | refine blk_drewN ?_ _ | refine blk_drew ?_ | refine blk_alloc ?_ _)); exact BK175.out)) : gb175 ≠ gb196)); have n15_ := Aside0.mk ((by rw [hg]; exact Nat.ne_of_gt (blk_lt (g := gb175) (o := .cells #[.slice Ao13 t160.length co13, .int .i64 t163, .int .i64 t164, .int .i64 t165, .bool t166, .int .i64 t167, .int .i64 t168, .int .i64 t169, .int .i64 t170, .slice Ao16 t171.length co16] 25 (0, 0)) (by (with_reducible repeat (first | refine blk_drewN ?_ _ | refine blk_drew ?_ | refine blk_alloc ?_ _)); exact BK175.out)) : gb196 ≠ gb175)); clear HO_160000; clear HO_160009; clear HO_176000; clear HO_176009; clear HO183; clear HO194; clear BK159; clear BK175; clear HB; have HO_160000 := n0_; have HO_160009 := n1_; have HO_176000 := n2_; have HO_176009 := n3_; have HO183 := n4_; have HO194 := n5_; have BK159 := n6_; have BK175 := n7_; have HB := n8_; have BK196 := n9_; have GW196 := n10_; have GE196 := n11_; have NB159_196 := n12_; have NB196_159 := n13_; have NB175_196 := n14_; have NB196_175 := n15_; clear n0_ n1_ n2_ n3_ n4_ n5_ n6_ n7_ n8_ n9_ n10_ n11_ n12_ n13_ n14_ n15_; clear hb hbox hg; obtain ⟨Ao46, co46, eo46⟩ := Kd.R_slice HO183.out; subst eo46; have hnb47 := NB196_159.out; have hnc47 := NB159_196.out; have hnb48 := NB196_175.out; have hnc48 := NB175_196.out; have hcz49_0 : w45.cell? ⟨gb196, 0, none⟩ = some (.slice none 0 0) := (blk_cell BK196.out 0).trans rfl; have hcz49_1 : w45.cell? ⟨gb196, 1, none⟩ = some (.int .i64 0) := (blk_cell BK196.out 1).trans rfl; have hcz49_2 : w45.cell? ⟨gb196, 2, none⟩ = some (.int .i64 0) := (blk_cell BK196.out 2).trans rfl; have hcz49_3 : w45.cell? ⟨gb196, 3, none⟩ = some (.int .i64 0) := (blk_cell BK196.out 3).trans rfl; have hcz49_4 : w45.cell? ⟨gb196, 4, none⟩ = some (.bool false) := (blk_cell BK196.out 4).trans rfl; have hcz49_5 : w45.cell? ⟨gb196, 5, none⟩ = some (.int .i64 0) := (blk_cell BK196.out 5).trans rfl; have hcz49_6 : w45.cell? ⟨gb196, 6, none⟩ = some (.int .i64 0) := (blk_cell BK196.out 6).trans rfl; have hcz49_7 : w45.cell? ⟨gb196, 7, none⟩ = some (.int .i64 0) := (blk_cell BK196.out 7).trans rfl; have hcz49_8 : w45.cell? ⟨gb196, 8, none⟩ = some (.int .i64 0) := (blk_cell BK196.out 8).trans rfl; have hcz49_9 : w45.cell? ⟨gb196, 9, none⟩ = some (.slice none 0 0) := (blk_cell BK196.out 9).trans rfl; have hfz49_0 := blk_frozen BK196.out 0; have hfz49_1 := blk_frozen BK196.out 1; have hfz49_2 := blk_frozen BK196.out 2; have hfz49_3 := blk_frozen BK196.out 3; have hfz49_4 := blk_frozen BK196.out 4; have hfz49_5 := blk_frozen BK196.out 5; have hfz49_6 := blk_frozen BK196.out 6; have hfz49_7 := blk_frozen BK196.out 7; have hfz49_8 := blk_frozen BK196.out 8; have hfz49_9 := blk_frozen BK196.out 9; obtain ⟨Ao50, co50, eo50⟩ := Kd.R_slice HO194.out; subst eo50))
            (try simp only [Act.put, List.setIfInBounds_toArray, List.set_cons_zero, List.set_cons_succ])
            go_cut [59] (fun v59 wc => ∃ (kq : Nat) (x59_37 : Bool), v59 = .bool x59_37 ∧ Aside0 (laws_FnExactNewArena.j1 kq t177 x59_37 t178 t163 t164 t165 t166 t167 t168 t169 t170 t179 = some r) ∧ Aside0 (kq ≤ kj4) ∧ Aside0 (Kd.R (Kd.int .u64) 49 wc w.heap.size (fun k_ => some k_ ≠ ((.slice Ao13 t160.length co13) : Value).ownBlock ∧ some k_ ≠ ((.slice Ao46 t181.length co46) : Value).ownBlock) (.slice Ao8 t144.length co8) t144) ∧ Aside0 (Kd.R k44 44 wc w.heap.size (fun k_ => some k_ ≠ ((.slice Ao16 t171.length co16) : Value).ownBlock ∧ some k_ ≠ ((.slice Ao50 t192.length co50) : Value).ownBlock) (.slice Ao10 t155.length co10) t155) ∧ Aside0 (Kd.R (Kd.int .u64) 49 wc w.heap.size (fun k_ => some k_ ≠ ((.slice Ao8 t144.length co8) : Value).ownBlock ∧ some k_ ≠ ((.slice Ao46 t181.length co46) : Value).ownBlock) (.slice Ao13 t160.length co13) t178) ∧ Aside0 (Kd.R k44 44 wc w.heap.size (fun k_ => some k_ ≠ ((.slice Ao10 t155.length co10) : Value).ownBlock ∧ some k_ ≠ ((.slice Ao50 t192.length co50) : Value).ownBlock) (.slice Ao16 t171.length co16) t179) ∧ Aside0 (Kd.R (Kd.int .u64) 49 wc w.heap.size (fun k_ => some k_ ≠ ((.slice Ao8 t144.length co8) : Value).ownBlock ∧ some k_ ≠ ((.slice Ao13 t160.length co13) : Value).ownBlock) (.slice Ao46 t181.length co46) t181) ∧ Aside0 (Kd.R k44 44 wc w.heap.size (fun k_ => some k_ ≠ ((.slice Ao10 t155.length co10) : Value).ownBlock ∧ some k_ ≠ ((.slice Ao16 t171.length co16) : Value).ownBlock) (.slice Ao50 t192.length co50) t192) ∧ Aside0 (wc.heap[gb159]? = some (.cells #[(.slice Ao8 t144.length co8), .int .i64 t147, .int .i64 t148, .int .i64 t149, .bool t150, .int .i64 t151, .int .i64 t152, .int .i64 t153, .int .i64 t154, (.slice Ao10 t155.length co10)] 25 (0, 0))) ∧ Aside0 (wc.heap[gb175]? = some (.cells #[(.slice Ao13 t160.length co13), .int .i64 t163, .int .i64 t164, .int .i64 t165, .bool t166, .int .i64 t167, .int .i64 t168, .int .i64 t169, .int .i64 t170, (.slice Ao16 t171.length co16)] 25 (0, 0))) ∧ Aside0 (wc.heap[gb196]? = some (.cells #[(.slice Ao46 t181.length co46), .int .i64 t184, .int .i64 t185, .int .i64 t186, .bool t187, .int .i64 t188, .int .i64 t189, .int .i64 t190, .int .i64 t191, (.slice Ao50 t192.length co50)] 25 (0, 0))) ∧ Aside0 (Below w.heap.size w wc))
            case first =>
              have H := HC38.out
              clear HC38
              replace H := Option.bind_eq_some_iff.mp H
              obtain ⟨t197, A510, H⟩ := H
              replace H : (if t197 = true then (laws_FnExactNewArena.j1 kj4 t177 (t195 != t158) t178 t163 t164 t165 t166 t167 t168 t169 t170 t179) else (laws_FnExactNewArena.j1 kj4 t177 true t178 t163 t164 t165 t166 t167 t168 t169 t170 t179)) = some r := H
              have A51 := Aside0.mk A510
              clear A510
              by_cases c52 : t197 = true
              · subst c52
                have H1 : (laws_FnExactNewArena.j1 kj4 t177 (t195 != t158) t178 t163 t164 t165 t166 t167 t168 t169 t170 t179) = some r := by rw [if_pos rfl] at H; exact H
                clear H
                have H := H1
                clear H1
                have H' := Aside0.mk H
                clear H
                have hnb53 := NB196_159.out
                have hnc53 := NB159_196.out
                have hnb54 := NB196_175.out
                have hnc54 := NB175_196.out
                have hcz55_0 : w45.cell? ⟨gb196, 0, none⟩ = some (.slice none 0 0) := (blk_cell BK196.out 0).trans rfl
                have hcz55_1 : w45.cell? ⟨gb196, 1, none⟩ = some (.int .i64 0) := (blk_cell BK196.out 1).trans rfl
                have hcz55_2 : w45.cell? ⟨gb196, 2, none⟩ = some (.int .i64 0) := (blk_cell BK196.out 2).trans rfl
                have hcz55_3 : w45.cell? ⟨gb196, 3, none⟩ = some (.int .i64 0) := (blk_cell BK196.out 3).trans rfl
                have hcz55_4 : w45.cell? ⟨gb196, 4, none⟩ = some (.bool false) := (blk_cell BK196.out 4).trans rfl
                have hcz55_5 : w45.cell? ⟨gb196, 5, none⟩ = some (.int .i64 0) := (blk_cell BK196.out 5).trans rfl
                have hcz55_6 : w45.cell? ⟨gb196, 6, none⟩ = some (.int .i64 0) := (blk_cell BK196.out 6).trans rfl
                have hcz55_7 : w45.cell? ⟨gb196, 7, none⟩ = some (.int .i64 0) := (blk_cell BK196.out 7).trans rfl
                have hcz55_8 : w45.cell? ⟨gb196, 8, none⟩ = some (.int .i64 0) := (blk_cell BK196.out 8).trans rfl
                have hcz55_9 : w45.cell? ⟨gb196, 9, none⟩ = some (.slice none 0 0) := (blk_cell BK196.out 9).trans rfl
                have hfz55_0 := blk_frozen BK196.out 0
                have hfz55_1 := blk_frozen BK196.out 1
                have hfz55_2 := blk_frozen BK196.out 2
                have hfz55_3 := blk_frozen BK196.out 3
                have hfz55_4 := blk_frozen BK196.out 4
                have hfz55_5 := blk_frozen BK196.out 5
                have hfz55_6 := blk_frozen BK196.out 6
                have hfz55_7 := blk_frozen BK196.out 7
                have hfz55_8 := blk_frozen BK196.out 8
                have hfz55_9 := blk_frozen BK196.out 9
                have hnb56 := NB159_175.out
                have hnc56 := NB175_159.out
                have hcz57_0 : w45.cell? ⟨gb159, 0, none⟩ = some (.slice Ao8 t144.length co8) := (blk_cell BK159.out 0).trans rfl
                have hcz57_1 : w45.cell? ⟨gb159, 1, none⟩ = some (.int .i64 t147) := (blk_cell BK159.out 1).trans rfl
                have hcz57_2 : w45.cell? ⟨gb159, 2, none⟩ = some (.int .i64 t148) := (blk_cell BK159.out 2).trans rfl
                have hcz57_3 : w45.cell? ⟨gb159, 3, none⟩ = some (.int .i64 t149) := (blk_cell BK159.out 3).trans rfl
                have hcz57_4 : w45.cell? ⟨gb159, 4, none⟩ = some (.bool t150) := (blk_cell BK159.out 4).trans rfl
                have hcz57_5 : w45.cell? ⟨gb159, 5, none⟩ = some (.int .i64 t151) := (blk_cell BK159.out 5).trans rfl
                have hcz57_6 : w45.cell? ⟨gb159, 6, none⟩ = some (.int .i64 t152) := (blk_cell BK159.out 6).trans rfl
                have hcz57_7 : w45.cell? ⟨gb159, 7, none⟩ = some (.int .i64 t153) := (blk_cell BK159.out 7).trans rfl
                have hcz57_8 : w45.cell? ⟨gb159, 8, none⟩ = some (.int .i64 t154) := (blk_cell BK159.out 8).trans rfl
                have hcz57_9 : w45.cell? ⟨gb159, 9, none⟩ = some (.slice Ao10 t155.length co10) := (blk_cell BK159.out 9).trans rfl
                have hfz57_0 := blk_frozen BK159.out 0
                have hfz57_1 := blk_frozen BK159.out 1
                have hfz57_2 := blk_frozen BK159.out 2
                have hfz57_3 := blk_frozen BK159.out 3
                have hfz57_4 := blk_frozen BK159.out 4
                have hfz57_5 := blk_frozen BK159.out 5
                have hfz57_6 := blk_frozen BK159.out 6
                have hfz57_7 := blk_frozen BK159.out 7
                have hfz57_8 := blk_frozen BK159.out 8
                have hfz57_9 := blk_frozen BK159.out 9
                go_wp2_with (first | ((with_reducible refine gate_callee (f := 12) rfl ?_); refine goesL_ (some 53) rfl rfl Try.func12 (by kernel_rfl) rfl #[.agg #[.slice Ao46 t181.length co46, .int .i64 t184, .int .i64 t185, .int .i64 t186, .bool t187, .int .i64 t188, .int .i64 t189, .int .i64 t190, .int .i64 t191, .slice Ao50 t192.length co50], .agg #[.slice Ao8 t144.length co8, .int .i64 t147, .int .i64 t148, .int .i64 t149, .bool t150, .int .i64 t151, .int .i64 t152, .int .i64 t153, .int .i64 t154, .slice Ao10 t155.length co10]] rfl (by (try simp only [List.map_toArray, List.map_cons, List.map_nil]); first | done | rfl | (simp only [List.length_drop, List.length_take]; rfl)) ?_; (with_reducible refine (laws_eqArena.calls kj4 _ _ t181 t184 t185 t186 t187 t188 t189 t190 t191 _ _ t192 _ _ t144 t147 t148 t149 t150 t151 t152 t153 t154 _ _ t155 true _ ?side1 ?side2 ?side3 ?side4 ?side5 ?side6 ?side7 ?side8 A51.out).mono ?_); (case side1 => refine (Kd.R_reads' (e := 49) (base := w.heap.size) (ok := fun k_ => ((True ∧ some k_ ≠ (.slice Ao8 t144.length co8 : Value).ownBlock) ∧ some k_ ≠ (.slice Ao13 t160.length co13 : Value).ownBlock)) (n := t181.length) (c := co46) ?_).2.2; exact (by (with_reducible repeat (first | apply Kd.R_alloc | apply Kd.R_drewN | apply Kd.R_drew)); exact (Kd.R_mono (Kd.R_far (p := ⟨gb196, 9, none⟩) (Kd.R_far (p := ⟨gb196, 8, none⟩) (Kd.R_far (p := ⟨gb196, 7, none⟩) (Kd.R_far (p := ⟨gb196, 6, none⟩) (Kd.R_far (p := ⟨gb196, 5, none⟩) (Kd.R_far (p := ⟨gb196, 4, none⟩) (Kd.R_far (p := ⟨gb196, 3, none⟩) (Kd.R_far (p := ⟨gb196, 2, none⟩) (Kd.R_far (p := ⟨gb196, 1, none⟩) (Kd.R_far (p := ⟨gb196, 0, none⟩) (Kd.R_types HO183.out BK196.out (by decide)) (fun _ hk => hk.2) (.slice Ao46 t181.length co46)) (fun _ hk => hk.2) (.int .i64 t184)) (fun _ hk => hk.2) (.int .i64 t185)) (fun _ hk => hk.2) (.int .i64 t186)) (fun _ hk => hk.2) (.bool t187)) (fun _ hk => hk.2) (.int .i64 t188)) (fun _ hk => hk.2) (.int .i64 t189)) (fun _ hk => hk.2) (.int .i64 t190)) (fun _ hk => hk.2) (.int .i64 t191)) (fun _ hk => hk.2) (.slice Ao50 t192.length co50)) (fun _ h_ => h_.1)))); (case side2 => exact (Kd.R_reads' HO183.out).2.1); (case side3 => refine (Kd.R_reads' (e := 44) (base := w.heap.size) (ok := fun k_ => ((True ∧ some k_ ≠ (.slice Ao10 t155.length co10 : Value).ownBlock) ∧ some k_ ≠ (.slice Ao16 t171.length co16 : Value).ownBlock)) (n := t192.length) (c := co50) ?_).2.2; exact (by (with_reducible repeat (first | apply Kd.R_alloc | apply Kd.R_drewN | apply Kd.R_drew)); exact (Kd.R_mono (Kd.R_far (p := ⟨gb196, 9, none⟩) (Kd.R_far (p := ⟨gb196, 8, none⟩) (Kd.R_far (p := ⟨gb196, 7, none⟩) (Kd.R_far (p := ⟨gb196, 6, none⟩) (Kd.R_far (p := ⟨gb196, 5, none⟩) (Kd.R_far (p := ⟨gb196, 4, none⟩) (Kd.R_far (p := ⟨gb196, 3, none⟩) (Kd.R_far (p := ⟨gb196, 2, none⟩) (Kd.R_far (p := ⟨gb196, 1, none⟩) (Kd.R_far (p := ⟨gb196, 0, none⟩) (Kd.R_types HO194.out BK196.out (by decide)) (fun _ hk => hk.2) (.slice Ao46 t181.length co46)) (fun _ hk => hk.2) (.int .i64 t184)) (fun _ hk => hk.2) (.int .i64 t185)) (fun _ hk => hk.2) (.int .i64 t186)) (fun _ hk => hk.2) (.bool t187)) (fun _ hk => hk.2) (.int .i64 t188)) (fun _ hk => hk.2) (.int .i64 t189)) (fun _ hk => hk.2) (.int .i64 t190)) (fun _ hk => hk.2) (.int .i64 t191)) (fun _ hk => hk.2) (.slice Ao50 t192.length co50)) (fun _ h_ => h_.1)))); (case side4 => exact (Kd.R_reads' HO194.out).2.1); (case side5 => refine (Kd.R_reads' (e := 49) (base := w.heap.size) (ok := fun k_ => (some k_ ≠ (.slice Ao13 t160.length co13 : Value).ownBlock ∧ some k_ ≠ (.slice Ao46 t181.length co46 : Value).ownBlock)) (n := t144.length) (c := co8) ?_).2.2; exact (by (with_reducible repeat (first | apply Kd.R_alloc | apply Kd.R_drewN | apply Kd.R_drew)); exact (Kd.R_mono (Kd.R_far (p := ⟨gb196, 9, none⟩) (Kd.R_far (p := ⟨gb196, 8, none⟩) (Kd.R_far (p := ⟨gb196, 7, none⟩) (Kd.R_far (p := ⟨gb196, 6, none⟩) (Kd.R_far (p := ⟨gb196, 5, none⟩) (Kd.R_far (p := ⟨gb196, 4, none⟩) (Kd.R_far (p := ⟨gb196, 3, none⟩) (Kd.R_far (p := ⟨gb196, 2, none⟩) (Kd.R_far (p := ⟨gb196, 1, none⟩) (Kd.R_far (p := ⟨gb196, 0, none⟩) (Kd.R_types HO_160000.out BK196.out (by decide)) (fun _ hk => hk.2) (.slice Ao46 t181.length co46)) (fun _ hk => hk.2) (.int .i64 t184)) (fun _ hk => hk.2) (.int .i64 t185)) (fun _ hk => hk.2) (.int .i64 t186)) (fun _ hk => hk.2) (.bool t187)) (fun _ hk => hk.2) (.int .i64 t188)) (fun _ hk => hk.2) (.int .i64 t189)) (fun _ hk => hk.2) (.int .i64 t190)) (fun _ hk => hk.2) (.int .i64 t191)) (fun _ hk => hk.2) (.slice Ao50 t192.length co50)) (fun _ h_ => h_.1)))); (case side6 => exact (Kd.R_reads' HO_160000.out).2.1); (case side7 => refine (Kd.R_reads' (e := 44) (base := w.heap.size) (ok := fun k_ => (some k_ ≠ (.slice Ao16 t171.length co16 : Value).ownBlock ∧ some k_ ≠ (.slice Ao50 t192.length co50 : Value).ownBlock)) (n := t155.length) (c := co10) ?_).2.2; exact (by (with_reducible repeat (first | apply Kd.R_alloc | apply Kd.R_drewN | apply Kd.R_drew)); exact (Kd.R_mono (Kd.R_far (p := ⟨gb196, 9, none⟩) (Kd.R_far (p := ⟨gb196, 8, none⟩) (Kd.R_far (p := ⟨gb196, 7, none⟩) (Kd.R_far (p := ⟨gb196, 6, none⟩) (Kd.R_far (p := ⟨gb196, 5, none⟩) (Kd.R_far (p := ⟨gb196, 4, none⟩) (Kd.R_far (p := ⟨gb196, 3, none⟩) (Kd.R_far (p := ⟨gb196, 2, none⟩) (Kd.R_far (p := ⟨gb196, 1, none⟩) (Kd.R_far (p := ⟨gb196, 0, none⟩) (Kd.R_types HO_160009.out BK196.out (by decide)) (fun _ hk => hk.2) (.slice Ao46 t181.length co46)) (fun _ hk => hk.2) (.int .i64 t184)) (fun _ hk => hk.2) (.int .i64 t185)) (fun _ hk => hk.2) (.int .i64 t186)) (fun _ hk => hk.2) (.bool t187)) (fun _ hk => hk.2) (.int .i64 t188)) (fun _ hk => hk.2) (.int .i64 t189)) (fun _ hk => hk.2) (.int .i64 t190)) (fun _ hk => hk.2) (.int .i64 t191)) (fun _ hk => hk.2) (.slice Ao50 t192.length co50)) (fun _ h_ => h_.1)))); (case side8 => exact (Kd.R_reads' HO_160009.out).2.1); rintro e w58 ⟨rfl, hb⟩; refine ⟨_, rfl, ?_⟩; have n0_ := Aside0.mk (Kd.R_below (by (with_reducible repeat (first | apply Kd.R_alloc | apply Kd.R_drewN | apply Kd.R_drew)); exact (Kd.R_mono (Kd.R_far (p := ⟨gb196, 9, none⟩) (Kd.R_far (p := ⟨gb196, 8, none⟩) (Kd.R_far (p := ⟨gb196, 7, none⟩) (Kd.R_far (p := ⟨gb196, 6, none⟩) (Kd.R_far (p := ⟨gb196, 5, none⟩) (Kd.R_far (p := ⟨gb196, 4, none⟩) (Kd.R_far (p := ⟨gb196, 3, none⟩) (Kd.R_far (p := ⟨gb196, 2, none⟩) (Kd.R_far (p := ⟨gb196, 1, none⟩) (Kd.R_far (p := ⟨gb196, 0, none⟩) (Kd.R_types HO_160000.out BK196.out (by decide)) (fun _ hk => hk.2) (.slice Ao46 t181.length co46)) (fun _ hk => hk.2) (.int .i64 t184)) (fun _ hk => hk.2) (.int .i64 t185)) (fun _ hk => hk.2) (.int .i64 t186)) (fun _ hk => hk.2) (.bool t187)) (fun _ hk => hk.2) (.int .i64 t188)) (fun _ hk => hk.2) (.int .i64 t189)) (fun _ hk => hk.2) (.int .i64 t190)) (fun _ hk => hk.2) (.int .i64 t191)) (fun _ hk => hk.2) (.slice Ao50 t192.length co50)) (fun _ h_ => h_.1))) hb); have n1_ := Aside0.mk (Kd.R_below (by (with_reducible repeat (first | apply Kd.R_alloc | apply Kd.R_drewN | apply Kd.R_drew)); exact (Kd.R_mono (Kd.R_far (p := ⟨gb196, 9, none⟩) (Kd.R_far (p := ⟨gb196, 8, none⟩) (Kd.R_far (p := ⟨gb196, 7, none⟩) (Kd.R_far (p := ⟨gb196, 6, none⟩) (Kd.R_far (p := ⟨gb196, 5, none⟩) (Kd.R_far (p := ⟨gb196, 4, none⟩) (Kd.R_far (p := ⟨gb196, 3, none⟩) (Kd.R_far (p := ⟨gb196, 2, none⟩) (Kd.R_far (p := ⟨gb196, 1, none⟩) (Kd.R_far (p := ⟨gb196, 0, none⟩) (Kd.R_types HO_160009.out BK196.out (by decide)) (fun _ hk => hk.2) (.slice Ao46 t181.length co46)) (fun _ hk => hk.2) (.int .i64 t184)) (fun _ hk => hk.2) (.int .i64 t185)) (fun _ hk => hk.2) (.int .i64 t186)) (fun _ hk => hk.2) (.bool t187)) (fun _ hk => hk.2) (.int .i64 t188)) (fun _ hk => hk.2) (.int .i64 t189)) (fun _ hk => hk.2) (.int .i64 t190)) (fun _ hk => hk.2) (.int .i64 t191)) (fun _ hk => hk.2) (.slice Ao50 t192.length co50)) (fun _ h_ => h_.1))) hb); have n2_ := Aside0.mk (Kd.R_below (by (with_reducible repeat (first | apply Kd.R_alloc | apply Kd.R_drewN | apply Kd.R_drew)); exact (Kd.R_mono (Kd.R_far (p := ⟨gb196, 9, none⟩) (Kd.R_far (p := ⟨gb196, 8, none⟩) (Kd.R_far (p := ⟨gb196, 7, none⟩) (Kd.R_far (p := ⟨gb196, 6, none⟩) (Kd.R_far (p := ⟨gb196, 5, none⟩) (Kd.R_far (p := ⟨gb196, 4, none⟩) (Kd.R_far (p := ⟨gb196, 3, none⟩) (Kd.R_far (p := ⟨gb196, 2, none⟩) (Kd.R_far (p := ⟨gb196, 1, none⟩) (Kd.R_far (p := ⟨gb196, 0, none⟩) (Kd.R_types HO_176000.out BK196.out (by decide)) (fun _ hk => hk.2) (.slice Ao46 t181.length co46)) (fun _ hk => hk.2) (.int .i64 t184)) (fun _ hk => hk.2) (.int .i64 t185)) (fun _ hk => hk.2) (.int .i64 t186)) (fun _ hk => hk.2) (.bool t187)) (fun _ hk => hk.2) (.int .i64 t188)) (fun _ hk => hk.2) (.int .i64 t189)) (fun _ hk => hk.2) (.int .i64 t190)) (fun _ hk => hk.2) (.int .i64 t191)) (fun _ hk => hk.2) (.slice Ao50 t192.length co50)) (fun _ h_ => h_.1))) hb); have n3_ := Aside0.mk (Kd.R_below (by (with_reducible repeat (first | apply Kd.R_alloc | apply Kd.R_drewN | apply Kd.R_drew)); exact (Kd.R_mono (Kd.R_far (p := ⟨gb196, 9, none⟩) (Kd.R_far (p := ⟨gb196, 8, none⟩) (Kd.R_far (p := ⟨gb196, 7, none⟩) (Kd.R_far (p := ⟨gb196, 6, none⟩) (Kd.R_far (p := ⟨gb196, 5, none⟩) (Kd.R_far (p := ⟨gb196, 4, none⟩) (Kd.R_far (p := ⟨gb196, 3, none⟩) (Kd.R_far (p := ⟨gb196, 2, none⟩) (Kd.R_far (p := ⟨gb196, 1, none⟩) (Kd.R_far (p := ⟨gb196, 0, none⟩) (Kd.R_types HO_176009.out BK196.out (by decide)) (fun _ hk => hk.2) (.slice Ao46 t181.length co46)) (fun _ hk => hk.2) (.int .i64 t184)) (fun _ hk => hk.2) (.int .i64 t185)) (fun _ hk => hk.2) (.int .i64 t186)) (fun _ hk => hk.2) (.bool t187)) (fun _ hk => hk.2) (.int .i64 t188)) (fun _ hk => hk.2) (.int .i64 t189)) (fun _ hk => hk.2) (.int .i64 t190)) (fun _ hk => hk.2) (.int .i64 t191)) (fun _ hk => hk.2) (.slice Ao50 t192.length co50)) (fun _ h_ => h_.1))) hb); have n4_ := Aside0.mk (Kd.R_below (by (with_reducible repeat (first | apply Kd.R_alloc | apply Kd.R_drewN | apply Kd.R_drew)); exact (Kd.R_mono (Kd.R_far (p := ⟨gb196, 9, none⟩) (Kd.R_far (p := ⟨gb196, 8, none⟩) (Kd.R_far (p := ⟨gb196, 7, none⟩) (Kd.R_far (p := ⟨gb196, 6, none⟩) (Kd.R_far (p := ⟨gb196, 5, none⟩) (Kd.R_far (p := ⟨gb196, 4, none⟩) (Kd.R_far (p := ⟨gb196, 3, none⟩) (Kd.R_far (p := ⟨gb196, 2, none⟩) (Kd.R_far (p := ⟨gb196, 1, none⟩) (Kd.R_far (p := ⟨gb196, 0, none⟩) (Kd.R_types HO183.out BK196.out (by decide)) (fun _ hk => hk.2) (.slice Ao46 t181.length co46)) (fun _ hk => hk.2) (.int .i64 t184)) (fun _ hk => hk.2) (.int .i64 t185)) (fun _ hk => hk.2) (.int .i64 t186)) (fun _ hk => hk.2) (.bool t187)) (fun _ hk => hk.2) (.int .i64 t188)) (fun _ hk => hk.2) (.int .i64 t189)) (fun _ hk => hk.2) (.int .i64 t190)) (fun _ hk => hk.2) (.int .i64 t191)) (fun _ hk => hk.2) (.slice Ao50 t192.length co50)) (fun _ h_ => h_.1))) hb); have n5_ := Aside0.mk (Kd.R_below (by (with_reducible repeat (first | apply Kd.R_alloc | apply Kd.R_drewN | apply Kd.R_drew)); exact (Kd.R_mono (Kd.R_far (p := ⟨gb196, 9, none⟩) (Kd.R_far (p := ⟨gb196, 8, none⟩) (Kd.R_far (p := ⟨gb196, 7, none⟩) (Kd.R_far (p := ⟨gb196, 6, none⟩) (Kd.R_far (p := ⟨gb196, 5, none⟩) (Kd.R_far (p := ⟨gb196, 4, none⟩) (Kd.R_far (p := ⟨gb196, 3, none⟩) (Kd.R_far (p := ⟨gb196, 2, none⟩) (Kd.R_far (p := ⟨gb196, 1, none⟩) (Kd.R_far (p := ⟨gb196, 0, none⟩) (Kd.R_types HO194.out BK196.out (by decide)) (fun _ hk => hk.2) (.slice Ao46 t181.length co46)) (fun _ hk => hk.2) (.int .i64 t184)) (fun _ hk => hk.2) (.int .i64 t185)) (fun _ hk => hk.2) (.int .i64 t186)) (fun _ hk => hk.2) (.bool t187)) (fun _ hk => hk.2) (.int .i64 t188)) (fun _ hk => hk.2) (.int .i64 t189)) (fun _ hk => hk.2) (.int .i64 t190)) (fun _ hk => hk.2) (.int .i64 t191)) (fun _ hk => hk.2) (.slice Ao50 t192.length co50)) (fun _ h_ => h_.1))) hb); have n6_ := Aside0.mk (blk_below (g := gb159) (o := .cells #[.slice Ao8 t144.length co8, .int .i64 t147, .int .i64 t148, .int .i64 t149, .bool t150, .int .i64 t151, .int .i64 t152, .int .i64 t153, .int .i64 t154, .slice Ao10 t155.length co10] 25 (0, 0)) (by (with_reducible repeat (first | refine blk_drewN ?_ _ | refine blk_drew ?_ | refine blk_alloc ?_ _)); refine blk_far ?_ NB159_196.out _; (with_reducible repeat (first | refine blk_drewN ?_ _ | refine blk_drew ?_ | refine blk_alloc ?_ _)); refine blk_far ?_ NB159_196.out _; (with_reducible repeat (first | refine blk_drewN ?_ _ | refine blk_drew ?_ | refine blk_alloc ?_ _)); refine blk_far ?_ NB159_196.out _; (with_reducible repeat (first | refine blk_drewN ?_ _ | refine blk_drew ?_ | refine blk_alloc ?_ _)); refine blk_far ?_ NB159_196.out _; (with_reducible repeat (first | refine blk_drewN ?_ _ | refine blk_drew ?_ | refine blk_alloc ?_ _)); refine blk_far ?_ NB159_196.out _; (with_reducible repeat (first | refine blk_drewN ?_ _ | refine blk_drew ?_ | refine blk_alloc ?_ _)); refine blk_far ?_ NB159_196.out _; (with_reducible repeat (first | refine blk_drewN ?_ _ | refine blk_drew ?_ | refine blk_alloc ?_ _)); refine blk_far ?_ NB159_196.out _; (with_reducible repeat (first | refine blk_drewN ?_ _ | refine blk_drew ?_ | refine blk_alloc ?_ _)); refine blk_far ?_ NB159_196.out _; (with_reducible repeat (first | refine blk_drewN ?_ _ | refine blk_drew ?_ | refine blk_alloc ?_ _)); refine blk_far ?_ NB159_196.out _; (with_reducible repeat (first | refine blk_drewN ?_ _ | refine blk_drew ?_ | refine blk_alloc ?_ _)); refine blk_far ?_ NB159_196.out _; (with_reducible repeat (first | refine blk_drewN ?_ _ | refine blk_drew ?_ | refine blk_alloc ?_ _)); exact BK159.out) hb); have n7_ := Aside0.mk (blk_below (g := gb175) (o := .cells #[.slice Ao13 t160.length co13, .int .i64 t163, .int .i64 t164, .int .i64 t165, .bool t166, .int .i64 t167, .int .i64 t168, .int .i64 t169, .int .i64 t170, .slice Ao16 t171.length co16] 25 (0, 0)) (by (with_reducible repeat (first | refine blk_drewN ?_ _ | refine blk_drew ?_ | refine blk_alloc ?_ _)); refine blk_far ?_ NB175_196.out _; (with_reducible repeat (first | refine blk_drewN ?_ _ | refine blk_drew ?_ | refine blk_alloc ?_ _)); refine blk_far ?_ NB175_196.out _; (with_reducible repeat (first | refine blk_drewN ?_ _ | refine blk_drew ?_ | refine blk_alloc ?_ _)); refine blk_far ?_ NB175_196.out _; (with_reducible repeat (first | refine blk_drewN ?_ _ | refine blk_drew ?_ | refine blk_alloc ?_ _)); refine blk_far ?_ NB175_196.out _; (with_reducible repeat (first | refine blk_drewN ?_ _ | refine blk_drew ?_ | refine blk_alloc ?_ _)); refine blk_far ?_ NB175_196.out _; (with_reducible repeat (first | refine blk_drewN ?_ _ | refine blk_drew ?_ | refine blk_alloc ?_ _)); refine blk_far ?_ NB175_196.out _; (with_reducible repeat (first | refine blk_drewN ?_ _ | refine blk_drew ?_ | refine blk_alloc ?_ _)); refine blk_far ?_ NB175_196.out _; (with_reducible repeat (first | refine blk_drewN ?_ _ | refine blk_drew ?_ | refine blk_alloc ?_ _)); refine blk_far ?_ NB175_196.out _; (with_reducible repeat (first | refine blk_drewN ?_ _ | refine blk_drew ?_ | refine blk_alloc ?_ _)); refine blk_far ?_ NB175_196.out _; (with_reducible repeat (first | refine blk_drewN ?_ _ | refine blk_drew ?_ | refine blk_alloc ?_ _)); refine blk_far ?_ NB175_196.out _; (with_reducible repeat (first | refine blk_drewN ?_ _ | refine blk_drew ?_ | refine blk_alloc ?_ _)); exact BK175.out) hb); have n8_ := Aside0.mk (blk_below (g := gb196) (o := .cells #[.slice Ao46 t181.length co46, .int .i64 t184, .int .i64 t185, .int .i64 t186, .bool t187, .int .i64 t188, .int .i64 t189, .int .i64 t190, .int .i64 t191, .slice Ao50 t192.length co50] 25 (0, 0)) (by (with_reducible repeat (first | refine blk_drewN ?_ _ | refine blk_drew ?_ | refine blk_alloc ?_ _)); refine blk_put (cs := #[.slice Ao46 t181.length co46, .int .i64 t184, .int .i64 t185, .int .i64 t186, .bool t187, .int .i64 t188, .int .i64 t189, .int .i64 t190, .int .i64 t191, .slice none 0 0]) ?_ 9 _ rfl; (with_reducible repeat (first | refine blk_drewN ?_ _ | refine blk_drew ?_ | refine blk_alloc ?_ _)); refine blk_put (cs := #[.slice Ao46 t181.length co46, .int .i64 t184, .int .i64 t185, .int .i64 t186, .bool t187, .int .i64 t188, .int .i64 t189, .int .i64 t190, .int .i64 0, .slice none 0 0]) ?_ 8 _ rfl; (with_reducible repeat (first | refine blk_drewN ?_ _ | refine blk_drew ?_ | refine blk_alloc ?_ _)); refine blk_put (cs := #[.slice Ao46 t181.length co46, .int .i64 t184, .int .i64 t185, .int .i64 t186, .bool t187, .int .i64 t188, .int .i64 t189, .int .i64 0, .int .i64 0, .slice none 0 0]) ?_ 7 _ rfl; (with_reducible repeat (first | refine blk_drewN ?_ _ | refine blk_drew ?_ | refine blk_alloc ?_ _)); refine blk_put (cs := #[.slice Ao46 t181.length co46, .int .i64 t184, .int .i64 t185, .int .i64 t186, .bool t187, .int .i64 t188, .int .i64 0, .int .i64 0, .int .i64 0, .slice none 0 0]) ?_ 6 _ rfl; (with_reducible repeat (first | refine blk_drewN ?_ _ | refine blk_drew ?_ | refine blk_alloc ?_ _)); refine blk_put (cs := #[.slice Ao46 t181.length co46, .int .i64 t184, .int .i64 t185, .int .i64 t186, .bool t187, .int .i64 0, .int .i64 0, .int .i64 0, .int .i64 0, .slice none 0 0]) ?_ 5 _ rfl; (with_reducible repeat (first | refine blk_drewN ?_ _ | refine blk_drew ?_ | refine blk_alloc ?_ _)); refine blk_put (cs := #[.slice Ao46 t181.length co46, .int .i64 t184, .int .i64 t185, .int .i64 t186, .bool false, .int .i64 0, .int .i64 0, .int .i64 0, .int .i64 0, .slice none 0 0]) ?_ 4 _ rfl; (with_reducible repeat (first | refine blk_drewN ?_ _ | refine blk_drew ?_ | refine blk_alloc ?_ _)); refine blk_put (cs := #[.slice Ao46 t181.length co46, .int .i64 t184, .int .i64 t185, .int .i64 0, .bool false, .int .i64 0, .int .i64 0, .int .i64 0, .int .i64 0, .slice none 0 0]) ?_ 3 _ rfl; (with_reducible repeat (first | refine blk_drewN ?_ _ | refine blk_drew ?_ | refine blk_alloc ?_ _)); refine blk_put (cs := #[.slice Ao46 t181.length co46, .int .i64 t184, .int .i64 0, .int .i64 0, .bool false, .int .i64 0, .int .i64 0, .int .i64 0, .int .i64 0, .slice none 0 0]) ?_ 2 _ rfl; (with_reducible repeat (first | refine blk_drewN ?_ _ | refine blk_drew ?_ | refine blk_alloc ?_ _)); refine blk_put (cs := #[.slice Ao46 t181.length co46, .int .i64 0, .int .i64 0, .int .i64 0, .bool false, .int .i64 0, .int .i64 0, .int .i64 0, .int .i64 0, .slice none 0 0]) ?_ 1 _ rfl; (with_reducible repeat (first | refine blk_drewN ?_ _ | refine blk_drew ?_ | refine blk_alloc ?_ _)); refine blk_put (cs := #[.slice none 0 0, .int .i64 0, .int .i64 0, .int .i64 0, .bool false, .int .i64 0, .int .i64 0, .int .i64 0, .int .i64 0, .slice none 0 0]) ?_ 0 _ rfl; (with_reducible repeat (first | refine blk_drewN ?_ _ | refine blk_drew ?_ | refine blk_alloc ?_ _)); exact BK196.out) hb); have n9_ := Aside0.mk (below_step (by repeat (first | (with_reducible first | exact HB.out | apply below_alloc | apply pw_below_drewN | apply below_drew1 | refine below_set ?_ GE159.out | refine below_set ?_ GE175.out | refine below_set ?_ GE196.out) | exact HB.out)) hb); clear HO_160000; clear HO_160009; clear HO_176000; clear HO_176009; clear HO183; clear HO194; clear BK159; clear BK175; clear BK196; clear HB; have HO_160000 := n0_; have HO_160009 := n1_; have HO_176000 := n2_; have HO_176009 := n3_; have HO183 := n4_; have HO194 := n5_; have BK159 := n6_; have BK175 := n7_; have BK196 := n8_; have HB := n9_; clear n0_ n1_ n2_ n3_ n4_ n5_ n6_ n7_ n8_ n9_; (try clear hb); (try clear hb2); (try clear hk); (try clear hi)))
                go_meet
                case rel => exact ⟨_, ((t195 != t158)), (by first | rfl | (simp; done) | (simp [*]; done)), H', ⟨by have := HJ4.out; first | omega | exact Nat.le_refl _⟩, ⟨by (with_reducible repeat (first | apply Kd.R_alloc | apply Kd.R_drewN | apply Kd.R_drew)); exact HO_160000.out⟩, ⟨by (with_reducible repeat (first | apply Kd.R_alloc | apply Kd.R_drewN | apply Kd.R_drew)); exact HO_160009.out⟩, ⟨by (with_reducible repeat (first | apply Kd.R_alloc | apply Kd.R_drewN | apply Kd.R_drew)); exact HO_176000.out⟩, ⟨by (with_reducible repeat (first | apply Kd.R_alloc | apply Kd.R_drewN | apply Kd.R_drew)); exact HO_176009.out⟩, ⟨by (with_reducible repeat (first | apply Kd.R_alloc | apply Kd.R_drewN | apply Kd.R_drew)); exact Kd.R_mono HO183.out (fun _ hk => ⟨hk.1.2, hk.2⟩)⟩, ⟨by (with_reducible repeat (first | apply Kd.R_alloc | apply Kd.R_drewN | apply Kd.R_drew)); exact Kd.R_mono HO194.out (fun _ hk => ⟨hk.1.2, hk.2⟩)⟩, ⟨by (with_reducible repeat (first | refine blk_drewN ?_ _ | refine blk_drew ?_ | refine blk_alloc ?_ _)); exact BK159.out⟩, ⟨by (with_reducible repeat (first | refine blk_drewN ?_ _ | refine blk_drew ?_ | refine blk_alloc ?_ _)); exact BK175.out⟩, ⟨by (with_reducible repeat (first | refine blk_drewN ?_ _ | refine blk_drew ?_ | refine blk_alloc ?_ _)); exact BK196.out⟩, ⟨by repeat (first | (with_reducible first | exact HB.out | apply below_alloc | apply pw_below_drewN | apply below_drew1 | refine below_set ?_ GE159.out | refine below_set ?_ GE175.out | refine below_set ?_ GE196.out) | exact HB.out)⟩⟩
              · replace c52 := Bool.eq_false_iff.mpr c52
                subst c52
                have H1 : (laws_FnExactNewArena.j1 kj4 t177 true t178 t163 t164 t165 t166 t167 t168 t169 t170 t179) = some r := by rw [if_neg (show ¬ (false = true) by decide)] at H; exact H
                clear H
                have H := H1
                clear H1
                have H' := Aside0.mk H
                clear H
                have hnb59 := NB196_159.out
                have hnc59 := NB159_196.out
                have hnb60 := NB196_175.out
                have hnc60 := NB175_196.out
                have hcz61_0 : w45.cell? ⟨gb196, 0, none⟩ = some (.slice none 0 0) := (blk_cell BK196.out 0).trans rfl
                have hcz61_1 : w45.cell? ⟨gb196, 1, none⟩ = some (.int .i64 0) := (blk_cell BK196.out 1).trans rfl
                have hcz61_2 : w45.cell? ⟨gb196, 2, none⟩ = some (.int .i64 0) := (blk_cell BK196.out 2).trans rfl
                have hcz61_3 : w45.cell? ⟨gb196, 3, none⟩ = some (.int .i64 0) := (blk_cell BK196.out 3).trans rfl
                have hcz61_4 : w45.cell? ⟨gb196, 4, none⟩ = some (.bool false) := (blk_cell BK196.out 4).trans rfl
                have hcz61_5 : w45.cell? ⟨gb196, 5, none⟩ = some (.int .i64 0) := (blk_cell BK196.out 5).trans rfl
                have hcz61_6 : w45.cell? ⟨gb196, 6, none⟩ = some (.int .i64 0) := (blk_cell BK196.out 6).trans rfl
                have hcz61_7 : w45.cell? ⟨gb196, 7, none⟩ = some (.int .i64 0) := (blk_cell BK196.out 7).trans rfl
                have hcz61_8 : w45.cell? ⟨gb196, 8, none⟩ = some (.int .i64 0) := (blk_cell BK196.out 8).trans rfl
                have hcz61_9 : w45.cell? ⟨gb196, 9, none⟩ = some (.slice none 0 0) := (blk_cell BK196.out 9).trans rfl
                have hfz61_0 := blk_frozen BK196.out 0
                have hfz61_1 := blk_frozen BK196.out 1
                have hfz61_2 := blk_frozen BK196.out 2
                have hfz61_3 := blk_frozen BK196.out 3
                have hfz61_4 := blk_frozen BK196.out 4
                have hfz61_5 := blk_frozen BK196.out 5
                have hfz61_6 := blk_frozen BK196.out 6
                have hfz61_7 := blk_frozen BK196.out 7
                have hfz61_8 := blk_frozen BK196.out 8
                have hfz61_9 := blk_frozen BK196.out 9
                have hnb62 := NB159_175.out
                have hnc62 := NB175_159.out
                have hcz63_0 : w45.cell? ⟨gb159, 0, none⟩ = some (.slice Ao8 t144.length co8) := (blk_cell BK159.out 0).trans rfl
                have hcz63_1 : w45.cell? ⟨gb159, 1, none⟩ = some (.int .i64 t147) := (blk_cell BK159.out 1).trans rfl
                have hcz63_2 : w45.cell? ⟨gb159, 2, none⟩ = some (.int .i64 t148) := (blk_cell BK159.out 2).trans rfl
                have hcz63_3 : w45.cell? ⟨gb159, 3, none⟩ = some (.int .i64 t149) := (blk_cell BK159.out 3).trans rfl
                have hcz63_4 : w45.cell? ⟨gb159, 4, none⟩ = some (.bool t150) := (blk_cell BK159.out 4).trans rfl
                have hcz63_5 : w45.cell? ⟨gb159, 5, none⟩ = some (.int .i64 t151) := (blk_cell BK159.out 5).trans rfl
                have hcz63_6 : w45.cell? ⟨gb159, 6, none⟩ = some (.int .i64 t152) := (blk_cell BK159.out 6).trans rfl
                have hcz63_7 : w45.cell? ⟨gb159, 7, none⟩ = some (.int .i64 t153) := (blk_cell BK159.out 7).trans rfl
                have hcz63_8 : w45.cell? ⟨gb159, 8, none⟩ = some (.int .i64 t154) := (blk_cell BK159.out 8).trans rfl
                have hcz63_9 : w45.cell? ⟨gb159, 9, none⟩ = some (.slice Ao10 t155.length co10) := (blk_cell BK159.out 9).trans rfl
                have hfz63_0 := blk_frozen BK159.out 0
                have hfz63_1 := blk_frozen BK159.out 1
                have hfz63_2 := blk_frozen BK159.out 2
                have hfz63_3 := blk_frozen BK159.out 3
                have hfz63_4 := blk_frozen BK159.out 4
                have hfz63_5 := blk_frozen BK159.out 5
                have hfz63_6 := blk_frozen BK159.out 6
                have hfz63_7 := blk_frozen BK159.out 7
                have hfz63_8 := blk_frozen BK159.out 8
                have hfz63_9 := blk_frozen BK159.out 9
                go_wp2_with (first | ((with_reducible refine gate_callee (f := 12) rfl ?_); refine goesL_ (some 53) rfl rfl Try.func12 (by kernel_rfl) rfl #[.agg #[.slice Ao46 t181.length co46, .int .i64 t184, .int .i64 t185, .int .i64 t186, .bool t187, .int .i64 t188, .int .i64 t189, .int .i64 t190, .int .i64 t191, .slice Ao50 t192.length co50], .agg #[.slice Ao8 t144.length co8, .int .i64 t147, .int .i64 t148, .int .i64 t149, .bool t150, .int .i64 t151, .int .i64 t152, .int .i64 t153, .int .i64 t154, .slice Ao10 t155.length co10]] rfl (by (try simp only [List.map_toArray, List.map_cons, List.map_nil]); first | done | rfl | (simp only [List.length_drop, List.length_take]; rfl)) ?_; (with_reducible refine (laws_eqArena.calls kj4 _ _ t181 t184 t185 t186 t187 t188 t189 t190 t191 _ _ t192 _ _ t144 t147 t148 t149 t150 t151 t152 t153 t154 _ _ t155 false _ ?side1 ?side2 ?side3 ?side4 ?side5 ?side6 ?side7 ?side8 A51.out).mono ?_); (case side1 => refine (Kd.R_reads' (e := 49) (base := w.heap.size) (ok := fun k_ => ((True ∧ some k_ ≠ (.slice Ao8 t144.length co8 : Value).ownBlock) ∧ some k_ ≠ (.slice Ao13 t160.length co13 : Value).ownBlock)) (n := t181.length) (c := co46) ?_).2.2; exact (by (with_reducible repeat (first | apply Kd.R_alloc | apply Kd.R_drewN | apply Kd.R_drew)); exact (Kd.R_mono (Kd.R_far (p := ⟨gb196, 9, none⟩) (Kd.R_far (p := ⟨gb196, 8, none⟩) (Kd.R_far (p := ⟨gb196, 7, none⟩) (Kd.R_far (p := ⟨gb196, 6, none⟩) (Kd.R_far (p := ⟨gb196, 5, none⟩) (Kd.R_far (p := ⟨gb196, 4, none⟩) (Kd.R_far (p := ⟨gb196, 3, none⟩) (Kd.R_far (p := ⟨gb196, 2, none⟩) (Kd.R_far (p := ⟨gb196, 1, none⟩) (Kd.R_far (p := ⟨gb196, 0, none⟩) (Kd.R_types HO183.out BK196.out (by decide)) (fun _ hk => hk.2) (.slice Ao46 t181.length co46)) (fun _ hk => hk.2) (.int .i64 t184)) (fun _ hk => hk.2) (.int .i64 t185)) (fun _ hk => hk.2) (.int .i64 t186)) (fun _ hk => hk.2) (.bool t187)) (fun _ hk => hk.2) (.int .i64 t188)) (fun _ hk => hk.2) (.int .i64 t189)) (fun _ hk => hk.2) (.int .i64 t190)) (fun _ hk => hk.2) (.int .i64 t191)) (fun _ hk => hk.2) (.slice Ao50 t192.length co50)) (fun _ h_ => h_.1)))); (case side2 => exact (Kd.R_reads' HO183.out).2.1); (case side3 => refine (Kd.R_reads' (e := 44) (base := w.heap.size) (ok := fun k_ => ((True ∧ some k_ ≠ (.slice Ao10 t155.length co10 : Value).ownBlock) ∧ some k_ ≠ (.slice Ao16 t171.length co16 : Value).ownBlock)) (n := t192.length) (c := co50) ?_).2.2; exact (by (with_reducible repeat (first | apply Kd.R_alloc | apply Kd.R_drewN | apply Kd.R_drew)); exact (Kd.R_mono (Kd.R_far (p := ⟨gb196, 9, none⟩) (Kd.R_far (p := ⟨gb196, 8, none⟩) (Kd.R_far (p := ⟨gb196, 7, none⟩) (Kd.R_far (p := ⟨gb196, 6, none⟩) (Kd.R_far (p := ⟨gb196, 5, none⟩) (Kd.R_far (p := ⟨gb196, 4, none⟩) (Kd.R_far (p := ⟨gb196, 3, none⟩) (Kd.R_far (p := ⟨gb196, 2, none⟩) (Kd.R_far (p := ⟨gb196, 1, none⟩) (Kd.R_far (p := ⟨gb196, 0, none⟩) (Kd.R_types HO194.out BK196.out (by decide)) (fun _ hk => hk.2) (.slice Ao46 t181.length co46)) (fun _ hk => hk.2) (.int .i64 t184)) (fun _ hk => hk.2) (.int .i64 t185)) (fun _ hk => hk.2) (.int .i64 t186)) (fun _ hk => hk.2) (.bool t187)) (fun _ hk => hk.2) (.int .i64 t188)) (fun _ hk => hk.2) (.int .i64 t189)) (fun _ hk => hk.2) (.int .i64 t190)) (fun _ hk => hk.2) (.int .i64 t191)) (fun _ hk => hk.2) (.slice Ao50 t192.length co50)) (fun _ h_ => h_.1)))); (case side4 => exact (Kd.R_reads' HO194.out).2.1); (case side5 => refine (Kd.R_reads' (e := 49) (base := w.heap.size) (ok := fun k_ => (some k_ ≠ (.slice Ao13 t160.length co13 : Value).ownBlock ∧ some k_ ≠ (.slice Ao46 t181.length co46 : Value).ownBlock)) (n := t144.length) (c := co8) ?_).2.2; exact (by (with_reducible repeat (first | apply Kd.R_alloc | apply Kd.R_drewN | apply Kd.R_drew)); exact (Kd.R_mono (Kd.R_far (p := ⟨gb196, 9, none⟩) (Kd.R_far (p := ⟨gb196, 8, none⟩) (Kd.R_far (p := ⟨gb196, 7, none⟩) (Kd.R_far (p := ⟨gb196, 6, none⟩) (Kd.R_far (p := ⟨gb196, 5, none⟩) (Kd.R_far (p := ⟨gb196, 4, none⟩) (Kd.R_far (p := ⟨gb196, 3, none⟩) (Kd.R_far (p := ⟨gb196, 2, none⟩) (Kd.R_far (p := ⟨gb196, 1, none⟩) (Kd.R_far (p := ⟨gb196, 0, none⟩) (Kd.R_types HO_160000.out BK196.out (by decide)) (fun _ hk => hk.2) (.slice Ao46 t181.length co46)) (fun _ hk => hk.2) (.int .i64 t184)) (fun _ hk => hk.2) (.int .i64 t185)) (fun _ hk => hk.2) (.int .i64 t186)) (fun _ hk => hk.2) (.bool t187)) (fun _ hk => hk.2) (.int .i64 t188)) (fun _ hk => hk.2) (.int .i64 t189)) (fun _ hk => hk.2) (.int .i64 t190)) (fun _ hk => hk.2) (.int .i64 t191)) (fun _ hk => hk.2) (.slice Ao50 t192.length co50)) (fun _ h_ => h_.1)))); (case side6 => exact (Kd.R_reads' HO_160000.out).2.1); (case side7 => refine (Kd.R_reads' (e := 44) (base := w.heap.size) (ok := fun k_ => (some k_ ≠ (.slice Ao16 t171.length co16 : Value).ownBlock ∧ some k_ ≠ (.slice Ao50 t192.length co50 : Value).ownBlock)) (n := t155.length) (c := co10) ?_).2.2; exact (by (with_reducible repeat (first | apply Kd.R_alloc | apply Kd.R_drewN | apply Kd.R_drew)); exact (Kd.R_mono (Kd.R_far (p := ⟨gb196, 9, none⟩) (Kd.R_far (p := ⟨gb196, 8, none⟩) (Kd.R_far (p := ⟨gb196, 7, none⟩) (Kd.R_far (p := ⟨gb196, 6, none⟩) (Kd.R_far (p := ⟨gb196, 5, none⟩) (Kd.R_far (p := ⟨gb196, 4, none⟩) (Kd.R_far (p := ⟨gb196, 3, none⟩) (Kd.R_far (p := ⟨gb196, 2, none⟩) (Kd.R_far (p := ⟨gb196, 1, none⟩) (Kd.R_far (p := ⟨gb196, 0, none⟩) (Kd.R_types HO_160009.out BK196.out (by decide)) (fun _ hk => hk.2) (.slice Ao46 t181.length co46)) (fun _ hk => hk.2) (.int .i64 t184)) (fun _ hk => hk.2) (.int .i64 t185)) (fun _ hk => hk.2) (.int .i64 t186)) (fun _ hk => hk.2) (.bool t187)) (fun _ hk => hk.2) (.int .i64 t188)) (fun _ hk => hk.2) (.int .i64 t189)) (fun _ hk => hk.2) (.int .i64 t190)) (fun _ hk => hk.2) (.int .i64 t191)) (fun _ hk => hk.2) (.slice Ao50 t192.length co50)) (fun _ h_ => h_.1)))); (case side8 => exact (Kd.R_reads' HO_160009.out).2.1); rintro e w64 ⟨rfl, hb⟩; refine ⟨_, rfl, ?_⟩; have n0_ := Aside0.mk (Kd.R_below (by (with_reducible repeat (first | apply Kd.R_alloc | apply Kd.R_drewN | apply Kd.R_drew)); exact (Kd.R_mono (Kd.R_far (p := ⟨gb196, 9, none⟩) (Kd.R_far (p := ⟨gb196, 8, none⟩) (Kd.R_far (p := ⟨gb196, 7, none⟩) (Kd.R_far (p := ⟨gb196, 6, none⟩) (Kd.R_far (p := ⟨gb196, 5, none⟩) (Kd.R_far (p := ⟨gb196, 4, none⟩) (Kd.R_far (p := ⟨gb196, 3, none⟩) (Kd.R_far (p := ⟨gb196, 2, none⟩) (Kd.R_far (p := ⟨gb196, 1, none⟩) (Kd.R_far (p := ⟨gb196, 0, none⟩) (Kd.R_types HO_160000.out BK196.out (by decide)) (fun _ hk => hk.2) (.slice Ao46 t181.length co46)) (fun _ hk => hk.2) (.int .i64 t184)) (fun _ hk => hk.2) (.int .i64 t185)) (fun _ hk => hk.2) (.int .i64 t186)) (fun _ hk => hk.2) (.bool t187)) (fun _ hk => hk.2) (.int .i64 t188)) (fun _ hk => hk.2) (.int .i64 t189)) (fun _ hk => hk.2) (.int .i64 t190)) (fun _ hk => hk.2) (.int .i64 t191)) (fun _ hk => hk.2) (.slice Ao50 t192.length co50)) (fun _ h_ => h_.1))) hb); have n1_ := Aside0.mk (Kd.R_below (by (with_reducible repeat (first | apply Kd.R_alloc | apply Kd.R_drewN | apply Kd.R_drew)); exact (Kd.R_mono (Kd.R_far (p := ⟨gb196, 9, none⟩) (Kd.R_far (p := ⟨gb196, 8, none⟩) (Kd.R_far (p := ⟨gb196, 7, none⟩) (Kd.R_far (p := ⟨gb196, 6, none⟩) (Kd.R_far (p := ⟨gb196, 5, none⟩) (Kd.R_far (p := ⟨gb196, 4, none⟩) (Kd.R_far (p := ⟨gb196, 3, none⟩) (Kd.R_far (p := ⟨gb196, 2, none⟩) (Kd.R_far (p := ⟨gb196, 1, none⟩) (Kd.R_far (p := ⟨gb196, 0, none⟩) (Kd.R_types HO_160009.out BK196.out (by decide)) (fun _ hk => hk.2) (.slice Ao46 t181.length co46)) (fun _ hk => hk.2) (.int .i64 t184)) (fun _ hk => hk.2) (.int .i64 t185)) (fun _ hk => hk.2) (.int .i64 t186)) (fun _ hk => hk.2) (.bool t187)) (fun _ hk => hk.2) (.int .i64 t188)) (fun _ hk => hk.2) (.int .i64 t189)) (fun _ hk => hk.2) (.int .i64 t190)) (fun _ hk => hk.2) (.int .i64 t191)) (fun _ hk => hk.2) (.slice Ao50 t192.length co50)) (fun _ h_ => h_.1))) hb); have n2_ := Aside0.mk (Kd.R_below (by (with_reducible repeat (first | apply Kd.R_alloc | apply Kd.R_drewN | apply Kd.R_drew)); exact (Kd.R_mono (Kd.R_far (p := ⟨gb196, 9, none⟩) (Kd.R_far (p := ⟨gb196, 8, none⟩) (Kd.R_far (p := ⟨gb196, 7, none⟩) (Kd.R_far (p := ⟨gb196, 6, none⟩) (Kd.R_far (p := ⟨gb196, 5, none⟩) (Kd.R_far (p := ⟨gb196, 4, none⟩) (Kd.R_far (p := ⟨gb196, 3, none⟩) (Kd.R_far (p := ⟨gb196, 2, none⟩) (Kd.R_far (p := ⟨gb196, 1, none⟩) (Kd.R_far (p := ⟨gb196, 0, none⟩) (Kd.R_types HO_176000.out BK196.out (by decide)) (fun _ hk => hk.2) (.slice Ao46 t181.length co46)) (fun _ hk => hk.2) (.int .i64 t184)) (fun _ hk => hk.2) (.int .i64 t185)) (fun _ hk => hk.2) (.int .i64 t186)) (fun _ hk => hk.2) (.bool t187)) (fun _ hk => hk.2) (.int .i64 t188)) (fun _ hk => hk.2) (.int .i64 t189)) (fun _ hk => hk.2) (.int .i64 t190)) (fun _ hk => hk.2) (.int .i64 t191)) (fun _ hk => hk.2) (.slice Ao50 t192.length co50)) (fun _ h_ => h_.1))) hb); have n3_ := Aside0.mk (Kd.R_below (by (with_reducible repeat (first | apply Kd.R_alloc | apply Kd.R_drewN | apply Kd.R_drew)); exact (Kd.R_mono (Kd.R_far (p := ⟨gb196, 9, none⟩) (Kd.R_far (p := ⟨gb196, 8, none⟩) (Kd.R_far (p := ⟨gb196, 7, none⟩) (Kd.R_far (p := ⟨gb196, 6, none⟩) (Kd.R_far (p := ⟨gb196, 5, none⟩) (Kd.R_far (p := ⟨gb196, 4, none⟩) (Kd.R_far (p := ⟨gb196, 3, none⟩) (Kd.R_far (p := ⟨gb196, 2, none⟩) (Kd.R_far (p := ⟨gb196, 1, none⟩) (Kd.R_far (p := ⟨gb196, 0, none⟩) (Kd.R_types HO_176009.out BK196.out (by decide)) (fun _ hk => hk.2) (.slice Ao46 t181.length co46)) (fun _ hk => hk.2) (.int .i64 t184)) (fun _ hk => hk.2) (.int .i64 t185)) (fun _ hk => hk.2) (.int .i64 t186)) (fun _ hk => hk.2) (.bool t187)) (fun _ hk => hk.2) (.int .i64 t188)) (fun _ hk => hk.2) (.int .i64 t189)) (fun _ hk => hk.2) (.int .i64 t190)) (fun _ hk => hk.2) (.int .i64 t191)) (fun _ hk => hk.2) (.slice Ao50 t192.length co50)) (fun _ h_ => h_.1))) hb); have n4_ := Aside0.mk (Kd.R_below (by (with_reducible repeat (first | apply Kd.R_alloc | apply Kd.R_drewN | apply Kd.R_drew)); exact (Kd.R_mono (Kd.R_far (p := ⟨gb196, 9, none⟩) (Kd.R_far (p := ⟨gb196, 8, none⟩) (Kd.R_far (p := ⟨gb196, 7, none⟩) (Kd.R_far (p := ⟨gb196, 6, none⟩) (Kd.R_far (p := ⟨gb196, 5, none⟩) (Kd.R_far (p := ⟨gb196, 4, none⟩) (Kd.R_far (p := ⟨gb196, 3, none⟩) (Kd.R_far (p := ⟨gb196, 2, none⟩) (Kd.R_far (p := ⟨gb196, 1, none⟩) (Kd.R_far (p := ⟨gb196, 0, none⟩) (Kd.R_types HO183.out BK196.out (by decide)) (fun _ hk => hk.2) (.slice Ao46 t181.length co46)) (fun _ hk => hk.2) (.int .i64 t184)) (fun _ hk => hk.2) (.int .i64 t185)) (fun _ hk => hk.2) (.int .i64 t186)) (fun _ hk => hk.2) (.bool t187)) (fun _ hk => hk.2) (.int .i64 t188)) (fun _ hk => hk.2) (.int .i64 t189)) (fun _ hk => hk.2) (.int .i64 t190)) (fun _ hk => hk.2) (.int .i64 t191)) (fun _ hk => hk.2) (.slice Ao50 t192.length co50)) (fun _ h_ => h_.1))) hb); have n5_ := Aside0.mk (Kd.R_below (by (with_reducible repeat (first | apply Kd.R_alloc | apply Kd.R_drewN | apply Kd.R_drew)); exact (Kd.R_mono (Kd.R_far (p := ⟨gb196, 9, none⟩) (Kd.R_far (p := ⟨gb196, 8, none⟩) (Kd.R_far (p := ⟨gb196, 7, none⟩) (Kd.R_far (p := ⟨gb196, 6, none⟩) (Kd.R_far (p := ⟨gb196, 5, none⟩) (Kd.R_far (p := ⟨gb196, 4, none⟩) (Kd.R_far (p := ⟨gb196, 3, none⟩) (Kd.R_far (p := ⟨gb196, 2, none⟩) (Kd.R_far (p := ⟨gb196, 1, none⟩) (Kd.R_far (p := ⟨gb196, 0, none⟩) (Kd.R_types HO194.out BK196.out (by decide)) (fun _ hk => hk.2) (.slice Ao46 t181.length co46)) (fun _ hk => hk.2) (.int .i64 t184)) (fun _ hk => hk.2) (.int .i64 t185)) (fun _ hk => hk.2) (.int .i64 t186)) (fun _ hk => hk.2) (.bool t187)) (fun _ hk => hk.2) (.int .i64 t188)) (fun _ hk => hk.2) (.int .i64 t189)) (fun _ hk => hk.2) (.int .i64 t190)) (fun _ hk => hk.2) (.int .i64 t191)) (fun _ hk => hk.2) (.slice Ao50 t192.length co50)) (fun _ h_ => h_.1))) hb); have n6_ := Aside0.mk (blk_below (g := gb159) (o := .cells #[.slice Ao8 t144.length co8, .int .i64 t147, .int .i64 t148, .int .i64 t149, .bool t150, .int .i64 t151, .int .i64 t152, .int .i64 t153, .int .i64 t154, .slice Ao10 t155.length co10] 25 (0, 0)) (by (with_reducible repeat (first | refine blk_drewN ?_ _ | refine blk_drew ?_ | refine blk_alloc ?_ _)); refine blk_far ?_ NB159_196.out _; (with_reducible repeat (first | refine blk_drewN ?_ _ | refine blk_drew ?_ | refine blk_alloc ?_ _)); refine blk_far ?_ NB159_196.out _; (with_reducible repeat (first | refine blk_drewN ?_ _ | refine blk_drew ?_ | refine blk_alloc ?_ _)); refine blk_far ?_ NB159_196.out _; (with_reducible repeat (first | refine blk_drewN ?_ _ | refine blk_drew ?_ | refine blk_alloc ?_ _)); refine blk_far ?_ NB159_196.out _; (with_reducible repeat (first | refine blk_drewN ?_ _ | refine blk_drew ?_ | refine blk_alloc ?_ _)); refine blk_far ?_ NB159_196.out _; (with_reducible repeat (first | refine blk_drewN ?_ _ | refine blk_drew ?_ | refine blk_alloc ?_ _)); refine blk_far ?_ NB159_196.out _; (with_reducible repeat (first | refine blk_drewN ?_ _ | refine blk_drew ?_ | refine blk_alloc ?_ _)); refine blk_far ?_ NB159_196.out _; (with_reducible repeat (first | refine blk_drewN ?_ _ | refine blk_drew ?_ | refine blk_alloc ?_ _)); refine blk_far ?_ NB159_196.out _; (with_reducible repeat (first | refine blk_drewN ?_ _ | refine blk_drew ?_ | refine blk_alloc ?_ _)); refine blk_far ?_ NB159_196.out _; (with_reducible repeat (first | refine blk_drewN ?_ _ | refine blk_drew ?_ | refine blk_alloc ?_ _)); refine blk_far ?_ NB159_196.out _; (with_reducible repeat (first | refine blk_drewN ?_ _ | refine blk_drew ?_ | refine blk_alloc ?_ _)); exact BK159.out) hb); have n7_ := Aside0.mk (blk_below (g := gb175) (o := .cells #[.slice Ao13 t160.length co13, .int .i64 t163, .int .i64 t164, .int .i64 t165, .bool t166, .int .i64 t167, .int .i64 t168, .int .i64 t169, .int .i64 t170, .slice Ao16 t171.length co16] 25 (0, 0)) (by (with_reducible repeat (first | refine blk_drewN ?_ _ | refine blk_drew ?_ | refine blk_alloc ?_ _)); refine blk_far ?_ NB175_196.out _; (with_reducible repeat (first | refine blk_drewN ?_ _ | refine blk_drew ?_ | refine blk_alloc ?_ _)); refine blk_far ?_ NB175_196.out _; (with_reducible repeat (first | refine blk_drewN ?_ _ | refine blk_drew ?_ | refine blk_alloc ?_ _)); refine blk_far ?_ NB175_196.out _; (with_reducible repeat (first | refine blk_drewN ?_ _ | refine blk_drew ?_ | refine blk_alloc ?_ _)); refine blk_far ?_ NB175_196.out _; (with_reducible repeat (first | refine blk_drewN ?_ _ | refine blk_drew ?_ | refine blk_alloc ?_ _)); refine blk_far ?_ NB175_196.out _; (with_reducible repeat (first | refine blk_drewN ?_ _ | refine blk_drew ?_ | refine blk_alloc ?_ _)); refine blk_far ?_ NB175_196.out _; (with_reducible repeat (first | refine blk_drewN ?_ _ | refine blk_drew ?_ | refine blk_alloc ?_ _)); refine blk_far ?_ NB175_196.out _; (with_reducible repeat (first | refine blk_drewN ?_ _ | refine blk_drew ?_ | refine blk_alloc ?_ _)); refine blk_far ?_ NB175_196.out _; (with_reducible repeat (first | refine blk_drewN ?_ _ | refine blk_drew ?_ | refine blk_alloc ?_ _)); refine blk_far ?_ NB175_196.out _; (with_reducible repeat (first | refine blk_drewN ?_ _ | refine blk_drew ?_ | refine blk_alloc ?_ _)); refine blk_far ?_ NB175_196.out _; (with_reducible repeat (first | refine blk_drewN ?_ _ | refine blk_drew ?_ | refine blk_alloc ?_ _)); exact BK175.out) hb); have n8_ := Aside0.mk (blk_below (g := gb196) (o := .cells #[.slice Ao46 t181.length co46, .int .i64 t184, .int .i64 t185, .int .i64 t186, .bool t187, .int .i64 t188, .int .i64 t189, .int .i64 t190, .int .i64 t191, .slice Ao50 t192.length co50] 25 (0, 0)) (by (with_reducible repeat (first | refine blk_drewN ?_ _ | refine blk_drew ?_ | refine blk_alloc ?_ _)); refine blk_put (cs := #[.slice Ao46 t181.length co46, .int .i64 t184, .int .i64 t185, .int .i64 t186, .bool t187, .int .i64 t188, .int .i64 t189, .int .i64 t190, .int .i64 t191, .slice none 0 0]) ?_ 9 _ rfl; (with_reducible repeat (first | refine blk_drewN ?_ _ | refine blk_drew ?_ | refine blk_alloc ?_ _)); refine blk_put (cs := #[.slice Ao46 t181.length co46, .int .i64 t184, .int .i64 t185, .int .i64 t186, .bool t187, .int .i64 t188, .int .i64 t189, .int .i64 t190, .int .i64 0, .slice none 0 0]) ?_ 8 _ rfl; (with_reducible repeat (first | refine blk_drewN ?_ _ | refine blk_drew ?_ | refine blk_alloc ?_ _)); refine blk_put (cs := #[.slice Ao46 t181.length co46, .int .i64 t184, .int .i64 t185, .int .i64 t186, .bool t187, .int .i64 t188, .int .i64 t189, .int .i64 0, .int .i64 0, .slice none 0 0]) ?_ 7 _ rfl; (with_reducible repeat (first | refine blk_drewN ?_ _ | refine blk_drew ?_ | refine blk_alloc ?_ _)); refine blk_put (cs := #[.slice Ao46 t181.length co46, .int .i64 t184, .int .i64 t185, .int .i64 t186, .bool t187, .int .i64 t188, .int .i64 0, .int .i64 0, .int .i64 0, .slice none 0 0]) ?_ 6 _ rfl; (with_reducible repeat (first | refine blk_drewN ?_ _ | refine blk_drew ?_ | refine blk_alloc ?_ _)); refine blk_put (cs := #[.slice Ao46 t181.length co46, .int .i64 t184, .int .i64 t185, .int .i64 t186, .bool t187, .int .i64 0, .int .i64 0, .int .i64 0, .int .i64 0, .slice none 0 0]) ?_ 5 _ rfl; (with_reducible repeat (first | refine blk_drewN ?_ _ | refine blk_drew ?_ | refine blk_alloc ?_ _)); refine blk_put (cs := #[.slice Ao46 t181.length co46, .int .i64 t184, .int .i64 t185, .int .i64 t186, .bool false, .int .i64 0, .int .i64 0, .int .i64 0, .int .i64 0, .slice none 0 0]) ?_ 4 _ rfl; (with_reducible repeat (first | refine blk_drewN ?_ _ | refine blk_drew ?_ | refine blk_alloc ?_ _)); refine blk_put (cs := #[.slice Ao46 t181.length co46, .int .i64 t184, .int .i64 t185, .int .i64 0, .bool false, .int .i64 0, .int .i64 0, .int .i64 0, .int .i64 0, .slice none 0 0]) ?_ 3 _ rfl; (with_reducible repeat (first | refine blk_drewN ?_ _ | refine blk_drew ?_ | refine blk_alloc ?_ _)); refine blk_put (cs := #[.slice Ao46 t181.length co46, .int .i64 t184, .int .i64 0, .int .i64 0, .bool false, .int .i64 0, .int .i64 0, .int .i64 0, .int .i64 0, .slice none 0 0]) ?_ 2 _ rfl; (with_reducible repeat (first | refine blk_drewN ?_ _ | refine blk_drew ?_ | refine blk_alloc ?_ _)); refine blk_put (cs := #[.slice Ao46 t181.length co46, .int .i64 0, .int .i64 0, .int .i64 0, .bool false, .int .i64 0, .int .i64 0, .int .i64 0, .int .i64 0, .slice none 0 0]) ?_ 1 _ rfl; (with_reducible repeat (first | refine blk_drewN ?_ _ | refine blk_drew ?_ | refine blk_alloc ?_ _)); refine blk_put (cs := #[.slice none 0 0, .int .i64 0, .int .i64 0, .int .i64 0, .bool false, .int .i64 0, .int .i64 0, .int .i64 0, .int .i64 0, .slice none 0 0]) ?_ 0 _ rfl; (with_reducible repeat (first | refine blk_drewN ?_ _ | refine blk_drew ?_ | refine blk_alloc ?_ _)); exact BK196.out) hb); have n9_ := Aside0.mk (below_step (by repeat (first | (with_reducible first | exact HB.out | apply below_alloc | apply pw_below_drewN | apply below_drew1 | refine below_set ?_ GE159.out | refine below_set ?_ GE175.out | refine below_set ?_ GE196.out) | exact HB.out)) hb); clear HO_160000; clear HO_160009; clear HO_176000; clear HO_176009; clear HO183; clear HO194; clear BK159; clear BK175; clear BK196; clear HB; have HO_160000 := n0_; have HO_160009 := n1_; have HO_176000 := n2_; have HO_176009 := n3_; have HO183 := n4_; have HO194 := n5_; have BK159 := n6_; have BK175 := n7_; have BK196 := n8_; have HB := n9_; clear n0_ n1_ n2_ n3_ n4_ n5_ n6_ n7_ n8_ n9_; (try clear hb); (try clear hb2); (try clear hk); (try clear hi)))
                go_meet
                case rel => exact ⟨_, (true), (by first | rfl | (simp; done) | (simp [*]; done)), H', ⟨by have := HJ4.out; first | omega | exact Nat.le_refl _⟩, ⟨by (with_reducible repeat (first | apply Kd.R_alloc | apply Kd.R_drewN | apply Kd.R_drew)); exact HO_160000.out⟩, ⟨by (with_reducible repeat (first | apply Kd.R_alloc | apply Kd.R_drewN | apply Kd.R_drew)); exact HO_160009.out⟩, ⟨by (with_reducible repeat (first | apply Kd.R_alloc | apply Kd.R_drewN | apply Kd.R_drew)); exact HO_176000.out⟩, ⟨by (with_reducible repeat (first | apply Kd.R_alloc | apply Kd.R_drewN | apply Kd.R_drew)); exact HO_176009.out⟩, ⟨by (with_reducible repeat (first | apply Kd.R_alloc | apply Kd.R_drewN | apply Kd.R_drew)); exact Kd.R_mono HO183.out (fun _ hk => ⟨hk.1.2, hk.2⟩)⟩, ⟨by (with_reducible repeat (first | apply Kd.R_alloc | apply Kd.R_drewN | apply Kd.R_drew)); exact Kd.R_mono HO194.out (fun _ hk => ⟨hk.1.2, hk.2⟩)⟩, ⟨by (with_reducible repeat (first | refine blk_drewN ?_ _ | refine blk_drew ?_ | refine blk_alloc ?_ _)); exact BK159.out⟩, ⟨by (with_reducible repeat (first | refine blk_drewN ?_ _ | refine blk_drew ?_ | refine blk_alloc ?_ _)); exact BK175.out⟩, ⟨by (with_reducible repeat (first | refine blk_drewN ?_ _ | refine blk_drew ?_ | refine blk_alloc ?_ _)); exact BK196.out⟩, ⟨by repeat (first | (with_reducible first | exact HB.out | apply below_alloc | apply pw_below_drewN | apply below_drew1 | refine below_set ?_ GE159.out | refine below_set ?_ GE175.out | refine below_set ?_ GE196.out) | exact HB.out)⟩⟩
            case rest =>
              clear HC38
              try clear c1
              try clear c2
              try clear p2
              try clear c3
              try clear c4
              try clear c5
              try clear c6
              try clear c10
              try clear c11
              try clear c12
              try clear c13
              try clear c14
              try clear c18
              try clear c19
              try clear c23
              try clear c27
              try clear c30
              try clear c30b0
              try clear c31
              try clear c36
              try clear c36b0
              try clear c36b1
              try clear c39
              try clear c47
              try clear c48
              try clear c52
              try clear c53
              try clear c54
              try clear c56
              try clear c59
              try clear c60
              try clear c62
              try clear hcz15_0
              try clear hcz15_1
              try clear hcz15_2
              try clear hcz15_3
              try clear hcz15_4
              try clear hcz15_5
              try clear hcz15_6
              try clear hcz15_7
              try clear hcz15_8
              try clear hcz15_9
              try clear hcz20_0
              try clear hcz20_1
              try clear hcz20_2
              try clear hcz20_3
              try clear hcz20_4
              try clear hcz20_5
              try clear hcz20_6
              try clear hcz20_7
              try clear hcz20_8
              try clear hcz20_9
              try clear hcz21_0
              try clear hcz21_1
              try clear hcz21_2
              try clear hcz21_3
              try clear hcz21_4
              try clear hcz21_5
              try clear hcz21_6
              try clear hcz21_7
              try clear hcz21_8
              try clear hcz21_9
              try clear hcz24_0
              try clear hcz24_1
              try clear hcz24_2
              try clear hcz24_3
              try clear hcz24_4
              try clear hcz24_5
              try clear hcz24_6
              try clear hcz24_7
              try clear hcz24_8
              try clear hcz24_9
              try clear hcz25_0
              try clear hcz25_1
              try clear hcz25_2
              try clear hcz25_3
              try clear hcz25_4
              try clear hcz25_5
              try clear hcz25_6
              try clear hcz25_7
              try clear hcz25_8
              try clear hcz25_9
              try clear hcz32_0
              try clear hcz32_1
              try clear hcz32_2
              try clear hcz32_3
              try clear hcz32_4
              try clear hcz32_5
              try clear hcz32_6
              try clear hcz32_7
              try clear hcz32_8
              try clear hcz32_9
              try clear hcz34_0
              try clear hcz34_1
              try clear hcz34_2
              try clear hcz34_3
              try clear hcz34_4
              try clear hcz34_5
              try clear hcz34_6
              try clear hcz34_7
              try clear hcz34_8
              try clear hcz34_9
              try clear hcz40_0
              try clear hcz40_1
              try clear hcz40_2
              try clear hcz40_3
              try clear hcz40_4
              try clear hcz40_5
              try clear hcz40_6
              try clear hcz40_7
              try clear hcz40_8
              try clear hcz40_9
              try clear hcz42_0
              try clear hcz42_1
              try clear hcz42_2
              try clear hcz42_3
              try clear hcz42_4
              try clear hcz42_5
              try clear hcz42_6
              try clear hcz42_7
              try clear hcz42_8
              try clear hcz42_9
              try clear hcz49_0
              try clear hcz49_1
              try clear hcz49_2
              try clear hcz49_3
              try clear hcz49_4
              try clear hcz49_5
              try clear hcz49_6
              try clear hcz49_7
              try clear hcz49_8
              try clear hcz49_9
              try clear hcz55_0
              try clear hcz55_1
              try clear hcz55_2
              try clear hcz55_3
              try clear hcz55_4
              try clear hcz55_5
              try clear hcz55_6
              try clear hcz55_7
              try clear hcz55_8
              try clear hcz55_9
              try clear hcz57_0
              try clear hcz57_1
              try clear hcz57_2
              try clear hcz57_3
              try clear hcz57_4
              try clear hcz57_5
              try clear hcz57_6
              try clear hcz57_7
              try clear hcz57_8
              try clear hcz57_9
              try clear hcz61_0
              try clear hcz61_1
              try clear hcz61_2
              try clear hcz61_3
              try clear hcz61_4
              try clear hcz61_5
              try clear hcz61_6
              try clear hcz61_7
              try clear hcz61_8
              try clear hcz61_9
              try clear hcz63_0
              try clear hcz63_1
              try clear hcz63_2
              try clear hcz63_3
              try clear hcz63_4
              try clear hcz63_5
              try clear hcz63_6
              try clear hcz63_7
              try clear hcz63_8
              try clear hcz63_9
              try clear hcz9_0
              try clear hcz9_1
              try clear hcz9_2
              try clear hcz9_3
              try clear hcz9_4
              try clear hcz9_5
              try clear hcz9_6
              try clear hcz9_7
              try clear hcz9_8
              try clear hcz9_9
              try clear hfz15_0
              try clear hfz15_1
              try clear hfz15_2
              try clear hfz15_3
              try clear hfz15_4
              try clear hfz15_5
              try clear hfz15_6
              try clear hfz15_7
              try clear hfz15_8
              try clear hfz15_9
              try clear hfz20_0
              try clear hfz20_1
              try clear hfz20_2
              try clear hfz20_3
              try clear hfz20_4
              try clear hfz20_5
              try clear hfz20_6
              try clear hfz20_7
              try clear hfz20_8
              try clear hfz20_9
              try clear hfz21_0
              try clear hfz21_1
              try clear hfz21_2
              try clear hfz21_3
              try clear hfz21_4
              try clear hfz21_5
              try clear hfz21_6
              try clear hfz21_7
              try clear hfz21_8
              try clear hfz21_9
              try clear hfz24_0
              try clear hfz24_1
              try clear hfz24_2
              try clear hfz24_3
              try clear hfz24_4
              try clear hfz24_5
              try clear hfz24_6
              try clear hfz24_7
              try clear hfz24_8
              try clear hfz24_9
              try clear hfz25_0
              try clear hfz25_1
              try clear hfz25_2
              try clear hfz25_3
              try clear hfz25_4
              try clear hfz25_5
              try clear hfz25_6
              try clear hfz25_7
              try clear hfz25_8
              try clear hfz25_9
              try clear hfz32_0
              try clear hfz32_1
              try clear hfz32_2
              try clear hfz32_3
              try clear hfz32_4
              try clear hfz32_5
              try clear hfz32_6
              try clear hfz32_7
              try clear hfz32_8
              try clear hfz32_9
              try clear hfz34_0
              try clear hfz34_1
              try clear hfz34_2
              try clear hfz34_3
              try clear hfz34_4
              try clear hfz34_5
              try clear hfz34_6
              try clear hfz34_7
              try clear hfz34_8
              try clear hfz34_9
              try clear hfz40_0
              try clear hfz40_1
              try clear hfz40_2
              try clear hfz40_3
              try clear hfz40_4
              try clear hfz40_5
              try clear hfz40_6
              try clear hfz40_7
              try clear hfz40_8
              try clear hfz40_9
              try clear hfz42_0
              try clear hfz42_1
              try clear hfz42_2
              try clear hfz42_3
              try clear hfz42_4
              try clear hfz42_5
              try clear hfz42_6
              try clear hfz42_7
              try clear hfz42_8
              try clear hfz42_9
              try clear hfz49_0
              try clear hfz49_1
              try clear hfz49_2
              try clear hfz49_3
              try clear hfz49_4
              try clear hfz49_5
              try clear hfz49_6
              try clear hfz49_7
              try clear hfz49_8
              try clear hfz49_9
              try clear hfz55_0
              try clear hfz55_1
              try clear hfz55_2
              try clear hfz55_3
              try clear hfz55_4
              try clear hfz55_5
              try clear hfz55_6
              try clear hfz55_7
              try clear hfz55_8
              try clear hfz55_9
              try clear hfz57_0
              try clear hfz57_1
              try clear hfz57_2
              try clear hfz57_3
              try clear hfz57_4
              try clear hfz57_5
              try clear hfz57_6
              try clear hfz57_7
              try clear hfz57_8
              try clear hfz57_9
              try clear hfz61_0
              try clear hfz61_1
              try clear hfz61_2
              try clear hfz61_3
              try clear hfz61_4
              try clear hfz61_5
              try clear hfz61_6
              try clear hfz61_7
              try clear hfz61_8
              try clear hfz61_9
              try clear hfz63_0
              try clear hfz63_1
              try clear hfz63_2
              try clear hfz63_3
              try clear hfz63_4
              try clear hfz63_5
              try clear hfz63_6
              try clear hfz63_7
              try clear hfz63_8
              try clear hfz63_9
              try clear hfz9_0
              try clear hfz9_1
              try clear hfz9_2
              try clear hfz9_3
              try clear hfz9_4
              try clear hfz9_5
              try clear hfz9_6
              try clear hfz9_7
              try clear hfz9_8
              try clear hfz9_9
              try clear p2
              obtain ⟨kq, x59_37, rfl, HA, HJ37, HO_160000, HO_160009, HO_176000, HO_176009, HO_197000, HO_197009, BK159, BK175, BK196, HB⟩ := hcut
              have hl176000_37 := (Kd.R_reads' HO_176000.out).1
              rw [hl176000_37] at HO_176000
              (try simp only [hl176000_37])
              (try simp only [hl176000_37] at BK159)
              (try simp only [hl176000_37] at BK175)
              (try simp only [hl176000_37] at BK196)
              (try simp only [hl176000_37] at HO_160000)
              (try simp only [hl176000_37] at HO_160009)
              (try simp only [hl176000_37] at HO_176009)
              (try simp only [hl176000_37] at HO_197000)
              (try simp only [hl176000_37] at HO_197009)
              have hl176009_37 := (Kd.R_reads' HO_176009.out).1
              rw [hl176009_37] at HO_176009
              (try simp only [hl176009_37])
              (try simp only [hl176009_37] at BK159)
              (try simp only [hl176009_37] at BK175)
              (try simp only [hl176009_37] at BK196)
              (try simp only [hl176009_37] at HO_160000)
              (try simp only [hl176009_37] at HO_160009)
              (try simp only [hl176009_37] at HO_176000)
              (try simp only [hl176009_37] at HO_197000)
              (try simp only [hl176009_37] at HO_197009)
              cases kq with
              | zero => exact absurd HA.out (by simp [laws_FnExactNewArena.j1])
              | succ kj37 =>
                have H := HA.out
                clear HA
                simp only [laws_FnExactNewArena.j1] at H
                by_cases c65 : x59_37 = true
                · subst c65
                  have H1 : (some false) = some r := by rw [if_pos rfl] at H; exact H
                  clear H
                  have H := H1
                  clear H1
                  obtain rfl := Option.some.inj H
                  go_wp2
                  go_ret
                  exact ⟨by first | rfl | (simp [errW_none, errW_some] <;> rfl) | (simp [*, errW_none, errW_some] <;> rfl), by repeat (first | (with_reducible first | exact HB.out | apply below_alloc | apply pw_below_drewN | apply below_drew1 | refine below_set ?_ GE159.out | refine below_set ?_ GE175.out | refine below_set ?_ GE196.out) | exact HB.out)⟩
                · replace c65 := Bool.eq_false_iff.mpr c65
                  subst c65
                  have H1 : ((laws_heldArena.f kj37 t178 t163 t164 t165 t166 t167 t168 t169 t170 t179 1).bind fun t198 => (if t198 < 0 then (some false) else (if t198 = t177 then (some true) else (some false)))) = some r := by rw [if_neg (show ¬ (false = true) by decide)] at H; exact H
                  clear H
                  have H := H1
                  clear H1
                  replace H := Option.bind_eq_some_iff.mp H
                  obtain ⟨t198, A660, H⟩ := H
                  replace H : (if t198 < 0 then (some false) else (if t198 = t177 then (some true) else (some false))) = some r := H
                  have A66 := Aside0.mk A660
                  clear A660
                  by_cases c67 : t198 < 0
                  · rw [if_pos c67] at H
                    have c67b0 : decide (t198 < 0) = true := decide_eq_true c67
                    clear c67
                    obtain rfl := Option.some.inj H
                    have hnb68 := NB175_159.out
                    have hnc68 := NB159_175.out
                    have hnb69 := NB175_196.out
                    have hnc69 := NB196_175.out
                    have hcz70_0 : wc.cell? ⟨gb175, 0, none⟩ = some (.slice Ao13 t178.length co13) := (blk_cell BK175.out 0).trans rfl
                    have hcz70_1 : wc.cell? ⟨gb175, 1, none⟩ = some (.int .i64 t163) := (blk_cell BK175.out 1).trans rfl
                    have hcz70_2 : wc.cell? ⟨gb175, 2, none⟩ = some (.int .i64 t164) := (blk_cell BK175.out 2).trans rfl
                    have hcz70_3 : wc.cell? ⟨gb175, 3, none⟩ = some (.int .i64 t165) := (blk_cell BK175.out 3).trans rfl
                    have hcz70_4 : wc.cell? ⟨gb175, 4, none⟩ = some (.bool t166) := (blk_cell BK175.out 4).trans rfl
                    have hcz70_5 : wc.cell? ⟨gb175, 5, none⟩ = some (.int .i64 t167) := (blk_cell BK175.out 5).trans rfl
                    have hcz70_6 : wc.cell? ⟨gb175, 6, none⟩ = some (.int .i64 t168) := (blk_cell BK175.out 6).trans rfl
                    have hcz70_7 : wc.cell? ⟨gb175, 7, none⟩ = some (.int .i64 t169) := (blk_cell BK175.out 7).trans rfl
                    have hcz70_8 : wc.cell? ⟨gb175, 8, none⟩ = some (.int .i64 t170) := (blk_cell BK175.out 8).trans rfl
                    have hcz70_9 : wc.cell? ⟨gb175, 9, none⟩ = some (.slice Ao16 t179.length co16) := (blk_cell BK175.out 9).trans rfl
                    have hfz70_0 := blk_frozen BK175.out 0
                    have hfz70_1 := blk_frozen BK175.out 1
                    have hfz70_2 := blk_frozen BK175.out 2
                    have hfz70_3 := blk_frozen BK175.out 3
                    have hfz70_4 := blk_frozen BK175.out 4
                    have hfz70_5 := blk_frozen BK175.out 5
                    have hfz70_6 := blk_frozen BK175.out 6
                    have hfz70_7 := blk_frozen BK175.out 7
                    have hfz70_8 := blk_frozen BK175.out 8
                    have hfz70_9 := blk_frozen BK175.out 9
                    go_wp2_with (first | ((with_reducible refine gate_callee (f := 14) rfl ?_); refine goesL_ (some 62) rfl rfl Try.func14 (by kernel_rfl) rfl #[.agg #[.slice Ao13 t178.length co13, .int .i64 t163, .int .i64 t164, .int .i64 t165, .bool t166, .int .i64 t167, .int .i64 t168, .int .i64 t169, .int .i64 t170, .slice Ao16 t179.length co16], .int .i64 1] rfl (by (try simp only [List.map_toArray, List.map_cons, List.map_nil]); first | done | rfl | (simp only [List.length_drop, List.length_take]; rfl)) ?_; (with_reducible refine (laws_heldArena.calls kj37 _ _ t178 t163 t164 t165 t166 t167 t168 t169 t170 _ _ t179 1 t198 _ ?side1 ?side2 ?side3 ?side4 A66.out).mono ?_); (case side1 => repeat (first | exact (Kd.R_reads' HO_176000.out).2.2 | (with_reducible refine Kd.C_alloc ?_ _) | (with_reducible refine Kd.C_drewN ?_ _) | (with_reducible refine Kd.C_drew ?_))); (case side2 => exact (Kd.R_reads' HO_176000.out).2.1); (case side3 => repeat (first | exact (Kd.R_reads' HO_176009.out).2.2 | (with_reducible refine Kd.C_alloc ?_ _) | (with_reducible refine Kd.C_drewN ?_ _) | (with_reducible refine Kd.C_drew ?_))); (case side4 => exact (Kd.R_reads' HO_176009.out).2.1); rintro e w71 ⟨rfl, hb⟩; refine ⟨_, rfl, ?_⟩; have n0_ := Aside0.mk (Kd.R_below (by (with_reducible repeat (first | apply Kd.R_alloc | apply Kd.R_drewN | apply Kd.R_drew)); exact HO_160000.out) hb); have n1_ := Aside0.mk (Kd.R_below (by (with_reducible repeat (first | apply Kd.R_alloc | apply Kd.R_drewN | apply Kd.R_drew)); exact HO_160009.out) hb); have n2_ := Aside0.mk (Kd.R_below (by (with_reducible repeat (first | apply Kd.R_alloc | apply Kd.R_drewN | apply Kd.R_drew)); exact HO_176000.out) hb); have n3_ := Aside0.mk (Kd.R_below (by (with_reducible repeat (first | apply Kd.R_alloc | apply Kd.R_drewN | apply Kd.R_drew)); exact HO_176009.out) hb); have n4_ := Aside0.mk (Kd.R_below (by (with_reducible repeat (first | apply Kd.R_alloc | apply Kd.R_drewN | apply Kd.R_drew)); exact HO_197000.out) hb); have n5_ := Aside0.mk (Kd.R_below (by (with_reducible repeat (first | apply Kd.R_alloc | apply Kd.R_drewN | apply Kd.R_drew)); exact HO_197009.out) hb); have n6_ := Aside0.mk (blk_below (g := gb159) (o := .cells #[.slice Ao8 t144.length co8, .int .i64 t147, .int .i64 t148, .int .i64 t149, .bool t150, .int .i64 t151, .int .i64 t152, .int .i64 t153, .int .i64 t154, .slice Ao10 t155.length co10] 25 (0, 0)) (by (with_reducible repeat (first | refine blk_drewN ?_ _ | refine blk_drew ?_ | refine blk_alloc ?_ _)); exact BK159.out) hb); have n7_ := Aside0.mk (blk_below (g := gb175) (o := .cells #[.slice Ao13 t178.length co13, .int .i64 t163, .int .i64 t164, .int .i64 t165, .bool t166, .int .i64 t167, .int .i64 t168, .int .i64 t169, .int .i64 t170, .slice Ao16 t179.length co16] 25 (0, 0)) (by (with_reducible repeat (first | refine blk_drewN ?_ _ | refine blk_drew ?_ | refine blk_alloc ?_ _)); exact BK175.out) hb); have n8_ := Aside0.mk (blk_below (g := gb196) (o := .cells #[.slice Ao46 t181.length co46, .int .i64 t184, .int .i64 t185, .int .i64 t186, .bool t187, .int .i64 t188, .int .i64 t189, .int .i64 t190, .int .i64 t191, .slice Ao50 t192.length co50] 25 (0, 0)) (by (with_reducible repeat (first | refine blk_drewN ?_ _ | refine blk_drew ?_ | refine blk_alloc ?_ _)); exact BK196.out) hb); have n9_ := Aside0.mk (below_step (by repeat (first | (with_reducible first | exact HB.out | apply below_alloc | apply pw_below_drewN | apply below_drew1 | refine below_set ?_ GE159.out | refine below_set ?_ GE175.out | refine below_set ?_ GE196.out) | exact HB.out)) hb); clear HO_160000; clear HO_160009; clear HO_176000; clear HO_176009; clear HO_197000; clear HO_197009; clear BK159; clear BK175; clear BK196; clear HB; have HO_160000 := n0_; have HO_160009 := n1_; have HO_176000 := n2_; have HO_176009 := n3_; have HO_197000 := n4_; have HO_197009 := n5_; have BK159 := n6_; have BK175 := n7_; have BK196 := n8_; have HB := n9_; clear n0_ n1_ n2_ n3_ n4_ n5_ n6_ n7_ n8_ n9_; (try clear hb); (try clear hb2); (try clear hk); (try clear hi)))
                    go_ret
                    exact ⟨by first | rfl | (simp [errW_none, errW_some] <;> rfl) | (simp [*, errW_none, errW_some] <;> rfl), by repeat (first | (with_reducible first | exact HB.out | apply below_alloc | apply pw_below_drewN | apply below_drew1 | refine below_set ?_ GE159.out | refine below_set ?_ GE175.out | refine below_set ?_ GE196.out) | exact HB.out)⟩
                  · rw [if_neg c67] at H
                    have c67b0 : decide (t198 < 0) = false := decide_eq_false c67
                    clear c67
                    by_cases c72 : t198 = t177
                    · rw [if_pos c72] at H
                      have c72b0 : (t198 == t177) = true := beq_iff_eq.mpr c72
                      have c72b1 : (t198 != t177) = false := bne_eq_false_iff_eq.mpr c72
                      clear c72
                      obtain rfl := Option.some.inj H
                      have hnb73 := NB175_159.out
                      have hnc73 := NB159_175.out
                      have hnb74 := NB175_196.out
                      have hnc74 := NB196_175.out
                      have hcz75_0 : wc.cell? ⟨gb175, 0, none⟩ = some (.slice Ao13 t178.length co13) := (blk_cell BK175.out 0).trans rfl
                      have hcz75_1 : wc.cell? ⟨gb175, 1, none⟩ = some (.int .i64 t163) := (blk_cell BK175.out 1).trans rfl
                      have hcz75_2 : wc.cell? ⟨gb175, 2, none⟩ = some (.int .i64 t164) := (blk_cell BK175.out 2).trans rfl
                      have hcz75_3 : wc.cell? ⟨gb175, 3, none⟩ = some (.int .i64 t165) := (blk_cell BK175.out 3).trans rfl
                      have hcz75_4 : wc.cell? ⟨gb175, 4, none⟩ = some (.bool t166) := (blk_cell BK175.out 4).trans rfl
                      have hcz75_5 : wc.cell? ⟨gb175, 5, none⟩ = some (.int .i64 t167) := (blk_cell BK175.out 5).trans rfl
                      have hcz75_6 : wc.cell? ⟨gb175, 6, none⟩ = some (.int .i64 t168) := (blk_cell BK175.out 6).trans rfl
                      have hcz75_7 : wc.cell? ⟨gb175, 7, none⟩ = some (.int .i64 t169) := (blk_cell BK175.out 7).trans rfl
                      have hcz75_8 : wc.cell? ⟨gb175, 8, none⟩ = some (.int .i64 t170) := (blk_cell BK175.out 8).trans rfl
                      have hcz75_9 : wc.cell? ⟨gb175, 9, none⟩ = some (.slice Ao16 t179.length co16) := (blk_cell BK175.out 9).trans rfl
                      have hfz75_0 := blk_frozen BK175.out 0
                      have hfz75_1 := blk_frozen BK175.out 1
                      have hfz75_2 := blk_frozen BK175.out 2
                      have hfz75_3 := blk_frozen BK175.out 3
                      have hfz75_4 := blk_frozen BK175.out 4
                      have hfz75_5 := blk_frozen BK175.out 5
                      have hfz75_6 := blk_frozen BK175.out 6
                      have hfz75_7 := blk_frozen BK175.out 7
                      have hfz75_8 := blk_frozen BK175.out 8
                      have hfz75_9 := blk_frozen BK175.out 9
                      go_wp2_with (first | ((with_reducible refine gate_callee (f := 14) rfl ?_); refine goesL_ (some 62) rfl rfl Try.func14 (by kernel_rfl) rfl #[.agg #[.slice Ao13 t178.length co13, .int .i64 t163, .int .i64 t164, .int .i64 t165, .bool t166, .int .i64 t167, .int .i64 t168, .int .i64 t169, .int .i64 t170, .slice Ao16 t179.length co16], .int .i64 1] rfl (by (try simp only [List.map_toArray, List.map_cons, List.map_nil]); first | done | rfl | (simp only [List.length_drop, List.length_take]; rfl)) ?_; (with_reducible refine (laws_heldArena.calls kj37 _ _ t178 t163 t164 t165 t166 t167 t168 t169 t170 _ _ t179 1 t198 _ ?side1 ?side2 ?side3 ?side4 A66.out).mono ?_); (case side1 => repeat (first | exact (Kd.R_reads' HO_176000.out).2.2 | (with_reducible refine Kd.C_alloc ?_ _) | (with_reducible refine Kd.C_drewN ?_ _) | (with_reducible refine Kd.C_drew ?_))); (case side2 => exact (Kd.R_reads' HO_176000.out).2.1); (case side3 => repeat (first | exact (Kd.R_reads' HO_176009.out).2.2 | (with_reducible refine Kd.C_alloc ?_ _) | (with_reducible refine Kd.C_drewN ?_ _) | (with_reducible refine Kd.C_drew ?_))); (case side4 => exact (Kd.R_reads' HO_176009.out).2.1); rintro e w76 ⟨rfl, hb⟩; refine ⟨_, rfl, ?_⟩; have n0_ := Aside0.mk (Kd.R_below (by (with_reducible repeat (first | apply Kd.R_alloc | apply Kd.R_drewN | apply Kd.R_drew)); exact HO_160000.out) hb); have n1_ := Aside0.mk (Kd.R_below (by (with_reducible repeat (first | apply Kd.R_alloc | apply Kd.R_drewN | apply Kd.R_drew)); exact HO_160009.out) hb); have n2_ := Aside0.mk (Kd.R_below (by (with_reducible repeat (first | apply Kd.R_alloc | apply Kd.R_drewN | apply Kd.R_drew)); exact HO_176000.out) hb); have n3_ := Aside0.mk (Kd.R_below (by (with_reducible repeat (first | apply Kd.R_alloc | apply Kd.R_drewN | apply Kd.R_drew)); exact HO_176009.out) hb); have n4_ := Aside0.mk (Kd.R_below (by (with_reducible repeat (first | apply Kd.R_alloc | apply Kd.R_drewN | apply Kd.R_drew)); exact HO_197000.out) hb); have n5_ := Aside0.mk (Kd.R_below (by (with_reducible repeat (first | apply Kd.R_alloc | apply Kd.R_drewN | apply Kd.R_drew)); exact HO_197009.out) hb); have n6_ := Aside0.mk (blk_below (g := gb159) (o := .cells #[.slice Ao8 t144.length co8, .int .i64 t147, .int .i64 t148, .int .i64 t149, .bool t150, .int .i64 t151, .int .i64 t152, .int .i64 t153, .int .i64 t154, .slice Ao10 t155.length co10] 25 (0, 0)) (by (with_reducible repeat (first | refine blk_drewN ?_ _ | refine blk_drew ?_ | refine blk_alloc ?_ _)); exact BK159.out) hb); have n7_ := Aside0.mk (blk_below (g := gb175) (o := .cells #[.slice Ao13 t178.length co13, .int .i64 t163, .int .i64 t164, .int .i64 t165, .bool t166, .int .i64 t167, .int .i64 t168, .int .i64 t169, .int .i64 t170, .slice Ao16 t179.length co16] 25 (0, 0)) (by (with_reducible repeat (first | refine blk_drewN ?_ _ | refine blk_drew ?_ | refine blk_alloc ?_ _)); exact BK175.out) hb); have n8_ := Aside0.mk (blk_below (g := gb196) (o := .cells #[.slice Ao46 t181.length co46, .int .i64 t184, .int .i64 t185, .int .i64 t186, .bool t187, .int .i64 t188, .int .i64 t189, .int .i64 t190, .int .i64 t191, .slice Ao50 t192.length co50] 25 (0, 0)) (by (with_reducible repeat (first | refine blk_drewN ?_ _ | refine blk_drew ?_ | refine blk_alloc ?_ _)); exact BK196.out) hb); have n9_ := Aside0.mk (below_step (by repeat (first | (with_reducible first | exact HB.out | apply below_alloc | apply pw_below_drewN | apply below_drew1 | refine below_set ?_ GE159.out | refine below_set ?_ GE175.out | refine below_set ?_ GE196.out) | exact HB.out)) hb); clear HO_160000; clear HO_160009; clear HO_176000; clear HO_176009; clear HO_197000; clear HO_197009; clear BK159; clear BK175; clear BK196; clear HB; have HO_160000 := n0_; have HO_160009 := n1_; have HO_176000 := n2_; have HO_176009 := n3_; have HO_197000 := n4_; have HO_197009 := n5_; have BK159 := n6_; have BK175 := n7_; have BK196 := n8_; have HB := n9_; clear n0_ n1_ n2_ n3_ n4_ n5_ n6_ n7_ n8_ n9_; (try clear hb); (try clear hb2); (try clear hk); (try clear hi)))
                      go_ret
                      exact ⟨by first | rfl | (simp [errW_none, errW_some] <;> rfl) | (simp [*, errW_none, errW_some] <;> rfl), by repeat (first | (with_reducible first | exact HB.out | apply below_alloc | apply pw_below_drewN | apply below_drew1 | refine below_set ?_ GE159.out | refine below_set ?_ GE175.out | refine below_set ?_ GE196.out) | exact HB.out)⟩
                    · rw [if_neg c72] at H
                      have c72b0 : (t198 == t177) = false := beq_eq_false_iff_ne.mpr c72
                      have c72b1 : (t198 != t177) = true := bne_iff_ne.mpr c72
                      obtain rfl := Option.some.inj H
                      have hnb77 := NB175_159.out
                      have hnc77 := NB159_175.out
                      have hnb78 := NB175_196.out
                      have hnc78 := NB196_175.out
                      have hcz79_0 : wc.cell? ⟨gb175, 0, none⟩ = some (.slice Ao13 t178.length co13) := (blk_cell BK175.out 0).trans rfl
                      have hcz79_1 : wc.cell? ⟨gb175, 1, none⟩ = some (.int .i64 t163) := (blk_cell BK175.out 1).trans rfl
                      have hcz79_2 : wc.cell? ⟨gb175, 2, none⟩ = some (.int .i64 t164) := (blk_cell BK175.out 2).trans rfl
                      have hcz79_3 : wc.cell? ⟨gb175, 3, none⟩ = some (.int .i64 t165) := (blk_cell BK175.out 3).trans rfl
                      have hcz79_4 : wc.cell? ⟨gb175, 4, none⟩ = some (.bool t166) := (blk_cell BK175.out 4).trans rfl
                      have hcz79_5 : wc.cell? ⟨gb175, 5, none⟩ = some (.int .i64 t167) := (blk_cell BK175.out 5).trans rfl
                      have hcz79_6 : wc.cell? ⟨gb175, 6, none⟩ = some (.int .i64 t168) := (blk_cell BK175.out 6).trans rfl
                      have hcz79_7 : wc.cell? ⟨gb175, 7, none⟩ = some (.int .i64 t169) := (blk_cell BK175.out 7).trans rfl
                      have hcz79_8 : wc.cell? ⟨gb175, 8, none⟩ = some (.int .i64 t170) := (blk_cell BK175.out 8).trans rfl
                      have hcz79_9 : wc.cell? ⟨gb175, 9, none⟩ = some (.slice Ao16 t179.length co16) := (blk_cell BK175.out 9).trans rfl
                      have hfz79_0 := blk_frozen BK175.out 0
                      have hfz79_1 := blk_frozen BK175.out 1
                      have hfz79_2 := blk_frozen BK175.out 2
                      have hfz79_3 := blk_frozen BK175.out 3
                      have hfz79_4 := blk_frozen BK175.out 4
                      have hfz79_5 := blk_frozen BK175.out 5
                      have hfz79_6 := blk_frozen BK175.out 6
                      have hfz79_7 := blk_frozen BK175.out 7
                      have hfz79_8 := blk_frozen BK175.out 8
                      have hfz79_9 := blk_frozen BK175.out 9
                      go_wp2_with (first | ((with_reducible refine gate_callee (f := 14) rfl ?_); refine goesL_ (some 62) rfl rfl Try.func14 (by kernel_rfl) rfl #[.agg #[.slice Ao13 t178.length co13, .int .i64 t163, .int .i64 t164, .int .i64 t165, .bool t166, .int .i64 t167, .int .i64 t168, .int .i64 t169, .int .i64 t170, .slice Ao16 t179.length co16], .int .i64 1] rfl (by (try simp only [List.map_toArray, List.map_cons, List.map_nil]); first | done | rfl | (simp only [List.length_drop, List.length_take]; rfl)) ?_; (with_reducible refine (laws_heldArena.calls kj37 _ _ t178 t163 t164 t165 t166 t167 t168 t169 t170 _ _ t179 1 t198 _ ?side1 ?side2 ?side3 ?side4 A66.out).mono ?_); (case side1 => repeat (first | exact (Kd.R_reads' HO_176000.out).2.2 | (with_reducible refine Kd.C_alloc ?_ _) | (with_reducible refine Kd.C_drewN ?_ _) | (with_reducible refine Kd.C_drew ?_))); (case side2 => exact (Kd.R_reads' HO_176000.out).2.1); (case side3 => repeat (first | exact (Kd.R_reads' HO_176009.out).2.2 | (with_reducible refine Kd.C_alloc ?_ _) | (with_reducible refine Kd.C_drewN ?_ _) | (with_reducible refine Kd.C_drew ?_))); (case side4 => exact (Kd.R_reads' HO_176009.out).2.1); rintro e w80 ⟨rfl, hb⟩; refine ⟨_, rfl, ?_⟩; have n0_ := Aside0.mk (Kd.R_below (by (with_reducible repeat (first | apply Kd.R_alloc | apply Kd.R_drewN | apply Kd.R_drew)); exact HO_160000.out) hb); have n1_ := Aside0.mk (Kd.R_below (by (with_reducible repeat (first | apply Kd.R_alloc | apply Kd.R_drewN | apply Kd.R_drew)); exact HO_160009.out) hb); have n2_ := Aside0.mk (Kd.R_below (by (with_reducible repeat (first | apply Kd.R_alloc | apply Kd.R_drewN | apply Kd.R_drew)); exact HO_176000.out) hb); have n3_ := Aside0.mk (Kd.R_below (by (with_reducible repeat (first | apply Kd.R_alloc | apply Kd.R_drewN | apply Kd.R_drew)); exact HO_176009.out) hb); have n4_ := Aside0.mk (Kd.R_below (by (with_reducible repeat (first | apply Kd.R_alloc | apply Kd.R_drewN | apply Kd.R_drew)); exact HO_197000.out) hb); have n5_ := Aside0.mk (Kd.R_below (by (with_reducible repeat (first | apply Kd.R_alloc | apply Kd.R_drewN | apply Kd.R_drew)); exact HO_197009.out) hb); have n6_ := Aside0.mk (blk_below (g := gb159) (o := .cells #[.slice Ao8 t144.length co8, .int .i64 t147, .int .i64 t148, .int .i64 t149, .bool t150, .int .i64 t151, .int .i64 t152, .int .i64 t153, .int .i64 t154, .slice Ao10 t155.length co10] 25 (0, 0)) (by (with_reducible repeat (first | refine blk_drewN ?_ _ | refine blk_drew ?_ | refine blk_alloc ?_ _)); exact BK159.out) hb); have n7_ := Aside0.mk (blk_below (g := gb175) (o := .cells #[.slice Ao13 t178.length co13, .int .i64 t163, .int .i64 t164, .int .i64 t165, .bool t166, .int .i64 t167, .int .i64 t168, .int .i64 t169, .int .i64 t170, .slice Ao16 t179.length co16] 25 (0, 0)) (by (with_reducible repeat (first | refine blk_drewN ?_ _ | refine blk_drew ?_ | refine blk_alloc ?_ _)); exact BK175.out) hb); have n8_ := Aside0.mk (blk_below (g := gb196) (o := .cells #[.slice Ao46 t181.length co46, .int .i64 t184, .int .i64 t185, .int .i64 t186, .bool t187, .int .i64 t188, .int .i64 t189, .int .i64 t190, .int .i64 t191, .slice Ao50 t192.length co50] 25 (0, 0)) (by (with_reducible repeat (first | refine blk_drewN ?_ _ | refine blk_drew ?_ | refine blk_alloc ?_ _)); exact BK196.out) hb); have n9_ := Aside0.mk (below_step (by repeat (first | (with_reducible first | exact HB.out | apply below_alloc | apply pw_below_drewN | apply below_drew1 | refine below_set ?_ GE159.out | refine below_set ?_ GE175.out | refine below_set ?_ GE196.out) | exact HB.out)) hb); clear HO_160000; clear HO_160009; clear HO_176000; clear HO_176009; clear HO_197000; clear HO_197009; clear BK159; clear BK175; clear BK196; clear HB; have HO_160000 := n0_; have HO_160009 := n1_; have HO_176000 := n2_; have HO_176009 := n3_; have HO_197000 := n4_; have HO_197009 := n5_; have BK159 := n6_; have BK175 := n7_; have BK196 := n8_; have HB := n9_; clear n0_ n1_ n2_ n3_ n4_ n5_ n6_ n7_ n8_ n9_; (try clear hb); (try clear hb2); (try clear hk); (try clear hi)))
                      go_ret
                      exact ⟨by first | rfl | (simp [errW_none, errW_some] <;> rfl) | (simp [*, errW_none, errW_some] <;> rfl), by repeat (first | (with_reducible first | exact HB.out | apply below_alloc | apply pw_below_drewN | apply below_drew1 | refine below_set ?_ GE159.out | refine below_set ?_ GE175.out | refine below_set ?_ GE196.out) | exact HB.out)⟩
          · rw [if_neg c36] at H
            have c36b0 : (t180 == t177) = false := beq_eq_false_iff_ne.mpr c36
            have c36b1 : (t180 != t177) = true := bne_iff_ne.mpr c36
            obtain rfl := Option.some.inj H
            have hnb81 := NB175_159.out
            have hnc81 := NB159_175.out
            have hcz82_0 : wc.cell? ⟨gb175, 0, none⟩ = some (.slice Ao13 t160.length co13) := (blk_cell BK175.out 0).trans rfl
            have hcz82_1 : wc.cell? ⟨gb175, 1, none⟩ = some (.int .i64 t163) := (blk_cell BK175.out 1).trans rfl
            have hcz82_2 : wc.cell? ⟨gb175, 2, none⟩ = some (.int .i64 t164) := (blk_cell BK175.out 2).trans rfl
            have hcz82_3 : wc.cell? ⟨gb175, 3, none⟩ = some (.int .i64 t165) := (blk_cell BK175.out 3).trans rfl
            have hcz82_4 : wc.cell? ⟨gb175, 4, none⟩ = some (.bool t166) := (blk_cell BK175.out 4).trans rfl
            have hcz82_5 : wc.cell? ⟨gb175, 5, none⟩ = some (.int .i64 t167) := (blk_cell BK175.out 5).trans rfl
            have hcz82_6 : wc.cell? ⟨gb175, 6, none⟩ = some (.int .i64 t168) := (blk_cell BK175.out 6).trans rfl
            have hcz82_7 : wc.cell? ⟨gb175, 7, none⟩ = some (.int .i64 t169) := (blk_cell BK175.out 7).trans rfl
            have hcz82_8 : wc.cell? ⟨gb175, 8, none⟩ = some (.int .i64 t170) := (blk_cell BK175.out 8).trans rfl
            have hcz82_9 : wc.cell? ⟨gb175, 9, none⟩ = some (.slice Ao16 t171.length co16) := (blk_cell BK175.out 9).trans rfl
            have hfz82_0 := blk_frozen BK175.out 0
            have hfz82_1 := blk_frozen BK175.out 1
            have hfz82_2 := blk_frozen BK175.out 2
            have hfz82_3 := blk_frozen BK175.out 3
            have hfz82_4 := blk_frozen BK175.out 4
            have hfz82_5 := blk_frozen BK175.out 5
            have hfz82_6 := blk_frozen BK175.out 6
            have hfz82_7 := blk_frozen BK175.out 7
            have hfz82_8 := blk_frozen BK175.out 8
            have hfz82_9 := blk_frozen BK175.out 9
            go_wp2_with (first | ((with_reducible refine gate_callee (f := 13) rfl ?_); refine goesL_ (some 36) rfl rfl Try.func13 (by kernel_rfl) rfl #[.agg #[.slice Ao13 t160.length co13, .int .i64 t163, .int .i64 t164, .int .i64 t165, .bool t166, .int .i64 t167, .int .i64 t168, .int .i64 t169, .int .i64 t170, .slice Ao16 t171.length co16], .int .i64 1] rfl (by (try simp only [List.map_toArray, List.map_cons, List.map_nil]); first | done | rfl | (simp only [List.length_drop, List.length_take]; rfl)) ?_; (with_reducible refine (laws_markArena.calls kj4 (fun k_ => some k_ = (.slice Ao13 t160.length co13 : Value).ownBlock) (.slice Ao13 t160.length co13) t160 t163 t164 t165 t166 t167 t168 t169 t170 (fun k_ => some k_ = (.slice Ao16 t171.length co16 : Value).ownBlock) (.slice Ao16 t171.length co16) t171 1 t177 t178 t179 w _ ?side1 ?side2 ?side3 A28.out).mono ?_); (case side1 => repeat (first | (with_reducible first | exact HB.out | apply below_alloc | apply pw_below_drewN | apply below_drew1 | refine below_set ?_ GE159.out | refine below_set ?_ GE175.out) | exact HB.out)); (case side2 => exact Kd.R_tight rfl HO_176000.out); (case side3 => exact Kd.R_tight rfl HO_176009.out); rintro e w83 ⟨rfl, hy0, hy1, hb, hkp⟩; refine ⟨_, rfl, ?_⟩; have n0_ := Aside0.mk (Kd.R_mono (ok' := fun k_ => some k_ ≠ (.slice Ao13 t160.length co13 : Value).ownBlock) (Kd.R_keptB ((Kd.R_apart' HO_160000.out (Kd.R_typed HO_176009.out) (by decide))) hkp (fun k_ hk_ hs_ => Or.elim hs_ (fun e_ => (hk_.1) e_) (fun e_ => (hk_.2) e_))) (fun k_ hk_ => hk_.1.1)); have n1_ := Aside0.mk (Kd.R_mono (ok' := fun k_ => some k_ ≠ (.slice Ao16 t171.length co16 : Value).ownBlock) (Kd.R_keptB ((Kd.R_apart' HO_160009.out (Kd.R_typed HO_176000.out) (by decide))) hkp (fun k_ hk_ hs_ => Or.elim hs_ (fun e_ => (hk_.2) e_) (fun e_ => (hk_.1) e_))) (fun k_ hk_ => hk_.1.1)); have n2_ := Aside0.mk (Kd.R_reok rfl hy0 (fun k_ e_ => HO_176000.out.1 k_ e_)); have n3_ := Aside0.mk (Kd.R_reok rfl hy1 (fun k_ e_ => HO_176009.out.1 k_ e_)); have n4_ := Aside0.mk (blk_kept (by (with_reducible repeat (first | refine blk_drewN ?_ _ | refine blk_drew ?_ | refine blk_alloc ?_ _)); exact BK159.out) hkp (fun hs_ => Or.elim hs_ (fun e_ => (fun e_ => (Kd.R_ne HO_176000.out BK159.out (by decide)) e_) e_) (fun e_ => (fun e_ => (Kd.R_ne HO_176009.out BK159.out (by decide)) e_) e_))); have n5_ := Aside0.mk (blk_kept (by (with_reducible repeat (first | refine blk_drewN ?_ _ | refine blk_drew ?_ | refine blk_alloc ?_ _)); exact BK175.out) hkp (fun hs_ => Or.elim hs_ (fun e_ => (fun e_ => (Kd.R_ne HO_176000.out BK175.out (by decide)) e_) e_) (fun e_ => (fun e_ => (Kd.R_ne HO_176009.out BK175.out (by decide)) e_) e_))); have n6_ := Aside0.mk (hb); clear HO_160000; clear HO_160009; clear HO_176000; clear HO_176009; clear BK159; clear BK175; clear HB; have HO_160000 := n0_; have HO_160009 := n1_; have HO_176000 := n2_; have HO_176009 := n3_; have BK159 := n4_; have BK175 := n5_; have HB := n6_; clear n0_ n1_ n2_ n3_ n4_ n5_ n6_; (try clear hb); (try clear hkp); (try clear hy0); (try clear hy1); have hcz84_0 : w83.cell? ⟨gb175, 0, none⟩ = some (.slice Ao13 t160.length co13) := (blk_cell BK175.out 0).trans rfl; have hcz84_1 : w83.cell? ⟨gb175, 1, none⟩ = some (.int .i64 t163) := (blk_cell BK175.out 1).trans rfl; have hcz84_2 : w83.cell? ⟨gb175, 2, none⟩ = some (.int .i64 t164) := (blk_cell BK175.out 2).trans rfl; have hcz84_3 : w83.cell? ⟨gb175, 3, none⟩ = some (.int .i64 t165) := (blk_cell BK175.out 3).trans rfl; have hcz84_4 : w83.cell? ⟨gb175, 4, none⟩ = some (.bool t166) := (blk_cell BK175.out 4).trans rfl; have hcz84_5 : w83.cell? ⟨gb175, 5, none⟩ = some (.int .i64 t167) := (blk_cell BK175.out 5).trans rfl; have hcz84_6 : w83.cell? ⟨gb175, 6, none⟩ = some (.int .i64 t168) := (blk_cell BK175.out 6).trans rfl; have hcz84_7 : w83.cell? ⟨gb175, 7, none⟩ = some (.int .i64 t169) := (blk_cell BK175.out 7).trans rfl; have hcz84_8 : w83.cell? ⟨gb175, 8, none⟩ = some (.int .i64 t170) := (blk_cell BK175.out 8).trans rfl; have hcz84_9 : w83.cell? ⟨gb175, 9, none⟩ = some (.slice Ao16 t171.length co16) := (blk_cell BK175.out 9).trans rfl; have hfz84_0 := blk_frozen BK175.out 0; have hfz84_1 := blk_frozen BK175.out 1; have hfz84_2 := blk_frozen BK175.out 2; have hfz84_3 := blk_frozen BK175.out 3; have hfz84_4 := blk_frozen BK175.out 4; have hfz84_5 := blk_frozen BK175.out 5; have hfz84_6 := blk_frozen BK175.out 6; have hfz84_7 := blk_frozen BK175.out 7; have hfz84_8 := blk_frozen BK175.out 8; have hfz84_9 := blk_frozen BK175.out 9) | ((with_reducible refine gate_callee (f := 14) rfl ?_); refine goesL_ (some 39) rfl rfl Try.func14 (by kernel_rfl) rfl #[.agg #[.slice Ao13 t178.length co13, .int .i64 t163, .int .i64 t164, .int .i64 t165, .bool t166, .int .i64 t167, .int .i64 t168, .int .i64 t169, .int .i64 t170, .slice Ao16 t179.length co16], .int .i64 1] rfl (by (try simp only [List.map_toArray, List.map_cons, List.map_nil]); first | done | (rw [show t178.length = t160.length from (Kd.R_reads' HO_176000.out).1.symm, show t179.length = t171.length from (Kd.R_reads' HO_176009.out).1.symm] <;> rfl) | rfl | (simp only [List.length_drop, List.length_take]; rfl)) ?_; (with_reducible refine (laws_heldArena.calls kj4 _ _ t178 t163 t164 t165 t166 t167 t168 t169 t170 _ _ t179 1 t180 _ ?side1 ?side2 ?side3 ?side4 A29.out).mono ?_); (case side1 => repeat (first | exact (Kd.R_reads' HO_176000.out).2.2 | (with_reducible refine Kd.C_alloc ?_ _) | (with_reducible refine Kd.C_drewN ?_ _) | (with_reducible refine Kd.C_drew ?_))); (case side2 => rw [show t178.length = t160.length from (Kd.R_reads' HO_176000.out).1.symm]; exact (Kd.R_reads' HO_176000.out).2.1); (case side3 => repeat (first | exact (Kd.R_reads' HO_176009.out).2.2 | (with_reducible refine Kd.C_alloc ?_ _) | (with_reducible refine Kd.C_drewN ?_ _) | (with_reducible refine Kd.C_drew ?_))); (case side4 => rw [show t179.length = t171.length from (Kd.R_reads' HO_176009.out).1.symm]; exact (Kd.R_reads' HO_176009.out).2.1); rintro e w85 ⟨rfl, hb⟩; refine ⟨_, rfl, ?_⟩; have n0_ := Aside0.mk (Kd.R_below (by (with_reducible repeat (first | apply Kd.R_alloc | apply Kd.R_drewN | apply Kd.R_drew)); exact HO_160000.out) hb); have n1_ := Aside0.mk (Kd.R_below (by (with_reducible repeat (first | apply Kd.R_alloc | apply Kd.R_drewN | apply Kd.R_drew)); exact HO_160009.out) hb); have n2_ := Aside0.mk (Kd.R_below (by (with_reducible repeat (first | apply Kd.R_alloc | apply Kd.R_drewN | apply Kd.R_drew)); exact HO_176000.out) hb); have n3_ := Aside0.mk (Kd.R_below (by (with_reducible repeat (first | apply Kd.R_alloc | apply Kd.R_drewN | apply Kd.R_drew)); exact HO_176009.out) hb); have n4_ := Aside0.mk (blk_below (g := gb159) (o := .cells #[.slice Ao8 t144.length co8, .int .i64 t147, .int .i64 t148, .int .i64 t149, .bool t150, .int .i64 t151, .int .i64 t152, .int .i64 t153, .int .i64 t154, .slice Ao10 t155.length co10] 25 (0, 0)) (by (with_reducible repeat (first | refine blk_drewN ?_ _ | refine blk_drew ?_ | refine blk_alloc ?_ _)); exact BK159.out) hb); have n5_ := Aside0.mk (blk_below (g := gb175) (o := .cells #[.slice Ao13 t160.length co13, .int .i64 t163, .int .i64 t164, .int .i64 t165, .bool t166, .int .i64 t167, .int .i64 t168, .int .i64 t169, .int .i64 t170, .slice Ao16 t171.length co16] 25 (0, 0)) (by (with_reducible repeat (first | refine blk_drewN ?_ _ | refine blk_drew ?_ | refine blk_alloc ?_ _)); exact BK175.out) hb); have n6_ := Aside0.mk (below_step (by repeat (first | (with_reducible first | exact HB.out | apply below_alloc | apply pw_below_drewN | apply below_drew1 | refine below_set ?_ GE159.out | refine below_set ?_ GE175.out) | exact HB.out)) hb); clear HO_160000; clear HO_160009; clear HO_176000; clear HO_176009; clear BK159; clear BK175; clear HB; have HO_160000 := n0_; have HO_160009 := n1_; have HO_176000 := n2_; have HO_176009 := n3_; have BK159 := n4_; have BK175 := n5_; have HB := n6_; clear n0_ n1_ n2_ n3_ n4_ n5_ n6_; (try clear hb); (try clear hb2); (try clear hk); (try clear hi)))
            go_ret
            exact ⟨by first | rfl | (simp [errW_none, errW_some] <;> rfl) | (simp [*, errW_none, errW_some] <;> rfl), by repeat (first | (with_reducible first | exact HB.out | apply below_alloc | apply pw_below_drewN | apply below_drew1 | refine below_set ?_ GE159.out | refine below_set ?_ GE175.out) | exact HB.out)⟩

/-- THE ONE PURE STATEMENT of laws_FnExactNewArena: yours. -/
def laws_FnExactNewArena.Pure : Prop := ∀ (a0 : Int) (a1 : Int), (Lit.int .i64 a0).wf = true → (Lit.int .i64 a1).wf = true → ∃ k, laws_FnExactNewArena.f k a0 a1 = some true
theorem laws_FnExactNewArena.walk (P : laws_FnExactNewArena.Pure) (a0 : Int) (a1 : Int) (w : World) (w0 : (Lit.int .i64 a0).wf = true) (w1 : (Lit.int .i64 a1).wf = true) :
    Calls Try.prog 3 #[.int .i64 a0, .int .i64 a1] w fun e w' => e = .returned (.bool true) ∧ Below w.heap.size w w' := by
  obtain ⟨k, h⟩ := P a0 a1 w0 w1
  refine (laws_FnExactNewArena.calls k a0 a1 true w h).mono ?_
  rintro e w' ⟨rfl, hd⟩
  exact ⟨rfl, hd⟩

end Go.Proofs.Ytpfbhjnlihhpkaa.PFnExactNewArena
