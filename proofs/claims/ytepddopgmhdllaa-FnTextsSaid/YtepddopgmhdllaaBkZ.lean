/- The law's own: bytes that came in; a new arena. -/
import Derived.Test.YtepddopgmhdllaaBkH
import Derived.Test.YtepddopgmhdllaaBkT
import Derived.Test.YtepddopgmhdllaaBkX
import Derived.Test.YtepddopgmhdllaaE2
namespace Go.Proofs.Ytepddopgmhdllaa.Eng
open Go Go.RowKit Go.Proofs.Ytepddopgmhdllaa.Sl Go.Proofs.Ytepddopgmhdllaa.Ar Go.Proofs.Ytepddopgmhdllaa.Base
set_option linter.unusedVariables false
set_option linter.unusedSimpArgs false
set_option maxRecDepth 10000
/-- a row of bytes that came in -/
structure InB (w0 : World) (a : Option Addr) (c : Nat) (xs : List Int) : Prop where
  le : (xs.length : Int) ≤ 9223372036854775807
  rg : ∀ i : Int, 0 ≤ g xs i ∧ g xs i ≤ 255
  row : xs ≠ [] → ∃ x, a = some x ∧ ∀ i : Int, 0 ≤ i → i < (xs.length : Int) → w0.cell? (x.add (i.toNat * 1)) = some (.int .u8 (g xs i))
def atR (xs : List Int) (i : Int) : Int := if i < (xs.length : Int) then g xs i else (i * 7 + (xs.length : Int)) % 256
section
variable {P : Program} {N : Nat} {w0 : World} {E : Env} {H : HL} {T : TypeId} {d_ : Option Tmp} {ty_ : TypeId} {pos_ : String} {af_ : Array Edge} {gd_ : Option (Nat × Bool)} {x0 x1 x3 x8 x9 : Operand} {u0 u1 u3 u8 u9 : Value}
theorem v_build5 {z : List Value} [TFlat P T z] (hz : z.length = 10) (h0 : ev E x0 = some u0) (h1 : ev E x1 = some u1) (h3 : ev E x3 = some u3) (h8 : ev E x8 = some u8) (h9 : ev E x9 = some u9) (o0 : u0.oneCell' = true) (o1 : u1.oneCell' = true) (o3 : u3.oneCell' = true) (o8 : u8.oneCell' = true) (o9 : u9.oneCell' = true)
    {cs : List Value} (hc : setParts z [(0, u0), (1, u1), (3, u3), (8, u8), (9, u9)] = cs) : OpV P N w0 ⟨d_, .build T #[(0, x0), (1, x1), (3, x3), (8, x8), (9, x9)], ty_, pos_, af_, gd_⟩ E H (.agg cs.toArray) := by
  subst hc
  refine ov_build rfl (vs := [u0, u1, u3, u8, u9]) (by simp [evs, h0, h1, h3, h8, h9]) (built_flat (P := P) (T := T) _ (fun p hp => ?_))
  rw [hz]
  simp at hp
  rcases hp with rfl | rfl | rfl | rfl | rfl
  · exact ⟨by show (0 : Nat) < 10; omega, cells_one o0⟩
  · exact ⟨by show (1 : Nat) < 10; omega, cells_one o1⟩
  · exact ⟨by show (3 : Nat) < 10; omega, cells_one o3⟩
  · exact ⟨by show (8 : Nat) < 10; omega, cells_one o8⟩
  · exact ⟨by show (9 : Nat) < 10; omega, cells_one o9⟩
end
variable {w0 : World} {H : HL} {C : Cn} {A : Ar}
theorem big_c {a : Option Addr} {c : Nat} {xs : List Int} : Fn Try.prog w0 34 #[.slice a xs.length c] H fun v H' => v = .bool (decide ((1048576 : Int) < xs.length)) ∧ H' = H := by
  refine enter1 Try.func34 rfl rfl Try.ntmps34 rfl ?_
  repeat' (first | (apply gCall; apply L_call rfl rfl rfl rfl rfl; (· exact within_c _ _ _); rintro _ _ ⟨rfl, rfl⟩) | (apply gL; first | refine L_nil ?_ | refine yS ?_ | refine yA fun _ => ?_ | (apply gSt; first | refine sR ?_ | refine sB ?_ | refine s1 ?_ | refine sW ?_ | refine sN ?_) | (apply gMk; first | (apply L_mkcap rfl rfl rfl rfl rfl rfl; (· omega); (· omega); (· omega); intro _ _) | (apply L_makeI rfl rfl rfl rfl rfl rfl; (· omega); (· omega); intro _) | (apply L_makeB rfl rfl rfl rfl rfl rfl; (· omega); (· omega); intro _) | (apply L_makeV rfl rfl rfl rfl rfl rfl; (· omega); (· omega); intro _)) | refine kV ?_ | (apply L_val rfl rfl rfl; (· first | (apply gBin; first | fail ) | fail | (apply v_ldA rfl; (· exact hcell _ om om); done) | exact v_idxA rfl rfl om | exact v_build5 rfl rfl rfl rfl rfl rfl rfl rfl rfl rfl rfl (by simp only [setParts, List.set_cons_zero, List.set_cons_succ]; rfl))) | ((fail_if_success (refine L_known rfl ?_)); refine yW (fun h => ?_) fun h => ?_)) | (apply gW; first | refine W_seq ?_ | refine W_region ?_ | refine W_ret ?_ | refine W_skip ?_ | refine W_cond1 rfl ?_ | refine W_cond0 rfl ?_ | refine cW (fun h => ?_) fun h => ?_) | (first | refine seqR.normal ?_ | refine seqR.ret ?_) | fail)
  refine retR.ret _ _ (ret1 rfl rfl) cv_ ⟨?_, rfl⟩
  rfl
theorem at_c {a : Option Addr} {c : Nat} {xs : List Int} {i : Int} (hI : InB w0 a c xs) (hl : (xs.length : Int) ≤ 1048576) (hi : 0 ≤ i ∧ i ≤ 1000) :
    Fn Try.prog w0 36 #[.slice a xs.length c, .int .i64 i] H fun v H' => v = .int .i64 (atR xs i) ∧ H' = H := by
  have hr := hI.rg i
  refine enter2 Try.func36 rfl rfl Try.ntmps36 rfl ?_
  by_cases hlt : i < (xs.length : Int)
  · obtain ⟨x, rfl, hcell⟩ := hI.row (fun e => by subst e; simp at hlt; omega)
    repeat' (first | exact absurd hlt h | first | (apply gCall; apply L_call rfl rfl rfl rfl rfl; (· exact within_c _ _ _); rintro _ _ ⟨rfl, rfl⟩) | (apply gL; first | refine L_nil ?_ | refine yS ?_ | refine yA fun _ => ?_ | (apply gSt; first | refine sR ?_ | refine sB ?_ | refine s1 ?_ | refine sW ?_ | refine sN ?_) | (apply gMk; first | (apply L_mkcap rfl rfl rfl rfl rfl rfl; (· omega); (· omega); (· omega); intro _ _) | (apply L_makeI rfl rfl rfl rfl rfl rfl; (· omega); (· omega); intro _) | (apply L_makeB rfl rfl rfl rfl rfl rfl; (· omega); (· omega); intro _) | (apply L_makeV rfl rfl rfl rfl rfl rfl; (· omega); (· omega); intro _)) | refine kV ?_ | (apply L_val rfl rfl rfl; (· first | (apply gBin; first | fail ) | fail | (apply v_ldA rfl; (· exact hcell _ om om); done) | exact v_idxA rfl rfl om | exact v_build5 rfl rfl rfl rfl rfl rfl rfl rfl rfl rfl rfl (by simp only [setParts, List.set_cons_zero, List.set_cons_succ]; rfl))) | ((fail_if_success (refine L_known rfl ?_)); refine yW (fun h => ?_) fun h => ?_)) | (apply gW; first | refine W_seq ?_ | refine W_region ?_ | refine W_ret ?_ | refine W_skip ?_ | refine W_cond1 rfl ?_ | refine W_cond0 rfl ?_ | refine cW (fun h => ?_) fun h => ?_) | (first | refine seqR.normal ?_ | refine seqR.ret ?_) | fail)
    refine retR.ret _ _ (ret1 rfl rfl) cv_ ⟨?_, rfl⟩
    unfold atR; rw [if_pos hlt]
  · repeat' (first | exact absurd h hlt | first | (apply gCall; apply L_call rfl rfl rfl rfl rfl; (· exact within_c _ _ _); rintro _ _ ⟨rfl, rfl⟩) | (apply gL; first | refine L_nil ?_ | refine yS ?_ | refine yA fun _ => ?_ | (apply gSt; first | refine sR ?_ | refine sB ?_ | refine s1 ?_ | refine sW ?_ | refine sN ?_) | (apply gMk; first | (apply L_mkcap rfl rfl rfl rfl rfl rfl; (· omega); (· omega); (· omega); intro _ _) | (apply L_makeI rfl rfl rfl rfl rfl rfl; (· omega); (· omega); intro _) | (apply L_makeB rfl rfl rfl rfl rfl rfl; (· omega); (· omega); intro _) | (apply L_makeV rfl rfl rfl rfl rfl rfl; (· omega); (· omega); intro _)) | refine kV ?_ | (apply L_val rfl rfl rfl; (· first | (apply gBin; first | fail ) | fail | (apply v_ldA rfl; (· exact hcell _ om om); done) | exact v_idxA rfl rfl om | exact v_build5 rfl rfl rfl rfl rfl rfl rfl rfl rfl rfl rfl (by simp only [setParts, List.set_cons_zero, List.set_cons_succ]; rfl))) | ((fail_if_success (refine L_known rfl ?_)); refine yW (fun h => ?_) fun h => ?_)) | (apply gW; first | refine W_seq ?_ | refine W_region ?_ | refine W_ret ?_ | refine W_skip ?_ | refine W_cond1 rfl ?_ | refine W_cond0 rfl ?_ | refine cW (fun h => ?_) fun h => ?_) | (first | refine seqR.normal ?_ | refine seqR.ret ?_) | fail)
    refine retR.ret _ _ (ret1 rfl rfl) cv_ ⟨?_, rfl⟩
    unfold atR; rw [if_neg hlt]
theorem atR_r {xs : List Int} {w0 : World} {a : Option Addr} {c : Nat} (hI : InB w0 a c xs) (i : Int) : 0 ≤ atR xs i ∧ atR xs i ≤ 255 := by
  unfold atR
  split
  · exact hI.rg i
  · omega
theorem freshS {s : Int} {k j bw br : Nat} (hfw : (fresh s (j : Int)).ws = List.replicate k 0) :
    ∃ C : Cn, Value.tuple #[.agg #[.slice (some ⟨bw, 0, none⟩) k k, .int .i64 s, .int .i64 0, .int .i64 1, .bool false, .int .i64 0, .int .i64 0, .int .i64 0, .int .i64 1, .slice (some ⟨br, 0, none⟩) j j], .bool true] = .tuple #[arV C (fresh s j), .bool true] ∧ (fresh s j).ws.length ≤ C.wc ∧
      (br, Obj.cells (rowV (List.replicate j (0, 0)) []) 39 (0, 0)) :: (bw, Obj.cells (rowA .u64 (List.replicate k 0) []) 115 (0, 0)) :: H = (C.br, rObj C (fresh s j)) :: (C.bw, wObj C (fresh s j)) :: H := by
  refine ⟨⟨bw, k, [], br, j, []⟩, ?_, ?_, ?_⟩
  · show _ = Value.tuple #[.agg #[.slice _ (fresh s j).ws.length _, _, _, _, _, _, _, _, _, .slice _ (List.replicate j ((0 : Int), (0 : Int))).length _], _]
    rw [hfw, List.length_replicate, List.length_replicate]; rfl
  · rw [hfw, List.length_replicate]; exact Nat.le_refl _
  · unfold rObj wObj; rw [hfw]; rfl
theorem NewArena_c {s n : Int} {k j : Nat} (h2 : 2 * s = (k : Int)) (hj : n = (j : Int)) (hs : 256 ≤ s ∧ s ≤ 4000) (hn : 0 ≤ n ∧ n ≤ 24) :
    Fn Try.prog w0 35 #[.int .i64 s, .int .i64 n] H fun v H' => ∃ C : Cn, v = .tuple #[arV C (fresh s n), .bool true] ∧ (fresh s n).ws.length ≤ C.wc ∧ H' = (C.br, rObj C (fresh s n)) :: (C.bw, wObj C (fresh s n)) :: H := by
  subst hj
  have hfw : (fresh s (j : Int)).ws = List.replicate k 0 := by show List.replicate (2 * s).toNat 0 = _; rw [h2, Int.toNat_natCast]
  refine enter2 Try.func35 rfl rfl Try.ntmps35 rfl ?_
  repeat' (first | (exfalso; omega) | ((fail_if_success apply gAtR 3); (first | (apply gCall; apply L_call rfl rfl rfl rfl rfl; (· exact within_c _ _ _); rintro _ _ ⟨rfl, rfl⟩) | (apply gL; first | refine L_nil ?_ | refine yS ?_ | refine yA fun _ => ?_ | (apply gSt; first | refine sR ?_ | refine sB ?_ | refine s1 ?_ | refine sW ?_ | refine sN ?_) | (apply gMk; first | (apply L_mkcap rfl rfl rfl rfl rfl rfl; (· omega); (· omega); (· omega); intro _ _) | (apply L_makeI rfl rfl rfl rfl rfl rfl; (· omega); (· omega); intro _) | (apply L_makeB rfl rfl rfl rfl rfl rfl; (· omega); (· omega); intro _) | (apply L_makeV rfl rfl rfl rfl rfl rfl; (· omega); (· omega); intro _)) | refine kV ?_ | (apply L_val rfl rfl rfl; (· first | (apply gBin; first | fail ) | fail | (apply v_ldA rfl; (· exact hcell _ om om); done) | exact v_idxA rfl rfl om | exact v_build5 rfl rfl rfl rfl rfl rfl rfl rfl rfl rfl rfl (by simp only [setParts, List.set_cons_zero, List.set_cons_succ]; rfl))) | ((fail_if_success (refine L_known rfl ?_)); refine yW (fun h => ?_) fun h => ?_)) | (apply gW; first | refine W_seq ?_ | refine W_region ?_ | refine W_ret ?_ | refine W_skip ?_ | refine W_cond1 rfl ?_ | refine W_cond0 rfl ?_ | refine cW (fun h => ?_) fun h => ?_) | (first | refine seqR.normal ?_ | refine seqR.ret ?_) | fail)))
  refine W_seq ?_
  apply W_regionA (D := H) (by kernel_rfl)
  refine kAt 0 ?_
  refine kAt 1 ?_
  refine kAt 3 ?_
  refine kAt 4 ?_
  refine A_two (i := 2) (j := 5) (by kernel_rfl) cvt_ rfl rfl ?_ ?_
  · refine O_of_L fun S hS => ?_
    rw [h2]
    first | (apply gCall; apply L_call rfl rfl rfl rfl rfl; (· exact within_c _ _ _); rintro _ _ ⟨rfl, rfl⟩) | (apply gL; first | refine L_nil ?_ | refine yS ?_ | refine yA fun _ => ?_ | (apply gSt; first | refine sR ?_ | refine sB ?_ | refine s1 ?_ | refine sW ?_ | refine sN ?_) | (apply gMk; first | (apply L_mkcap rfl rfl rfl rfl rfl rfl; (· omega); (· omega); (· omega); intro _ _) | (apply L_makeI rfl rfl rfl rfl rfl rfl; (· omega); (· omega); intro _) | (apply L_makeB rfl rfl rfl rfl rfl rfl; (· omega); (· omega); intro _) | (apply L_makeV rfl rfl rfl rfl rfl rfl; (· omega); (· omega); intro _)) | refine kV ?_ | (apply L_val rfl rfl rfl; (· first | (apply gBin; first | fail ) | fail | (apply v_ldA rfl; (· exact hcell _ om om); done) | exact v_idxA rfl rfl om | exact v_build5 rfl rfl rfl rfl rfl rfl rfl rfl rfl rfl rfl (by simp only [setParts, List.set_cons_zero, List.set_cons_succ]; rfl))) | ((fail_if_success (refine L_known rfl ?_)); refine yW (fun h => ?_) fun h => ?_))
    refine L_nil (hS _ _ ?_)
    clear hS
    refine A_one (i := 5) (by kernel_rfl) cvt_ rfl ?_
    refine O_of_L fun S hS => ?_
    first | (apply gCall; apply L_call rfl rfl rfl rfl rfl; (· exact within_c _ _ _); rintro _ _ ⟨rfl, rfl⟩) | (apply gL; first | refine L_nil ?_ | refine yS ?_ | refine yA fun _ => ?_ | (apply gSt; first | refine sR ?_ | refine sB ?_ | refine s1 ?_ | refine sW ?_ | refine sN ?_) | (apply gMk; first | (apply L_mkcap rfl rfl rfl rfl rfl rfl; (· omega); (· omega); (· omega); intro _ _) | (apply L_makeI rfl rfl rfl rfl rfl rfl; (· omega); (· omega); intro _) | (apply L_makeB rfl rfl rfl rfl rfl rfl; (· omega); (· omega); intro _) | (apply L_makeV rfl rfl rfl rfl rfl rfl; (· omega); (· omega); intro _)) | refine kV ?_ | (apply L_val rfl rfl rfl; (· first | (apply gBin; first | fail ) | fail | (apply v_ldA rfl; (· exact hcell _ om om); done) | exact v_idxA rfl rfl om | exact v_build5 rfl rfl rfl rfl rfl rfl rfl rfl rfl rfl rfl (by simp only [setParts, List.set_cons_zero, List.set_cons_succ]; rfl))) | ((fail_if_success (refine L_known rfl ?_)); refine yW (fun h => ?_) fun h => ?_))
    refine L_nil (hS _ _ ?_)
    clear hS
    refine A_val 6 rfl (by kernel_rfl) rfl rfl rfl cvt_ (v_build5 rfl rfl rfl rfl rfl rfl rfl rfl rfl rfl rfl (by simp only [setParts, List.set_cons_zero, List.set_cons_succ]; rfl)) ?_
    refine A_one (i := 7) (by kernel_rfl) cvt_ rfl (O_of_L fun S hS => ?_)
    first | (apply gCall; apply L_call rfl rfl rfl rfl rfl; (· exact within_c _ _ _); rintro _ _ ⟨rfl, rfl⟩) | (apply gL; first | refine L_nil ?_ | refine yS ?_ | refine yA fun _ => ?_ | (apply gSt; first | refine sR ?_ | refine sB ?_ | refine s1 ?_ | refine sW ?_ | refine sN ?_) | (apply gMk; first | (apply L_mkcap rfl rfl rfl rfl rfl rfl; (· omega); (· omega); (· omega); intro _ _) | (apply L_makeI rfl rfl rfl rfl rfl rfl; (· omega); (· omega); intro _) | (apply L_makeB rfl rfl rfl rfl rfl rfl; (· omega); (· omega); intro _) | (apply L_makeV rfl rfl rfl rfl rfl rfl; (· omega); (· omega); intro _)) | refine kV ?_ | (apply L_val rfl rfl rfl; (· first | (apply gBin; first | fail ) | fail | (apply v_ldA rfl; (· exact hcell _ om om); done) | exact v_idxA rfl rfl om | exact v_build5 rfl rfl rfl rfl rfl rfl rfl rfl rfl rfl rfl (by simp only [setParts, List.set_cons_zero, List.set_cons_succ]; rfl))) | ((fail_if_success (refine L_known rfl ?_)); refine yW (fun h => ?_) fun h => ?_))
    refine L_nil (hS _ _ ?_)
    clear hS
    refine kAt 8 ?_
    refine A_nil (by kernel_rfl) cvt_ ?_
    repeat' (first | (apply gCall; apply L_call rfl rfl rfl rfl rfl; (· exact within_c _ _ _); rintro _ _ ⟨rfl, rfl⟩) | (apply gL; first | refine L_nil ?_ | refine yS ?_ | refine yA fun _ => ?_ | (apply gSt; first | refine sR ?_ | refine sB ?_ | refine s1 ?_ | refine sW ?_ | refine sN ?_) | (apply gMk; first | (apply L_mkcap rfl rfl rfl rfl rfl rfl; (· omega); (· omega); (· omega); intro _ _) | (apply L_makeI rfl rfl rfl rfl rfl rfl; (· omega); (· omega); intro _) | (apply L_makeB rfl rfl rfl rfl rfl rfl; (· omega); (· omega); intro _) | (apply L_makeV rfl rfl rfl rfl rfl rfl; (· omega); (· omega); intro _)) | refine kV ?_ | (apply L_val rfl rfl rfl; (· first | (apply gBin; first | fail ) | fail | (apply v_ldA rfl; (· exact hcell _ om om); done) | exact v_idxA rfl rfl om | exact v_build5 rfl rfl rfl rfl rfl rfl rfl rfl rfl rfl rfl (by simp only [setParts, List.set_cons_zero, List.set_cons_succ]; rfl))) | ((fail_if_success (refine L_known rfl ?_)); refine yW (fun h => ?_) fun h => ?_)) | (apply gW; first | refine W_seq ?_ | refine W_region ?_ | refine W_ret ?_ | refine W_skip ?_ | refine W_cond1 rfl ?_ | refine W_cond0 rfl ?_ | refine cW (fun h => ?_) fun h => ?_) | (first | refine seqR.normal ?_ | refine seqR.ret ?_) | fail)
    exact retR.ret _ _ (retCT rfl rfl at_ (by rfl) rfl) cvt_ (freshS hfw)
  · refine O_of_L fun S hS => ?_
    first | (apply gCall; apply L_call rfl rfl rfl rfl rfl; (· exact within_c _ _ _); rintro _ _ ⟨rfl, rfl⟩) | (apply gL; first | refine L_nil ?_ | refine yS ?_ | refine yA fun _ => ?_ | (apply gSt; first | refine sR ?_ | refine sB ?_ | refine s1 ?_ | refine sW ?_ | refine sN ?_) | (apply gMk; first | (apply L_mkcap rfl rfl rfl rfl rfl rfl; (· omega); (· omega); (· omega); intro _ _) | (apply L_makeI rfl rfl rfl rfl rfl rfl; (· omega); (· omega); intro _) | (apply L_makeB rfl rfl rfl rfl rfl rfl; (· omega); (· omega); intro _) | (apply L_makeV rfl rfl rfl rfl rfl rfl; (· omega); (· omega); intro _)) | refine kV ?_ | (apply L_val rfl rfl rfl; (· first | (apply gBin; first | fail ) | fail | (apply v_ldA rfl; (· exact hcell _ om om); done) | exact v_idxA rfl rfl om | exact v_build5 rfl rfl rfl rfl rfl rfl rfl rfl rfl rfl rfl (by simp only [setParts, List.set_cons_zero, List.set_cons_succ]; rfl))) | ((fail_if_success (refine L_known rfl ?_)); refine yW (fun h => ?_) fun h => ?_))
    refine L_nil (hS _ _ ?_)
    clear hS
    refine A_one (i := 2) (by kernel_rfl) cvt_ rfl ?_
    refine O_of_L fun S hS => ?_
    rw [h2]
    first | (apply gCall; apply L_call rfl rfl rfl rfl rfl; (· exact within_c _ _ _); rintro _ _ ⟨rfl, rfl⟩) | (apply gL; first | refine L_nil ?_ | refine yS ?_ | refine yA fun _ => ?_ | (apply gSt; first | refine sR ?_ | refine sB ?_ | refine s1 ?_ | refine sW ?_ | refine sN ?_) | (apply gMk; first | (apply L_mkcap rfl rfl rfl rfl rfl rfl; (· omega); (· omega); (· omega); intro _ _) | (apply L_makeI rfl rfl rfl rfl rfl rfl; (· omega); (· omega); intro _) | (apply L_makeB rfl rfl rfl rfl rfl rfl; (· omega); (· omega); intro _) | (apply L_makeV rfl rfl rfl rfl rfl rfl; (· omega); (· omega); intro _)) | refine kV ?_ | (apply L_val rfl rfl rfl; (· first | (apply gBin; first | fail ) | fail | (apply v_ldA rfl; (· exact hcell _ om om); done) | exact v_idxA rfl rfl om | exact v_build5 rfl rfl rfl rfl rfl rfl rfl rfl rfl rfl rfl (by simp only [setParts, List.set_cons_zero, List.set_cons_succ]; rfl))) | ((fail_if_success (refine L_known rfl ?_)); refine yW (fun h => ?_) fun h => ?_))
    refine L_nil (hS _ _ ?_)
    clear hS
    refine A_val 6 rfl (by kernel_rfl) rfl rfl rfl cvt_ (v_build5 rfl rfl rfl rfl rfl rfl rfl rfl rfl rfl rfl (by simp only [setParts, List.set_cons_zero, List.set_cons_succ]; rfl)) ?_
    refine A_one (i := 7) (by kernel_rfl) cvt_ rfl (O_of_L fun S hS => ?_)
    first | (apply gCall; apply L_call rfl rfl rfl rfl rfl; (· exact within_c _ _ _); rintro _ _ ⟨rfl, rfl⟩) | (apply gL; first | refine L_nil ?_ | refine yS ?_ | refine yA fun _ => ?_ | (apply gSt; first | refine sR ?_ | refine sB ?_ | refine s1 ?_ | refine sW ?_ | refine sN ?_) | (apply gMk; first | (apply L_mkcap rfl rfl rfl rfl rfl rfl; (· omega); (· omega); (· omega); intro _ _) | (apply L_makeI rfl rfl rfl rfl rfl rfl; (· omega); (· omega); intro _) | (apply L_makeB rfl rfl rfl rfl rfl rfl; (· omega); (· omega); intro _) | (apply L_makeV rfl rfl rfl rfl rfl rfl; (· omega); (· omega); intro _)) | refine kV ?_ | (apply L_val rfl rfl rfl; (· first | (apply gBin; first | fail ) | fail | (apply v_ldA rfl; (· exact hcell _ om om); done) | exact v_idxA rfl rfl om | exact v_build5 rfl rfl rfl rfl rfl rfl rfl rfl rfl rfl rfl (by simp only [setParts, List.set_cons_zero, List.set_cons_succ]; rfl))) | ((fail_if_success (refine L_known rfl ?_)); refine yW (fun h => ?_) fun h => ?_))
    refine L_nil (hS _ _ ?_)
    clear hS
    refine kAt 8 ?_
    refine A_nil (by kernel_rfl) cvt_ ?_
    repeat' (first | (apply gCall; apply L_call rfl rfl rfl rfl rfl; (· exact within_c _ _ _); rintro _ _ ⟨rfl, rfl⟩) | (apply gL; first | refine L_nil ?_ | refine yS ?_ | refine yA fun _ => ?_ | (apply gSt; first | refine sR ?_ | refine sB ?_ | refine s1 ?_ | refine sW ?_ | refine sN ?_) | (apply gMk; first | (apply L_mkcap rfl rfl rfl rfl rfl rfl; (· omega); (· omega); (· omega); intro _ _) | (apply L_makeI rfl rfl rfl rfl rfl rfl; (· omega); (· omega); intro _) | (apply L_makeB rfl rfl rfl rfl rfl rfl; (· omega); (· omega); intro _) | (apply L_makeV rfl rfl rfl rfl rfl rfl; (· omega); (· omega); intro _)) | refine kV ?_ | (apply L_val rfl rfl rfl; (· first | (apply gBin; first | fail ) | fail | (apply v_ldA rfl; (· exact hcell _ om om); done) | exact v_idxA rfl rfl om | exact v_build5 rfl rfl rfl rfl rfl rfl rfl rfl rfl rfl rfl (by simp only [setParts, List.set_cons_zero, List.set_cons_succ]; rfl))) | ((fail_if_success (refine L_known rfl ?_)); refine yW (fun h => ?_) fun h => ?_)) | (apply gW; first | refine W_seq ?_ | refine W_region ?_ | refine W_ret ?_ | refine W_skip ?_ | refine W_cond1 rfl ?_ | refine W_cond0 rfl ?_ | refine cW (fun h => ?_) fun h => ?_) | (first | refine seqR.normal ?_ | refine seqR.ret ?_) | fail)
    exact retR.ret _ _ (retCT rfl rfl at_ (by rfl) rfl) cvt_ (freshS hfw)
end Go.Proofs.Ytepddopgmhdllaa.Eng
namespace Go.Proofs.Ytepddopgmhdllaa.Eng
open Go Go.RowKit Go.Proofs.Ytepddopgmhdllaa.Sl Go.Proofs.Ytepddopgmhdllaa.Ar Go.Proofs.Ytepddopgmhdllaa.Base
set_option linter.unusedVariables false
set_option linter.unusedSimpArgs false
set_option maxRecDepth 10000
variable {w0 : World} {H : HL} {C : Cn} {A : Ar} {ba rc br : Nat} {m : List Int} {rsp : List Value}
theorem isRoot2Q_c {ba : Nat} {r s : Int} {b c : Nat} {q : Bool} (e : (A.inR r && A.inR s) = q) (hP : At H ba (aObj C A)) (hl : At H b (.cells #[.int .i64 r, .int .i64 s] 3 (0, 0))) (hx : A.vs.length ≤ 1048576) :
    Fn Try.prog w0 61 #[.pointer (some ⟨ba, 0, none⟩), .slice (some ⟨b, 0, none⟩) 2 c] H fun v H' => v = .bool q ∧ H' = H := e ▸ isRoot2_c hP hl hx
theorem isRoot1Q_c {ba : Nat} {r : Int} {b c : Nat} {q : Bool} (e : A.inR r = q) (hP : At H ba (aObj C A)) (hl : At H b (.cells #[.int .i64 r] 3 (0, 0))) (hx : A.vs.length ≤ 1048576) :
    Fn Try.prog w0 61 #[.pointer (some ⟨ba, 0, none⟩), .slice (some ⟨b, 0, none⟩) 1 c] H fun v H' => v = .bool q ∧ H' = H := e ▸ isRoot1_c hP hl hx
theorem iaskS {k s : Int} {H1 H2 H3 : HL} (hT : Tk H ba (aObjG C A (some ⟨br, 0, none⟩) rc) H1) (hT2 : Tk H1 C.bw (wObj C A) H2) (hT3 : Tk H2 br (.cells (rowV A.vs rsp) 39 (0, 0)) H3) (hS : SI A m) (hO : OldP A) (hh : HeadP k s (A.born k)) (hx : A.vs.length ≤ 1048576) (hwc : A.ws.length ≤ C.wc) (hsr : -1000000000 ≤ A.serial ∧ A.serial ≤ 1000000000) :
    Fn Try.prog w0 130 #[.pointer (some ⟨ba, 0, none⟩), .int .i64 k, .int .i64 s] H fun v H' => v = .tuple #[.int .i64 (A.ask k s).2.1, .int .i64 (A.ask k s).2.2] ∧ H' = (ba, aObjG C (A.ask k s).1 (some ⟨br, 0, none⟩) rc) :: (C.bw, wObj C (A.ask k s).1) :: (br, .cells (rowV (A.ask k s).1.vs rsp) 39 (0, 0)) :: H3 :=
  Fn.conv (Cv.take hT (Cv.take hT2 (Cv.take hT3 Cv.refl))) (iask_c (br := some br) (rsp := rsp) (H := H3) hS hO hh hx hwc (fun c => by cases c) hsr)
/-- what ask hands back -/
theorem SI.ask_cases (h : SI A m) (k s : Int) : (∃ B mB, A.ask k s = (B.mkO k s, B.top, 0) ∧ SI B mB ∧ B.ws.length = A.ws.length ∧ B.vs.length = A.vs.length ∧ 1 ≤ B.top ∧ B.top + (s + 1) ≤ (B.ws.length : Int)) ∨ ((A.ask k s).2.2 = 2 ∧ (A.ask k s).1.ws.length = A.ws.length ∧ (A.ask k s).1.vs.length = A.vs.length) := by
  obtain ⟨m2, h2, l2, v2⟩ := h.ask2 (s + 1)
  unfold Ar.ask
  split
  · right; exact ⟨rfl, rfl, rfl⟩
  · split
    · right; exact ⟨rfl, l2, v2⟩
    · rename_i hf
      obtain ⟨r1, r2, r3, r4⟩ := h2.room hf
      left; exact ⟨_, m2, rfl, h2, l2, v2, r4, r3⟩
theorem cellR_len (h : SI A m) {r s : Int} : (A.cellR r s).1.ws.length = A.ws.length ∧ (A.cellR r s).1.vs.length = A.vs.length := by
  unfold Ar.cellR
  rcases h.ask_cases 5 2 with ⟨B, mB, e, hB, l, v, -⟩ | ⟨e, l, v⟩
  · rw [e]
    dsimp only
    rw [if_pos rfl]
    refine ⟨?_, ?_⟩
    · show (List.set (List.set (zeroW _ _ _) _ _) _ _).length = _
      rw [List.length_set, List.length_set, length_zeroW, List.length_set, l]
    · show (List.set B.vs _ _).length = _
      rw [List.length_set, v]
  · rw [if_neg (by omega)]; exact ⟨l, v⟩
set_option maxHeartbeats 4000000 in
theorem inewCell_c {r s : Int} (hS : SI A m) (hO : OldP A) (hx : A.vs.length ≤ 1048576) (hwc : A.ws.length ≤ C.wc) (hsr : -1000000000 ≤ A.serial ∧ A.serial ≤ 1000000000) (hr : 0 ≤ r ∧ r < (A.vs.length : Int)) (hs : 0 ≤ s ∧ s < (A.vs.length : Int)) :
    Fn Try.prog w0 88 #[.pointer (some ⟨ba, 0, none⟩), .int .i64 r, .int .i64 s] ((ba, aObjG C A (some ⟨br, 0, none⟩) rc) :: (C.bw, wObj C A) :: (br, .cells (rowV A.vs rsp) 39 (0, 0)) :: H) fun v H' => v = .int .i64 (A.cellR r s).2 ∧
      H' = (ba, aObjG C (A.cellR r s).1 (some ⟨br, 0, none⟩) rc) :: (C.bw, wObj C (A.cellR r s).1) :: (br, .cells (rowV (A.cellR r s).1.vs rsp) 39 (0, 0)) :: H := by
  have nb : ¬ BornP 5 := by decide
  have hh : HeadP 5 2 (A.born 5) := by unfold Ar.born; rw [if_neg nb]; decide
  have hln := hS.ln
  have hse := hS.se
  rcases hS.ask_cases 5 2 with ⟨B, mB, e, hB, l, v, t1, t2⟩ | ⟨e, l, v⟩
  · have lm : (B.mkO 5 2).ws.length = B.ws.length := by show (zeroW _ _ _).length = _; rw [length_zeroW, List.length_set]
    have vm : (B.mkO 5 2).vs = B.vs := rfl
    have hvm : (B.mkO 5 2).vs.length = A.vs.length := v
    have hpm : ((B.mkO 5 2).putV (B.top + 1) (B.vs.getD r.toNat (0, 0)).1 (B.vs.getD r.toNat (0, 0)).2).vs.length = A.vs.length := v
    have ec : A.cellR r s = ({ (B.mkO 5 2).putV (B.top + 1) (B.vs.getD r.toNat (0, 0)).1 (B.vs.getD r.toNat (0, 0)).2 with vs := B.vs.set s.toNat (9, B.top) }, 0) := by
      unfold Ar.cellR; rw [e]; dsimp only; rw [if_pos rfl]; rfl
    rw [ec]
    refine enter3 Try.func88 rfl rfl Try.ntmps88 rfl ?_
    repeat' ((fail_if_success apply gAt 2); (first | (apply gCall; apply L_call rfl rfl rfl rfl rfl; (· first | exact iaskS tk_ tk_ tk_ hS hO hh hx hwc hsr | exact isetT (C := C) (rp := some ⟨br, 0, none⟩) (rc := rc) tk_ tk_ om om om | exact implArenaOkB_c hok at_ at_ hw hc hx | exact isRoot2Q_c hb at_ at_ hx); rintro _ _ ⟨rfl, rfl⟩) | (apply gL; first | refine L_nil ?_ | refine yS ?_ | refine yX fun _ => ?_ | refine yA fun _ => ?_ | (apply gSt; first | refine sR ?_ | refine sB ?_ | refine s1 ?_ | refine sW ?_ | refine sN ?_) | (apply gBs; first | (refine L_bs0 rfl rfl rfl rfl (fun _ => ?_)) | (refine L_bs1 rfl rfl rfl rfl rfl rfl rfl (fun _ => ?_))) | refine kV ?_ | (apply L_val rfl rfl rfl; (· first | (apply gBin; first | fail ) | fail | (apply v_ldV rfl; (· exact at_); (· omega); (· omega); done))) | ((fail_if_success (refine L_known rfl ?_)); refine yW (fun h => ?_) fun h => ?_)) | (apply gW; first | refine W_seq ?_ | refine W_region ?_ | refine W_ret ?_ | refine W_skip ?_ | refine W_cond1 rfl ?_ | refine W_cond0 rfl ?_ | refine cW (fun h => ?_) fun h => ?_) | (first | refine seqR.normal ?_ | refine seqR.ret ?_) | fail))
    rw [e]
    dsimp only
    rw [vm]
    repeat' (first | exact absurd rfl h | (apply gSt; apply L_stV rfl rfl rfl rfl rfl; (· exact up_); (· omega); (· omega)) | first | (apply gCall; apply L_call rfl rfl rfl rfl rfl; (· first | exact iaskS tk_ tk_ tk_ hS hO hh hx hwc hsr | exact isetT (C := C) (rp := some ⟨br, 0, none⟩) (rc := rc) tk_ tk_ om om om | exact implArenaOkB_c hok at_ at_ hw hc hx | exact isRoot2Q_c hb at_ at_ hx); rintro _ _ ⟨rfl, rfl⟩) | (apply gL; first | refine L_nil ?_ | refine yS ?_ | refine yX fun _ => ?_ | refine yA fun _ => ?_ | (apply gSt; first | refine sR ?_ | refine sB ?_ | refine s1 ?_ | refine sW ?_ | refine sN ?_) | (apply gBs; first | (refine L_bs0 rfl rfl rfl rfl (fun _ => ?_)) | (refine L_bs1 rfl rfl rfl rfl rfl rfl rfl (fun _ => ?_))) | refine kV ?_ | (apply L_val rfl rfl rfl; (· first | (apply gBin; first | fail ) | fail | (apply v_ldV rfl; (· exact at_); (· omega); (· omega); done))) | ((fail_if_success (refine L_known rfl ?_)); refine yW (fun h => ?_) fun h => ?_)) | (apply gW; first | refine W_seq ?_ | refine W_region ?_ | refine W_ret ?_ | refine W_skip ?_ | refine W_cond1 rfl ?_ | refine W_cond0 rfl ?_ | refine cW (fun h => ?_) fun h => ?_) | (first | refine seqR.normal ?_ | refine seqR.ret ?_) | fail)
    have es : aObjG C ({ (B.mkO 5 2).putV (B.top + 1) (B.vs.getD r.toNat (0, 0)).1 (B.vs.getD r.toNat (0, 0)).2 with vs := B.vs.set s.toNat (9, B.top) } : Ar) (some ⟨br, 0, none⟩) rc = aObjG C ((B.mkO 5 2).putV (B.top + 1) (B.vs.getD r.toNat (0, 0)).1 (B.vs.getD r.toNat (0, 0)).2) (some ⟨br, 0, none⟩) rc := by
      show Obj.cells #[_, _, _, _, _, _, _, _, _, .slice _ (B.vs.set s.toNat (9, B.top)).length _] _ _ = _
      rw [List.length_set]; rfl
    rw [es]
    exact retR.ret _ _ (ret1 rfl rfl) cvt_ ⟨rfl, rfl⟩
  · have ec : A.cellR r s = ((A.ask 5 2).1, (A.ask 5 2).2.2) := by unfold Ar.cellR; rw [if_neg (by omega)]
    rw [ec]
    refine enter3 Try.func88 rfl rfl Try.ntmps88 rfl ?_
    repeat' (first | (exfalso; omega) | first | (apply gCall; apply L_call rfl rfl rfl rfl rfl; (· first | exact iaskS tk_ tk_ tk_ hS hO hh hx hwc hsr | exact isetT (C := C) (rp := some ⟨br, 0, none⟩) (rc := rc) tk_ tk_ om om om | exact implArenaOkB_c hok at_ at_ hw hc hx | exact isRoot2Q_c hb at_ at_ hx); rintro _ _ ⟨rfl, rfl⟩) | (apply gL; first | refine L_nil ?_ | refine yS ?_ | refine yX fun _ => ?_ | refine yA fun _ => ?_ | (apply gSt; first | refine sR ?_ | refine sB ?_ | refine s1 ?_ | refine sW ?_ | refine sN ?_) | (apply gBs; first | (refine L_bs0 rfl rfl rfl rfl (fun _ => ?_)) | (refine L_bs1 rfl rfl rfl rfl rfl rfl rfl (fun _ => ?_))) | refine kV ?_ | (apply L_val rfl rfl rfl; (· first | (apply gBin; first | fail ) | fail | (apply v_ldV rfl; (· exact at_); (· omega); (· omega); done))) | ((fail_if_success (refine L_known rfl ?_)); refine yW (fun h => ?_) fun h => ?_)) | (apply gW; first | refine W_seq ?_ | refine W_region ?_ | refine W_ret ?_ | refine W_skip ?_ | refine W_cond1 rfl ?_ | refine W_cond0 rfl ?_ | refine cW (fun h => ?_) fun h => ?_) | (first | refine seqR.normal ?_ | refine seqR.ret ?_) | fail)
    exact retR.ret _ _ (ret1 rfl rfl) cvt_ ⟨rfl, rfl⟩
/-- what a door hands back where there are words and Roots -/
def CRes (B : Ar) (r : Value) (H : HL) (v : Value) (H' : HL) : Prop := ∃ C' : Cn, v = .tuple #[arV C' B, r] ∧ B.ws.length ≤ C'.wc ∧ H' = (C'.bw, wObj C' B) :: (C'.br, rObj C' B) :: H
theorem CRes.of {B : Ar} {r : Value} {C : Cn} {vs : List (Int × Int)} (e : B.vs = vs) (h : B.ws.length ≤ C.wc) : CRes B r H (.tuple #[arV C B, r]) ((C.bw, wObj C B) :: (C.br, .cells (rowV vs C.rs) 39 (0, 0)) :: H) := by
  subst e; exact ⟨C, rfl, h, rfl⟩
theorem IRes.cres {B : Ar} {r v : Value} {H' : HL} (h : IRes B r H v H') (hw : 0 < B.ws.length) (hv : 0 < B.vs.length) : CRes B r H v H' := by
  obtain ⟨gw, gwc, gws, gr, grc, grs, rfl, h1, h2, h3, rfl⟩ := h
  rcases gw with _ | gw
  · rw [h1 rfl] at hw; simp at hw
  rcases gr with _ | gr
  · rw [h2 rfl] at hv; simp at hv
  exact ⟨⟨gw, gwc, gws, gr, grc, grs⟩, rfl, h3, rfl⟩
theorem Fn.cres {P : Program} {f : FuncId} {args : Array Value} {B : Ar} {r : Value} (h : Fn P w0 f args H (IRes B r H)) (hw : 0 < B.ws.length) (hv : 0 < B.vs.length) : Fn P w0 f args H (CRes B r H) := h.mono fun _ _ q => q.cres hw hv
set_option maxHeartbeats 4000000 in
theorem NewCell_c {r s : Int} (hA : At H C.bw (wObj C A)) (hR : At H C.br (rObj C A)) (hw : Wf A.ws) (hc : A.ws.length ≤ C.wc) (hl : A.ws.length ≤ 1048576) (hx : A.vs.length ≤ 1048576) (hok : A.ok = true) (hr : 0 ≤ r ∧ r < (A.vs.length : Int)) (hs : 0 ≤ s ∧ s < (A.vs.length : Int)) :
    Fn Try.prog w0 37 #[arV C A, .int .i64 r, .int .i64 s] H (CRes (A.cellR r s).1 (.int .i64 (A.cellR r s).2) H) := by
  obtain ⟨m, hP⟩ := okP_of hok
  have hSI := okSI hP hw
  have hO := OldP.of_ok hP
  have hlen := hSI.ln
  have hse := hSI.se
  have hsr := hP.num.2.2.2.1
  have hb : (A.inR r && A.inR s) = true := by rw [Bool.and_eq_true]; exact ⟨decide_eq_true (by omega), decide_eq_true (by omega)⟩
  obtain ⟨lc, vc⟩ := cellR_len hSI (r := r) (s := s)
  refine enter3 Try.func37 rfl rfl Try.ntmps37 rfl ?_
  repeat' (first | (apply gCall; apply L_call rfl rfl rfl rfl rfl; (· first | exact iaskS tk_ tk_ tk_ hS hO hh hx hwc hsr | exact isetT (C := C) (rp := some ⟨br, 0, none⟩) (rc := rc) tk_ tk_ om om om | exact implArenaOkB_c hok at_ at_ hw hc hx | exact isRoot2Q_c hb at_ at_ hx); rintro _ _ ⟨rfl, rfl⟩) | (apply gL; first | refine L_nil ?_ | refine yS ?_ | refine yX fun _ => ?_ | refine yA fun _ => ?_ | (apply gSt; first | refine sR ?_ | refine sB ?_ | refine s1 ?_ | refine sW ?_ | refine sN ?_) | (apply gBs; first | (refine L_bs0 rfl rfl rfl rfl (fun _ => ?_)) | (refine L_bs1 rfl rfl rfl rfl rfl rfl rfl (fun _ => ?_))) | refine kV ?_ | (apply L_val rfl rfl rfl; (· first | (apply gBin; first | fail ) | fail | (apply v_ldV rfl; (· exact at_); (· omega); (· omega); done))) | ((fail_if_success (refine L_known rfl ?_)); refine yW (fun h => ?_) fun h => ?_)) | (apply gW; first | refine W_seq ?_ | refine W_region ?_ | refine W_ret ?_ | refine W_skip ?_ | refine W_cond1 rfl ?_ | refine W_cond0 rfl ?_ | refine cW (fun h => ?_) fun h => ?_) | (first | refine seqR.normal ?_ | refine seqR.ret ?_) | fail)
  apply L_call rfl rfl rfl rfl rfl
  · exact copyArena_p at_ at_ hl hx
  rintro _ _ ⟨gw, gwc, gws, gr, grc, grs, rfl, hgw, hgr, hwc, rfl⟩
  apply L_front2
  have hA1 : At (oU gw A.ws gws ++ (oV gr A.vs grs ++ H)) C.bw (wObj C A) := At.app (At.app hA)
  have hR1 : At (oU gw A.ws gws ++ (oV gr A.vs grs ++ H)) C.br (rObj C A) := At.app (At.app hR)
  rcases gw with _ | gw
  · rw [hgw rfl] at hlen; simp at hlen; omega
  rcases gr with _ | gr
  · rw [hgr rfl] at hr; simp at hr; omega
  simp only [oU, oV, ad, List.cons_append, List.nil_append] at hA1 hR1 ⊢
  repeat' (first | exact absurd rfl h | (apply gBs; refine L_bs2 rfl rfl rfl rfl rfl rfl rfl rfl rfl fun _ => ?_) | ((fail_if_success apply gAtR 4); (first | (apply gCall; apply L_call rfl rfl rfl rfl rfl; (· first | exact iaskS tk_ tk_ tk_ hS hO hh hx hwc hsr | exact isetT (C := C) (rp := some ⟨br, 0, none⟩) (rc := rc) tk_ tk_ om om om | exact implArenaOkB_c hok at_ at_ hw hc hx | exact isRoot2Q_c hb at_ at_ hx); rintro _ _ ⟨rfl, rfl⟩) | (apply gL; first | refine L_nil ?_ | refine yS ?_ | refine yX fun _ => ?_ | refine yA fun _ => ?_ | (apply gSt; first | refine sR ?_ | refine sB ?_ | refine s1 ?_ | refine sW ?_ | refine sN ?_) | (apply gBs; first | (refine L_bs0 rfl rfl rfl rfl (fun _ => ?_)) | (refine L_bs1 rfl rfl rfl rfl rfl rfl rfl (fun _ => ?_))) | refine kV ?_ | (apply L_val rfl rfl rfl; (· first | (apply gBin; first | fail ) | fail | (apply v_ldV rfl; (· exact at_); (· omega); (· omega); done))) | ((fail_if_success (refine L_known rfl ?_)); refine yW (fun h => ?_) fun h => ?_)) | (apply gW; first | refine W_seq ?_ | refine W_region ?_ | refine W_ret ?_ | refine W_skip ?_ | refine W_cond1 rfl ?_ | refine W_cond0 rfl ?_ | refine cW (fun h => ?_) fun h => ?_) | (first | refine seqR.normal ?_ | refine seqR.ret ?_) | fail)))
  repeat' (first | (apply gCall; apply L_call rfl rfl rfl rfl rfl; (· first | exact iaskS tk_ tk_ tk_ hS hO hh hx hwc hsr | exact isetT (C := C) (rp := some ⟨br, 0, none⟩) (rc := rc) tk_ tk_ om om om | exact implArenaOkB_c hok at_ at_ hw hc hx | exact isRoot2Q_c hb at_ at_ hx); rintro _ _ ⟨rfl, rfl⟩) | (apply gL; first | refine L_nil ?_ | refine yS ?_ | refine yX fun _ => ?_ | refine yA fun _ => ?_ | (apply gSt; first | refine sR ?_ | refine sB ?_ | refine s1 ?_ | refine sW ?_ | refine sN ?_) | (apply gBs; first | (refine L_bs0 rfl rfl rfl rfl (fun _ => ?_)) | (refine L_bs1 rfl rfl rfl rfl rfl rfl rfl (fun _ => ?_))) | refine kV ?_ | (apply L_val rfl rfl rfl; (· first | (apply gBin; first | fail ) | fail | (apply v_ldV rfl; (· exact at_); (· omega); (· omega); done))) | ((fail_if_success (refine L_known rfl ?_)); refine yW (fun h => ?_) fun h => ?_)) | (apply gW; first | refine W_seq ?_ | refine W_region ?_ | refine W_ret ?_ | refine W_skip ?_ | refine W_cond1 rfl ?_ | refine W_cond0 rfl ?_ | refine cW (fun h => ?_) fun h => ?_) | (first | refine seqR.normal ?_ | refine seqR.ret ?_) | fail)
  apply L_call rfl rfl rfl rfl rfl
  · exact Fn.conv (Cv.take tk_ (Cv.take tk_ (Cv.take tk_ Cv.refl))) (inewCell_c (C := ⟨gw, gwc, gws, gr, grc, grs⟩) (rc := grc) (br := gr) (rsp := grs) hSI hO hx hwc (by omega) hr hs)
  rintro _ _ ⟨rfl, rfl⟩
  repeat' (first | (apply gCall; apply L_call rfl rfl rfl rfl rfl; (· first | exact iaskS tk_ tk_ tk_ hS hO hh hx hwc hsr | exact isetT (C := C) (rp := some ⟨br, 0, none⟩) (rc := rc) tk_ tk_ om om om | exact implArenaOkB_c hok at_ at_ hw hc hx | exact isRoot2Q_c hb at_ at_ hx); rintro _ _ ⟨rfl, rfl⟩) | (apply gL; first | refine L_nil ?_ | refine yS ?_ | refine yX fun _ => ?_ | refine yA fun _ => ?_ | (apply gSt; first | refine sR ?_ | refine sB ?_ | refine s1 ?_ | refine sW ?_ | refine sN ?_) | (apply gBs; first | (refine L_bs0 rfl rfl rfl rfl (fun _ => ?_)) | (refine L_bs1 rfl rfl rfl rfl rfl rfl rfl (fun _ => ?_))) | refine kV ?_ | (apply L_val rfl rfl rfl; (· first | (apply gBin; first | fail ) | fail | (apply v_ldV rfl; (· exact at_); (· omega); (· omega); done))) | ((fail_if_success (refine L_known rfl ?_)); refine yW (fun h => ?_) fun h => ?_)) | (apply gW; first | refine W_seq ?_ | refine W_region ?_ | refine W_ret ?_ | refine W_skip ?_ | refine W_cond1 rfl ?_ | refine W_cond0 rfl ?_ | refine cW (fun h => ?_) fun h => ?_) | (first | refine seqR.normal ?_ | refine seqR.ret ?_) | fail)
  refine retR.ret _ _ (retCT rfl rfl at_ (by rfl) rfl) cvt_ ⟨⟨gw, gwc, gws, gr, grc, grs⟩, rfl, by rw [lc]; exact hwc, rfl⟩
set_option maxHeartbeats 4000000 in
theorem CopyStep_c {n : Int} (hA : At H C.bw (wObj C A)) (hR : At H C.br (rObj C A)) (hw : Wf A.ws) (hc : A.ws.length ≤ C.wc) (hl : A.ws.length ≤ 1048576) (hx : A.vs.length ≤ 1048576) (hok : A.ok = true) (hv0 : 0 < A.vs.length) (hn : 1 ≤ n ∧ n ≤ 1000000) :
    Fn Try.prog w0 38 #[arV C A, .int .i64 n] H (CRes (A.stepR n).1 (.int .i64 (A.stepR n).2) H) := by
  obtain ⟨m, hP⟩ := okP_of hok
  have hSI := okSI hP hw
  have hlen := hSI.ln
  have hse := hSI.se
  have e : A.stepR n = Ar.stp 8001 A.over 0 n := by unfold Ar.stepR; rw [if_pos ⟨hok, hn.1⟩]
  have ev : (Ar.stp 8001 A.over 0 n).1.vs = A.vs := by
    obtain ⟨m3, -, -, -, -, h5, -⟩ := stp_all 8001 A.over m 0 n hSI.over (fun c => by obtain ⟨a, b⟩ := over_ne c; rw [a]; exact b)
    rw [h5]; exact over_same.2.2.2.1
  have lc := stp_len hSI n
  rw [e]
  refine enter2 Try.func38 rfl rfl Try.ntmps38 rfl ?_
  repeat' (first | (apply gCall; apply L_call rfl rfl rfl rfl rfl; (· first | exact iaskS tk_ tk_ tk_ hS hO hh hx hwc hsr | exact isetT (C := C) (rp := some ⟨br, 0, none⟩) (rc := rc) tk_ tk_ om om om | exact implArenaOkB_c hok at_ at_ hw hc hx | exact isRoot2Q_c hb at_ at_ hx); rintro _ _ ⟨rfl, rfl⟩) | (apply gL; first | refine L_nil ?_ | refine yS ?_ | refine yX fun _ => ?_ | refine yA fun _ => ?_ | (apply gSt; first | refine sR ?_ | refine sB ?_ | refine s1 ?_ | refine sW ?_ | refine sN ?_) | (apply gBs; first | (refine L_bs0 rfl rfl rfl rfl (fun _ => ?_)) | (refine L_bs1 rfl rfl rfl rfl rfl rfl rfl (fun _ => ?_))) | refine kV ?_ | (apply L_val rfl rfl rfl; (· first | (apply gBin; first | fail ) | fail | (apply v_ldV rfl; (· exact at_); (· omega); (· omega); done))) | ((fail_if_success (refine L_known rfl ?_)); refine yW (fun h => ?_) fun h => ?_)) | (apply gW; first | refine W_seq ?_ | refine W_region ?_ | refine W_ret ?_ | refine W_skip ?_ | refine W_cond1 rfl ?_ | refine W_cond0 rfl ?_ | refine cW (fun h => ?_) fun h => ?_) | (first | refine seqR.normal ?_ | refine seqR.ret ?_) | fail)
  apply L_call rfl rfl rfl rfl rfl
  · exact copyArena_p at_ at_ hl hx
  rintro _ _ ⟨gw, gwc, gws, gr, grc, grs, rfl, hgw, hgr, hwc, rfl⟩
  apply L_front2
  have hA1 : At (oU gw A.ws gws ++ (oV gr A.vs grs ++ H)) C.bw (wObj C A) := At.app (At.app hA)
  have hR1 : At (oU gw A.ws gws ++ (oV gr A.vs grs ++ H)) C.br (rObj C A) := At.app (At.app hR)
  rcases gw with _ | gw
  · rw [hgw rfl] at hlen; simp at hlen; omega
  rcases gr with _ | gr
  · rw [hgr rfl] at hv0; simp at hv0
  simp only [oU, oV, ad, List.cons_append, List.nil_append] at hA1 hR1 ⊢
  repeat' (first | exact absurd rfl h | ((fail_if_success apply gAtR 4); (first | (apply gCall; apply L_call rfl rfl rfl rfl rfl; (· first | exact iaskS tk_ tk_ tk_ hS hO hh hx hwc hsr | exact isetT (C := C) (rp := some ⟨br, 0, none⟩) (rc := rc) tk_ tk_ om om om | exact implArenaOkB_c hok at_ at_ hw hc hx | exact isRoot2Q_c hb at_ at_ hx); rintro _ _ ⟨rfl, rfl⟩) | (apply gL; first | refine L_nil ?_ | refine yS ?_ | refine yX fun _ => ?_ | refine yA fun _ => ?_ | (apply gSt; first | refine sR ?_ | refine sB ?_ | refine s1 ?_ | refine sW ?_ | refine sN ?_) | (apply gBs; first | (refine L_bs0 rfl rfl rfl rfl (fun _ => ?_)) | (refine L_bs1 rfl rfl rfl rfl rfl rfl rfl (fun _ => ?_))) | refine kV ?_ | (apply L_val rfl rfl rfl; (· first | (apply gBin; first | fail ) | fail | (apply v_ldV rfl; (· exact at_); (· omega); (· omega); done))) | ((fail_if_success (refine L_known rfl ?_)); refine yW (fun h => ?_) fun h => ?_)) | (apply gW; first | refine W_seq ?_ | refine W_region ?_ | refine W_ret ?_ | refine W_skip ?_ | refine W_cond1 rfl ?_ | refine W_cond0 rfl ?_ | refine cW (fun h => ?_) fun h => ?_) | (first | refine seqR.normal ?_ | refine seqR.ret ?_) | fail)))
  repeat' (first | (apply gCall; apply L_call rfl rfl rfl rfl rfl; (· first | exact iaskS tk_ tk_ tk_ hS hO hh hx hwc hsr | exact isetT (C := C) (rp := some ⟨br, 0, none⟩) (rc := rc) tk_ tk_ om om om | exact implArenaOkB_c hok at_ at_ hw hc hx | exact isRoot2Q_c hb at_ at_ hx); rintro _ _ ⟨rfl, rfl⟩) | (apply gL; first | refine L_nil ?_ | refine yS ?_ | refine yX fun _ => ?_ | refine yA fun _ => ?_ | (apply gSt; first | refine sR ?_ | refine sB ?_ | refine s1 ?_ | refine sW ?_ | refine sN ?_) | (apply gBs; first | (refine L_bs0 rfl rfl rfl rfl (fun _ => ?_)) | (refine L_bs1 rfl rfl rfl rfl rfl rfl rfl (fun _ => ?_))) | refine kV ?_ | (apply L_val rfl rfl rfl; (· first | (apply gBin; first | fail ) | fail | (apply v_ldV rfl; (· exact at_); (· omega); (· omega); done))) | ((fail_if_success (refine L_known rfl ?_)); refine yW (fun h => ?_) fun h => ?_)) | (apply gW; first | refine W_seq ?_ | refine W_region ?_ | refine W_ret ?_ | refine W_skip ?_ | refine W_cond1 rfl ?_ | refine W_cond0 rfl ?_ | refine cW (fun h => ?_) fun h => ?_) | (first | refine seqR.normal ?_ | refine seqR.ret ?_) | fail)
  apply L_call rfl rfl rfl rfl rfl
  · exact istepT (C := ⟨gw, gwc, gws, gr, grc, grs⟩) (A := A) (rp := some ⟨gr, 0, none⟩) (rc := grc) tk_ tk_ hSI hn hwc
  rintro _ _ ⟨rfl, rfl⟩
  repeat' (first | (apply gCall; apply L_call rfl rfl rfl rfl rfl; (· first | exact iaskS tk_ tk_ tk_ hS hO hh hx hwc hsr | exact isetT (C := C) (rp := some ⟨br, 0, none⟩) (rc := rc) tk_ tk_ om om om | exact implArenaOkB_c hok at_ at_ hw hc hx | exact isRoot2Q_c hb at_ at_ hx); rintro _ _ ⟨rfl, rfl⟩) | (apply gL; first | refine L_nil ?_ | refine yS ?_ | refine yX fun _ => ?_ | refine yA fun _ => ?_ | (apply gSt; first | refine sR ?_ | refine sB ?_ | refine s1 ?_ | refine sW ?_ | refine sN ?_) | (apply gBs; first | (refine L_bs0 rfl rfl rfl rfl (fun _ => ?_)) | (refine L_bs1 rfl rfl rfl rfl rfl rfl rfl (fun _ => ?_))) | refine kV ?_ | (apply L_val rfl rfl rfl; (· first | (apply gBin; first | fail ) | fail | (apply v_ldV rfl; (· exact at_); (· omega); (· omega); done))) | ((fail_if_success (refine L_known rfl ?_)); refine yW (fun h => ?_) fun h => ?_)) | (apply gW; first | refine W_seq ?_ | refine W_region ?_ | refine W_ret ?_ | refine W_skip ?_ | refine W_cond1 rfl ?_ | refine W_cond0 rfl ?_ | refine cW (fun h => ?_) fun h => ?_) | (first | refine seqR.normal ?_ | refine seqR.ret ?_) | fail)
  exact retR.ret _ _ (retCT rfl rfl at_ (by rfl) rfl) cvt_ (CRes.of (C := ⟨gw, gwc, gws, gr, grc, grs⟩) ev (by rw [lc]; exact hwc))
end Go.Proofs.Ytepddopgmhdllaa.Eng
