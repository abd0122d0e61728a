/- Boot's own operations; the arenas on its way. -/
import Derived.Test.YtfmhlieaodbgiaaGreatBF
import Derived.Test.YtfmhlieaodbgiaaGreatB9
namespace Go.Proofs.YtfmhlieaodbgiaaGreat.Eng
open Go Go.RowKit Go.Proofs.YtfmhlieaodbgiaaGreat.Sl Go.Proofs.YtfmhlieaodbgiaaGreat.Ar Go.Proofs.YtfmhlieaodbgiaaGreat.Base
set_option linter.unusedVariables false
set_option linter.unusedSimpArgs false
set_option maxRecDepth 10000
/-- the machine that is not -/
abbrev zMc : Value := .agg #[.slice none 0 0, .slice none 0 0, .slice none 0 0, .int .i64 0, .int .i64 0, .int .i64 0, .bool false, .int .i64 0, .int .i64 0, .int .i64 0, .int .i64 0, .slice none 0 0, .bool false, .bool false, .bool false, .int .i64 0, .int .i64 0, .int .i64 0, .int .i64 0, .slice none 0 0]
theorem built_z : Tryz.prog.built 37 [] = some zMc.cells := by kernel_rfl
theorem built_m (m0 m1 a0 a1 a2 a3 a4 a5 a6 a7 a8 a9 : Value) : Tryz.prog.built 37 [(0, .agg #[m0, m1]), (1, .agg #[a0, a1, a2, a3, a4, a5, a6, a7, a8, a9])] = some #[m0, m1, a0, a1, a2, a3, a4, a5, a6, a7, a8, a9, .bool false, .bool false, .bool false, .int .i64 0, .int .i64 0, .int .i64 0, .int .i64 0, .slice none 0 0] := by kernel_rfl
section
variable {N : Nat} {w0 : World} {E : Env} {H : HL} {d_ : Option Tmp} {ty_ : TypeId} {pos_ : String} {af_ : Array Edge} {gd_ : Option (Nat × Bool)} {x y : Operand} {m0 m1 a0 a1 a2 a3 a4 a5 a6 a7 a8 a9 : Value}
theorem v_bz : OpV Tryz.prog N w0 ⟨d_, .build 37 #[], ty_, pos_, af_, gd_⟩ E H zMc := ov_build rfl (vs := []) rfl built_z
theorem v_bm (hx : ev E x = some (.agg #[m0, m1])) (hy : ev E y = some (.agg #[a0, a1, a2, a3, a4, a5, a6, a7, a8, a9])) : OpV Tryz.prog N w0 ⟨d_, .build 37 #[(0, x), (1, y)], ty_, pos_, af_, gd_⟩ E H (.agg #[m0, m1, a0, a1, a2, a3, a4, a5, a6, a7, a8, a9, .bool false, .bool false, .bool false, .int .i64 0, .int .i64 0, .int .i64 0, .int .i64 0, .slice none 0 0]) :=
  ov_build rfl (vs := [.agg #[m0, m1], .agg #[a0, a1, a2, a3, a4, a5, a6, a7, a8, a9]]) (by simp [evs, hx, hy]) (built_m m0 m1 a0 a1 a2 a3 a4 a5 a6 a7 a8 a9)
end
def ba1 (s : Int) : Ar := { (fresh s 6).mkO 4 1 with vs := (fresh s 6).vs.set (1 : Int).toNat (5, (fresh s 6).top) }
def ba2 (s : Int) : Ar := { (ba1 s).mkO 6 126 with vs := (ba1 s).vs.set (0 : Int).toNat (6, (ba1 s).top) }
/-- the arena of a machine that was booted: sl slots -/
def bb1 (s : Int) : Ar := putW (ba2 s) (3 + 1) 2
def bb2 (s sl : Int) : Ar := putW (bb1 s) (3 + 2) (3 + sl)
def bb3 (s sl : Int) : Ar := putW (bb2 s sl) (3 + 3) 3
def bb4 (s sl : Int) : Ar := (bb3 s sl).putV (10 + 2 * 0) 2 0
def bb5 (s sl : Int) : Ar := (bb4 s sl).putV (10 + 2 * 1) 2 0
def ba3 (s sl : Int) : Ar := (bb5 s sl).putV (10 + 2 * 2) 5 1
def bootA (s sl : Int) : Ar := { ba3 s sl with vs := (ba3 s sl).vs.set (1 : Int).toNat (0, 0) }
section
variable {s sl : Int}
theorem fr_len (hs : 256 ≤ s ∧ s ≤ 4000) : ((fresh s 6).ws.length : Int) = 2 * s := by
  show ((List.replicate (2 * s).toNat (0 : Int)).length : Int) = _
  rw [List.length_replicate]; omega
theorem ba1_len : (ba1 s).ws.length = (fresh s 6).ws.length := mkO_len
theorem ba2_len : (ba2 s).ws.length = (fresh s 6).ws.length := mkO_len.trans ba1_len
theorem fa0 (hs : 256 ≤ s ∧ s ≤ 4000) : FA (fresh s 6) 4 1 :=
  ⟨rfl, rfl, hs, fr_len hs, Int.le_refl _, by show 2 * ((1 : Int) - 1) ≤ s - 1; omega, by show (1 : Int) + 1 + 1 ≤ s; omega, .inl rfl, by show HeadP 4 1 1; decide⟩
theorem fa1 (hs : 256 ≤ s ∧ s ≤ 4000) : FA (ba1 s) 6 126 :=
  ⟨rfl, rfl, hs, by rw [ba1_len]; exact fr_len hs, by show (1 : Int) ≤ 1 + (1 + 1); decide, by show 2 * ((1 : Int) + (1 + 1) - 1) ≤ s - 1; omega, by show (1 : Int) + (1 + 1) + 126 + 1 ≤ s; omega, .inr rfl, by show HeadP 6 126 (if BornP 4 then 1 + 1 else 1); decide⟩
theorem co2 (hs : 256 ≤ s ∧ s ≤ 4000) : CoA (ba2 s) := by
  have h := fr_len hs
  exact ⟨by rw [ba2_len]; omega, by rw [ba2_len]; omega, rfl, rfl⟩
theorem cob1 (hs : 256 ≤ s ∧ s ≤ 4000) : CoA (bb1 s) := (co2 hs).putW
theorem cob2 (hs : 256 ≤ s ∧ s ≤ 4000) : CoA (bb2 s sl) := (cob1 hs).putW
theorem cob3 (hs : 256 ≤ s ∧ s ≤ 4000) : CoA (bb3 s sl) := (cob2 hs).putW
theorem cob4 (hs : 256 ≤ s ∧ s ≤ 4000) : CoA (bb4 s sl) := (cob3 hs).putV
theorem cob5 (hs : 256 ≤ s ∧ s ≤ 4000) : CoA (bb5 s sl) := (cob4 hs).putV
theorem mcb1 {M : Md} {X : MA} {C : Cn} : mcX M X C (bb1 s) = mcX M X C (ba2 s) := mcV_putW
theorem mcb2 {M : Md} {X : MA} {C : Cn} : mcX M X C (bb2 s sl) = mcX M X C (ba2 s) := mcV_putW.trans mcb1
theorem mcb3 {M : Md} {X : MA} {C : Cn} : mcX M X C (bb3 s sl) = mcX M X C (ba2 s) := mcV_putW.trans mcb2
theorem mcb4 {M : Md} {X : MA} {C : Cn} : mcX M X C (bb4 s sl) = mcX M X C (ba2 s) := mcV_putV.trans mcb3
theorem mcb5 {M : Md} {X : MA} {C : Cn} : mcX M X C (bb5 s sl) = mcX M X C (ba2 s) := mcV_putV.trans mcb4
end
end Go.Proofs.YtfmhlieaodbgiaaGreat.Eng
