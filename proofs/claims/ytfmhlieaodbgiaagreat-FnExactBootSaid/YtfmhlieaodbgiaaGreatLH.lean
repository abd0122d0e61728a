/- Boot of the reference and of the implementation hand back the same machine, each in rows of its own. -/
import Derived.Test.YtfmhlieaodbgiaaGreatLG
import Derived.Test.YtfmhlieaodbgiaaGreatBI
namespace Go.Proofs.YtfmhlieaodbgiaaGreat.Eng
open Go Go.RowKit Go.Proofs.YtfmhlieaodbgiaaGreat.Sl Go.Proofs.YtfmhlieaodbgiaaGreat.Ar Go.Proofs.YtfmhlieaodbgiaaGreat.Base
set_option linter.unusedVariables false
set_option linter.unusedSimpArgs false
set_option maxRecDepth 10000
theorem mcX_set {M : Md} {X : MA} {C : Cn} {A : Ar} {i : Nat} {v : Int × Int} : mcX M X C { A with vs := A.vs.set i v } = mcX M X C A := by
  show Value.agg #[_, _, _, _, _, _, _, _, _, _, _, .slice _ (List.set _ _ _).length _, _, _, _, _, _, _, _, _] = _
  rw [List.length_set]
theorem mcX_boot {M : Md} {X : MA} {C : Cn} {s sl : Int} : mcX M X C (bootA s sl) = mcX M X C (ba2 s) := by
  unfold bootA
  rw [mcX_set]
  unfold ba3
  exact mcV_putV.trans mcb5
theorem putV_len {A : Ar} {a t n : Int} : (A.putV a t n).ws.length = A.ws.length := by show (List.set (List.set _ _ _) _ _).length = _; rw [List.length_set, List.length_set]
theorem putW_len {A : Ar} {a x : Int} : (putW A a x).ws.length = A.ws.length := by show (List.set _ _ _).length = _; rw [List.length_set]
theorem bootA_len {s sl : Int} : (bootA s sl).ws.length = (ba2 s).ws.length := by
  unfold bootA
  dsimp only
  unfold ba3; rw [putV_len]
  unfold bb5; rw [putV_len]
  unfold bb4; rw [putV_len]
  unfold bb3; rw [putW_len]
  unfold bb2; rw [putW_len]
  unfold bb1; rw [putW_len]
theorem bootA_vlen {s sl : Int} : (bootA s sl).vs.length = 6 := rfl
theorem mg_mc {M : Md} {X : MA} {C : Cn} {A : Ar} : mgV M ⟨X, some C.bw, C.wc, C.ws, some C.br, C.rc, C.rs⟩ A = mcX M X C A := rfl
/-- what both hand back: the same module, arena, answer -/
def BRG (Mb : Md) (Ab : Ar) (b : Bool) (H : HL) (v : Value) (H' : HL) : Prop := ∃ Y, v = .tuple #[mgV Mb Y Ab, .bool b] ∧ GOk Mb Y Ab ∧ H' = gHL Mb Y Ab ++ H
theorem gPerm {M : Md} {X : MA} {C : Cn} {A : Ar} {H : HL} : ((C.br, rObj C A) :: (C.bw, wObj C A) :: (mHL M X ++ H)).Perm (gHL M ⟨X, some C.bw, C.wc, C.ws, some C.br, C.rc, C.rs⟩ A ++ H) := by
  show ((C.br, rObj C A) :: (C.bw, wObj C A) :: (mHL M X ++ H)).Perm ((mHL M X ++ ([(C.br, rObj C A)] ++ [(C.bw, wObj C A)])) ++ H)
  rw [List.append_assoc]
  exact sinkT (mHL M X) H _ _
set_option maxHeartbeats 1000000 in
theorem boot_ex (M : Md) (s : Int) : ∃ (Mb : Md) (Ab : Ar) (b : Bool), (Mb = M ∨ Mb = ⟨[], []⟩) ∧ Ab.ws.length ≤ 1048576 ∧ Ab.vs.length ≤ 1048576 ∧ ∀ H v H', BRes M s H v H' → ∃ H2, H'.Perm H2 ∧ BRG Mb Ab b H v H2 := by
  by_cases hP : bootP M s
  · have hl := ba2_len (s := s)
    have hf := fr_len hP.1
    have hwl : (bootA s (sl0 M)).ws.length = (ba2 s).ws.length := bootA_len
    have hvl : (bootA s (sl0 M)).vs.length = 6 := bootA_vlen
    have hs := hP.1
    refine ⟨M, bootA s (sl0 M), true, .inl rfl, by rw [hwl, hl]; omega, by rw [hvl]; decide, fun H v H' h => ?_⟩
    rcases h with ⟨-, X, C, rfl, hMO, rfl⟩ | ⟨h, -⟩
    · refine ⟨gHL M ⟨X, some C.bw, C.wc, C.ws, some C.br, C.rc, C.rs⟩ (bootA s (sl0 M)) ++ H, ?_, ⟨X, some C.bw, C.wc, C.ws, some C.br, C.rc, C.rs⟩, ?_, ⟨hMO, fun c => (by cases c), fun c => (by cases c)⟩, rfl⟩
      · exact gPerm
      · rw [mg_mc, mcX_boot]
    · exact absurd hP h
  · refine ⟨⟨[], []⟩, { ws := [], semi := 0, to := 0, top := 0, cyc := false, scan := 0, old := 0, copied := 0, serial := 0, vs := [] }, false, .inr rfl, by decide, by decide, fun H v H' h => ?_⟩
    rcases h with ⟨h, -⟩ | ⟨-, rfl, rfl⟩
    · exact absurd h hP
    · exact ⟨H', .refl _, ⟨⟨none, 0, [], none, 0, [], []⟩, none, 0, [], none, 0, []⟩, rfl, ⟨⟨rfl, fun x hx => (by cases hx), fun _ => rfl, fun _ => rfl⟩, fun _ => rfl, fun _ => rfl⟩, rfl⟩
variable {w0 : World} {H : HL} {M Mb : Md} {Ab : Ar} {b : Bool} {X : MA} {s : Int}
theorem Fn.perm_post {f : FuncId} {args : Array Value} {S S' : Value → HL → Prop} (h : Fn Tryz.prog w0 f args H S) (hS : ∀ v H', S v H' → ∃ H2, H'.Perm H2 ∧ S' v H2) : Fn Tryz.prog w0 f args H S' := by
  refine ⟨h.1, fun w hw => ?_⟩
  refine (h.2 w hw).mono ?_
  rintro e w' ⟨v, H', he, hs, hv⟩
  obtain ⟨H2, hp, h2⟩ := hS v H' hv
  exact ⟨v, H2, he, hs.perm hp, h2⟩
theorem specBootG (hB : ∀ H v H', BRes M s H v H' → ∃ H2, H'.Perm H2 ∧ BRG Mb Ab b H v H2) (hm : RM H M X) (hl : M.pr.length ≤ 1048576 ∧ M.tx.length ≤ 1048576) (hub : ∀ q ∈ M.pr, q.ups.length ≤ 1048576 ∧ q.code.length ≤ 1048576) :
    Fn Tryz.prog w0 5 #[mdV M X, .int .i64 s] H (BRG Mb Ab b H) := Fn.perm_post (specBoot_c hm hl hub) (hB H)
theorem implBootG (hB : ∀ H v H', BRes M s H v H' → ∃ H2, H'.Perm H2 ∧ BRG Mb Ab b H v H2) (hm : RM H M X) (hl : M.pr.length ≤ 1048576 ∧ M.tx.length ≤ 1048576) (hub : ∀ q ∈ M.pr, q.ups.length ≤ 1048576 ∧ q.code.length ≤ 1048576) :
    Fn Tryz.prog w0 7 #[mdV M X, .int .i64 s] H (BRG Mb Ab b H) := Fn.perm_post (implBoot_c hm hl hub) (hB H)
end Go.Proofs.YtfmhlieaodbgiaaGreat.Eng
