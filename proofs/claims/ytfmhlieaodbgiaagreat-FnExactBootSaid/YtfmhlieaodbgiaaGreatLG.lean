/- The law's own: machines compared, marked, held. -/
import Derived.Test.YtfmhlieaodbgiaaGreatLF
import Derived.Test.YtfmhlieaodbgiaaGreatBE
namespace Go.Proofs.YtfmhlieaodbgiaaGreat.Eng
open Go Go.RowKit Go.Proofs.YtfmhlieaodbgiaaGreat.Sl Go.Proofs.YtfmhlieaodbgiaaGreat.Ar Go.Proofs.YtfmhlieaodbgiaaGreat.Base
set_option linter.unusedVariables false
set_option linter.unusedSimpArgs false
set_option maxRecDepth 10000
theorem mPA_ok {l : List (PR × PA)} (h : ∀ x ∈ l, POk x) : ∀ (k : Int), ∀ x ∈ mPA k l, POk x := by
  induction l with
  | nil => intro k x hx; cases hx
  | cons y l ih =>
    intro k x hx
    rw [mPA] at hx
    rcases List.mem_cons.1 hx with rfl | hx
    · obtain ⟨h1, h2⟩ := h y List.mem_cons_self
      exact ⟨fun c => by show mUp _ y.1.ups.length = []; rw [h1 c]; rfl, fun c => by show mIn _ y.1.code.length = []; rw [h2 c]; rfl⟩
    · exact ih (fun z hz => h z (List.mem_cons_of_mem _ hz)) _ x hx
/-- a module's marks are there -/
structure RKM (H : HL) (k : Int) (M : Md) (X : MA) : Prop where
  pr : RPr H X.pb (mPA k (M.pr.zip X.aa))
  up : ∀ x ∈ mPA k (M.pr.zip X.aa), RUp H x.2.ub x.1.ups ∧ RIn H x.2.cb x.1.code
  tx : RTx H X.tb (mTs (k + nW M.pr) M.tx.length)
section
variable {H X' G R' : HL} {p : Nat × Obj} {k : Int} {M : Md} {X : MA}
theorem RKM.there (h : RKM H k M X) : RKM (p :: H) k M X := ⟨h.pr.there, fun x hx => ⟨(h.up x hx).1.there, (h.up x hx).2.there⟩, h.tx.there⟩
theorem RKM.app (h : RKM H k M X) : RKM (X' ++ H) k M X := ⟨h.pr.app, fun x hx => ⟨(h.up x hx).1.app, (h.up x hx).2.app⟩, h.tx.app⟩
theorem RKM.left (h : RKM G k M X) : RKM (G ++ R') k M X := ⟨h.pr.left, fun x hx => ⟨(h.up x hx).1.left, (h.up x hx).2.left⟩, h.tx.left⟩
theorem RKM.of (h : MOk M X) : RKM (mHL (mkM k M X) X) k M X := by
  have e : mHL (mkM k M X) X = pHL (mPA k (M.pr.zip X.aa)) ++ (oC 58 X.pb ((mPA k (M.pr.zip X.aa)).flatMap prC) X.ps ++ oC 9 X.tb ((mTs (k + nW M.pr) M.tx.length).flatMap tsC) X.ts) := by
    unfold mHL; rw [mkM_zip h]; rfl
  rw [e]
  refine ⟨RPr.app (RPr.left ?_), fun x hx => ?_, RTx.app (RTx.app ?_)⟩
  · cases hb : X.pb with
    | none => show mPA k (M.pr.zip X.aa) = []; rw [h.pn hb]; rfl
    | some b => exact ⟨_, .here⟩
  · obtain ⟨a, b⟩ := pHL_at (mPA_ok h.pk k) x hx
    exact ⟨RUp.left a, RIn.left b⟩
  · cases hb : X.tb with
    | none => show mTs _ M.tx.length = []; rw [h.tn hb]; rfl
    | some b => exact ⟨_, .here⟩
end
/-- where a machine's rows lie -/
structure MB where
  X : MA
  bw : Option Nat
  wc : Nat
  ws : List Value
  br : Option Nat
  rc : Nat
  rs : List Value
abbrev mgV (M : Md) (Y : MB) (A : Ar) : Value := .agg #[.slice (ad Y.X.pb) M.pr.length Y.X.pc, .slice (ad Y.X.tb) M.tx.length Y.X.tc, .slice (ad Y.bw) A.ws.length Y.wc, .int .i64 A.semi, .int .i64 A.to, .int .i64 A.top, .bool A.cyc, .int .i64 A.scan, .int .i64 A.old, .int .i64 A.copied, .int .i64 A.serial, .slice (ad Y.br) A.vs.length Y.rc, .bool false, .bool false, .bool false, .int .i64 0, .int .i64 0, .int .i64 0, .int .i64 0, .slice none 0 0]
def gHL (M : Md) (Y : MB) (A : Ar) : HL := mHL M Y.X ++ (oV Y.br A.vs Y.rs ++ oU Y.bw A.ws Y.ws)
structure GOk (M : Md) (Y : MB) (A : Ar) : Prop where
  mo : MOk M Y.X
  wn : Y.bw = none → A.ws = []
  rn : Y.br = none → A.vs = []
/-- a machine may be read -/
structure RG (H : HL) (M : Md) (Y : MB) (A : Ar) : Prop where
  rm : RM H M Y.X
  ru : RU H Y.bw A.ws
  rv : RV H Y.br A.vs
/-- a machine's marks are there -/
structure RGK (H : HL) (k : Int) (M : Md) (Y : MB) (A : Ar) : Prop where
  km : RKM H k M Y.X
  aw : ∃ ws vs, RU H Y.bw ws ∧ RV H Y.br vs ∧ (ws.length = A.ws.length ∧ HU (k + nW M.pr + M.tx.length) ws) ∧ (vs.length = A.vs.length ∧ HV (k + nW M.pr + M.tx.length + A.ws.length) vs)
section
variable {H X' G R' : HL} {p : Nat × Obj} {k : Int} {M : Md} {Y : MB} {A : Ar}
theorem RG.there (h : RG H M Y A) : RG (p :: H) M Y A := ⟨h.rm.there, h.ru.there, h.rv.there⟩
theorem RG.app (h : RG H M Y A) : RG (X' ++ H) M Y A := ⟨h.rm.app, h.ru.app, h.rv.app⟩
theorem RG.left (h : RG G M Y A) : RG (G ++ R') M Y A := ⟨h.rm.left, h.ru.left, h.rv.left⟩
theorem RG.of (h : GOk M Y A) (hb : ∀ t ∈ M.tx, Byt t) : RG (gHL M Y A) M Y A := ⟨RM.left (RM.of h.mo hb), RU.app (RU.app (RU.of h.wn)), RV.app (RV.left (RV.of h.rn))⟩
theorem RGK.there (h : RGK H k M Y A) : RGK (p :: H) k M Y A := ⟨h.km.there, by obtain ⟨ws, vs, a, b, c⟩ := h.aw; exact ⟨ws, vs, a.there, b.there, c⟩⟩
theorem RGK.app (h : RGK H k M Y A) : RGK (X' ++ H) k M Y A := ⟨h.km.app, by obtain ⟨ws, vs, a, b, c⟩ := h.aw; exact ⟨ws, vs, a.app, b.app, c⟩⟩
theorem RGK.left (h : RGK G k M Y A) : RGK (G ++ R') k M Y A := ⟨h.km.left, by obtain ⟨ws, vs, a, b, c⟩ := h.aw; exact ⟨ws, vs, a.left, b.left, c⟩⟩
end
section
variable {q : Nat × Obj} {B U V W H : HL}
theorem pm1 : (q :: ((B ++ (V ++ U)) ++ H)).Perm (B ++ (q :: (V ++ (U ++ H)))) := by
  rw [List.append_assoc, List.append_assoc]; exact List.perm_middle.symm
theorem pm3 : (q :: (B ++ (V ++ (U ++ H)))).Perm (V ++ (U ++ (q :: (B ++ H)))) := by
  refine (List.Perm.cons q ?_).trans mdm0
  exact (List.perm_append_comm_assoc B V _).trans (List.Perm.append_left V (List.perm_append_comm_assoc B U H))
theorem pm4 : (V ++ (U ++ (q :: (B ++ H)))).Perm (q :: ((B ++ (V ++ U)) ++ H)) := by
  rw [List.append_assoc, List.append_assoc]; exact pm3.symm
end
variable {w0 : World} {H : HL}
theorem markStr0_c {k : Int} : Fn Tryz.prog w0 35 #[.slice none 0 0, .int .i64 k] H fun v H' => v = .int .i64 k ∧ H' = H := by
  refine enter2 Tryz.func35 rfl rfl Tryz.ntmps35 rfl ?_
  repeat' (first | ((first | (apply gCall; apply L_call rfl rfl rfl rfl rfl) | (apply gQC; apply Q_call rfl rfl rfl rfl rfl)); (· first | exact markStr0_c | exact heldStr0_c | exact eqStr0_c | exact eqVal_c | exact heldProtoS_z hR.there hM.2.2 hub hk hnw | exact heldStringS_g hR.there.tx hM.2.1 om | exact heldModuleB_c hK.km.there hMM hub hk hnw | exact heldArena_g (A := A) hu.there hv.there hA.1 hA.2 om hu2 hv2 hl1 hl2 | exact eqModule_c (X := Y.X) (X' := Y'.X) h1.rm.there.there h2.rm.there.there hM hub | exact eqArena_g (A := A) h1.ru.there.there h1.rv.there.there h2.ru.there.there h2.rv.there.there hA.1 hA.2); try rintro _ _ ⟨rfl, rfl⟩) | (apply gL; first | refine L_nil ?_ | refine yX fun _ => ?_ | (apply gSt; first | refine sR ?_ | refine sB ?_ | refine s1 ?_ | refine sW ?_ | refine sN ?_) | refine kV ?_ | (apply L_val rfl rfl rfl; (· first | (apply gBin; first | fail | exact v_nebs rfl rfl) | fail | exact v_fieldAddrN rfl | (apply v_ldN rfl; (· exact at_); (· exact Nat.le_of_ble_eq_true rfl); done)))) | (apply gW; first | refine W_seq ?_ | refine W_region ?_ | refine W_ret ?_ | refine W_skip ?_ | refine W_block ?_ | refine W_exit ?_ | refine W_cond1 rfl ?_ | refine W_cond0 rfl ?_ | refine cW (fun h => ?_) fun h => ?_ | refine wQ ?_) | (first | refine seqR.normal ?_ | refine seqR.ret ?_ | refine seqR.exit ?_ | refine blockR.normal ?_ | refine blockR.ret ?_ | refine blockR.here ?_ | refine blockR.exit rfl ?_ | refine loopR.ret ?_ | refine loopR.exit ?_) | (apply gQ; first | refine Q_nil ?_ | refine kQ ?_ | (apply Q_val rfl rfl rfl; (· first | (apply gBin; first | fail | exact v_nebs rfl rfl) | fail | exact v_fieldAddrN rfl | (apply v_ldN rfl; (· exact at_); (· exact Nat.le_of_ble_eq_true rfl); done)))) | fail)
  apply W_loopX (α := Unit) (fun y => [(0, .slice none 0 0), (1, .int .i64 k), (5, .int .i64 0)]) (fun _ => H) (fun y => True) (fun y => 0) ()
  · exact ⟨rfl, rfl, rfl, trivial⟩
  · exact Cv.refl
  · trivial
  rintro - -
  repeat' (first | (exfalso; omega) | first | ((first | (apply gCall; apply L_call rfl rfl rfl rfl rfl) | (apply gQC; apply Q_call rfl rfl rfl rfl rfl)); (· first | exact markStr0_c | exact heldStr0_c | exact eqStr0_c | exact eqVal_c | exact heldProtoS_z hR.there hM.2.2 hub hk hnw | exact heldStringS_g hR.there.tx hM.2.1 om | exact heldModuleB_c hK.km.there hMM hub hk hnw | exact heldArena_g (A := A) hu.there hv.there hA.1 hA.2 om hu2 hv2 hl1 hl2 | exact eqModule_c (X := Y.X) (X' := Y'.X) h1.rm.there.there h2.rm.there.there hM hub | exact eqArena_g (A := A) h1.ru.there.there h1.rv.there.there h2.ru.there.there h2.rv.there.there hA.1 hA.2); try rintro _ _ ⟨rfl, rfl⟩) | (apply gL; first | refine L_nil ?_ | refine yX fun _ => ?_ | (apply gSt; first | refine sR ?_ | refine sB ?_ | refine s1 ?_ | refine sW ?_ | refine sN ?_) | refine kV ?_ | (apply L_val rfl rfl rfl; (· first | (apply gBin; first | fail | exact v_nebs rfl rfl) | fail | exact v_fieldAddrN rfl | (apply v_ldN rfl; (· exact at_); (· exact Nat.le_of_ble_eq_true rfl); done)))) | (apply gW; first | refine W_seq ?_ | refine W_region ?_ | refine W_ret ?_ | refine W_skip ?_ | refine W_block ?_ | refine W_exit ?_ | refine W_cond1 rfl ?_ | refine W_cond0 rfl ?_ | refine cW (fun h => ?_) fun h => ?_ | refine wQ ?_) | (first | refine seqR.normal ?_ | refine seqR.ret ?_ | refine seqR.exit ?_ | refine blockR.normal ?_ | refine blockR.ret ?_ | refine blockR.here ?_ | refine blockR.exit rfl ?_ | refine loopR.ret ?_ | refine loopR.exit ?_) | (apply gQ; first | refine Q_nil ?_ | refine kQ ?_ | (apply Q_val rfl rfl rfl; (· first | (apply gBin; first | fail | exact v_nebs rfl rfl) | fail | exact v_fieldAddrN rfl | (apply v_ldN rfl; (· exact at_); (· exact Nat.le_of_ble_eq_true rfl); done)))) | fail)
  exact retR.ret _ _ (ret1 rfl rfl) Cv.refl ⟨rfl, rfl⟩
theorem heldStr0_c {k : Int} : Fn Tryz.prog w0 39 #[.slice none 0 0, .int .i64 k] H fun v H' => v = .int .i64 k ∧ H' = H := by
  refine enter2 Tryz.func39 rfl rfl Tryz.ntmps39 rfl ?_
  repeat' (first | ((first | (apply gCall; apply L_call rfl rfl rfl rfl rfl) | (apply gQC; apply Q_call rfl rfl rfl rfl rfl)); (· first | exact markStr0_c | exact heldStr0_c | exact eqStr0_c | exact eqVal_c | exact heldProtoS_z hR.there hM.2.2 hub hk hnw | exact heldStringS_g hR.there.tx hM.2.1 om | exact heldModuleB_c hK.km.there hMM hub hk hnw | exact heldArena_g (A := A) hu.there hv.there hA.1 hA.2 om hu2 hv2 hl1 hl2 | exact eqModule_c (X := Y.X) (X' := Y'.X) h1.rm.there.there h2.rm.there.there hM hub | exact eqArena_g (A := A) h1.ru.there.there h1.rv.there.there h2.ru.there.there h2.rv.there.there hA.1 hA.2); try rintro _ _ ⟨rfl, rfl⟩) | (apply gL; first | refine L_nil ?_ | refine yX fun _ => ?_ | (apply gSt; first | refine sR ?_ | refine sB ?_ | refine s1 ?_ | refine sW ?_ | refine sN ?_) | refine kV ?_ | (apply L_val rfl rfl rfl; (· first | (apply gBin; first | fail | exact v_nebs rfl rfl) | fail | exact v_fieldAddrN rfl | (apply v_ldN rfl; (· exact at_); (· exact Nat.le_of_ble_eq_true rfl); done)))) | (apply gW; first | refine W_seq ?_ | refine W_region ?_ | refine W_ret ?_ | refine W_skip ?_ | refine W_block ?_ | refine W_exit ?_ | refine W_cond1 rfl ?_ | refine W_cond0 rfl ?_ | refine cW (fun h => ?_) fun h => ?_ | refine wQ ?_) | (first | refine seqR.normal ?_ | refine seqR.ret ?_ | refine seqR.exit ?_ | refine blockR.normal ?_ | refine blockR.ret ?_ | refine blockR.here ?_ | refine blockR.exit rfl ?_ | refine loopR.ret ?_ | refine loopR.exit ?_) | (apply gQ; first | refine Q_nil ?_ | refine kQ ?_ | (apply Q_val rfl rfl rfl; (· first | (apply gBin; first | fail | exact v_nebs rfl rfl) | fail | exact v_fieldAddrN rfl | (apply v_ldN rfl; (· exact at_); (· exact Nat.le_of_ble_eq_true rfl); done)))) | fail)
  apply W_loopX (α := Unit) (fun y => [(0, .slice none 0 0), (1, .int .i64 k), (5, .int .i64 0)]) (fun _ => H) (fun y => True) (fun y => 0) ()
  · exact ⟨rfl, rfl, rfl, trivial⟩
  · exact Cv.refl
  · trivial
  rintro - -
  repeat' (first | (exfalso; omega) | first | ((first | (apply gCall; apply L_call rfl rfl rfl rfl rfl) | (apply gQC; apply Q_call rfl rfl rfl rfl rfl)); (· first | exact markStr0_c | exact heldStr0_c | exact eqStr0_c | exact eqVal_c | exact heldProtoS_z hR.there hM.2.2 hub hk hnw | exact heldStringS_g hR.there.tx hM.2.1 om | exact heldModuleB_c hK.km.there hMM hub hk hnw | exact heldArena_g (A := A) hu.there hv.there hA.1 hA.2 om hu2 hv2 hl1 hl2 | exact eqModule_c (X := Y.X) (X' := Y'.X) h1.rm.there.there h2.rm.there.there hM hub | exact eqArena_g (A := A) h1.ru.there.there h1.rv.there.there h2.ru.there.there h2.rv.there.there hA.1 hA.2); try rintro _ _ ⟨rfl, rfl⟩) | (apply gL; first | refine L_nil ?_ | refine yX fun _ => ?_ | (apply gSt; first | refine sR ?_ | refine sB ?_ | refine s1 ?_ | refine sW ?_ | refine sN ?_) | refine kV ?_ | (apply L_val rfl rfl rfl; (· first | (apply gBin; first | fail | exact v_nebs rfl rfl) | fail | exact v_fieldAddrN rfl | (apply v_ldN rfl; (· exact at_); (· exact Nat.le_of_ble_eq_true rfl); done)))) | (apply gW; first | refine W_seq ?_ | refine W_region ?_ | refine W_ret ?_ | refine W_skip ?_ | refine W_block ?_ | refine W_exit ?_ | refine W_cond1 rfl ?_ | refine W_cond0 rfl ?_ | refine cW (fun h => ?_) fun h => ?_ | refine wQ ?_) | (first | refine seqR.normal ?_ | refine seqR.ret ?_ | refine seqR.exit ?_ | refine blockR.normal ?_ | refine blockR.ret ?_ | refine blockR.here ?_ | refine blockR.exit rfl ?_ | refine loopR.ret ?_ | refine loopR.exit ?_) | (apply gQ; first | refine Q_nil ?_ | refine kQ ?_ | (apply Q_val rfl rfl rfl; (· first | (apply gBin; first | fail | exact v_nebs rfl rfl) | fail | exact v_fieldAddrN rfl | (apply v_ldN rfl; (· exact at_); (· exact Nat.le_of_ble_eq_true rfl); done)))) | fail)
  exact retR.ret _ _ (ret1 rfl rfl) Cv.refl ⟨rfl, rfl⟩
theorem eqStr0_c : Fn Tryz.prog w0 32 #[.slice none 0 0, .slice none 0 0] H fun v H' => v = .bool true ∧ H' = H :=
  eqStringS_c (b := none) (b' := none) (xs := []) rfl rfl (by decide)
theorem heldProtoS_z {M : Md} {X : MA} {k : Int} (h : RKM H k M X) (hM : X.aa.length = M.pr.length) (hub : ∀ q ∈ M.pr, q.ups.length ≤ 1048576 ∧ q.code.length ≤ 1048576) (hk : 1 ≤ k ∧ k ≤ 1000) (hnw : nW M.pr ≤ 4200000) :
    Fn Tryz.prog w0 64 #[.slice (ad X.pb) M.pr.length X.pc, .int .i64 k] H fun v H' => v = .int .i64 (k + nW M.pr) ∧ H' = H := by
  have e1 : (M.pr.zip X.aa).map Prod.fst = M.pr := by rw [List.map_fst_zip]; rw [hM]; exact Nat.le_refl _
  have e2 : (M.pr.zip X.aa).length = M.pr.length := by rw [List.length_zip, hM, Nat.min_self]
  have key := heldProtoS_g (w0 := w0) (H := H) (c := X.pc) (l := M.pr.zip X.aa) (k := k) h.pr h.up (by rw [e1]; exact hnw) hk (fun x hx => hub x.1 (List.of_mem_zip (a := x.1) (b := x.2) hx).1)
  rw [e1, e2] at key
  exact key
theorem heldModuleB_c {M : Md} {X : MA} {k : Int} (hR : RKM H k M X) (hM : M.pr.length ≤ 1048576 ∧ M.tx.length ≤ 1048576 ∧ X.aa.length = M.pr.length) (hub : ∀ q ∈ M.pr, q.ups.length ≤ 1048576 ∧ q.code.length ≤ 1048576) (hk : 1 ≤ k ∧ k ≤ 1000) (hnw : nW M.pr ≤ 4200000) :
    Fn Tryz.prog w0 37 #[mdV M X, .int .i64 k] H fun v H' => v = .int .i64 (k + nW M.pr + M.tx.length) ∧ H' = H := by
  have hnn := nW_nn M.pr
  refine enter2 Tryz.func37 rfl rfl Tryz.ntmps37 rfl ?_
  repeat' (first | (exfalso; omega) | first | ((first | (apply gCall; apply L_call rfl rfl rfl rfl rfl) | (apply gQC; apply Q_call rfl rfl rfl rfl rfl)); (· first | exact markStr0_c | exact heldStr0_c | exact eqStr0_c | exact eqVal_c | exact heldProtoS_z hR.there hM.2.2 hub hk hnw | exact heldStringS_g hR.there.tx hM.2.1 om | exact heldModuleB_c hK.km.there hMM hub hk hnw | exact heldArena_g (A := A) hu.there hv.there hA.1 hA.2 om hu2 hv2 hl1 hl2 | exact eqModule_c (X := Y.X) (X' := Y'.X) h1.rm.there.there h2.rm.there.there hM hub | exact eqArena_g (A := A) h1.ru.there.there h1.rv.there.there h2.ru.there.there h2.rv.there.there hA.1 hA.2); try rintro _ _ ⟨rfl, rfl⟩) | (apply gL; first | refine L_nil ?_ | refine yX fun _ => ?_ | (apply gSt; first | refine sR ?_ | refine sB ?_ | refine s1 ?_ | refine sW ?_ | refine sN ?_) | refine kV ?_ | (apply L_val rfl rfl rfl; (· first | (apply gBin; first | fail | exact v_nebs rfl rfl) | fail | exact v_fieldAddrN rfl | (apply v_ldN rfl; (· exact at_); (· exact Nat.le_of_ble_eq_true rfl); done)))) | (apply gW; first | refine W_seq ?_ | refine W_region ?_ | refine W_ret ?_ | refine W_skip ?_ | refine W_block ?_ | refine W_exit ?_ | refine W_cond1 rfl ?_ | refine W_cond0 rfl ?_ | refine cW (fun h => ?_) fun h => ?_ | refine wQ ?_) | (first | refine seqR.normal ?_ | refine seqR.ret ?_ | refine seqR.exit ?_ | refine blockR.normal ?_ | refine blockR.ret ?_ | refine blockR.here ?_ | refine blockR.exit rfl ?_ | refine loopR.ret ?_ | refine loopR.exit ?_) | (apply gQ; first | refine Q_nil ?_ | refine kQ ?_ | (apply Q_val rfl rfl rfl; (· first | (apply gBin; first | fail | exact v_nebs rfl rfl) | fail | exact v_fieldAddrN rfl | (apply v_ldN rfl; (· exact at_); (· exact Nat.le_of_ble_eq_true rfl); done)))) | fail)
  refine retR.ret _ _ (ret1 rfl rfl) cv_ ⟨?_, rfl⟩
  rfl
set_option maxHeartbeats 4000000 in
theorem eqMachine_c {M : Md} {Y Y' : MB} {A : Ar} (h1 : RG H M Y A) (h2 : RG H M Y' A) (hM : M.pr.length ≤ 1048576 ∧ M.tx.length ≤ 1048576) (hA : A.ws.length ≤ 1048576 ∧ A.vs.length ≤ 1048576) (hub : ∀ q ∈ M.pr, q.ups.length ≤ 1048576 ∧ q.code.length ≤ 1048576) :
    Fn Tryz.prog w0 8 #[mgV M Y A, mgV M Y' A] H fun v H' => v = .bool true ∧ H' = H := by
  refine enter2 Tryz.func8 rfl rfl Tryz.ntmps8 rfl ?_
  repeat' (first | exact absurd rfl h | first | ((first | (apply gCall; apply L_call rfl rfl rfl rfl rfl) | (apply gQC; apply Q_call rfl rfl rfl rfl rfl)); (· first | exact markStr0_c | exact heldStr0_c | exact eqStr0_c | exact eqVal_c | exact heldProtoS_z hR.there hM.2.2 hub hk hnw | exact heldStringS_g hR.there.tx hM.2.1 om | exact heldModuleB_c hK.km.there hMM hub hk hnw | exact heldArena_g (A := A) hu.there hv.there hA.1 hA.2 om hu2 hv2 hl1 hl2 | exact eqModule_c (X := Y.X) (X' := Y'.X) h1.rm.there.there h2.rm.there.there hM hub | exact eqArena_g (A := A) h1.ru.there.there h1.rv.there.there h2.ru.there.there h2.rv.there.there hA.1 hA.2); try rintro _ _ ⟨rfl, rfl⟩) | (apply gL; first | refine L_nil ?_ | refine yX fun _ => ?_ | (apply gSt; first | refine sR ?_ | refine sB ?_ | refine s1 ?_ | refine sW ?_ | refine sN ?_) | refine kV ?_ | (apply L_val rfl rfl rfl; (· first | (apply gBin; first | fail | exact v_nebs rfl rfl) | fail | exact v_fieldAddrN rfl | (apply v_ldN rfl; (· exact at_); (· exact Nat.le_of_ble_eq_true rfl); done)))) | (apply gW; first | refine W_seq ?_ | refine W_region ?_ | refine W_ret ?_ | refine W_skip ?_ | refine W_block ?_ | refine W_exit ?_ | refine W_cond1 rfl ?_ | refine W_cond0 rfl ?_ | refine cW (fun h => ?_) fun h => ?_ | refine wQ ?_) | (first | refine seqR.normal ?_ | refine seqR.ret ?_ | refine seqR.exit ?_ | refine blockR.normal ?_ | refine blockR.ret ?_ | refine blockR.here ?_ | refine blockR.exit rfl ?_ | refine loopR.ret ?_ | refine loopR.exit ?_) | (apply gQ; first | refine Q_nil ?_ | refine kQ ?_ | (apply Q_val rfl rfl rfl; (· first | (apply gBin; first | fail | exact v_nebs rfl rfl) | fail | exact v_fieldAddrN rfl | (apply v_ldN rfl; (· exact at_); (· exact Nat.le_of_ble_eq_true rfl); done)))) | fail)
  refine retR.ret _ _ (ret1 rfl rfl) cv_ ⟨?_, rfl⟩
  rfl
set_option maxHeartbeats 4000000 in
theorem heldMachine_c {M : Md} {Y : MB} {A : Ar} {k : Int} (hK : RGK H k M Y A) (hMM : M.pr.length ≤ 1048576 ∧ M.tx.length ≤ 1048576 ∧ Y.X.aa.length = M.pr.length) (hA : A.ws.length ≤ 1048576 ∧ A.vs.length ≤ 1048576) (hub : ∀ q ∈ M.pr, q.ups.length ≤ 1048576 ∧ q.code.length ≤ 1048576) (hk : 1 ≤ k ∧ k ≤ 1000) (hnw : nW M.pr ≤ 4200000) :
    Fn Tryz.prog w0 12 #[mgV M Y A, .int .i64 k] H fun v H' => v = .int .i64 (k + nW M.pr + M.tx.length + A.ws.length + 2 * A.vs.length) ∧ H' = H := by
  have hnn := nW_nn M.pr
  obtain ⟨ws, vs, hu, hv, ⟨hl1, hu2⟩, hl2, hv2⟩ := hK.aw
  rw [← hl1] at hv2
  have hA' : ws.length ≤ 1048576 ∧ vs.length ≤ 1048576 := by rw [hl1, hl2]; exact hA
  refine enter2 Tryz.func12 rfl rfl Tryz.ntmps12 rfl ?_
  repeat' (first | (exfalso; omega) | (apply gCall; apply L_call rfl rfl rfl rfl rfl; (· exact heldArena_g (A := A) hu.there hv.there hA'.1 hA'.2 (by omega) hu2 hv2 hl1 hl2); rintro _ _ ⟨rfl, rfl⟩) | first | ((first | (apply gCall; apply L_call rfl rfl rfl rfl rfl) | (apply gQC; apply Q_call rfl rfl rfl rfl rfl)); (· first | exact markStr0_c | exact heldStr0_c | exact eqStr0_c | exact eqVal_c | exact heldProtoS_z hR.there hM.2.2 hub hk hnw | exact heldStringS_g hR.there.tx hM.2.1 om | exact heldModuleB_c hK.km.there hMM hub hk hnw | exact heldArena_g (A := A) hu.there hv.there hA.1 hA.2 om hu2 hv2 hl1 hl2 | exact eqModule_c (X := Y.X) (X' := Y'.X) h1.rm.there.there h2.rm.there.there hM hub | exact eqArena_g (A := A) h1.ru.there.there h1.rv.there.there h2.ru.there.there h2.rv.there.there hA.1 hA.2); try rintro _ _ ⟨rfl, rfl⟩) | (apply gL; first | refine L_nil ?_ | refine yX fun _ => ?_ | (apply gSt; first | refine sR ?_ | refine sB ?_ | refine s1 ?_ | refine sW ?_ | refine sN ?_) | refine kV ?_ | (apply L_val rfl rfl rfl; (· first | (apply gBin; first | fail | exact v_nebs rfl rfl) | fail | exact v_fieldAddrN rfl | (apply v_ldN rfl; (· exact at_); (· exact Nat.le_of_ble_eq_true rfl); done)))) | (apply gW; first | refine W_seq ?_ | refine W_region ?_ | refine W_ret ?_ | refine W_skip ?_ | refine W_block ?_ | refine W_exit ?_ | refine W_cond1 rfl ?_ | refine W_cond0 rfl ?_ | refine cW (fun h => ?_) fun h => ?_ | refine wQ ?_) | (first | refine seqR.normal ?_ | refine seqR.ret ?_ | refine seqR.exit ?_ | refine blockR.normal ?_ | refine blockR.ret ?_ | refine blockR.here ?_ | refine blockR.exit rfl ?_ | refine loopR.ret ?_ | refine loopR.exit ?_) | (apply gQ; first | refine Q_nil ?_ | refine kQ ?_ | (apply Q_val rfl rfl rfl; (· first | (apply gBin; first | fail | exact v_nebs rfl rfl) | fail | exact v_fieldAddrN rfl | (apply v_ldN rfl; (· exact at_); (· exact Nat.le_of_ble_eq_true rfl); done)))) | fail)
  refine retR.ret _ _ (ret1 rfl rfl) cv_ ⟨?_, rfl⟩
  rfl
set_option maxHeartbeats 4000000 in
theorem markMachine_g {M : Md} {Y : MB} {A : Ar} {k : Int} (hO : GOk M Y A) (hM : M.pr.length ≤ 1048576 ∧ M.tx.length ≤ 1048576) (hA : A.ws.length ≤ 1048576 ∧ A.vs.length ≤ 1048576) (hub : ∀ q ∈ M.pr, q.ups.length ≤ 1048576 ∧ q.code.length ≤ 1048576) (hk : 1 ≤ k ∧ k ≤ 1000) (hnw : nW M.pr ≤ 4200000) :
    Fn Tryz.prog w0 11 #[mgV M Y A, .int .i64 k] (gHL M Y A ++ H) fun v H' => v = .int .i64 (k + nW M.pr + M.tx.length + A.ws.length + 2 * A.vs.length) ∧ ∃ G, RGK G k M Y A ∧ H' = G ++ H := by
  have hnn := nW_nn M.pr
  refine enter2 Tryz.func11 rfl rfl Tryz.ntmps11 rfl ?_
  repeat' (first | ((first | (apply gCall; apply L_call rfl rfl rfl rfl rfl) | (apply gQC; apply Q_call rfl rfl rfl rfl rfl)); (· first | exact markStr0_c | exact heldStr0_c | exact eqStr0_c | exact eqVal_c | exact heldProtoS_z hR.there hM.2.2 hub hk hnw | exact heldStringS_g hR.there.tx hM.2.1 om | exact heldModuleB_c hK.km.there hMM hub hk hnw | exact heldArena_g (A := A) hu.there hv.there hA.1 hA.2 om hu2 hv2 hl1 hl2 | exact eqModule_c (X := Y.X) (X' := Y'.X) h1.rm.there.there h2.rm.there.there hM hub | exact eqArena_g (A := A) h1.ru.there.there h1.rv.there.there h2.ru.there.there h2.rv.there.there hA.1 hA.2); try rintro _ _ ⟨rfl, rfl⟩) | (apply gL; first | refine L_nil ?_ | refine yX fun _ => ?_ | (apply gSt; first | refine sR ?_ | refine sB ?_ | refine s1 ?_ | refine sW ?_ | refine sN ?_) | refine kV ?_ | (apply L_val rfl rfl rfl; (· first | (apply gBin; first | fail | exact v_nebs rfl rfl) | fail | exact v_fieldAddrN rfl | (apply v_ldN rfl; (· exact at_); (· exact Nat.le_of_ble_eq_true rfl); done)))) | (apply gW; first | refine W_seq ?_ | refine W_region ?_ | refine W_ret ?_ | refine W_skip ?_ | refine W_block ?_ | refine W_exit ?_ | refine W_cond1 rfl ?_ | refine W_cond0 rfl ?_ | refine cW (fun h => ?_) fun h => ?_ | refine wQ ?_) | (first | refine seqR.normal ?_ | refine seqR.ret ?_ | refine seqR.exit ?_ | refine blockR.normal ?_ | refine blockR.ret ?_ | refine blockR.here ?_ | refine blockR.exit rfl ?_ | refine loopR.ret ?_ | refine loopR.exit ?_) | (apply gQ; first | refine Q_nil ?_ | refine kQ ?_ | (apply Q_val rfl rfl rfl; (· first | (apply gBin; first | fail | exact v_nebs rfl rfl) | fail | exact v_fieldAddrN rfl | (apply v_ldN rfl; (· exact at_); (· exact Nat.le_of_ble_eq_true rfl); done)))) | fail)
  refine L_perm pm1 ?_
  apply L_call rfl rfl rfl rfl rfl
  · exact markModule_g hO.mo hnw hM.2 hub hk
  rintro _ _ ⟨rfl, rfl⟩
  refine L_perm List.perm_middle ?_
  repeat' (first | ((first | (apply gCall; apply L_call rfl rfl rfl rfl rfl) | (apply gQC; apply Q_call rfl rfl rfl rfl rfl)); (· first | exact markStr0_c | exact heldStr0_c | exact eqStr0_c | exact eqVal_c | exact heldProtoS_z hR.there hM.2.2 hub hk hnw | exact heldStringS_g hR.there.tx hM.2.1 om | exact heldModuleB_c hK.km.there hMM hub hk hnw | exact heldArena_g (A := A) hu.there hv.there hA.1 hA.2 om hu2 hv2 hl1 hl2 | exact eqModule_c (X := Y.X) (X' := Y'.X) h1.rm.there.there h2.rm.there.there hM hub | exact eqArena_g (A := A) h1.ru.there.there h1.rv.there.there h2.ru.there.there h2.rv.there.there hA.1 hA.2); try rintro _ _ ⟨rfl, rfl⟩) | (apply gL; first | refine L_nil ?_ | refine yX fun _ => ?_ | (apply gSt; first | refine sR ?_ | refine sB ?_ | refine s1 ?_ | refine sW ?_ | refine sN ?_) | refine kV ?_ | (apply L_val rfl rfl rfl; (· first | (apply gBin; first | fail | exact v_nebs rfl rfl) | fail | exact v_fieldAddrN rfl | (apply v_ldN rfl; (· exact at_); (· exact Nat.le_of_ble_eq_true rfl); done)))) | (apply gW; first | refine W_seq ?_ | refine W_region ?_ | refine W_ret ?_ | refine W_skip ?_ | refine W_block ?_ | refine W_exit ?_ | refine W_cond1 rfl ?_ | refine W_cond0 rfl ?_ | refine cW (fun h => ?_) fun h => ?_ | refine wQ ?_) | (first | refine seqR.normal ?_ | refine seqR.ret ?_ | refine seqR.exit ?_ | refine blockR.normal ?_ | refine blockR.ret ?_ | refine blockR.here ?_ | refine blockR.exit rfl ?_ | refine loopR.ret ?_ | refine loopR.exit ?_) | (apply gQ; first | refine Q_nil ?_ | refine kQ ?_ | (apply Q_val rfl rfl rfl; (· first | (apply gBin; first | fail | exact v_nebs rfl rfl) | fail | exact v_fieldAddrN rfl | (apply v_ldN rfl; (· exact at_); (· exact Nat.le_of_ble_eq_true rfl); done)))) | fail)
  refine L_perm pm3 ?_
  apply L_call rfl rfl rfl rfl rfl
  · exact markArena_f (A := A) hO.wn hO.rn hA.1 hA.2 (by omega)
  rintro _ _ ⟨rfl, ws', vs', hw, hv, rfl⟩
  refine L_perm pm4 ?_
  repeat' (first | ((first | (apply gCall; apply L_call rfl rfl rfl rfl rfl) | (apply gQC; apply Q_call rfl rfl rfl rfl rfl)); (· first | exact markStr0_c | exact heldStr0_c | exact eqStr0_c | exact eqVal_c | exact heldProtoS_z hR.there hM.2.2 hub hk hnw | exact heldStringS_g hR.there.tx hM.2.1 om | exact heldModuleB_c hK.km.there hMM hub hk hnw | exact heldArena_g (A := A) hu.there hv.there hA.1 hA.2 om hu2 hv2 hl1 hl2 | exact eqModule_c (X := Y.X) (X' := Y'.X) h1.rm.there.there h2.rm.there.there hM hub | exact eqArena_g (A := A) h1.ru.there.there h1.rv.there.there h2.ru.there.there h2.rv.there.there hA.1 hA.2); try rintro _ _ ⟨rfl, rfl⟩) | (apply gL; first | refine L_nil ?_ | refine yX fun _ => ?_ | (apply gSt; first | refine sR ?_ | refine sB ?_ | refine s1 ?_ | refine sW ?_ | refine sN ?_) | refine kV ?_ | (apply L_val rfl rfl rfl; (· first | (apply gBin; first | fail | exact v_nebs rfl rfl) | fail | exact v_fieldAddrN rfl | (apply v_ldN rfl; (· exact at_); (· exact Nat.le_of_ble_eq_true rfl); done)))) | (apply gW; first | refine W_seq ?_ | refine W_region ?_ | refine W_ret ?_ | refine W_skip ?_ | refine W_block ?_ | refine W_exit ?_ | refine W_cond1 rfl ?_ | refine W_cond0 rfl ?_ | refine cW (fun h => ?_) fun h => ?_ | refine wQ ?_) | (first | refine seqR.normal ?_ | refine seqR.ret ?_ | refine seqR.exit ?_ | refine blockR.normal ?_ | refine blockR.ret ?_ | refine blockR.here ?_ | refine blockR.exit rfl ?_ | refine loopR.ret ?_ | refine loopR.exit ?_) | (apply gQ; first | refine Q_nil ?_ | refine kQ ?_ | (apply Q_val rfl rfl rfl; (· first | (apply gBin; first | fail | exact v_nebs rfl rfl) | fail | exact v_fieldAddrN rfl | (apply v_ldN rfl; (· exact at_); (· exact Nat.le_of_ble_eq_true rfl); done)))) | fail)
  refine retR.ret _ _ (ret1 rfl rfl) (Cv.skip Cv.refl) ⟨rfl, _, ?_, rfl⟩
  refine ⟨RKM.left (RKM.of hO.mo), ws', vs', RU.app (RU.app (RU.of fun c => ?_)), RV.app (RV.left (RV.of fun c => ?_)), hw, hv⟩
  · exact List.eq_nil_of_length_eq_zero (by rw [hw.1, hO.wn c]; rfl)
  · exact List.eq_nil_of_length_eq_zero (by rw [hv.1, hO.rn c]; rfl)
end Go.Proofs.YtfmhlieaodbgiaaGreat.Eng
