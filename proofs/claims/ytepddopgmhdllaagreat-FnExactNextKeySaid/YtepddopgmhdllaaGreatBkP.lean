/- Copies of an arena: the reference's and the implementation's. -/
import Derived.Test.YtepddopgmhdllaaGreatBkM
import Derived.Test.YtepddopgmhdllaaGreatL0
import Derived.Test.YtepddopgmhdllaaGreatBkG
import Derived.Test.YtepddopgmhdllaaGreatBkS4
namespace Go.Proofs.YtepddopgmhdllaaGreat.Eng
open Go Go.RowKit Go.Proofs.YtepddopgmhdllaaGreat.Sl Go.Proofs.YtepddopgmhdllaaGreat.Ar Go.Proofs.YtepddopgmhdllaaGreat.Base
set_option linter.unusedVariables false
set_option linter.unusedSimpArgs false
set_option maxRecDepth 10000
/-- where a row lies, if it lies anywhere -/
def ad : Option Nat → Option Addr
  | none => none
  | some b => some ⟨b, 0, none⟩
def oU : Option Nat → List Int → List Value → HL
  | none, _, _ => []
  | some b, xs, sp => [(b, .cells (rowA .u64 xs sp) 92 (0, 0))]
def oV : Option Nat → List (Int × Int) → List Value → HL
  | none, _, _ => []
  | some b, vs, sp => [(b, .cells (rowV vs sp) 47 (0, 0))]
abbrev arG (wp : Option Addr) (wc : Nat) (rp : Option Addr) (rc : Nat) (A : Ar) : Value := .agg #[.slice wp A.ws.length wc, .int .i64 A.semi, .int .i64 A.to, .int .i64 A.top, .bool A.cyc, .int .i64 A.scan, .int .i64 A.old, .int .i64 A.copied, .int .i64 A.serial, .slice rp A.vs.length rc]
section
variable {P : Program} {N : Nat} {w0 w : World} {E : Env} {H H' H1 : HL} {o : Oper} {x y z : Operand} {T T2 e ty : TypeId} {v u zv : Value} {k bytes b b1 c : Nat} {ops : Array Oper} {rest : List Oper} {R : Post} {sp : List Value} {xs : List Int} {vs : List (Int × Int)}
theorem L_appNU {t : Tmp} [TSlice P T e 1] [TInfo P e zv 1 bytes] (hw : wantE ops E o = some true) (hd : o.dst = some t) (ht : Nat.blt t N = true) (ho : o.op = .call { callee := .builtin .append, args := #[x, y], argTypes := #[T, T] })
    (hx : ev E x = some (.slice none 0 0)) (hy : ev E y = some (.slice (some ⟨b1, 0, none⟩) xs.length c)) (hA : At H b1 (.cells (rowA .u64 xs sp) e (0, 0))) (hm : xs.length ≤ 1048576) (hb : Nat.ble bytes 1000 = true)
    (h0 : xs = [] → L P N w0 ops rest ((t, .slice none xs.length 0) :: E) H R)
    (hK : ∀ b' c' sp', 0 < xs.length → xs.length ≤ c' → L P N w0 ops rest ((t, .slice (some ⟨b', 0, none⟩) xs.length c') :: E) ((b', .cells (rowA .u64 xs sp') e (0, 0)) :: H) R) : L P N w0 ops (o :: rest) E H R :=
  L_appN (news := xs.map (Value.int .u64)) (k := 1) hw hd ht ho hx hy hA (by simp) rfl hm hb (fun h => by have := h0 (List.eq_nil_of_length_eq_zero h); rw [h] at this; exact this) hK
theorem L_appNV {t : Tmp} [TSlice P T e 2] [TInfo P e zv 2 bytes] (hw : wantE ops E o = some true) (hd : o.dst = some t) (ht : Nat.blt t N = true) (ho : o.op = .call { callee := .builtin .append, args := #[x, y], argTypes := #[T, T] })
    (hx : ev E x = some (.slice none 0 0)) (hy : ev E y = some (.slice (some ⟨b1, 0, none⟩) vs.length c)) (hA : At H b1 (.cells (rowV vs sp) e (0, 0))) (hm : vs.length ≤ 1048576) (hb : Nat.ble bytes 1000 = true)
    (h0 : vs = [] → L P N w0 ops rest ((t, .slice none vs.length 0) :: E) H R)
    (hK : ∀ b' c' sp', 0 < vs.length → vs.length ≤ c' → L P N w0 ops rest ((t, .slice (some ⟨b', 0, none⟩) vs.length c') :: E) ((b', .cells (rowV vs sp') e (0, 0)) :: H) R) : L P N w0 ops (o :: rest) E H R :=
  L_appN (news := flat vs) (k := 2) hw hd ht ho hx hy hA (by rw [length_flat, Nat.mul_comm]) rfl hm hb (fun h => by have := h0 (List.eq_nil_of_length_eq_zero h); rw [h] at this; exact this) hK
end
variable {w0 : World} {H : HL} {C : Cn} {A : Ar}
theorem copyWords_c {b c : Nat} {xs : List Int} {sp : List Value} (hA : At H b (.cells (rowA .u64 xs sp) 92 (0, 0))) (hl : xs.length ≤ 1048576) :
    Fn Tryz.prog w0 88 #[.slice (some ⟨b, 0, none⟩) xs.length c] H fun v H' => ∃ bo c' sp', v = .slice (ad bo) xs.length c' ∧ (bo = none → xs = []) ∧ xs.length ≤ c' ∧ H' = oU bo xs sp' ++ H := by
  refine enter1 Tryz.func88 rfl rfl Tryz.ntmps88 rfl ?_
  repeat' (first | (apply gCall; apply L_call rfl rfl rfl rfl rfl; (· fail); rintro _ _ ⟨rfl, rfl⟩) | (apply gL; first | refine L_nil ?_ | refine yX fun _ => ?_ | refine yA fun _ => ?_ | (apply gSt; first | refine sR ?_ | refine sB ?_ | refine s1 ?_ | refine sW ?_ | refine sN ?_) | (apply gApp; apply L_appI rfl rfl rfl rfl rfl rfl; (· exact at_); (· exact tk_); (· rfl); (· omega); intro _ _) | refine kV ?_) | (apply gW; first | refine W_seq ?_ | refine W_region ?_ | refine W_ret ?_ | refine W_skip ?_) | (first | refine seqR.normal ?_ | refine seqR.ret ?_) | fail)
  apply L_appNU rfl rfl rfl rfl rfl rfl at_ hl rfl
  · intro h0
    repeat' (first | (apply gCall; apply L_call rfl rfl rfl rfl rfl; (· fail); rintro _ _ ⟨rfl, rfl⟩) | (apply gL; first | refine L_nil ?_ | refine yX fun _ => ?_ | refine yA fun _ => ?_ | (apply gSt; first | refine sR ?_ | refine sB ?_ | refine s1 ?_ | refine sW ?_ | refine sN ?_) | (apply gApp; apply L_appI rfl rfl rfl rfl rfl rfl; (· exact at_); (· exact tk_); (· rfl); (· omega); intro _ _) | refine kV ?_) | (apply gW; first | refine W_seq ?_ | refine W_region ?_ | refine W_ret ?_ | refine W_skip ?_) | (first | refine seqR.normal ?_ | refine seqR.ret ?_) | fail)
    exact retR.ret _ _ (ret1 rfl rfl) cvt_ ⟨none, 0, [], rfl, fun _ => h0, by subst h0; exact Nat.le_refl _, rfl⟩
  · intro b' c' sp' hc hc2
    repeat' (first | (apply gCall; apply L_call rfl rfl rfl rfl rfl; (· fail); rintro _ _ ⟨rfl, rfl⟩) | (apply gL; first | refine L_nil ?_ | refine yX fun _ => ?_ | refine yA fun _ => ?_ | (apply gSt; first | refine sR ?_ | refine sB ?_ | refine s1 ?_ | refine sW ?_ | refine sN ?_) | (apply gApp; apply L_appI rfl rfl rfl rfl rfl rfl; (· exact at_); (· exact tk_); (· rfl); (· omega); intro _ _) | refine kV ?_) | (apply gW; first | refine W_seq ?_ | refine W_region ?_ | refine W_ret ?_ | refine W_skip ?_) | (first | refine seqR.normal ?_ | refine seqR.ret ?_) | fail)
    exact retR.ret _ _ (ret1 rfl rfl) cvt_ ⟨some b', c', sp', rfl, fun c => (by cases c), hc2, rfl⟩
set_option maxHeartbeats 2000000 in
theorem copyArena_c (hA : At H C.bw (wObj C A)) (hR : At H C.br (rObj C A)) (hl : A.ws.length ≤ 1048576) (hl2 : A.vs.length ≤ 1048576) :
    Fn Tryz.prog w0 36 #[arV C A] H fun v H' => ∃ bw wc wsp br rc rsp, v = arG (ad bw) wc (ad br) rc A ∧ (bw = none → A.ws = []) ∧ (br = none → A.vs = []) ∧ A.ws.length ≤ wc ∧ H' = oV br A.vs rsp ++ (oU bw A.ws wsp ++ H) := by
  refine enter1 Tryz.func36 rfl rfl Tryz.ntmps36 rfl ?_
  repeat' (first | (apply gSt; apply L_stc rfl rfl rfl rfl rfl rfl; (· exact at_); (· simp only [List.set_cons_zero, List.set_cons_succ]; rfl); (· exact up_); (· rfl)) | first | (apply gCall; apply L_call rfl rfl rfl rfl rfl; (· fail); rintro _ _ ⟨rfl, rfl⟩) | (apply gL; first | refine L_nil ?_ | refine yX fun _ => ?_ | refine yA fun _ => ?_ | (apply gSt; first | refine sR ?_ | refine sB ?_ | refine s1 ?_ | refine sW ?_ | refine sN ?_) | (apply gApp; apply L_appI rfl rfl rfl rfl rfl rfl; (· exact at_); (· exact tk_); (· rfl); (· omega); intro _ _) | refine kV ?_) | (apply gW; first | refine W_seq ?_ | refine W_region ?_ | refine W_ret ?_ | refine W_skip ?_) | (first | refine seqR.normal ?_ | refine seqR.ret ?_) | fail)
  apply L_call rfl rfl rfl rfl rfl
  · exact copyWords_c at_ hl
  rintro _ _ ⟨bo, cw, sw, rfl, h0, hcw, rfl⟩
  rcases bo with _ | bw
  all_goals simp only [oU, ad, List.nil_append, List.cons_append]
  all_goals (repeat' (first | (apply gSt; apply L_stc rfl rfl rfl rfl rfl rfl; (· exact at_); (· simp only [List.set_cons_zero, List.set_cons_succ]; rfl); (· exact up_); (· rfl)) | first | (apply gCall; apply L_call rfl rfl rfl rfl rfl; (· fail); rintro _ _ ⟨rfl, rfl⟩) | (apply gL; first | refine L_nil ?_ | refine yX fun _ => ?_ | refine yA fun _ => ?_ | (apply gSt; first | refine sR ?_ | refine sB ?_ | refine s1 ?_ | refine sW ?_ | refine sN ?_) | (apply gApp; apply L_appI rfl rfl rfl rfl rfl rfl; (· exact at_); (· exact tk_); (· rfl); (· omega); intro _ _) | refine kV ?_) | (apply gW; first | refine W_seq ?_ | refine W_region ?_ | refine W_ret ?_ | refine W_skip ?_) | (first | refine seqR.normal ?_ | refine seqR.ret ?_) | fail))
  all_goals apply L_appNV rfl rfl rfl rfl rfl rfl at_ hl2 rfl
  · intro h1
    repeat' (first | (apply gSt; apply L_stc rfl rfl rfl rfl rfl rfl; (· exact at_); (· simp only [List.set_cons_zero, List.set_cons_succ]; rfl); (· exact up_); (· rfl)) | first | (apply gCall; apply L_call rfl rfl rfl rfl rfl; (· fail); rintro _ _ ⟨rfl, rfl⟩) | (apply gL; first | refine L_nil ?_ | refine yX fun _ => ?_ | refine yA fun _ => ?_ | (apply gSt; first | refine sR ?_ | refine sB ?_ | refine s1 ?_ | refine sW ?_ | refine sN ?_) | (apply gApp; apply L_appI rfl rfl rfl rfl rfl rfl; (· exact at_); (· exact tk_); (· rfl); (· omega); intro _ _) | refine kV ?_) | (apply gW; first | refine W_seq ?_ | refine W_region ?_ | refine W_ret ?_ | refine W_skip ?_) | (first | refine seqR.normal ?_ | refine seqR.ret ?_) | fail)
    refine retR.ret _ _ (retC rfl rfl at_ (by rfl)) cvt_ ⟨none, cw, sw, none, 0, [], ?_, h0, fun _ => h1, hcw, rfl⟩
    rfl
  · intro br cr sr hcr hcr2
    repeat' (first | (apply gSt; apply L_stc rfl rfl rfl rfl rfl rfl; (· exact at_); (· simp only [List.set_cons_zero, List.set_cons_succ]; rfl); (· exact up_); (· rfl)) | first | (apply gCall; apply L_call rfl rfl rfl rfl rfl; (· fail); rintro _ _ ⟨rfl, rfl⟩) | (apply gL; first | refine L_nil ?_ | refine yX fun _ => ?_ | refine yA fun _ => ?_ | (apply gSt; first | refine sR ?_ | refine sB ?_ | refine s1 ?_ | refine sW ?_ | refine sN ?_) | (apply gApp; apply L_appI rfl rfl rfl rfl rfl rfl; (· exact at_); (· exact tk_); (· rfl); (· omega); intro _ _) | refine kV ?_) | (apply gW; first | refine W_seq ?_ | refine W_region ?_ | refine W_ret ?_ | refine W_skip ?_) | (first | refine seqR.normal ?_ | refine seqR.ret ?_) | fail)
    refine retR.ret _ _ (retC rfl rfl at_ (by rfl)) cvt_ ⟨none, cw, sw, some br, cr, sr, ?_, h0, fun c => (by cases c), hcw, rfl⟩
    rfl
  · intro h1
    repeat' (first | (apply gSt; apply L_stc rfl rfl rfl rfl rfl rfl; (· exact at_); (· simp only [List.set_cons_zero, List.set_cons_succ]; rfl); (· exact up_); (· rfl)) | first | (apply gCall; apply L_call rfl rfl rfl rfl rfl; (· fail); rintro _ _ ⟨rfl, rfl⟩) | (apply gL; first | refine L_nil ?_ | refine yX fun _ => ?_ | refine yA fun _ => ?_ | (apply gSt; first | refine sR ?_ | refine sB ?_ | refine s1 ?_ | refine sW ?_ | refine sN ?_) | (apply gApp; apply L_appI rfl rfl rfl rfl rfl rfl; (· exact at_); (· exact tk_); (· rfl); (· omega); intro _ _) | refine kV ?_) | (apply gW; first | refine W_seq ?_ | refine W_region ?_ | refine W_ret ?_ | refine W_skip ?_) | (first | refine seqR.normal ?_ | refine seqR.ret ?_) | fail)
    refine retR.ret _ _ (retC rfl rfl at_ (by rfl)) cvt_ ⟨some bw, cw, sw, none, 0, [], ?_, h0, fun _ => h1, hcw, rfl⟩
    rfl
  · intro br cr sr hcr hcr2
    repeat' (first | (apply gSt; apply L_stc rfl rfl rfl rfl rfl rfl; (· exact at_); (· simp only [List.set_cons_zero, List.set_cons_succ]; rfl); (· exact up_); (· rfl)) | first | (apply gCall; apply L_call rfl rfl rfl rfl rfl; (· fail); rintro _ _ ⟨rfl, rfl⟩) | (apply gL; first | refine L_nil ?_ | refine yX fun _ => ?_ | refine yA fun _ => ?_ | (apply gSt; first | refine sR ?_ | refine sB ?_ | refine s1 ?_ | refine sW ?_ | refine sN ?_) | (apply gApp; apply L_appI rfl rfl rfl rfl rfl rfl; (· exact at_); (· exact tk_); (· rfl); (· omega); intro _ _) | refine kV ?_) | (apply gW; first | refine W_seq ?_ | refine W_region ?_ | refine W_ret ?_ | refine W_skip ?_) | (first | refine seqR.normal ?_ | refine seqR.ret ?_) | fail)
    refine retR.ret _ _ (retC rfl rfl at_ (by rfl)) cvt_ ⟨some bw, cw, sw, some br, cr, sr, ?_, h0, fun c => (by cases c), hcw, rfl⟩
    rfl
end Go.Proofs.YtepddopgmhdllaaGreat.Eng
namespace Go.Proofs.YtepddopgmhdllaaGreat.Eng
open Go Go.RowKit Go.Proofs.YtepddopgmhdllaaGreat.Sl Go.Proofs.YtepddopgmhdllaaGreat.Ar Go.Proofs.YtepddopgmhdllaaGreat.Base
set_option linter.unusedVariables false
set_option linter.unusedSimpArgs false
set_option maxRecDepth 10000
section
variable {P : Program} {N : Nat} {w0 w : World} {E : Env} {H H' H1 : HL} {x y : Operand} {T T2 T' : TypeId} {v : Value} {d_ : Option Tmp} {ty_ : TypeId} {pos_ : String} {af_ : Array Edge} {gd_ : Option (Nat × Bool)}
theorem v_ort {a : Int} (hx : ev E x = some (.int .u64 9223372036854775808)) (hy : ev E y = some (.int .u64 a)) (h : 0 ≤ a ∧ a < 9223372036854775808) : OpV P N w0 ⟨d_, .binOp .or T x y T2, ty_, pos_, af_, gd_⟩ E H (.int .u64 (9223372036854775808 + a)) := by
  rw [← bits_top h]; exact v_or hx hy
end
variable {w0 : World} {H : HL} {C : Cn} {A B : Ar} {m : List Int}
theorem wrap_w64 (n : Int) : IntKind.u64.wrap n = w64 n := by simp [IntKind.wrap, IntKind.bits, IntKind.signed, w64]
theorem flR_step {f : Nat} {i : Int} {B : Ar} {n : Int} (h : i < (B.vs.length : Int)) (h2 : n - i < (f : Int)) (h3 : (B.vs.length : Int) = n) : ∃ f', f = f' + 1 ∧ Ar.flR f i B = Ar.flR f' (i + 1) (B.fwR i) := by
  cases f with
  | zero => omega
  | succ f => exact ⟨f, rfl, by rw [Ar.flR, if_pos h]⟩
theorem flR_end {f : Nat} {i : Int} {B : Ar} (h : ¬ i < (B.vs.length : Int)) : Ar.flR f i B = B := by
  cases f with
  | zero => rfl
  | succ f => rw [Ar.flR, if_neg h]
theorem aObj_fwR {C : Cn} {B : Ar} {i : Int} {rp : Option Addr} {rc : Nat} : aObjG C (B.fwR i) rp rc = aObjG C (B.fwd (rT B i) (rN B i)).1 rp rc := by
  have e : (B.fwR i).vs.length = (B.fwd (rT B i) (rN B i)).1.vs.length := by
    rw [(fwd_same (A := B) (rT B i) (rN B i)).2.2.2.2.2.2]; exact List.length_set
  show Obj.cells #[_, _, _, _, _, _, _, _, _, .slice _ (B.fwR i).vs.length _] _ _ = _
  rw [e]; rfl
theorem aObj_fwR' {C : Cn} {B : Ar} {i : Int} : aObj C (B.fwR i) = aObj C (B.fwd (rT B i) (rN B i)).1 := aObj_fwR
theorem aObj_over {C : Cn} {B : Ar} {rp : Option Addr} {rc : Nat} : rObj C B.over = rObj C B ∧ wObj C B.over = wObj C B := by
  obtain ⟨o1, o2, o3, o4, o5⟩ := over_same (A := B)
  unfold rObj wObj; rw [o3, o4]; exact ⟨rfl, rfl⟩
theorem fwI_step {p : Int} {sl : List Int} {f : Nat} {i : Int} {B : Ar} (h : i < (sl.length : Int)) (h2 : (sl.length : Int) - i < (f : Int)) : ∃ f', f = f' + 1 ∧ Ar.fwI p sl f i B = Ar.fwI p sl f' (i + 1) (B.fwS (p + g sl i)) := by
  cases f with
  | zero => omega
  | succ f => exact ⟨f, rfl, by rw [Ar.fwI, if_pos h]⟩
theorem fwI_end {p : Int} {sl : List Int} {f : Nat} {i : Int} {B : Ar} (h : ¬ i < (sl.length : Int)) : Ar.fwI p sl f i B = B := by
  cases f with
  | zero => rfl
  | succ f => rw [Ar.fwI, if_neg h]
theorem stp_step {f : Nat} {d n : Int} {B : Ar} (hc : B.cyc = true) (h : d < n) (h2 : 0 < f) : ∃ f', f = f' + 1 ∧ Ar.stp f B d n = Ar.stp f' B.fwO.over (d + 1) n := by
  cases f with
  | zero => omega
  | succ f => exact ⟨f, rfl, by rw [Ar.stp, if_pos ⟨hc, h⟩]⟩
theorem stp_end {f : Nat} {d n : Int} {B : Ar} (h : ¬ (B.cyc = true ∧ d < n)) : Ar.stp f B d n = (B, d) := by
  cases f with
  | zero => rfl
  | succ f => rw [Ar.stp, if_neg h]
theorem fwd_len {A : Ar} (t n : Int) : (A.fwd t n).1.ws.length = A.ws.length := by
  unfold Ar.fwd
  split
  · split
    · rfl
    · show (List.set _ _ _).length = _; rw [List.length_set, length_copyW]
  · rfl
theorem aObj_fwS {C : Cn} {B : Ar} {a : Int} {rp : Option Addr} {rc : Nat} : aObjG C (B.fwS a) rp rc = aObjG C (B.fwd (rvT B.ws a) (rvN B.ws a)).1 rp rc := by
  have e : (B.fwS a).ws.length = (B.fwd (rvT B.ws a) (rvN B.ws a)).1.ws.length := List.length_set
  show Obj.cells #[.slice _ (B.fwS a).ws.length _, _, _, _, _, _, _, _, _, _] _ _ = _
  rw [e]; rfl
theorem aObj_fwS' {C : Cn} {B : Ar} {a : Int} : aObj C (B.fwS a) = aObj C (B.fwd (rvT B.ws a) (rvN B.ws a)).1 := aObj_fwS
/-- between two objects: what the walk of the steps needs -/
structure StI (A : Ar) (B : Ar) (m : List Int) (d : Int) : Prop where
  si : SI B m
  ne : B.cyc = true → B.scan ≠ B.top
  ln : B.ws.length = A.ws.length
  vs : B.vs = A.vs
  d0 : 0 ≤ d ∧ d ≤ 8000
  dd : B.cyc = true → d + ((B.to + 1) * B.semi - B.scan) ≤ 8000
  sr : B.serial = A.serial
theorem fwO_ser (h : SI A m) (hc : A.cyc = true) (hs : A.scan ≠ A.top) : A.fwO.serial = A.serial := by
  obtain ⟨m2, g2⟩ := fwI_all (A.sls.length + 1) 0 A m (SL.zero h hc hs) (by omega) (by omega) (by omega)
  exact g2.sr
theorem over_ser : A.over.serial = A.serial := by unfold Ar.over; split <;> rfl
theorem StI.zero (h : SI A m) : StI A A.over m 0 := by
  obtain ⟨o1, o2, o3, o4, o5⟩ := over_same (A := A)
  refine ⟨h.over, fun c => ?_, by rw [o3], o4, by omega, fun c => ?_, over_ser⟩
  · obtain ⟨a, b⟩ := over_ne c; rw [a]; exact b
  · have := SI.lt h.over c
    have := h.over.hv
    have := h.over.se
    omega
theorem StI.step {m : List Int} {d : Int} (h : StI A B m d) (hc : B.cyc = true) : ∃ m', StI A B.fwO.over m' (d + 1) ∧ B.scan + 2 ≤ B.fwO.scan ∧ (B.fwO.over.to + 1) * B.fwO.over.semi = (B.to + 1) * B.semi := by
  obtain ⟨m2, g2, e1, e2, e3, e4, e5⟩ := h.si.fwO hc (h.ne hc)
  obtain ⟨o1, o2, o3, o4, o5⟩ := over_same (A := B.fwO)
  have hd := h.dd hc
  have hl := SI.lt h.si hc
  have hne := h.ne hc
  refine ⟨m2, ⟨g2.over, fun c => ?_, by rw [o3, e4, h.ln], by rw [o4, e5, h.vs], by have := h.d0; omega, fun c => ?_, by rw [over_ser, fwO_ser h.si hc hne, h.sr]⟩, e1, by rw [o1, o2, e2, e3]⟩
  · obtain ⟨a, b⟩ := over_ne c; rw [a]; exact b
  · obtain ⟨a, b⟩ := over_ne c
    rw [a, e2, e3]; omega
def stpM (B : Ar) : Nat := if B.cyc = true then ((B.to + 1) * B.semi - B.scan).toNat + 1 else 0
theorem StI.meas {m : List Int} {d : Int} (h : StI A B m d) (hc : B.cyc = true) : stpM B.fwO.over < stpM B := by
  obtain ⟨m', h2, h3, h4⟩ := h.step hc
  unfold stpM
  rw [if_pos hc]
  split
  · rename_i c
    have hl := SI.lt h.si hc
    have := h.ne hc
    rw [h4]
    obtain ⟨a, b⟩ := over_ne c
    rw [a]; omega
  · omega
end Go.Proofs.YtepddopgmhdllaaGreat.Eng
