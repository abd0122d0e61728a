/- Modules in memory whose blocks are known; a whole row appended to an empty one. -/
import Derived.Test.YtfmhlieaodbgiaaGreatB8
import Derived.Test.YtfmhlieaodbgiaaGreatBA
import Derived.Test.YtfmhlieaodbgiaaGreatL3
namespace Go.Proofs.YtfmhlieaodbgiaaGreat.Eng
open Go Go.RowKit Go.Proofs.YtfmhlieaodbgiaaGreat.Sl Go.Proofs.YtfmhlieaodbgiaaGreat.Ar Go.Proofs.YtfmhlieaodbgiaaGreat.Base
set_option linter.unusedVariables false
set_option linter.unusedSimpArgs false
set_option maxRecDepth 10000
theorem TkG.app {H G R X : HL} (h : TkG H G R) : TkG (X ++ H) G (X ++ R) := by
  induction X with
  | nil => exact h
  | cons p X ih => exact .there ih
/-- the rows of functions -/
def pHL : List (PR × PA) → HL
  | [] => []
  | x :: l => oC 106 x.2.ub (x.1.ups.flatMap upC) x.2.us ++ (oC 80 x.2.cb (flat x.1.code) x.2.cs ++ pHL l)
def POk (x : PR × PA) : Prop := (x.2.ub = none → x.1.ups = []) ∧ (x.2.cb = none → x.1.code = [])
/-- all blocks of a module -/
def mHL (M : Md) (X : MA) : HL := pHL (M.pr.zip X.aa) ++ (oC 58 X.pb ((M.pr.zip X.aa).flatMap prC) X.ps ++ oC 9 X.tb (M.tx.flatMap tsC) X.ts)
structure MOk (M : Md) (X : MA) : Prop where
  la : X.aa.length = M.pr.length
  pk : ∀ x ∈ M.pr.zip X.aa, POk x
  pn : X.pb = none → M.pr = []
  tn : X.tb = none → M.tx = []
theorem pHL_append (xs ys : List (PR × PA)) : pHL (xs ++ ys) = pHL xs ++ pHL ys := by
  induction xs with
  | nil => rfl
  | cons x xs ih => simp [pHL, ih]
section
variable {H X Y G R' : HL} {p : Nat × Obj} {bo : Option Nat} {M : Md} {XA : MA}
theorem RUp.app {xs : List (Bool × Int)} (h : RUp H bo xs) : RUp (X ++ H) bo xs := by cases bo with | none => exact h | some b => obtain ⟨s, h⟩ := h; exact ⟨s, At.app h⟩
theorem RIn.app {xs : List (Int × Int)} (h : RIn H bo xs) : RIn (X ++ H) bo xs := by cases bo with | none => exact h | some b => obtain ⟨s, h⟩ := h; exact ⟨s, At.app h⟩
theorem RTx.app {xs : List (List Int)} (h : RTx H bo xs) : RTx (X ++ H) bo xs := by cases bo with | none => exact h | some b => obtain ⟨s, h⟩ := h; exact ⟨s, At.app h⟩
theorem RPr.app {xs : List (PR × PA)} (h : RPr H bo xs) : RPr (X ++ H) bo xs := by cases bo with | none => exact h | some b => obtain ⟨s, h⟩ := h; exact ⟨s, At.app h⟩
theorem RUp.left {xs : List (Bool × Int)} (h : RUp G bo xs) : RUp (G ++ R') bo xs := by cases bo with | none => exact h | some b => obtain ⟨s, h⟩ := h; exact ⟨s, At.left h⟩
theorem RIn.left {xs : List (Int × Int)} (h : RIn G bo xs) : RIn (G ++ R') bo xs := by cases bo with | none => exact h | some b => obtain ⟨s, h⟩ := h; exact ⟨s, At.left h⟩
theorem RTx.left {xs : List (List Int)} (h : RTx G bo xs) : RTx (G ++ R') bo xs := by cases bo with | none => exact h | some b => obtain ⟨s, h⟩ := h; exact ⟨s, At.left h⟩
theorem RPr.left {xs : List (PR × PA)} (h : RPr G bo xs) : RPr (G ++ R') bo xs := by cases bo with | none => exact h | some b => obtain ⟨s, h⟩ := h; exact ⟨s, At.left h⟩
theorem RM.app (h : RM H M XA) : RM (X ++ H) M XA := ⟨h.la, h.pr.app, h.tx.app, fun i p a hp ha => ⟨(h.up i p a hp ha).1.app, (h.up i p a hp ha).2.app⟩, h.by_⟩
theorem RM.left (h : RM G M XA) : RM (G ++ R') M XA := ⟨h.la, h.pr.left, h.tx.left, fun i p a hp ha => ⟨(h.up i p a hp ha).1.left, (h.up i p a hp ha).2.left⟩, h.by_⟩
theorem pHL_at : ∀ {l : List (PR × PA)}, (∀ x ∈ l, POk x) → ∀ x ∈ l, RUp (pHL l) x.2.ub x.1.ups ∧ RIn (pHL l) x.2.cb x.1.code
  | [], _, x, hx => by cases hx
  | y :: l, h, x, hx => by
    rw [pHL]
    rcases List.mem_cons.1 hx with rfl | hx
    · have hk := h x List.mem_cons_self
      refine ⟨RUp.left ?_, RIn.app (RIn.left ?_)⟩
      · cases hb : x.2.ub with
        | none => exact hk.1 hb
        | some b => exact ⟨_, .here⟩
      · cases hb : x.2.cb with
        | none => exact hk.2 hb
        | some b => exact ⟨_, .here⟩
    · obtain ⟨a, b⟩ := pHL_at (fun z hz => h z (List.mem_cons_of_mem _ hz)) x hx
      exact ⟨RUp.app (RUp.app a), RIn.app (RIn.app b)⟩
theorem RM.of (h : MOk M XA) (hb : ∀ t ∈ M.tx, Byt t) : RM (mHL M XA) M XA := by
  have hz : ∀ {i : Nat} {p : PR} {a : PA}, M.pr[i]? = some p → XA.aa[i]? = some a → (p, a) ∈ M.pr.zip XA.aa := fun {i p a} hp ha => by
    apply List.mem_of_getElem? (i := i)
    rw [List.getElem?_zip_eq_some]; exact ⟨hp, ha⟩
  refine ⟨h.la, RPr.app (RPr.left ?_), RTx.app (RTx.app ?_), fun i p a hp ha => ?_, hb⟩
  · cases hb : XA.pb with
    | none => show M.pr.zip XA.aa = []; rw [h.pn hb]; rfl
    | some b => exact ⟨_, .here⟩
  · cases hb : XA.tb with
    | none => exact h.tn hb
    | some b => exact ⟨_, .here⟩
  · obtain ⟨a1, a2⟩ := pHL_at h.pk _ (hz hp ha)
    exact ⟨RUp.left a1, RIn.left a2⟩
end
/-- a row of cells that is there -/
def RC (H : HL) (e : TypeId) : Option Nat → List Value → Prop
  | none, xs => xs = []
  | some b, xs => ∃ sp, At H b (.cells (xs ++ sp).toArray e (0, 0))
section
variable {H X : HL} {p : Nat × Obj} {bo : Option Nat} {e : TypeId} {l : List Value}
theorem RC.there (h : RC H e bo l) : RC (p :: H) e bo l := by cases bo with | none => exact h | some b => obtain ⟨s, h⟩ := h; exact ⟨s, .there h⟩
theorem RC.app (h : RC H e bo l) : RC (X ++ H) e bo l := by cases bo with | none => exact h | some b => obtain ⟨s, h⟩ := h; exact ⟨s, At.app h⟩
theorem RUp.rc {xs : List (Bool × Int)} (h : RUp H bo xs) : RC H 106 bo (xs.flatMap upC) := by cases bo with | none => rw [show xs = [] from h]; rfl | some b => exact h
theorem RIn.rc {xs : List (Int × Int)} (h : RIn H bo xs) : RC H 80 bo (flat xs) := by cases bo with | none => rw [show xs = [] from h]; rfl | some b => exact h
theorem RTx.rc {xs : List (List Int)} (h : RTx H bo xs) : RC H 9 bo (xs.flatMap tsC) := by cases bo with | none => rw [show xs = [] from h]; rfl | some b => exact h
end
section
variable {P : Program} {N : Nat} {w0 w : World} {E : Env} {H H' H1 : HL} {o : Oper} {x y z : Operand} {T T2 e ty : TypeId} {v u zv : Value} {k bytes b b1 m c : Nat} {ops : Array Oper} {rest : List Oper} {R : Post} {news sp : List Value}
theorem app_nn [TSlice P T e k] [TInfo P e zv k bytes] : (Builtin.append_ #[T, T] ty #[.slice none 0 0, .slice none 0 c]).run P w = .ok (.slice none 0 0) w := by
  obtain ⟨i, hi, h1, h2, h3⟩ := info_of (P := P) (e := e) (zv := zv) (k := k) (bytes := bytes)
  have ht := TSlice.out (P := P) (T := T) (e := e)
  simp [Builtin.append_, run_underlying ht, sizeOf, typeInfo, hi, Builtin.lenOf, Builtin.firstCells, loadCells, loadCellsFrom]
theorem app_en [TSlice P T e k] [TInfo P e zv k bytes] {a : Addr} : (Builtin.append_ #[T, T] ty #[.slice (some a) 0 0, .slice none 0 c]).run P w = .ok (.slice (some a) 0 0) w := by
  obtain ⟨i, hi, h1, h2, h3⟩ := info_of (P := P) (e := e) (zv := zv) (k := k) (bytes := bytes)
  have ht := TSlice.out (P := P) (T := T) (e := e)
  simp [Builtin.append_, run_underlying ht, sizeOf, typeInfo, hi, Builtin.lenOf, Builtin.firstCells, loadCells, loadCellsFrom, storeCells]
theorem L_appN0 {t : Tmp} {bs : Option Nat} [TSlice P T e k] [TInfo P e zv k bytes] (hw : wantE ops E o = some true) (hd : o.dst = some t) (ht : Nat.blt t N = true) (ho : o.op = .call { callee := .builtin .append, args := #[x, y], argTypes := #[T, T] })
    (hx : ev E x = some (.slice none 0 0)) (hy : ev E y = some (.slice (ad bs) m c)) (hS : RC H e bs news) (hn : news.length = m * k) (hk : Nat.blt 0 k = true) (hm : m ≤ 1048576) (hb : Nat.ble bytes 1000 = true)
    (h0 : m = 0 → L P N w0 ops rest ((t, .slice none 0 0) :: E) H R)
    (hK : ∀ b' c' sp', 0 < m → m ≤ c' → L P N w0 ops rest ((t, .slice (some ⟨b', 0, none⟩) m c') :: E) ((b', .cells (news ++ sp').toArray e (0, 0)) :: H) R) : L P N w0 ops (o :: rest) E H R := by
  cases bs with
  | some bs => obtain ⟨sp, hA⟩ := hS; exact L_appN hw hd ht ho hx hy hA hn hk hm hb h0 hK
  | none =>
    have hk' : 0 < k := Nat.le_of_ble_eq_true hk
    have hm0 : m = 0 := by
      rw [show news = [] from hS] at hn
      cases m with
      | zero => rfl
      | succ m => rw [List.length_nil, Nat.succ_mul] at hn; omega
    subst hm0
    refine L_eff (S := fun u H' => u = .slice none 0 0 ∧ H' = H) hw hd ht (fun A w ha hs => ?_) (fun u H' ⟨e1, e2⟩ => by subst e1; subst e2; exact h0 rfl)
    rw [exec_builtin _ ho]
    refine ⟨_, w, _, run_v ?_, hs, rfl, rfl⟩
    simp only [List.map_toArray, List.map_cons, List.map_nil, ha.eval hx, ha.eval hy]
    exact app_nn (k := k) (zv := zv) (bytes := bytes)
theorem L_appO {t : Tmp} {bs : Option Nat} [TSlice P T e k] [TInfo P e zv k bytes] (hw : wantE ops E o = some true) (hd : o.dst = some t) (ht : Nat.blt t N = true) (ho : o.op = .call { callee := .builtin .append, args := #[x, y], argTypes := #[T, T] })
    (hx : ev E x = some (.slice none 0 0)) (hy : ev E y = some (.slice (ad bs) m c)) (hS : RC H e bs news) (hn : news.length = m * k) (hk : Nat.blt 0 k = true) (hm : m ≤ 1048576) (hb : Nat.ble bytes 1000 = true)
    (hK : ∀ bo c' sp', (bo = none → m = 0) → L P N w0 ops rest ((t, .slice (ad bo) m c') :: E) (oC e bo news sp' ++ H) R) : L P N w0 ops (o :: rest) E H R :=
  L_appN0 hw hd ht ho hx hy hS hn hk hm hb (fun h => by subst h; exact hK none 0 [] (fun _ => rfl)) (fun b' c' sp' h0 h1 => hK (some b') c' sp' (fun c => by cases c))
theorem L_appE0 {t : Tmp} {bs : Option Nat} [TSlice P T e k] [TInfo P e zv k bytes] (hw : wantE ops E o = some true) (hd : o.dst = some t) (ht : Nat.blt t N = true) (ho : o.op = .call { callee := .builtin .append, args := #[x, y], argTypes := #[T, T] })
    (hx : ev E x = some (.slice (some ⟨b, 0, none⟩) 0 0)) (hy : ev E y = some (.slice (ad bs) m c)) (hS : RC H e bs news) (hn : news.length = m * k) (hT : Tk H b (.cells #[] e (0, 0)) H1) (hk : Nat.blt 0 k = true) (hm : m ≤ 1048576) (hb : Nat.ble bytes 1000 = true)
    (hK : ∀ b' c' sp', m ≤ c' → L P N w0 ops rest ((t, .slice (some ⟨b', 0, none⟩) m c') :: E) ((b', .cells (news ++ sp').toArray e (0, 0)) :: H1) R) : L P N w0 ops (o :: rest) E H R := by
  cases bs with
  | some bs => obtain ⟨sp, hA⟩ := hS; exact L_appE hw hd ht ho hx hy hA hn hT hk hm hb hK
  | none =>
    have hk' : 0 < k := Nat.le_of_ble_eq_true hk
    have hnn : news = [] := hS
    have hm0 : m = 0 := by
      rw [hnn] at hn
      cases m with
      | zero => rfl
      | succ m => rw [List.length_nil, Nat.succ_mul] at hn; omega
    subst hm0 hnn
    refine L_eff (S := fun u H' => u = .slice (some ⟨b, 0, none⟩) 0 0 ∧ H' = (b, .cells ([] ++ []).toArray e (0, 0)) :: H1) hw hd ht (fun A w ha hs => ?_) (fun u H' ⟨e1, e2⟩ => by subst e1; subst e2; exact hK b 0 [] (Nat.le_refl _))
    rw [exec_builtin _ ho]
    refine ⟨_, w, _, run_v ?_, hs.perm hT.perm, rfl, rfl⟩
    simp only [List.map_toArray, List.map_cons, List.map_nil, ha.eval hx, ha.eval hy]
    exact app_en (k := k) (zv := zv) (bytes := bytes)
end
theorem upLen' (xs : List (Bool × Int)) : (xs.flatMap upC).length = xs.length * 2 := by induction xs with | nil => rfl | cons x xs ih => simp [upC, ih]; omega
theorem prLen' (xs : List (PR × PA)) : (xs.flatMap prC).length = xs.length * 4 := by induction xs with | nil => rfl | cons x xs ih => simp [prC, ih]; omega
theorem tsLen' (xs : List (List Int)) : (xs.flatMap tsC).length = xs.length * 1 := by induction xs with | nil => rfl | cons x xs ih => simp [tsC, ih]
theorem flLen' (xs : List (Int × Int)) : (flat xs).length = xs.length * 2 := by rw [length_flat]; omega
end Go.Proofs.YtfmhlieaodbgiaaGreat.Eng
