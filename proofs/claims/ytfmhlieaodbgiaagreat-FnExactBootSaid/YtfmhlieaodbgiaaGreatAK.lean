/- Operations: elements of several cells appended to a row that may lie nowhere; a row of elements read, written. -/
import Derived.Test.YtfmhlieaodbgiaaGreatLp
import Derived.Laws.Append
import Derived.ArgAppend
namespace Go.Proofs.YtfmhlieaodbgiaaGreat.Eng
open Go Go.RowKit Go.Proofs.YtfmhlieaodbgiaaGreat.Sl Go.Proofs.YtfmhlieaodbgiaaGreat.Ar
set_option linter.unusedVariables false
set_option linter.unusedSimpArgs false
/-- a row of elements: what each is in cells -/
def rowF {α : Type} (f : α → List Value) (xs : List α) (sp : List Value) : Array Value := (xs.flatMap f ++ sp).toArray
/-- a row that may lie nowhere -/
def oC (e : TypeId) : Option Nat → List Value → List Value → HL
  | none, _, _ => []
  | some b, xs, sp => [(b, .cells (xs ++ sp).toArray e (0, 0))]
/-- m elements of k cells, room for c -/
structure RowK (k : Nat) (bo : Option Nat) (m c : Nat) (xs sp : List Value) : Prop where
  ln : xs.length = m * k
  cp : bo ≠ none → xs.length + sp.length = c * k
  le : m ≤ c
  nil : bo = none → m = 0 ∧ c = 0 ∧ xs = [] ∧ sp = []
theorem RowK.zero {k : Nat} : RowK k none 0 0 [] [] := ⟨by simp, fun c => absurd rfl c, Nat.le_refl _, fun _ => ⟨rfl, rfl, rfl, rfl⟩⟩
section
variable {P : Program} {N : Nat} {w0 w : World} {E : Env} {H H' H1 : HL} {o : Oper} {x y z : Operand} {T T2 e ty : TypeId} {v u zv : Value} {k bytes b b1 n m c c1 : Nat} {ops : Array Oper} {rest : List Oper} {R : Post} {xs news sp sp1 : List Value}
theorem putAt_at : ∀ (vs xs sp : List Value) (i : Nat), i = xs.length → vs.length ≤ sp.length → putAt (xs ++ sp).toArray i vs = (xs ++ vs ++ sp.drop vs.length).toArray := by
  intro vs
  induction vs with
  | nil => intro xs sp i _ _; simp [putAt]
  | cons v vs ih =>
    intro xs sp i hi hl
    cases sp with
    | nil => simp at hl
    | cons s sp =>
      rw [putAt]
      have : (xs ++ s :: sp).toArray.setIfInBounds i v = ((xs ++ [v]) ++ sp).toArray := by
        subst hi
        apply Array.toList_inj.1
        simp [List.set_append]
      rw [this, ih (xs ++ [v]) sp (i + 1) (by simp; omega) (by simpa using hl)]
      simp
theorem info_k [TInfo P e zv k bytes] : ∃ i, P.info? e = some i ∧ i.zero = some zv ∧ i.size = k ∧ i.bytes = bytes := by
  have := TInfo.out (P := P) (T := e) (z := zv) (n := k) (bytes := bytes)
  cases hq : P.info? e with
  | none => simp [hq] at this
  | some i => exact ⟨i, rfl, by simpa [hq] using this⟩
theorem up_twice {o1 o2 o3 : Obj} (u : Up H b o1 o3 H') : ∃ H1, Up H b o1 o2 H1 ∧ Up H1 b o2 o3 H' := by
  induction u with
  | here => exact ⟨_, .here, .here⟩
  | there _ ih => obtain ⟨H1, u1, u2⟩ := ih; exact ⟨_, .there u1, .there u2⟩
theorem Sat.setCells {t : TypeId} : ∀ (vs : List Value) (i : Nat) (cs : Array Value) (w : World) (H H' : HL), Sat w0 H w → Up H b (.cells cs t (0, 0)) (.cells (putAt cs i vs) t (0, 0)) H' → Sat w0 H' (w.setCells b i vs) := by
  intro vs
  induction vs with
  | nil => intro i cs w H H' hs hU; rw [up_self hU rfl]; exact hs
  | cons v vs ih =>
    intro i cs w H H' hs hU
    obtain ⟨H1, u1, u2⟩ := up_twice (o2 := .cells (cs.setIfInBounds i v) t (0, 0)) hU
    rw [World.setCells]
    exact ih (i + 1) _ _ H1 H' (hs.setCell u1) u2
theorem zc_size (z : Value) (n : Nat) : (Builtin.zeroCells z.cells n).size = n * z.cells.size := by
  unfold Builtin.zeroCells
  induction n with
  | zero => simp
  | succ n ih => simp_all [List.replicate_succ, Nat.succ_mul]; try omega
/-- what is appended lies in a row of the call's own -/
theorem app_k [TSlice P T e k] [TInfo P e zv k bytes] {bo : Option Nat} (hzk : zv.cells.size = k) (hk : 0 < k) (hs : Sat w0 (oC e bo xs sp ++ H1) w) (hA : w.heap[b1]? = some (.cells (news ++ sp1).toArray e (0, 0))) (hn : news.length = n * k) (hn0 : 0 < n) (h1 : ∀ u ∈ news, u.oneCell' = true) (hR : RowK k bo m c xs sp) (hm : m + n ≤ 2000000) (hb : bytes ≤ 1000) :
    ∃ w' b' c' sp', (Builtin.append_ #[T, T] ty #[.slice (ad bo) m c, .slice (some ⟨b1, 0, none⟩) n c1]).run P w = .ok (.slice (some ⟨b', 0, none⟩) (m + n) c') w' ∧ RowK k (some b') (m + n) c' (xs ++ news) sp' ∧ Sat w0 ((b', .cells (xs ++ news ++ sp').toArray e (0, 0)) :: H1) w' := by
  obtain ⟨i, hi, hz, h2, h3⟩ := info_k (P := P) (e := e) (zv := zv) (k := k) (bytes := bytes)
  have ht := TSlice.out (P := P) (T := T) (e := e)
  have hnews : ∀ j v, news[j]? = some v → w.cell? (Addr.add ⟨b1, 0, none⟩ j) = some v := by
    intro j v hj
    rw [add_none]
    simp only [World.cell?, hA, Nat.zero_add, List.getElem?_toArray]
    rw [List.getElem?_append_left (List.getElem?_eq_some_iff.1 hj).1]; exact hj
  have hcapb : ∀ a b : Nat, a ≤ 4000000 → a * i.bytes ≤ 281474976710656 := fun a _ h => by
    rw [h3]
    have : a * bytes ≤ 4000000 * 1000 := Nat.mul_le_mul h hb
    omega
  have zlen : ∀ q : Nat, (Builtin.zeroCells zv.cells q).toList.length = q * k := fun q => by
    rw [Array.length_toList, zc_size, hzk]
  cases bo with
  | none =>
    obtain ⟨rfl, rfl, rfl, rfl⟩ := hR.nil rfl
    have := run_append_nil (P := P) w T ty e i zv ht hi hz ⟨b1, 0, none⟩ n c1 news (by rw [h2]; exact hn) hnews hn0 (by omega) (hcapb _ 0 (by omega))
    refine ⟨_, _, _, (Builtin.zeroCells zv.cells (grownCap w n 0 e - n)).toList, (by rw [Nat.zero_add]; exact this), ⟨by rw [List.nil_append, Nat.zero_add]; exact hn, fun _ => ?_, by rw [Nat.zero_add]; exact grownCap_ge w n 0 e, fun c => by cases c⟩, ?_⟩
    · have := grownCap_ge w n 0 e
      rw [zlen, List.nil_append, hn, ← Nat.add_mul]; congr 1; omega
    · have hal := (hs.drew).alloc (.cells (news.toArray ++ Builtin.zeroCells zv.cells (grownCap w n 0 e - n)) e)
      have ec : (news.toArray ++ Builtin.zeroCells zv.cells (grownCap w n 0 e - n)) = ([] ++ news ++ (Builtin.zeroCells zv.cells (grownCap w n 0 e - n)).toList).toArray := by
        apply Array.toList_inj.1; simp
      rw [ec] at hal ⊢
      exact hal
  | some b =>
    have hs : Sat w0 ((b, .cells (xs ++ sp).toArray e (0, 0)) :: H1) w := hs
    have hcap := hR.cp (by simp)
    have hln := hR.ln
    have hblk : w.heap[b]? = some (.cells (xs ++ sp).toArray e (0, 0)) := hs.block .here
    by_cases hroom : m + n ≤ c
    · have hnl : news.length ≤ sp.length := by
        have : (m + n) * k ≤ c * k := Nat.mul_le_mul_right _ hroom
        rw [Nat.add_mul] at this; omega
      have := run_append_room_cells (P := P) w T ty e i ht hi b 0 m c ⟨b1, 0, none⟩ n c1 news (by rw [h2]; exact hn) hnews h1 hroom
        (fun j hj => by rw [h2]; simp only [World.cell?, hblk]; simp; omega) (fun j hj => by simp [World.frozen?, hblk])
      rw [h2, Nat.zero_add] at this
      refine ⟨_, b, c, sp.drop news.length, this, ⟨by rw [List.length_append, hln, hn, Nat.add_mul], fun _ => by rw [List.length_append, List.length_drop]; omega, hroom, fun c => by cases c⟩, ?_⟩
      refine Sat.setCells (t := e) news (m * k) (xs ++ sp).toArray w _ _ hs ?_
      rw [putAt_at news xs sp (m * k) hln.symm hnl]
      exact Up.here
    · have := run_append_grow (P := P) w T ty e i zv ht hi hz ⟨b, 0, none⟩ m c xs (by rw [h2]; exact hln) (fun j v hj => by
          rw [add_none, hs.cell .here, Nat.zero_add]
          simp only [List.getElem?_toArray]
          rw [List.getElem?_append_left (List.getElem?_eq_some_iff.1 hj).1]; exact hj) ⟨b1, 0, none⟩ n c1 news (by rw [h2]; exact hn) hnews (by omega) (by omega) (hcapb _ 0 (by
            have := nextslicecap_le (need := m + n) (old := c) (by omega)
            omega))
      refine ⟨_, _, _, (Builtin.zeroCells zv.cells (grownCap w (m + n) c e - (m + n))).toList, this, ⟨by rw [List.length_append, hln, hn, Nat.add_mul], fun _ => ?_, grownCap_ge w (m + n) c e, fun c => by cases c⟩, ?_⟩
      · have := grownCap_ge w (m + n) c e
        rw [zlen, List.length_append, hln, hn, ← Nat.add_mul, ← Nat.add_mul]; congr 1; omega
      · have hal := (hs.drop.drew).alloc (.cells (xs.toArray ++ news.toArray ++ Builtin.zeroCells zv.cells (grownCap w (m + n) c e - (m + n))) e)
        have ec : (xs.toArray ++ news.toArray ++ Builtin.zeroCells zv.cells (grownCap w (m + n) c e - (m + n))) = (xs ++ news ++ (Builtin.zeroCells zv.cells (grownCap w (m + n) c e - (m + n))).toList).toArray := by
          apply Array.toList_inj.1; simp
        rw [ec] at hal ⊢
        exact hal
theorem L_appK {t : Tmp} [TSlice P T e k] [TInfo P e zv k bytes] {bo : Option Nat} (hw : wantE ops E o = some true) (hd : o.dst = some t) (ht : Nat.blt t N = true) (ho : o.op = .call { callee := .builtin .append, args := #[x, y], argTypes := #[T, T] })
    (hx : ev E x = some (.slice (ad bo) m c)) (hy : ev E y = some (.slice (some ⟨b1, 0, none⟩) n c1)) (hp : H.Perm (oC e bo xs sp ++ H1)) (hA : At H b1 (.cells (news ++ sp1).toArray e (0, 0))) (hzk : zv.cells.size = k) (hk : Nat.blt 0 k = true) (hn : news.length = n * k) (hn0 : 0 < n) (h1 : ∀ u ∈ news, u.oneCell' = true) (hR : RowK k bo m c xs sp) (hm : m + n ≤ 2000000) (hb : Nat.ble bytes 1000 = true)
    (hK : ∀ b' c' sp', RowK k (some b') (m + n) c' (xs ++ news) sp' → L P N w0 ops rest ((t, .slice (some ⟨b', 0, none⟩) (m + n) c') :: E) ((b', .cells (xs ++ news ++ sp').toArray e (0, 0)) :: H1) R) : L P N w0 ops (o :: rest) E H R := by
  refine L_eff (S := fun u H' => ∃ b' c' sp', u = .slice (some ⟨b', 0, none⟩) (m + n) c' ∧ RowK k (some b') (m + n) c' (xs ++ news) sp' ∧ H' = (b', .cells (xs ++ news ++ sp').toArray e (0, 0)) :: H1) hw hd ht (fun A w ha hs => ?_) (fun u H' ⟨b', c', sp', e1, e2, e3⟩ => by subst e1; subst e3; exact hK b' c' sp' e2)
  rw [exec_builtin _ ho]
  obtain ⟨w', b', c', sp', g1, g2, g3⟩ := app_k (P := P) (T := T) (e := e) (k := k) (bytes := bytes) (zv := zv) (ty := o.type) (c1 := c1) hzk (by simpa using hk) (hs.perm hp) (hs.block hA) hn hn0 h1 hR hm (Nat.le_of_ble_eq_true hb)
  refine ⟨_, w', _, run_v ?_, g3, b', c', sp', rfl, g2, rfl⟩
  simp only [List.map_toArray, List.map_cons, List.map_nil, ha.eval hx, ha.eval hy]
  exact g1
theorem fold_set : ∀ (l : List Value) (s : Nat) (z : Array Value), (l.zipIdx s).foldl (fun acc p => acc.setIfInBounds (0 + p.2) p.1) z = putAt z s l := by
  intro l
  induction l with
  | nil => intro s z; rfl
  | cons v l ih =>
    intro s z
    rw [List.zipIdx_cons, List.foldl_cons, putAt, ih]
    simp
/-- a slice of one element of several cells -/
theorem L_bs1K {t : Tmp} {cs : Array Value} [TSlice P T e k] [TInfo P e zv k bytes] (hw : wantE ops E o = some true) (hd : o.dst = some t) (ht : Nat.blt t N = true) (ho : o.op = .buildSlice T 1 #[(0, x)]) (hx : ev E x = some v) (hv : v.cells = cs) (hc : cs.size = k) (hzk : zv.cells.size = k) (hk0 : (Nat.blt 0 k && Nat.ble k 1000) = true)
    (hk : ∀ b, L P N w0 ops rest ((t, .slice (some ⟨b, 0, none⟩) 1 1) :: E) ((b, .cells cs e (0, 0)) :: H) R) : L P N w0 ops (o :: rest) E H R :=
  L_eff (S := fun u H' => ∃ b, u = .slice (some ⟨b, 0, none⟩) 1 1 ∧ H' = (b, .cells cs e (0, 0)) :: H) hw hd ht (fun A w ha hs => by
    obtain ⟨i, hi, hz, h2, h3⟩ := info_k (P := P) (e := e) (zv := zv) (k := k) (bytes := bytes)
    refine ⟨.slice (some ⟨w.heap.size, 0, none⟩) 1 1, w.alloc (.cells cs e), _, ?_, hs.alloc _, _, rfl, rfl⟩
    unfold execOp; rw [ho]; refine run_v ?_
    have hzv : (zeroValue e).run P w = .ok zv w := by simp [zeroValue, typeInfo, hi, hz]
    simp only [Bool.and_eq_true, Nat.blt_eq, Nat.ble_eq] at hk0
    have hmz : ((Array.range k).map (zv.cells[· % zv.cells.size]!)).size = k := by simp
    have hfl : Instr.fill (fun i => some (i * k, k)) ((Array.range k).map (zv.cells[· % zv.cells.size]!)) [(0, v)] = some cs := by
      generalize (Array.range k).map (zv.cells[· % zv.cells.size]!) = Z at hmz ⊢
      have hf : (v.cells.zipIdx.foldl (fun cs (c, j) => cs.setIfInBounds (0 * k + j) c) Z) = cs := by
        have h := fold_set v.cells.toList 0 Z
        have hp := putAt_at v.cells.toList [] Z.toList 0 rfl (by rw [hv]; simp [hc, hmz])
        rw [← Array.foldl_toList, Array.toList_zipIdx]
        rw [Nat.zero_mul]
        refine h.trans ?_
        have e1 : ([] ++ Z.toList).toArray = Z := by simp
        rw [e1] at hp
        rw [hp, hv]
        apply Array.toList_inj.1
        simp [hc, hmz]
      unfold Instr.fill
      simp only []
      rw [if_neg (by simp [hv, hc, hmz])]
      unfold Instr.fill
      rw [hf]
    unfold Instr.buildSlice
    have hne : ¬ (2 ^ 24 < k) := by omega
    have hne0 : ¬ (k = 0) := by omega
    simp only [Sem.run_bind, Sem.run_pure, Result.andThen_ok, run_underlying (TSlice.out (P := P) (T := T)), run_sizeOf (TSlice.size (P := P) (T := T)), Nat.one_mul, gt_iff_lt, hne, hne0, if_false, hzv, List.map_toArray, List.map_cons, List.map_nil]
    simp [ha.eval hx, hfl, run_newRow]) (fun u H' ⟨b, e1, e2⟩ => by subst e1; subst e2; exact hk b)
/-- no block at all is appended from a row without elements -/
theorem rowF_get {α : Type} {f : α → List Value} {sp : List Value} (hf : ∀ a, (f a).length = k) : ∀ (l : List α) (i j : Nat) (a : α), l[i]? = some a → j < k → (rowF f l sp).toList[i * k + j]? = (f a)[j]? := by
  intro l
  induction l with
  | nil => intro i j a h; simp at h
  | cons b l ih =>
    intro i j a h hj
    simp only [rowF, List.flatMap_cons, List.append_assoc] at ih ⊢
    cases i with
    | zero =>
      simp only [List.getElem?_cons_zero, Option.some.injEq] at h
      subst h
      rw [Nat.zero_mul, Nat.zero_add, List.getElem?_append_left (by rw [hf]; exact hj)]
    | succ i =>
      rw [List.getElem?_append_right (by rw [hf, Nat.succ_mul]; omega), hf, show (i + 1) * k + j - k = i * k + j by rw [Nat.succ_mul]; omega]
      exact ih i j a (by simpa using h) hj
end
end Go.Proofs.YtfmhlieaodbgiaaGreat.Eng
