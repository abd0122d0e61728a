/- The law's own: rows of elements that came in, made, partly written; their sizes. -/
import Derived.Test.YtfmhlieaodbgiaaGreatBC
namespace Go.Proofs.YtfmhlieaodbgiaaGreat.Eng
open Go Go.RowKit Go.Proofs.YtfmhlieaodbgiaaGreat.Sl Go.Proofs.YtfmhlieaodbgiaaGreat.Ar Go.Proofs.YtfmhlieaodbgiaaGreat.Base
set_option linter.unusedVariables false
set_option linter.unusedSimpArgs false
set_option maxRecDepth 10000
/-- a row of elements that came in -/
structure InF (w0 : World) {α : Type} (k : Nat) (f : α → List Value) (a : Option Addr) (xs : List α) : Prop where
  le : (xs.length : Int) ≤ 9223372036854775807
  row : ∀ (i : Nat) (e : α), xs[i]? = some e → ∃ x, a = some x ∧ ∀ (j : Nat) (v : Value), (f e)[j]? = some v → w0.cell? ((x.add (i * k)).add j) = some v
/-- the first i elements written, the others not -/
def mix {α : Type} (i : Nat) (ms xs : List α) : List α := ms.take i ++ xs.drop i
section
variable {α : Type} {ms xs : List α} {i : Nat} {m : α}
theorem mix_0 : mix 0 ms xs = xs := by simp [mix]
theorem mix_all (h : ms.length = xs.length) (hi : xs.length ≤ i) : mix i ms xs = ms := by simp [mix, List.take_of_length_le (by omega : ms.length ≤ i), List.drop_of_length_le (by omega : xs.length ≤ i)]
theorem mix_len (h : ms.length = xs.length) : (mix i ms xs).length = xs.length := by simp [mix]; omega
theorem mix_get (h : ms.length = xs.length) (hi : i < xs.length) : (mix i ms xs)[i]? = xs[i]? := by
  unfold mix
  rw [List.getElem?_append_right (by simp; omega), List.length_take, Nat.min_eq_left (by omega), List.getElem?_drop]; congr 1; omega
theorem mix_set (h : ms.length = xs.length) (e : ms[i]? = some m) : (mix i ms xs).set i m = mix (i + 1) ms xs := by
  have hi := (List.getElem?_eq_some_iff.1 e).1
  unfold mix
  rw [List.set_append_right _ _ (by simp; omega), List.length_take, Nat.min_eq_left (by omega), Nat.sub_self, List.take_add_one, e, List.append_assoc]
  congr 1
  rw [List.drop_eq_getElem_cons (by omega : i < xs.length)]
  rfl
end
theorem rowF_put {α : Type} {f : α → List Value} {k : Nat} {sp : List Value} (hf : ∀ a, (f a).length = k) {xs : List α} {i : Nat} {a : α} (hi : i < xs.length) : putAt (rowF f xs sp) (i * k) (f a) = rowF f (xs.set i a) sp := by
  have e : xs = xs.take i ++ xs.drop i := (List.take_append_drop i xs).symm
  have e2 : xs.drop i = xs[i] :: xs.drop (i + 1) := List.drop_eq_getElem_cons hi
  have hl : ((xs.take i).flatMap f).length = i * k := by rw [rowF_len hf, List.length_take, Nat.min_eq_left (by omega)]
  have h1 : rowF f xs sp = ((xs.take i).flatMap f ++ ((xs.drop i).flatMap f ++ sp)).toArray := by
    unfold rowF
    rw [← List.append_assoc, ← List.flatMap_append, List.take_append_drop]
  have hdr : (xs.drop i).flatMap f = f xs[i] ++ (xs.drop (i + 1)).flatMap f := by rw [e2, List.flatMap_cons]
  have hdd : ((xs.drop i).flatMap f ++ sp).drop (f a).length = (xs.drop (i + 1)).flatMap f ++ sp := by
    rw [hdr, hf a, ← hf xs[i], List.append_assoc, List.drop_left]
  rw [h1, putAt_at (f a) _ _ _ hl.symm (by rw [hdr, List.length_append, List.length_append, hf, hf]; omega), hdd]
  unfold rowF
  rw [List.set_eq_take_append_cons_drop, if_pos hi, List.flatMap_append, List.flatMap_cons]
  simp only [List.append_assoc]
theorem made_F {α : Type} {f : α → List Value} {k n : Nat} {z : α} (hf : ∀ a, (f a).length = k) (hk : 0 < k) : madeCells (f z).toArray (n * k) = rowF f (List.replicate n z) [] := by
  apply Array.toList_inj.1
  apply List.ext_getElem?
  intro i
  by_cases h : i < n * k
  · have hd : i / k < n := by rw [Nat.div_lt_iff_lt_mul hk]; exact h
    have hm : i % k < k := Nat.mod_lt _ hk
    have := rowF_get (sp := []) hf (List.replicate n z) (i / k) (i % k) z (by rw [List.getElem?_replicate, if_pos hd]) hm
    rw [show i / k * k + i % k = i by rw [Nat.mul_comm]; exact Nat.div_add_mod i k] at this
    rw [this]
    have hl : i % k < (f z).length := by rw [hf]; exact hm
    simp [madeCells, h, hf, Array.getElem?_range, hl]
    rw [List.getElem?_eq_getElem hl]; rfl
  · rw [List.getElem?_eq_none (by simp [madeCells]; omega), List.getElem?_eq_none (by
      show (rowF f (List.replicate n z) []).toList.length ≤ i
      simp only [rowF, List.append_nil]; rw [rowF_len hf, List.length_replicate]; omega)]
section
variable {P : Program} {N : Nat} {w0 : World} {E : Env} {H H' : HL} {o : Oper} {x y z : Operand} {T T2 e : TypeId} {v u zv : Value} {k bytes : Nat} {kk : IntKind} {a : Int} {ops : Array Oper} {rest : List Oper} {R : Post} {d_ : Option Tmp} {ty_ : TypeId} {pos_ : String} {af_ : Array Edge} {gd_ : Option (Nat × Bool)}
theorem L_makeF {α : Type} {f : α → List Value} {z0 : α} {t : Tmp} {m : Nat} [TSlice P T e k] [TInfo P e zv k bytes] (hw : wantE ops E o = some true) (hd : o.dst = some t) (ht : Nat.blt t N = true) (ho : o.op = .makeSlice T x y)
    (hx : ev E x = some (.int .i64 (m : Int))) (hy : ev E y = some (.int .i64 (m : Int))) (hf : ∀ a, (f a).length = k) (hk0 : Nat.blt 0 k = true) (hz : zv.cells = (f z0).toArray) (hb : Nat.ble bytes 1000 = true) (hm : m ≤ 1048576)
    (hk : ∀ b, L P N w0 ops rest ((t, .slice (some ⟨b, 0, none⟩) m m) :: E) ((b, .cells (rowF f (List.replicate m z0) []) e (0, 0)) :: H) R) : L P N w0 ops (o :: rest) E H R :=
  L_make hw hd ht ho hx hy (by
    have h1 : bytes ≤ 1000 := Nat.le_of_ble_eq_true hb
    have : bytes * m ≤ 1000 * 1048576 := Nat.mul_le_mul h1 hm
    omega) (by omega) (fun b => by rw [hz, made_F hf (Nat.le_of_ble_eq_true hk0)]; exact hk b)
theorem L_stFW {α : Type} {f : α → List Value} {xs : List α} {i bk : Nat} {us : Array Value} {a' : α} {sp : List Value} [TAgg P T k] (hw : wantE ops E o = some true) (hd : o.dst = none) (ho : o.op = .store T x y) (hx : ev E x = some (.pointer (some ⟨bk, 0 + i * k, none⟩))) (hy : ev E y = some (.agg us)) (hu : us.toList = f a') (hf : ∀ a, (f a).length = k) (h1 : (f a').all (·.oneCell') = true)
    (hU : Up H bk (.cells (rowF f xs sp) e (0, 0)) (.cells (rowF f (xs.set i a') sp) e (0, 0)) H') (hi : i < xs.length) (hk : L P N w0 ops rest E H' R) : L P N w0 ops (o :: rest) E H R :=
  L_stN hw hd ho hx hy (by rw [hu, hf]) (by rw [hu]; exact h1) (by rw [hu, Nat.zero_add, rowF_put hf hi]; exact hU) (by
    have h2 : (i + 1) * k ≤ xs.length * k := Nat.mul_le_mul_right _ hi
    rw [Nat.succ_mul] at h2
    have h3 : (rowF f xs sp).size = (xs.flatMap f).length + sp.length := by simp [rowF]
    rw [h3, rowF_len hf]; omega) hk
theorem v_ldAN {p : Addr} {vs : List Value} {n : Nat} [TAgg P T n] (hx : ev E x = some (.pointer (some p))) (hn : vs.length = n) (hc : ∀ (j : Nat) (v : Value), vs[j]? = some v → w0.cell? (p.add j) = some v) : OpV P N w0 ⟨d_, .load T x, ty_, pos_, af_, gd_⟩ E H (.agg vs.toArray) := by
  refine ⟨fun A w ha hs => ?_⟩
  obtain ⟨d, g1, g2⟩ := TAgg.agg (P := P) (T := T) (n := n)
  unfold execOp; refine run_v ?_; rw [ha.eval hx]
  have hc := run_loadCells_list (P := P) w p vs (fun j s hj => Sat_old hs (hc j s hj))
  rw [hn] at hc
  simp [Instr.loadAt, Instr.sureAddr, loadVar, run_isAgg g1 g2, run_sizeOf (TAgg.size (P := P) (T := T) (n := n)), hc]
theorem add_0 (p : Addr) : p.add 0 = p := by cases p; simp [Addr.add]
theorem v_ldA1 {p : Addr} [TOne P T] (hx : ev E x = some (.pointer (some p))) (hc : w0.cell? (p.add 0) = some v) : OpV P N w0 ⟨d_, .load T x, ty_, pos_, af_, gd_⟩ E H v := v_ldA hx (by rwa [add_0] at hc)
end
/-- where the rows of a function that came in lie -/
structure IA where
  ua : Option Addr
  uc : Nat
  ca : Option Addr
  cc : Nat
def inC (x : Int × Int) : List Value := [.int .i64 x.1, .int .i64 x.2]
def ipC (x : PR × IA) : List Value := [.int .i64 x.1.pa, .int .i64 x.1.sl, .slice x.2.ua x.1.ups.length x.2.uc, .slice x.2.ca x.1.code.length x.2.cc]
theorem inLen : ∀ (x : Int × Int), (inC x).length = 2 := fun x => rfl
theorem ipLen : ∀ (x : PR × IA), (ipC x).length = 4 := fun x => rfl
theorem flat_inC (vs : List (Int × Int)) : flat vs = vs.flatMap inC := flat_flatMap vs
/-- a module that came in -/
structure InM (w0 : World) (aP aT : Option Addr) (l : List (PR × IA)) (tx : List (List Int)) : Prop where
  hp : InF w0 4 ipC aP l
  ht : InF w0 1 tsC aT tx
  hu : ∀ x ∈ l, InF w0 2 upC x.2.ua x.1.ups ∧ InF w0 2 inC x.2.ca x.1.code
  hb : ∀ t ∈ tx, Byt t
def szP : List PR → Int
  | [] => 0
  | p :: l => ((p.ups.length : Int) + p.code.length) + szP l
def szT : List (List Int) → Int
  | [] => 0
  | t :: l => (t.length : Int) + szT l
theorem szP_app (l l' : List PR) : szP (l ++ l') = szP l + szP l' := by induction l with | nil => simp [szP] | cons p l ih => simp [szP, ih]; omega
theorem szT_app (l l' : List (List Int)) : szT (l ++ l') = szT l + szT l' := by induction l with | nil => simp [szT] | cons p l ih => simp [szT, ih]; omega
theorem szP_nn (l : List PR) : 0 ≤ szP l := by induction l with | nil => simp [szP] | cons p l ih => simp [szP]; omega
theorem szT_nn (l : List (List Int)) : 0 ≤ szT l := by induction l with | nil => simp [szT] | cons p l ih => simp [szT]; omega
theorem szP_mem {l : List PR} {p : PR} (h : p ∈ l) : (p.ups.length : Int) + p.code.length ≤ szP l := by
  induction l with
  | nil => cases h
  | cons q l ih =>
    have := szP_nn l
    rcases List.mem_cons.1 h with rfl | h
    · simp [szP]; omega
    · have := ih h; simp [szP]; omega
/-- what is left behind n things, or none -/
def SzR (l n : Int) (v : Value) : Prop := ∃ r : Int, v = .int .i64 r ∧ (r = -1 ∨ (0 ≤ r ∧ r = l - n))
variable {w0 : World} {H : HL}
theorem szUpS_c {a : Option Addr} {c : Nat} {xs : List (Bool × Int)} {l : Int} (h1 : (xs.length : Int) ≤ 9223372036854775807) (hl : 0 ≤ l ∧ l ≤ 1048576) :
    Fn Tryz.prog w0 67 #[.slice a xs.length c, .int .i64 l] H fun v H' => SzR l xs.length v ∧ H' = H := by
  refine enter2 Tryz.func67 rfl rfl Tryz.ntmps67 rfl ?_
  repeat' (first | (apply gCall; apply L_call rfl rfl rfl rfl rfl; (· fail); rintro _ _ ⟨rfl, rfl⟩) | (apply gL; first | refine L_nil ?_ | refine yX fun _ => ?_ | refine kV ?_ | (apply L_val rfl rfl rfl; (· first | (apply gBin; first | fail ) | fail | exact v_ldAN rfl (ipLen _) hcell | exact v_ldA1 rfl (hcell 0 _ rfl) | exact v_idxA rfl rfl om | exact v_lenz rfl))) | (apply gW; first | refine W_seq ?_ | refine W_region ?_ | refine W_ret ?_ | refine W_skip ?_ | refine W_block ?_ | refine W_exit ?_ | refine W_cond1 rfl ?_ | refine W_cond0 rfl ?_ | refine cW (fun h => ?_) fun h => ?_) | (first | refine seqR.normal ?_ | refine seqR.ret ?_ | refine seqR.exit ?_ | refine blockR.normal ?_ | refine blockR.ret ?_ | refine blockR.here ?_ | refine blockR.exit rfl ?_ | refine loopR.ret ?_ | refine loopR.exit ?_) | fail)
  all_goals refine retR.ret _ _ (ret1 rfl rfl) cvt_ ⟨⟨_, rfl, ?_⟩, rfl⟩
  · exact .inl rfl
  · exact .inr ⟨by omega, rfl⟩
theorem szInsS_c {a : Option Addr} {c : Nat} {xs : List (Int × Int)} {l : Int} (h1 : (xs.length : Int) ≤ 9223372036854775807) (hl : 0 ≤ l ∧ l ≤ 1048576) :
    Fn Tryz.prog w0 68 #[.slice a xs.length c, .int .i64 l] H fun v H' => SzR l xs.length v ∧ H' = H := by
  refine enter2 Tryz.func68 rfl rfl Tryz.ntmps68 rfl ?_
  repeat' (first | (apply gCall; apply L_call rfl rfl rfl rfl rfl; (· fail); rintro _ _ ⟨rfl, rfl⟩) | (apply gL; first | refine L_nil ?_ | refine yX fun _ => ?_ | refine kV ?_ | (apply L_val rfl rfl rfl; (· first | (apply gBin; first | fail ) | fail | exact v_ldAN rfl (ipLen _) hcell | exact v_ldA1 rfl (hcell 0 _ rfl) | exact v_idxA rfl rfl om | exact v_lenz rfl))) | (apply gW; first | refine W_seq ?_ | refine W_region ?_ | refine W_ret ?_ | refine W_skip ?_ | refine W_block ?_ | refine W_exit ?_ | refine W_cond1 rfl ?_ | refine W_cond0 rfl ?_ | refine cW (fun h => ?_) fun h => ?_) | (first | refine seqR.normal ?_ | refine seqR.ret ?_ | refine seqR.exit ?_ | refine blockR.normal ?_ | refine blockR.ret ?_ | refine blockR.here ?_ | refine blockR.exit rfl ?_ | refine loopR.ret ?_ | refine loopR.exit ?_) | fail)
  all_goals refine retR.ret _ _ (ret1 rfl rfl) cvt_ ⟨⟨_, rfl, ?_⟩, rfl⟩
  · exact .inl rfl
  · exact .inr ⟨by omega, rfl⟩
theorem szProto_c {x : PR × IA} {l : Int} (hx : InF w0 2 upC x.2.ua x.1.ups ∧ InF w0 2 inC x.2.ca x.1.code) (hl : 0 ≤ l ∧ l ≤ 1048576) :
    Fn Tryz.prog w0 40 #[.agg (ipC x).toArray, .int .i64 l] H fun v H' => SzR l ((x.1.ups.length : Int) + x.1.code.length) v ∧ H' = H := by
  obtain ⟨⟨pa, sl, ups, code⟩, ⟨ua, uc, ca, cc⟩⟩ := x
  refine enter2 Tryz.func40 rfl rfl Tryz.ntmps40 rfl ?_
  dsimp only [ipC] at hx ⊢
  repeat' (first | (apply gCall; apply L_call rfl rfl rfl rfl rfl; (· fail); rintro _ _ ⟨rfl, rfl⟩) | (apply gL; first | refine L_nil ?_ | refine yX fun _ => ?_ | refine kV ?_ | (apply L_val rfl rfl rfl; (· first | (apply gBin; first | fail ) | fail | exact v_ldAN rfl (ipLen _) hcell | exact v_ldA1 rfl (hcell 0 _ rfl) | exact v_idxA rfl rfl om | exact v_lenz rfl))) | (apply gW; first | refine W_seq ?_ | refine W_region ?_ | refine W_ret ?_ | refine W_skip ?_ | refine W_block ?_ | refine W_exit ?_ | refine W_cond1 rfl ?_ | refine W_cond0 rfl ?_ | refine cW (fun h => ?_) fun h => ?_) | (first | refine seqR.normal ?_ | refine seqR.ret ?_ | refine seqR.exit ?_ | refine blockR.normal ?_ | refine blockR.ret ?_ | refine blockR.here ?_ | refine blockR.exit rfl ?_ | refine loopR.ret ?_ | refine loopR.exit ?_) | fail)
  apply L_call rfl rfl rfl rfl rfl
  · exact szUpS_c hx.1.le hl
  rintro _ _ ⟨⟨r, rfl, hr⟩, rfl⟩
  repeat' (first | (apply gCall; apply L_call rfl rfl rfl rfl rfl; (· fail); rintro _ _ ⟨rfl, rfl⟩) | (apply gL; first | refine L_nil ?_ | refine yX fun _ => ?_ | refine kV ?_ | (apply L_val rfl rfl rfl; (· first | (apply gBin; first | fail ) | fail | exact v_ldAN rfl (ipLen _) hcell | exact v_ldA1 rfl (hcell 0 _ rfl) | exact v_idxA rfl rfl om | exact v_lenz rfl))) | (apply gW; first | refine W_seq ?_ | refine W_region ?_ | refine W_ret ?_ | refine W_skip ?_ | refine W_block ?_ | refine W_exit ?_ | refine W_cond1 rfl ?_ | refine W_cond0 rfl ?_ | refine cW (fun h => ?_) fun h => ?_) | (first | refine seqR.normal ?_ | refine seqR.ret ?_ | refine seqR.exit ?_ | refine blockR.normal ?_ | refine blockR.ret ?_ | refine blockR.here ?_ | refine blockR.exit rfl ?_ | refine loopR.ret ?_ | refine loopR.exit ?_) | fail)
  · refine retR.ret _ _ (ret1 rfl rfl) cvt_ ⟨⟨_, rfl, .inl rfl⟩, rfl⟩
  apply L_call rfl rfl rfl rfl rfl
  · exact szInsS_c hx.2.le (by omega)
  rintro _ _ ⟨⟨r', rfl, hr'⟩, rfl⟩
  repeat' (first | (apply gCall; apply L_call rfl rfl rfl rfl rfl; (· fail); rintro _ _ ⟨rfl, rfl⟩) | (apply gL; first | refine L_nil ?_ | refine yX fun _ => ?_ | refine kV ?_ | (apply L_val rfl rfl rfl; (· first | (apply gBin; first | fail ) | fail | exact v_ldAN rfl (ipLen _) hcell | exact v_ldA1 rfl (hcell 0 _ rfl) | exact v_idxA rfl rfl om | exact v_lenz rfl))) | (apply gW; first | refine W_seq ?_ | refine W_region ?_ | refine W_ret ?_ | refine W_skip ?_ | refine W_block ?_ | refine W_exit ?_ | refine W_cond1 rfl ?_ | refine W_cond0 rfl ?_ | refine cW (fun h => ?_) fun h => ?_) | (first | refine seqR.normal ?_ | refine seqR.ret ?_ | refine seqR.exit ?_ | refine blockR.normal ?_ | refine blockR.ret ?_ | refine blockR.here ?_ | refine blockR.exit rfl ?_ | refine loopR.ret ?_ | refine loopR.exit ?_) | fail)
  · refine retR.ret _ _ (ret1 rfl rfl) cvt_ ⟨⟨_, rfl, .inl rfl⟩, rfl⟩
  · refine retR.ret _ _ (ret1 rfl rfl) cvt_ ⟨⟨_, rfl, .inr ⟨by omega, by omega⟩⟩, rfl⟩
theorem take_snoc {α : Type} {l : List α} {i : Nat} {x : α} (h : l[i]? = some x) : l.take (i + 1) = l.take i ++ [x] := by rw [List.take_add_one, h]; rfl
set_option maxHeartbeats 1000000 in
theorem szProtoS_c {a : Option Addr} {c : Nat} {xs : List (PR × IA)} {l : Int} (hI : InF w0 4 ipC a xs) (hx : ∀ x ∈ xs, InF w0 2 upC x.2.ua x.1.ups ∧ InF w0 2 inC x.2.ca x.1.code) (hl : 0 ≤ l ∧ l ≤ 1048576) :
    Fn Tryz.prog w0 13 #[.slice a xs.length c, .int .i64 l] H fun v H' => SzR l ((xs.length : Int) + szP (xs.map Prod.fst)) v ∧ H' = H := by
  have h1 := hI.le
  refine enter2 Tryz.func13 rfl rfl Tryz.ntmps13 rfl ?_
  repeat' (first | (apply gCall; apply L_call rfl rfl rfl rfl rfl; (· fail); rintro _ _ ⟨rfl, rfl⟩) | (apply gL; first | refine L_nil ?_ | refine yX fun _ => ?_ | refine kV ?_ | (apply L_val rfl rfl rfl; (· first | (apply gBin; first | fail ) | fail | exact v_ldAN rfl (ipLen _) hcell | exact v_ldA1 rfl (hcell 0 _ rfl) | exact v_idxA rfl rfl om | exact v_lenz rfl))) | (apply gW; first | refine W_seq ?_ | refine W_region ?_ | refine W_ret ?_ | refine W_skip ?_ | refine W_block ?_ | refine W_exit ?_ | refine W_cond1 rfl ?_ | refine W_cond0 rfl ?_ | refine cW (fun h => ?_) fun h => ?_) | (first | refine seqR.normal ?_ | refine seqR.ret ?_ | refine seqR.exit ?_ | refine blockR.normal ?_ | refine blockR.ret ?_ | refine blockR.here ?_ | refine blockR.exit rfl ?_ | refine loopR.ret ?_ | refine loopR.exit ?_) | fail)
  · refine retR.ret _ _ (ret1 rfl rfl) cvt_ ⟨⟨_, rfl, .inl rfl⟩, rfl⟩
  apply W_loopX (α := Int × Int) (fun y => [(0, .slice a xs.length c), (1, .int .i64 y.2), (5, .int .i64 y.1)]) (fun _ => H)
    (fun y => (0 ≤ y.1 ∧ y.1 ≤ xs.length) ∧ 0 ≤ y.2 ∧ y.2 = l - xs.length - szP ((xs.take y.1.toNat).map Prod.fst)) (fun y => (xs.length - y.1).toNat) (0, l - xs.length)
  · exact sub_
  · exact cvt_
  · exact ⟨⟨by dsimp only; omega, by dsimp only; omega⟩, by dsimp only; omega, by simp [szP]⟩
  rintro ⟨i, r⟩ ⟨⟨hi, hi2⟩, hr, he⟩
  dsimp only at hi hi2 hr he ⊢
  by_cases hlt : i < (xs.length : Int)
  · obtain ⟨x, ex⟩ : ∃ x, xs[i.toNat]? = some x := ⟨xs[i.toNat]'(by omega), List.getElem?_eq_getElem _⟩
    obtain ⟨ad, rfl, hcell⟩ := hI.row _ _ ex
    have hnn := szP_nn ((xs.take i.toNat).map Prod.fst)
    repeat' (first | exact absurd hlt h | first | (apply gCall; apply L_call rfl rfl rfl rfl rfl; (· fail); rintro _ _ ⟨rfl, rfl⟩) | (apply gL; first | refine L_nil ?_ | refine yX fun _ => ?_ | refine kV ?_ | (apply L_val rfl rfl rfl; (· first | (apply gBin; first | fail ) | fail | exact v_ldAN rfl (ipLen _) hcell | exact v_ldA1 rfl (hcell 0 _ rfl) | exact v_idxA rfl rfl om | exact v_lenz rfl))) | (apply gW; first | refine W_seq ?_ | refine W_region ?_ | refine W_ret ?_ | refine W_skip ?_ | refine W_block ?_ | refine W_exit ?_ | refine W_cond1 rfl ?_ | refine W_cond0 rfl ?_ | refine cW (fun h => ?_) fun h => ?_) | (first | refine seqR.normal ?_ | refine seqR.ret ?_ | refine seqR.exit ?_ | refine blockR.normal ?_ | refine blockR.ret ?_ | refine blockR.here ?_ | refine blockR.exit rfl ?_ | refine loopR.ret ?_ | refine loopR.exit ?_) | fail)
    apply L_call rfl rfl rfl rfl rfl
    · exact szProto_c (hx _ (List.mem_of_getElem? ex)) (by omega)
    rintro _ _ ⟨⟨r', rfl, hr'⟩, rfl⟩
    repeat' (first | (apply gCall; apply L_call rfl rfl rfl rfl rfl; (· fail); rintro _ _ ⟨rfl, rfl⟩) | (apply gL; first | refine L_nil ?_ | refine yX fun _ => ?_ | refine kV ?_ | (apply L_val rfl rfl rfl; (· first | (apply gBin; first | fail ) | fail | exact v_ldAN rfl (ipLen _) hcell | exact v_ldA1 rfl (hcell 0 _ rfl) | exact v_idxA rfl rfl om | exact v_lenz rfl))) | (apply gW; first | refine W_seq ?_ | refine W_region ?_ | refine W_ret ?_ | refine W_skip ?_ | refine W_block ?_ | refine W_exit ?_ | refine W_cond1 rfl ?_ | refine W_cond0 rfl ?_ | refine cW (fun h => ?_) fun h => ?_) | (first | refine seqR.normal ?_ | refine seqR.ret ?_ | refine seqR.exit ?_ | refine blockR.normal ?_ | refine blockR.ret ?_ | refine blockR.here ?_ | refine blockR.exit rfl ?_ | refine loopR.ret ?_ | refine loopR.exit ?_) | fail)
    · refine retR.ret _ _ (ret1 rfl rfl) cvt_ ⟨⟨_, rfl, .inl rfl⟩, rfl⟩
    apply loopR.mk (i + 1, r')
    · exact sub_
    · exact cvt_
    · refine ⟨⟨by dsimp only; omega, by dsimp only; omega⟩, by dsimp only; omega, ?_⟩
      dsimp only
      rw [show (i + 1).toNat = i.toNat + 1 by omega, take_snoc ex, List.map_append, szP_app]
      simp only [List.map_cons, List.map_nil, szP]
      omega
    · dsimp only; omega
  · repeat' (first | exact absurd h hlt | first | (apply gCall; apply L_call rfl rfl rfl rfl rfl; (· fail); rintro _ _ ⟨rfl, rfl⟩) | (apply gL; first | refine L_nil ?_ | refine yX fun _ => ?_ | refine kV ?_ | (apply L_val rfl rfl rfl; (· first | (apply gBin; first | fail ) | fail | exact v_ldAN rfl (ipLen _) hcell | exact v_ldA1 rfl (hcell 0 _ rfl) | exact v_idxA rfl rfl om | exact v_lenz rfl))) | (apply gW; first | refine W_seq ?_ | refine W_region ?_ | refine W_ret ?_ | refine W_skip ?_ | refine W_block ?_ | refine W_exit ?_ | refine W_cond1 rfl ?_ | refine W_cond0 rfl ?_ | refine cW (fun h => ?_) fun h => ?_) | (first | refine seqR.normal ?_ | refine seqR.ret ?_ | refine seqR.exit ?_ | refine blockR.normal ?_ | refine blockR.ret ?_ | refine blockR.here ?_ | refine blockR.exit rfl ?_ | refine loopR.ret ?_ | refine loopR.exit ?_) | fail)
    rw [show i.toNat = xs.length by omega, List.take_length] at he
    refine retR.ret _ _ (ret1 rfl rfl) cvt_ ⟨⟨_, rfl, .inr ⟨hr, by omega⟩⟩, rfl⟩
set_option maxHeartbeats 1000000 in
theorem szStringS_c {a : Option Addr} {c : Nat} {xs : List (List Int)} {l : Int} (hI : InF w0 1 tsC a xs) (hby : ∀ t ∈ xs, (t.length : Int) ≤ 9223372036854775807) (hl : 0 ≤ l ∧ l ≤ 1048576) :
    Fn Tryz.prog w0 14 #[.slice a xs.length c, .int .i64 l] H fun v H' => SzR l ((xs.length : Int) + szT xs) v ∧ H' = H := by
  have h1 := hI.le
  refine enter2 Tryz.func14 rfl rfl Tryz.ntmps14 rfl ?_
  repeat' (first | (apply gCall; apply L_call rfl rfl rfl rfl rfl; (· fail); rintro _ _ ⟨rfl, rfl⟩) | (apply gL; first | refine L_nil ?_ | refine yX fun _ => ?_ | refine kV ?_ | (apply L_val rfl rfl rfl; (· first | (apply gBin; first | fail ) | fail | exact v_ldAN rfl (ipLen _) hcell | exact v_ldA1 rfl (hcell 0 _ rfl) | exact v_idxA rfl rfl om | exact v_lenz rfl))) | (apply gW; first | refine W_seq ?_ | refine W_region ?_ | refine W_ret ?_ | refine W_skip ?_ | refine W_block ?_ | refine W_exit ?_ | refine W_cond1 rfl ?_ | refine W_cond0 rfl ?_ | refine cW (fun h => ?_) fun h => ?_) | (first | refine seqR.normal ?_ | refine seqR.ret ?_ | refine seqR.exit ?_ | refine blockR.normal ?_ | refine blockR.ret ?_ | refine blockR.here ?_ | refine blockR.exit rfl ?_ | refine loopR.ret ?_ | refine loopR.exit ?_) | fail)
  · refine retR.ret _ _ (ret1 rfl rfl) cvt_ ⟨⟨_, rfl, .inl rfl⟩, rfl⟩
  apply W_loopX (α := Int × Int) (fun y => [(0, .slice a xs.length c), (1, .int .i64 y.2), (5, .int .i64 y.1)]) (fun _ => H)
    (fun y => (0 ≤ y.1 ∧ y.1 ≤ xs.length) ∧ 0 ≤ y.2 ∧ y.2 = l - xs.length - szT (xs.take y.1.toNat)) (fun y => (xs.length - y.1).toNat) (0, l - xs.length)
  · exact sub_
  · exact cvt_
  · exact ⟨⟨by dsimp only; omega, by dsimp only; omega⟩, by dsimp only; omega, by simp [szT]⟩
  rintro ⟨i, r⟩ ⟨⟨hi, hi2⟩, hr, he⟩
  dsimp only at hi hi2 hr he ⊢
  by_cases hlt : i < (xs.length : Int)
  · obtain ⟨x, ex⟩ : ∃ x, xs[i.toNat]? = some x := ⟨xs[i.toNat]'(by omega), List.getElem?_eq_getElem _⟩
    obtain ⟨ad, rfl, hcell⟩ := hI.row _ _ ex
    have hnn := szT_nn (xs.take i.toNat)
    have hxl := hby _ (List.mem_of_getElem? ex)
    repeat' (first | exact absurd hlt h | first | (apply gCall; apply L_call rfl rfl rfl rfl rfl; (· fail); rintro _ _ ⟨rfl, rfl⟩) | (apply gL; first | refine L_nil ?_ | refine yX fun _ => ?_ | refine kV ?_ | (apply L_val rfl rfl rfl; (· first | (apply gBin; first | fail ) | fail | exact v_ldAN rfl (ipLen _) hcell | exact v_ldA1 rfl (hcell 0 _ rfl) | exact v_idxA rfl rfl om | exact v_lenz rfl))) | (apply gW; first | refine W_seq ?_ | refine W_region ?_ | refine W_ret ?_ | refine W_skip ?_ | refine W_block ?_ | refine W_exit ?_ | refine W_cond1 rfl ?_ | refine W_cond0 rfl ?_ | refine cW (fun h => ?_) fun h => ?_) | (first | refine seqR.normal ?_ | refine seqR.ret ?_ | refine seqR.exit ?_ | refine blockR.normal ?_ | refine blockR.ret ?_ | refine blockR.here ?_ | refine blockR.exit rfl ?_ | refine loopR.ret ?_ | refine loopR.exit ?_) | fail)
    · refine retR.ret _ _ (ret1 rfl rfl) cvt_ ⟨⟨_, rfl, .inl rfl⟩, rfl⟩
    apply loopR.mk (i + 1, r - (x.length : Int))
    · exact sub_
    · exact cvt_
    · refine ⟨⟨by dsimp only; omega, by dsimp only; omega⟩, by dsimp only; omega, ?_⟩
      dsimp only
      rw [show (i + 1).toNat = i.toNat + 1 by omega, take_snoc ex, szT_app]
      simp only [szT]
      omega
    · dsimp only; omega
  · repeat' (first | exact absurd h hlt | first | (apply gCall; apply L_call rfl rfl rfl rfl rfl; (· fail); rintro _ _ ⟨rfl, rfl⟩) | (apply gL; first | refine L_nil ?_ | refine yX fun _ => ?_ | refine kV ?_ | (apply L_val rfl rfl rfl; (· first | (apply gBin; first | fail ) | fail | exact v_ldAN rfl (ipLen _) hcell | exact v_ldA1 rfl (hcell 0 _ rfl) | exact v_idxA rfl rfl om | exact v_lenz rfl))) | (apply gW; first | refine W_seq ?_ | refine W_region ?_ | refine W_ret ?_ | refine W_skip ?_ | refine W_block ?_ | refine W_exit ?_ | refine W_cond1 rfl ?_ | refine W_cond0 rfl ?_ | refine cW (fun h => ?_) fun h => ?_) | (first | refine seqR.normal ?_ | refine seqR.ret ?_ | refine seqR.exit ?_ | refine blockR.normal ?_ | refine blockR.ret ?_ | refine blockR.here ?_ | refine blockR.exit rfl ?_ | refine loopR.ret ?_ | refine loopR.exit ?_) | fail)
    rw [show i.toNat = xs.length by omega, List.take_length] at he
    refine retR.ret _ _ (ret1 rfl rfl) cvt_ ⟨⟨_, rfl, .inr ⟨hr, by omega⟩⟩, rfl⟩
theorem szModule_c {aP aT : Option Addr} {cP cT : Nat} {l : List (PR × IA)} {tx : List (List Int)} (hI : InM w0 aP aT l tx) (hby : ∀ t ∈ tx, (t.length : Int) ≤ 9223372036854775807) :
    Fn Tryz.prog w0 4 #[.agg #[.slice aP l.length cP, .slice aT tx.length cT], .int .i64 1048576] H fun v H' => SzR 1048576 (((l.length : Int) + szP (l.map Prod.fst)) + ((tx.length : Int) + szT tx)) v ∧ H' = H := by
  have n1 := szP_nn (l.map Prod.fst)
  refine enter2 Tryz.func4 rfl rfl Tryz.ntmps4 rfl ?_
  repeat' (first | (apply gCall; apply L_call rfl rfl rfl rfl rfl; (· fail); rintro _ _ ⟨rfl, rfl⟩) | (apply gL; first | refine L_nil ?_ | refine yX fun _ => ?_ | refine kV ?_ | (apply L_val rfl rfl rfl; (· first | (apply gBin; first | fail ) | fail | exact v_ldAN rfl (ipLen _) hcell | exact v_ldA1 rfl (hcell 0 _ rfl) | exact v_idxA rfl rfl om | exact v_lenz rfl))) | (apply gW; first | refine W_seq ?_ | refine W_region ?_ | refine W_ret ?_ | refine W_skip ?_ | refine W_block ?_ | refine W_exit ?_ | refine W_cond1 rfl ?_ | refine W_cond0 rfl ?_ | refine cW (fun h => ?_) fun h => ?_) | (first | refine seqR.normal ?_ | refine seqR.ret ?_ | refine seqR.exit ?_ | refine blockR.normal ?_ | refine blockR.ret ?_ | refine blockR.here ?_ | refine blockR.exit rfl ?_ | refine loopR.ret ?_ | refine loopR.exit ?_) | fail)
  apply L_call rfl rfl rfl rfl rfl
  · exact szProtoS_c hI.hp hI.hu (by omega)
  rintro _ _ ⟨⟨r, rfl, hr⟩, rfl⟩
  repeat' (first | (apply gCall; apply L_call rfl rfl rfl rfl rfl; (· fail); rintro _ _ ⟨rfl, rfl⟩) | (apply gL; first | refine L_nil ?_ | refine yX fun _ => ?_ | refine kV ?_ | (apply L_val rfl rfl rfl; (· first | (apply gBin; first | fail ) | fail | exact v_ldAN rfl (ipLen _) hcell | exact v_ldA1 rfl (hcell 0 _ rfl) | exact v_idxA rfl rfl om | exact v_lenz rfl))) | (apply gW; first | refine W_seq ?_ | refine W_region ?_ | refine W_ret ?_ | refine W_skip ?_ | refine W_block ?_ | refine W_exit ?_ | refine W_cond1 rfl ?_ | refine W_cond0 rfl ?_ | refine cW (fun h => ?_) fun h => ?_) | (first | refine seqR.normal ?_ | refine seqR.ret ?_ | refine seqR.exit ?_ | refine blockR.normal ?_ | refine blockR.ret ?_ | refine blockR.here ?_ | refine blockR.exit rfl ?_ | refine loopR.ret ?_ | refine loopR.exit ?_) | fail)
  · refine retR.ret _ _ (ret1 rfl rfl) cvt_ ⟨⟨_, rfl, .inl rfl⟩, rfl⟩
  apply L_call rfl rfl rfl rfl rfl
  · exact szStringS_c hI.ht hby (by omega)
  rintro _ _ ⟨⟨r', rfl, hr'⟩, rfl⟩
  repeat' (first | (apply gCall; apply L_call rfl rfl rfl rfl rfl; (· fail); rintro _ _ ⟨rfl, rfl⟩) | (apply gL; first | refine L_nil ?_ | refine yX fun _ => ?_ | refine kV ?_ | (apply L_val rfl rfl rfl; (· first | (apply gBin; first | fail ) | fail | exact v_ldAN rfl (ipLen _) hcell | exact v_ldA1 rfl (hcell 0 _ rfl) | exact v_idxA rfl rfl om | exact v_lenz rfl))) | (apply gW; first | refine W_seq ?_ | refine W_region ?_ | refine W_ret ?_ | refine W_skip ?_ | refine W_block ?_ | refine W_exit ?_ | refine W_cond1 rfl ?_ | refine W_cond0 rfl ?_ | refine cW (fun h => ?_) fun h => ?_) | (first | refine seqR.normal ?_ | refine seqR.ret ?_ | refine seqR.exit ?_ | refine blockR.normal ?_ | refine blockR.ret ?_ | refine blockR.here ?_ | refine blockR.exit rfl ?_ | refine loopR.ret ?_ | refine loopR.exit ?_) | fail)
  · refine retR.ret _ _ (ret1 rfl rfl) cvt_ ⟨⟨_, rfl, .inl rfl⟩, rfl⟩
  · refine retR.ret _ _ (ret1 rfl rfl) cvt_ ⟨⟨_, rfl, .inr ⟨by omega, by omega⟩⟩, rfl⟩
end Go.Proofs.YtfmhlieaodbgiaaGreat.Eng
