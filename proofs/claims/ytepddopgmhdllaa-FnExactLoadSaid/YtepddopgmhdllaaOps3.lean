/- Operations on a map from numbers to 'true': a set of numbers. -/
import Derived.Test.YtepddopgmhdllaaOps2
import Derived.MapKept
namespace Go.Proofs.Ytepddopgmhdllaa.Eng
open Go Go.RowKit Go.Proofs.Ytepddopgmhdllaa.Sl Go.Proofs.Ytepddopgmhdllaa.Ar
set_option linter.unusedVariables false
set_option linter.unusedSimpArgs false
def mEnts : Nat → List Int → List MapEntry
  | _, [] => []
  | n, k :: ks => ⟨.int .i64 k, .bool true, n⟩ :: mEnts (n + 1) ks
/-- the numbers of ks, put in one behind the other -/
def sObj (ks : List Int) : Obj := .map (mEnts 0 ks).toArray ks.length
theorem mEnts_key {n : Nat} {ks : List Int} {x : MapEntry} (h : x ∈ mEnts n ks) : ∃ k, k ∈ ks ∧ x.key = .int .i64 k ∧ x.val = .bool true := by
  induction ks generalizing n with
  | nil => simp [mEnts] at h
  | cons k ks ih =>
    rcases List.mem_cons.1 h with rfl | h
    · exact ⟨k, List.mem_cons_self, rfl, rfl⟩
    · obtain ⟨k', h1, h2⟩ := ih h; exact ⟨k', List.mem_cons_of_mem _ h1, h2⟩
theorem mEnts_mem {n : Nat} {ks : List Int} {k : Int} (h : k ∈ ks) : ∃ x, x ∈ mEnts n ks ∧ x.key = .int .i64 k := by
  induction ks generalizing n with
  | nil => cases h
  | cons k' ks ih =>
    rcases List.mem_cons.1 h with rfl | h
    · exact ⟨_, List.mem_cons_self, rfl⟩
    · obtain ⟨x, h1, h2⟩ := ih (n := n + 1) h; exact ⟨x, List.mem_cons_of_mem _ h1, h2⟩
theorem mEnts_push {n : Nat} {ks : List Int} {k : Int} : mEnts n (ks ++ [k]) = mEnts n ks ++ [⟨.int .i64 k, .bool true, n + ks.length⟩] := by
  induction ks generalizing n with
  | nil => rfl
  | cons k' ks ih => simp only [List.cons_append, mEnts, ih, List.length_cons]; rw [show n + 1 + ks.length = n + (ks.length + 1) by omega]
theorem mEnts_is {n : Nat} {ks : List Int} : ∀ x ∈ (mEnts n ks), MapKept.IsKey (.int .i64) x.key := fun x hx => by
  obtain ⟨k, -, e, -⟩ := mEnts_key hx
  rw [e]; rfl
theorem mEnts_find (ks : List Int) (k : Int) : (k ∈ ks ∧ ∃ j e, Instr.findNow (.int .i64) (.int .i64 k) (mEnts 0 ks) 0 = some (some (j, .bool true)) ∧ (mEnts 0 ks)[j]? = some e ∧ e.key = .int .i64 k ∧ e.val = .bool true) ∨ (k ∉ ks ∧ Instr.findNow (.int .i64) (.int .i64 k) (mEnts 0 ks) 0 = some none) := by
  rcases MapKept.findNow_spec (d := .int .i64) (k := .int .i64 k) rfl (mEnts 0 ks) 0 mEnts_is with ⟨h1, h2⟩ | ⟨j, e, h1, h2, h3⟩
  · refine .inr ⟨fun hm => ?_, h1⟩
    obtain ⟨x, hx, e⟩ := mEnts_mem (n := 0) hm
    exact h2 x hx e
  · obtain ⟨k', h4, h5, h6⟩ := mEnts_key (List.mem_of_getElem? h2)
    refine .inl ⟨?_, j, e, ?_, h2, h3, h6⟩
    · rw [h3] at h5; cases h5; exact h4
    · rw [h1, h6, Nat.zero_add]
section
variable {P : Program} {N : Nat} {w0 : World} {E : Env} {H H' : HL} {o : Oper} {x y z : Operand} {T : TypeId} {K V : TypeId} {ops : Array Oper} {rest : List Oper} {R : Post} {ks : List Int} {k : Int} {b : Nat}
theorem L_mkmap {t : Tmp} (hw : wantE ops E o = some true) (hd : o.dst = some t) (ht : Nat.blt t N = true) (ho : o.op = .makeMap T none)
    (hk : ∀ b, L P N w0 ops rest ((t, .map (some b)) :: E) ((b, sObj []) :: H) R) : L P N w0 ops (o :: rest) E H R :=
  L_eff (S := fun u H' => ∃ b, u = .map (some b) ∧ H' = (b, sObj []) :: H) hw hd ht (fun A w ha hs => by
    refine ⟨.map (some w.heap.size), w.alloc (.map #[] 0), _, ?_, hs.alloc _, _, rfl, rfl⟩
    unfold execOp; rw [ho]; refine run_v ?_
    simp [Instr.makeMap]) (fun u H' ⟨b, e1, e2⟩ => by subst e1; subst e2; exact hk b)
theorem ov_lookup {K V : TypeId} {ks : List Int} {u : Int} {bm n bytes : Nat} [TMap P T K V] [TInt P K .i64] [TInfo P V (.bool false) n bytes] (ho : o.op = .lookup T x y false) (hx : ev E x = some (.map (some bm))) (hy : ev E y = some (.int .i64 u)) (hA : At H bm (sObj ks)) :
    OpV P N w0 o E H (.bool (decide (u ∈ ks))) := by
  refine ⟨fun a w ha hs => ?_⟩
  have hb : w.heap[bm]? = some (.map (mEnts 0 ks).toArray ks.length) := hs.block hA
  unfold execOp; rw [ho]; refine run_v ?_; rw [ha.eval hx, ha.eval hy]
  have hik : MapKept.IsKey (.int .i64) (.int .i64 u) := rfl
  have hck : ∀ e, (Instr.checkKey e 10000 K (.int .i64 u)).run P w = .ok () w := fun e => MapKept.run_checkKey (k := .int .i64 u) (TInt.out (P := P) (T := K)) hik e 9999
  have hz : (zeroValue V).run P w = .ok (.bool false) w := by
    have := TInfo.out (P := P) (T := V) (z := .bool false) (n := n) (bytes := bytes)
    cases hq : P.info? V with
    | none => simp [hq] at this
    | some i => simp [hq] at this; simp [zeroValue, typeInfo, hq, this.1]
  rcases mEnts_find ks u with ⟨h1, j, e, h2, h3, h4, h5⟩ | ⟨h1, h2⟩
  · simp [Instr.lookup, run_underlying (TMap.out (P := P) (T := T)), MapKept.run_getObj_map hb, hck, MapKept.run_findKey (TInt.out (P := P) (T := K)) h2, h1]
  · simp [Instr.lookup, run_underlying (TMap.out (P := P) (T := T)), MapKept.run_getObj_map hb, hck, MapKept.run_findKey (TInt.out (P := P) (T := K)) h2, h1, hz]
def putS (ks : List Int) (k : Int) : List Int := if k ∈ ks then ks else ks ++ [k]
theorem L_mapset [TMap P T K V] [TInt P K .i64] (hw : wantE ops E o = some true) (hd : o.dst = none) (ho : o.op = .mapUpdate T x y z) (hx : ev E x = some (.map (some b))) (hy : ev E y = some (.int .i64 k)) (hz : ev E z = some (.bool true))
    (hU : Up H b (sObj ks) (sObj (putS ks k)) H') (hk : L P N w0 ops rest E H' R) : L P N w0 ops (o :: rest) E H R :=
  L_effU hw hd (fun a w ha hs => by
    have hb : w.heap[b]? = some (.map (mEnts 0 ks).toArray ks.length) := hs.block hU.at
    have hik : MapKept.IsKey (.int .i64) (.int .i64 k) := rfl
    have hck : ∀ e, (Instr.checkKey e 10000 K (.int .i64 k)).run P w = .ok () w := fun e => MapKept.run_checkKey (k := .int .i64 k) (TInt.out (P := P) (T := K)) hik e 9999
    have hset := fun o' => MapKept.heap_set (o' := o') hb
    have hs2 : Sat w0 H' { w with heap := w.heap.setIfInBounds b (sObj (putS ks k)) } := hs.turn hU rfl rfl rfl (by simp) (hset _).1 (hset _).2
    refine ⟨_, ?_, hs2⟩
    unfold execOp; rw [ho]; refine run_u ?_; rw [ha.eval hx, ha.eval hy, ha.eval hz]
    rcases mEnts_find ks k with ⟨h1, j, e, h2, h3, h4, h5⟩ | ⟨h1, h2⟩
    · have hmod : ((mEnts 0 ks).toArray.modify j fun e => { e with key := .int .i64 k, val := .bool true }) = (mEnts 0 ks).toArray := by
        apply Array.ext_getElem?
        intro i
        rw [Array.getElem?_modify]
        split
        · rename_i hij; subst hij
          simp only [List.getElem?_toArray, h3, Option.map_some]
          congr 1
          cases e; simp_all
        · rfl
      have hmodl : ((mEnts 0 ks).modify j fun e => { e with key := .int .i64 k, val := .bool true }) = mEnts 0 ks := by
        have := congrArg Array.toList hmod
        simpa using this
      have hp : putS ks k = ks := if_pos h1
      simp [Instr.mapUpdate, run_underlying (TMap.out (P := P) (T := T)), MapKept.run_getObj_map hb, hck, MapKept.run_findKey (TInt.out (P := P) (T := K)) h2, MapKept.run_setObj_map _ hb, h3, h4, MapKept.run_keyThatStays (d := .int .i64) (k := .int .i64 k) rfl, hmodl, hp, sObj, Result.andThen]
    · have hp : putS ks k = ks ++ [k] := if_neg h1
      simp [Instr.mapUpdate, run_underlying (TMap.out (P := P) (T := T)), MapKept.run_getObj_map hb, hck, MapKept.run_findKey (TInt.out (P := P) (T := K)) h2, MapKept.run_setObj_map _ hb, hp, sObj, mEnts_push, Result.andThen]) hk
/-- a row with room and nothing in it -/
theorem L_mkcap {t : Tmp} {e bytes : Nat} {kk : IntKind} {c : Int} [TSlice P T e 1] [TInfo P e (.int kk 0) 1 bytes] (hw : wantE ops E o = some true) (hd : o.dst = some t) (ht : Nat.blt t N = true) (ho : o.op = .makeSlice T x y)
    (hx : ev E x = some (.int .i64 0)) (hy : ev E y = some (.int .i64 c)) (h0 : 0 ≤ c) (hb : (bytes : Int) * c ≤ 281474976710656) (hm : c ≤ 9223372036854775807)
    (hk : ∀ b sp, L P N w0 ops rest ((t, .slice (some ⟨b, 0, none⟩) ([] : List Int).length (([] : List Int).length + List.length sp)) :: E) ((b, .cells (rowA kk [] sp) e (0, 0)) :: H) R) : L P N w0 ops (o :: rest) E H R :=
  L_eff (S := fun u H' => ∃ b sp, u = .slice (some ⟨b, 0, none⟩) ([] : List Int).length (([] : List Int).length + List.length sp) ∧ H' = (b, .cells (rowA kk [] sp) e (0, 0)) :: H) hw hd ht (fun A w ha hs => by
    obtain ⟨i, hi, h1⟩ : ∃ i, P.info? e = some i ∧ (i.zero, i.size, i.bytes) = (some (.int kk 0), 1, bytes) := by
      have := TInfo.out (P := P) (T := e) (z := .int kk 0) (n := 1) (bytes := bytes)
      cases hq : P.info? e with
      | none => simp [hq] at this
      | some i => exact ⟨i, rfl, by simpa [hq] using this⟩
    simp only [Prod.mk.injEq] at h1
    obtain ⟨h1, h2, h3⟩ := h1
    have hr := run_make (P := P) w T e i (.int kk 0) (TSlice.out (P := P) (T := T)) hi h1 .i64 .i64 0 c (by omega) h0 (by rw [h3]; exact hb) hm
    rw [h2] at hr
    have hmade := made_int (k := kk) (n := c.toNat)
    rw [hmade] at hr
    have e1 : rowA kk (List.replicate c.toNat 0) [] = rowA kk [] (List.replicate c.toNat (.int kk 0)) := by simp [rowA]
    rw [e1] at hr
    refine ⟨.slice (some ⟨w.heap.size, 0, none⟩) 0 c.toNat, _, _, ?_, hs.alloc _, _, List.replicate c.toNat (.int kk 0), by simp, rfl⟩
    unfold execOp; rw [ho]; refine run_v ?_; rw [ha.eval hx, ha.eval hy]; exact hr) (fun u H' ⟨b, sp, e1, e2⟩ => by subst e1; subst e2; exact hk b sp)
end
end Go.Proofs.Ytepddopgmhdllaa.Eng
