/- Operations on a map from numbers to their own places in a row. -/
import Derived.Test.YtfhihnonafklbaaBkV
namespace Go.Proofs.Ytfhihnonafklbaa.Eng
open Go Go.RowKit Go.Proofs.Ytfhihnonafklbaa.Sl Go.Proofs.Ytfhihnonafklbaa.Ar
set_option linter.unusedVariables false
set_option linter.unusedSimpArgs false
def nEnts : Nat → List Int → List MapEntry
  | _, [] => []
  | n, k :: ks => ⟨.int .i64 k, .int .i64 (n : Int), n⟩ :: nEnts (n + 1) ks
/-- the numbers of ks, each with its place -/
def nObj (ks : List Int) : Obj := .map (nEnts 0 ks).toArray ks.length
/-- where a number stands in a row; the row's length, if it does not -/
def ix (ks : List Int) (k : Int) : Int := ((ks.idxOf k : Nat) : Int)
theorem nEnts_key {n : Nat} {ks : List Int} {x : MapEntry} (h : x ∈ nEnts n ks) : ∃ k, k ∈ ks ∧ x.key = .int .i64 k := by
  induction ks generalizing n with
  | nil => simp [nEnts] at h
  | cons k ks ih =>
    rcases List.mem_cons.1 h with rfl | h
    · exact ⟨k, List.mem_cons_self, rfl⟩
    · obtain ⟨k', h1, h2⟩ := ih h; exact ⟨k', List.mem_cons_of_mem _ h1, h2⟩
theorem nEnts_get {n : Nat} {ks : List Int} {j : Nat} {x : MapEntry} (h : (nEnts n ks)[j]? = some x) : ∃ k, ks[j]? = some k ∧ x.key = .int .i64 k ∧ x.val = .int .i64 ((n + j : Nat) : Int) := by
  induction ks generalizing n j with
  | nil => simp [nEnts] at h
  | cons k ks ih =>
    cases j with
    | zero => simp [nEnts] at h; subst h; exact ⟨k, rfl, rfl, rfl⟩
    | succ j =>
      obtain ⟨k', h1, h2, h3⟩ := ih (n := n + 1) (j := j) (by simpa [nEnts] using h)
      exact ⟨k', by simpa using h1, h2, by rw [h3]; congr 2; omega⟩
theorem nEnts_mem {n : Nat} {ks : List Int} {k : Int} (h : k ∈ ks) : ∃ x, x ∈ nEnts n ks ∧ x.key = .int .i64 k := by
  induction ks generalizing n with
  | nil => cases h
  | cons k' ks ih =>
    rcases List.mem_cons.1 h with rfl | h
    · exact ⟨_, List.mem_cons_self, rfl⟩
    · obtain ⟨x, h1, h2⟩ := ih (n := n + 1) h; exact ⟨x, List.mem_cons_of_mem _ h1, h2⟩
theorem nEnts_push {n : Nat} {ks : List Int} {k : Int} : nEnts n (ks ++ [k]) = nEnts n ks ++ [⟨.int .i64 k, .int .i64 ((n + ks.length : Nat) : Int), n + ks.length⟩] := by
  induction ks generalizing n with
  | nil => rfl
  | cons k' ks ih => simp only [List.cons_append, nEnts, ih, List.length_cons]; rw [show n + 1 + ks.length = n + (ks.length + 1) by omega]
theorem nEnts_is {n : Nat} {ks : List Int} : ∀ x ∈ (nEnts n ks), MapKept.IsKey (.int .i64) x.key := fun x hx => by
  obtain ⟨k, -, e⟩ := nEnts_key hx
  rw [e]; rfl
theorem nEnts_find (ks : List Int) (hd : ks.Nodup) (k : Int) : (k ∈ ks ∧ ∃ j, Instr.findNow (.int .i64) (.int .i64 k) (nEnts 0 ks) 0 = some (some (j, .int .i64 (ix ks k)))) ∨ (k ∉ ks ∧ Instr.findNow (.int .i64) (.int .i64 k) (nEnts 0 ks) 0 = some none) := by
  rcases MapKept.findNow_spec (d := .int .i64) (k := .int .i64 k) rfl (nEnts 0 ks) 0 nEnts_is with ⟨h1, h2⟩ | ⟨j, e, h1, h2, h3⟩
  · refine .inr ⟨fun hm => ?_, h1⟩
    obtain ⟨x, hx, e⟩ := nEnts_mem (n := 0) hm
    exact h2 x hx e
  · obtain ⟨k', h4, h5, h6⟩ := nEnts_get h2
    rw [h3] at h5
    cases h5
    refine .inl ⟨List.mem_of_getElem? h4, j, ?_⟩
    rw [h1, h6, Nat.zero_add]
    congr 4
    unfold ix
    obtain ⟨hj, hk⟩ := List.getElem?_eq_some_iff.1 h4
    rw [← hk, hd.idxOf_getElem j hj]
theorem ix_mem {ks : List Int} {k : Int} (h : k ∈ ks) : 0 ≤ ix ks k ∧ ix ks k < (ks.length : Int) := by
  have := List.idxOf_lt_length_of_mem h
  unfold ix; omega
theorem ix_not {ks : List Int} {k : Int} (h : k ∉ ks) : ix ks k = (ks.length : Int) := by unfold ix; rw [List.idxOf_eq_length h]
section
variable {P : Program} {N : Nat} {w0 : World} {E : Env} {H H' : HL} {o : Oper} {x y z : Operand} {T : TypeId} {K V : TypeId} {ops : Array Oper} {rest : List Oper} {R : Post} {ks : List Int} {k : Int} {b : Nat}
theorem L_mkmapN {t : Tmp} (hw : wantE ops E o = some true) (hd : o.dst = some t) (ht : Nat.blt t N = true) (ho : o.op = .makeMap T none)
    (hk : ∀ b, L P N w0 ops rest ((t, .map (some b)) :: E) ((b, nObj []) :: H) R) : L P N w0 ops (o :: rest) E H R :=
  L_eff (S := fun u H' => ∃ b, u = .map (some b) ∧ H' = (b, nObj []) :: H) hw hd ht (fun A w ha hs => by
    refine ⟨.map (some w.heap.size), w.alloc (.map #[] 0), _, ?_, hs.alloc _, _, rfl, rfl⟩
    unfold execOp; rw [ho]; refine run_v ?_
    simp [Instr.makeMap]) (fun u H' ⟨b, e1, e2⟩ => by subst e1; subst e2; exact hk b)
theorem ov_lookupN {K V : TypeId} {ks : List Int} {u : Int} {bm n bytes : Nat} [TMap P T K V] [TInt P K .i64] [TInfo P V (.int .i64 0) n bytes] (hnd : ks.Nodup) (ho : o.op = .lookup T x y true) (hx : ev E x = some (.map (some bm))) (hy : ev E y = some (.int .i64 u)) (hA : At H bm (nObj ks)) :
    OpV P N w0 o E H (.tuple #[.int .i64 (if u ∈ ks then ix ks u else 0), .bool (decide (u ∈ ks))]) := by
  refine ⟨fun a w ha hs => ?_⟩
  have hb : w.heap[bm]? = some (.map (nEnts 0 ks).toArray ks.length) := hs.block hA
  unfold execOp; rw [ho]; refine run_v ?_; rw [ha.eval hx, ha.eval hy]
  have hik : MapKept.IsKey (.int .i64) (.int .i64 u) := rfl
  have hck : ∀ e, (Instr.checkKey e 10000 K (.int .i64 u)).run P w = .ok () w := fun e => MapKept.run_checkKey (k := .int .i64 u) (TInt.out (P := P) (T := K)) hik e 9999
  have hz : (zeroValue V).run P w = .ok (.int .i64 0) w := by
    have := TInfo.out (P := P) (T := V) (z := .int .i64 0) (n := n) (bytes := bytes)
    cases hq : P.info? V with
    | none => simp [hq] at this
    | some i => simp [hq] at this; simp [zeroValue, typeInfo, hq, this.1]
  rcases nEnts_find ks hnd u with ⟨h1, j, h2⟩ | ⟨h1, h2⟩
  · simp [Instr.lookup, run_underlying (TMap.out (P := P) (T := T)), MapKept.run_getObj_map hb, hck, MapKept.run_findKey (TInt.out (P := P) (T := K)) h2, h1]
  · simp [Instr.lookup, run_underlying (TMap.out (P := P) (T := T)), MapKept.run_getObj_map hb, hck, MapKept.run_findKey (TInt.out (P := P) (T := K)) h2, h1, hz]
/-- a new number is put in -/
theorem L_mapsetN [TMap P T K V] [TInt P K .i64] (hnd : ks.Nodup) (hnm : k ∉ ks) (hw : wantE ops E o = some true) (hd : o.dst = none) (ho : o.op = .mapUpdate T x y z) (hx : ev E x = some (.map (some b))) (hy : ev E y = some (.int .i64 k)) (hz : ev E z = some (.int .i64 (ks.length : Int)))
    (hU : Up H b (nObj ks) (nObj (ks ++ [k])) H') (hk : L P N w0 ops rest E H' R) : L P N w0 ops (o :: rest) E H R :=
  L_effU hw hd (fun a w ha hs => by
    have hb : w.heap[b]? = some (.map (nEnts 0 ks).toArray ks.length) := hs.block hU.at
    have hik : MapKept.IsKey (.int .i64) (.int .i64 k) := rfl
    have hck : ∀ e, (Instr.checkKey e 10000 K (.int .i64 k)).run P w = .ok () w := fun e => MapKept.run_checkKey (k := .int .i64 k) (TInt.out (P := P) (T := K)) hik e 9999
    have hset := fun o' => MapKept.heap_set (o' := o') hb
    have hs2 : Sat w0 H' { w with heap := w.heap.setIfInBounds b (nObj (ks ++ [k])) } := hs.turn hU rfl rfl rfl (by simp) (hset _).1 (hset _).2
    refine ⟨_, ?_, hs2⟩
    unfold execOp; rw [ho]; refine run_u ?_; rw [ha.eval hx, ha.eval hy, ha.eval hz]
    rcases nEnts_find ks hnd k with ⟨h1, -⟩ | ⟨h1, h2⟩
    · exact absurd h1 hnm
    · simp [Instr.mapUpdate, run_underlying (TMap.out (P := P) (T := T)), MapKept.run_getObj_map hb, hck, MapKept.run_findKey (TInt.out (P := P) (T := K)) h2, MapKept.run_setObj_map _ hb, nObj, nEnts_push, Result.andThen]) hk
end
end Go.Proofs.Ytfhihnonafklbaa.Eng
