/- The law of ShapeOf returns true. -/
import Derived.Test.YtfhihnonafklbaaH9
import Derived.Test.YtfhihnonafklbaaH7
import Derived.Test.YtfhihnonafklbaaH3
namespace Go.Proofs.Ytfhihnonafklbaa.Eng
open Go Go.RowKit Go.Proofs.Ytfhihnonafklbaa.Sl Go.Proofs.Ytfhihnonafklbaa.Ar Go.Proofs.Ytfhihnonafklbaa.Base
set_option linter.unusedVariables false
set_option linter.unusedSimpArgs false
set_option maxRecDepth 10000
section
variable {P : Program} {N : Nat} {w0 : World} {E : Env} {H X Y Z Lc G R' : HL} {ops : Array Oper} {rest : List Oper} {R : Post}
theorem L_back3 (h : L P N w0 ops rest E (Lc ++ ((X ++ (Y ++ Z)) ++ [])) R) : L P N w0 ops rest E (X ++ (Y ++ (Z ++ Lc))) R :=
  L_perm (by
    rw [List.append_nil, show X ++ (Y ++ (Z ++ Lc)) = (X ++ (Y ++ Z)) ++ Lc by simp]
    exact List.perm_append_comm) h
theorem L_back3G (hT : Tail H Lc G R') (h : L P N w0 ops rest E (Lc ++ (G ++ (R' ++ (X ++ (Y ++ Z))))) R) : L P N w0 ops rest E (X ++ (Y ++ (Z ++ H))) R :=
  L_perm (by
    rw [hT.eq, show X ++ (Y ++ (Z ++ (Lc ++ (G ++ R')))) = (X ++ (Y ++ Z)) ++ (Lc ++ (G ++ R')) by simp, show Lc ++ (G ++ (R' ++ (X ++ (Y ++ Z)))) = (Lc ++ (G ++ R')) ++ (X ++ (Y ++ Z)) by simp]
    exact List.perm_append_comm) h
theorem L_fore (hT : Tail H Lc G (X ++ (Y ++ Z))) (h : L P N w0 ops rest E (X ++ (Y ++ (Z ++ (Lc ++ G)))) R) : L P N w0 ops rest E H R :=
  L_perm (by
    rw [hT.eq, show X ++ (Y ++ (Z ++ (Lc ++ G))) = (X ++ (Y ++ Z)) ++ (Lc ++ G) by simp, show Lc ++ (G ++ (X ++ (Y ++ Z))) = (Lc ++ G) ++ (X ++ (Y ++ Z)) by simp]
    exact List.perm_append_comm) h
theorem L_aft (h : L P N w0 ops rest E (Lc ++ (G ++ (X ++ (Y ++ Z)))) R) : L P N w0 ops rest E (X ++ (Y ++ (Z ++ (Lc ++ G)))) R :=
  L_perm (by
    rw [show X ++ (Y ++ (Z ++ (Lc ++ G))) = (X ++ (Y ++ Z)) ++ (Lc ++ G) by simp, show Lc ++ (G ++ (X ++ (Y ++ Z))) = (Lc ++ G) ++ (X ++ (Y ++ Z)) by simp]
    exact List.perm_append_comm) h
end
variable {w0 : World} {H : HL} {C : Cn} {A : Ar} {vs : List (Int × Int)} {ns : List ND} {b : Bool}
theorem shRs_len (A : Ar) : ∀ (L : List (Int × Int)) (S : List Int × List (Int × Int)), (A.shRs L S).2.length = S.2.length + L.length
  | [], S => rfl
  | v :: L, S => by rw [Ar.shRs, shRs_len A L]; simp; omega
theorem shS_len (A : Ar) (p : Int) : ∀ (L : List Int) (S : List Int × List (Int × Int)), (A.shS p L S).2.length = S.2.length + L.length
  | [], S => rfl
  | v :: L, S => by rw [Ar.shS, shS_len A p L]; simp; omega
theorem shNs_bd (A : Ar) : ∀ (f : Nat) (i : Int) (P : List Int) (o : List ND), (∀ d ∈ o, d.sl.length ≤ 130) → (A.shNs f i P o).2.length ≤ o.length + f ∧ ∀ d ∈ (A.shNs f i P o).2, d.sl.length ≤ 130
  | 0, i, P, o, h => ⟨Nat.le_refl _, h⟩
  | f + 1, i, P, o, h => by
    rw [Ar.shNs]
    split
    · have := shNs_bd A f (i + 1) (A.shN P (g P i)).1 (o ++ [(A.shN P (g P i)).2]) (fun d hd => by
        rcases List.mem_append.1 hd with a | a
        · exact h d a
        · rw [List.mem_singleton] at a; subst a
          show (A.shS _ _ _).2.length ≤ 130
          rw [shS_len]
          unfold Ar.shL
          have h1 := slots_len (k := rk (g A.ws (g P i))) (s := rs (g A.ws (g P i)))
          split
          · rw [List.length_take]; simp; omega
          · simpa using h1)
      simp only [List.length_append, List.length_singleton] at this
      exact ⟨by omega, this.2⟩
    · exact ⟨Nat.le_add_right _ _, h⟩
theorem shapeR_bd (hSR : A.shapeR = ((vs, ns), b)) : vs.length ≤ 24 ∧ ns.length ≤ 8001 ∧ ∀ d ∈ ns, d.sl.length ≤ 130 := by
  unfold Ar.shapeR at hSR
  cases hok : A.ok with
  | false =>
    rw [hok] at hSR
    simp at hSR
    obtain ⟨⟨rfl, rfl⟩, rfl⟩ := hSR
    exact ⟨by simp, by simp, fun d hd => by cases hd⟩
  | true =>
    obtain ⟨m, hO⟩ := okP_of hok
    obtain ⟨hm8, -, -, hv24⟩ := hO.lens
    rw [hok, if_pos rfl] at hSR
    have e := (Prod.mk.inj hSR).1
    unfold Ar.shape at e
    obtain ⟨rfl, rfl⟩ := Prod.mk.inj e
    have h1 := shRs_len A A.vs ([], [])
    have h2 := shNs_bd A (A.ws.length + 1) 0 (A.shRs A.vs ([], [])).1 [] (fun d hd => by cases hd)
    simp only [List.length_nil] at h1 h2
    exact ⟨by omega, by omega, h2.2⟩
theorem specShapeOfB_c (hSR : A.shapeR = ((vs, ns), b)) (hA : At H C.bw (wObj C A)) (hRt : At H C.br (rObj C A)) (hw : Wf A.ws) (hx : A.vs.length ≤ 1048576) :
    Fn Try.prog w0 5 #[arV C A] H fun v H' => ∃ br rc rsp bn nc nsp l, v = .tuple #[.agg #[.slice (ad br) vs.length rc, .slice (ad bn) (List.length l) nc], .bool b] ∧ l.map Prod.fst = ns ∧ (br = none → vs = []) ∧ (bn = none → l = []) ∧ (∀ x ∈ l, NOk x) ∧ H' = oV br vs rsp ++ (oN bn l nsp ++ (nHL l ++ H)) := by
  have := specShapeOf_c (w0 := w0) hA hRt hw hx
  rw [hSR] at this
  exact this
theorem implShapeOfB_c (hSR : A.shapeR = ((vs, ns), b)) (hA : At H C.bw (wObj C A)) (hRt : At H C.br (rObj C A)) (hw : Wf A.ws) (hc : A.ws.length ≤ C.wc) (hx : A.vs.length ≤ 1048576) :
    Fn Try.prog w0 7 #[arV C A] H fun v H' => ∃ br rc rsp bn nc nsp l, v = .tuple #[.agg #[.slice (ad br) vs.length rc, .slice (ad bn) (List.length l) nc], .bool b] ∧ l.map Prod.fst = ns ∧ (br = none → vs = []) ∧ (bn = none → l = []) ∧ (∀ x ∈ l, NOk x) ∧ H' = oV br vs rsp ++ (oN bn l nsp ++ (nHL l ++ H)) := by
  have := implShapeOf_c (w0 := w0) hA hRt hw hc hx
  rw [hSR] at this
  exact this
theorem heldShapeB_c {br bn : Option Nat} {rc nc n n' : Nat} {l : List (ND × NA)} {k r : Int} (e1 : vs.length = n) (e2 : List.length l = n') (e3 : nxK (k + 2 * n) l = r) (hR : RS H br vs bn l) (hV : HV k vs) (hM : MKL (k + 2 * n) l) (hv : n ≤ 100) (hs : ∀ x ∈ l, x.1.sl.length ≤ 130) (hl : n' ≤ 9000) (hk : 1 ≤ k ∧ k ≤ 100) :
    Fn Try.prog w0 12 #[.agg #[.slice (ad br) n rc, .slice (ad bn) n' nc], .int .i64 k] H fun v H' => v = .int .i64 r ∧ H' = H := by
  subst e1 e2 e3
  exact heldShape_c hR hV hM hv hs hl hk
set_option maxHeartbeats 8000000 in
theorem lawShapeOf_c {aW aR : Option Addr} {cW cR : Nat} (hW : InU w0 aW cW A.ws) (hR : InV w0 aR cR A.vs) (hw : Wf A.ws) :
    Fn Try.prog w0 3 #[laV aW cW aR cR A] [] fun v H' => v = .bool true := by
  obtain ⟨⟨⟨vs, ns⟩, b⟩, hSR⟩ : ∃ z, A.shapeR = z := ⟨_, rfl⟩
  obtain ⟨hv24, hn8, hs0⟩ := shapeR_bd hSR
  refine enter1 Try.func3 rfl rfl Try.ntmps3 rfl ?_
  repeat' (first | ((first | (apply gCall; apply L_call rfl rfl rfl rfl rfl) | (apply gQC; apply Q_call rfl rfl rfl rfl rfl)); (· exact eqArena_c (C := ⟨bw2, A.ws.length, [], br2, A.vs.length, []⟩) (C' := ⟨bw3, A.ws.length, [], br3, A.vs.length, []⟩) at_ at_ at_ at_ hl hl2); try rintro _ _ ⟨rfl, rfl⟩) | (apply gL; first | refine L_nil ?_ | refine yS ?_ | refine yX fun _ => ?_ | refine yA fun _ => ?_ | (apply gSt; first | refine sR ?_ | refine sB ?_ | refine s1 ?_ | refine sW ?_ | refine sN ?_) | refine kV ?_ | (apply L_val rfl rfl rfl; (· first | (apply gBin; first | fail | exact v_nebs rfl rfl) | fail )) | ((fail_if_success (refine L_known rfl ?_)); refine yW (fun h => ?_) fun h => ?_)) | (apply gW; first | refine W_seq ?_ | refine W_region ?_ | refine W_ret ?_ | refine W_skip ?_ | refine W_cond1 rfl ?_ | refine W_cond0 rfl ?_ | refine Eng.cW (fun h => ?_) fun h => ?_ | refine wQ ?_) | (first | refine seqR.normal ?_ | refine seqR.ret ?_) | (apply gQ; first | refine Q_nil ?_ | refine Q_skip rfl rfl rfl ?_ | refine kQ ?_ | (apply Q_val rfl rfl rfl; (· first | (apply gBin; first | fail | exact v_nebs rfl rfl) | fail )) | ((fail_if_success (refine Q_known rfl ?_)); refine zW (fun h => ?_) fun h => ?_)) | fail)
  apply L_call rfl rfl rfl rfl rfl
  · exact szArena_c hW hR
  rintro _ _ ⟨⟨r, rfl, hr⟩, rfl⟩
  repeat' (first | ((first | (apply gCall; apply L_call rfl rfl rfl rfl rfl) | (apply gQC; apply Q_call rfl rfl rfl rfl rfl)); (· exact eqArena_c (C := ⟨bw2, A.ws.length, [], br2, A.vs.length, []⟩) (C' := ⟨bw3, A.ws.length, [], br3, A.vs.length, []⟩) at_ at_ at_ at_ hl hl2); try rintro _ _ ⟨rfl, rfl⟩) | (apply gL; first | refine L_nil ?_ | refine yS ?_ | refine yX fun _ => ?_ | refine yA fun _ => ?_ | (apply gSt; first | refine sR ?_ | refine sB ?_ | refine s1 ?_ | refine sW ?_ | refine sN ?_) | refine kV ?_ | (apply L_val rfl rfl rfl; (· first | (apply gBin; first | fail | exact v_nebs rfl rfl) | fail )) | ((fail_if_success (refine L_known rfl ?_)); refine yW (fun h => ?_) fun h => ?_)) | (apply gW; first | refine W_seq ?_ | refine W_region ?_ | refine W_ret ?_ | refine W_skip ?_ | refine W_cond1 rfl ?_ | refine W_cond0 rfl ?_ | refine Eng.cW (fun h => ?_) fun h => ?_ | refine wQ ?_) | (first | refine seqR.normal ?_ | refine seqR.ret ?_) | (apply gQ; first | refine Q_nil ?_ | refine Q_skip rfl rfl rfl ?_ | refine kQ ?_ | (apply Q_val rfl rfl rfl; (· first | (apply gBin; first | fail | exact v_nebs rfl rfl) | fail )) | ((fail_if_success (refine Q_known rfl ?_)); refine zW (fun h => ?_) fun h => ?_)) | fail)
  · exact retR.ret _ _ (ret1 rfl rfl) cvt_ rfl
  obtain ⟨hl, hl2⟩ := hr h
  apply L_call rfl rfl rfl rfl rfl
  · exact toArena_c hW hR hl hl2
  rintro _ _ ⟨bw, br, rfl, rfl⟩
  repeat' (first | ((first | (apply gCall; apply L_call rfl rfl rfl rfl rfl) | (apply gQC; apply Q_call rfl rfl rfl rfl rfl)); (· exact eqArena_c (C := ⟨bw2, A.ws.length, [], br2, A.vs.length, []⟩) (C' := ⟨bw3, A.ws.length, [], br3, A.vs.length, []⟩) at_ at_ at_ at_ hl hl2); try rintro _ _ ⟨rfl, rfl⟩) | (apply gL; first | refine L_nil ?_ | refine yS ?_ | refine yX fun _ => ?_ | refine yA fun _ => ?_ | (apply gSt; first | refine sR ?_ | refine sB ?_ | refine s1 ?_ | refine sW ?_ | refine sN ?_) | refine kV ?_ | (apply L_val rfl rfl rfl; (· first | (apply gBin; first | fail | exact v_nebs rfl rfl) | fail )) | ((fail_if_success (refine L_known rfl ?_)); refine yW (fun h => ?_) fun h => ?_)) | (apply gW; first | refine W_seq ?_ | refine W_region ?_ | refine W_ret ?_ | refine W_skip ?_ | refine W_cond1 rfl ?_ | refine W_cond0 rfl ?_ | refine Eng.cW (fun h => ?_) fun h => ?_ | refine wQ ?_) | (first | refine seqR.normal ?_ | refine seqR.ret ?_) | (apply gQ; first | refine Q_nil ?_ | refine Q_skip rfl rfl rfl ?_ | refine kQ ?_ | (apply Q_val rfl rfl rfl; (· first | (apply gBin; first | fail | exact v_nebs rfl rfl) | fail )) | ((fail_if_success (refine Q_known rfl ?_)); refine zW (fun h => ?_) fun h => ?_)) | fail)
  apply L_call rfl rfl rfl rfl rfl
  · exact specShapeOfB_c hSR at_ at_ hw hl2
  rintro _ _ ⟨wr, wrc, wrs, wn, wnc, wns, lw, rfl, ew1, ew2, ew3, ew4, rfl⟩
  have hlw : List.length lw ≤ 9000 := by have := congrArg List.length ew1; simp at this; omega
  have hsw : ∀ x ∈ lw, x.1.sl.length ≤ 1048576 := fun x hx => by have := hs0 _ (by rw [← ew1]; exact List.mem_map_of_mem hx); omega
  apply L_back3
  simp only [List.cons_append, List.nil_append]
  have g1 : ∀ Z, RS ((oV wr vs wrs ++ (oN wn lw wns ++ nHL lw)) ++ Z) wr vs wn lw := fun Z => RS.left (RS.of ew2 ew3 ew4)
  generalize (oV wr vs wrs ++ (oN wn lw wns ++ nHL lw)) = G1 at g1 ⊢
  repeat' (first | ((first | (apply gCall; apply L_call rfl rfl rfl rfl rfl) | (apply gQC; apply Q_call rfl rfl rfl rfl rfl)); (· exact eqArena_c (C := ⟨bw2, A.ws.length, [], br2, A.vs.length, []⟩) (C' := ⟨bw3, A.ws.length, [], br3, A.vs.length, []⟩) at_ at_ at_ at_ hl hl2); try rintro _ _ ⟨rfl, rfl⟩) | (apply gL; first | refine L_nil ?_ | refine yS ?_ | refine yX fun _ => ?_ | refine yA fun _ => ?_ | (apply gSt; first | refine sR ?_ | refine sB ?_ | refine s1 ?_ | refine sW ?_ | refine sN ?_) | refine kV ?_ | (apply L_val rfl rfl rfl; (· first | (apply gBin; first | fail | exact v_nebs rfl rfl) | fail )) | ((fail_if_success (refine L_known rfl ?_)); refine yW (fun h => ?_) fun h => ?_)) | (apply gW; first | refine W_seq ?_ | refine W_region ?_ | refine W_ret ?_ | refine W_skip ?_ | refine W_cond1 rfl ?_ | refine W_cond0 rfl ?_ | refine Eng.cW (fun h => ?_) fun h => ?_ | refine wQ ?_) | (first | refine seqR.normal ?_ | refine seqR.ret ?_) | (apply gQ; first | refine Q_nil ?_ | refine Q_skip rfl rfl rfl ?_ | refine kQ ?_ | (apply Q_val rfl rfl rfl; (· first | (apply gBin; first | fail | exact v_nebs rfl rfl) | fail )) | ((fail_if_success (refine Q_known rfl ?_)); refine zW (fun h => ?_) fun h => ?_)) | fail)
  apply L_call rfl rfl rfl rfl rfl
  · exact toArena_c hW hR hl hl2
  rintro _ _ ⟨bw2, br2, rfl, rfl⟩
  repeat' (first | ((first | (apply gCall; apply L_call rfl rfl rfl rfl rfl) | (apply gQC; apply Q_call rfl rfl rfl rfl rfl)); (· exact eqArena_c (C := ⟨bw2, A.ws.length, [], br2, A.vs.length, []⟩) (C' := ⟨bw3, A.ws.length, [], br3, A.vs.length, []⟩) at_ at_ at_ at_ hl hl2); try rintro _ _ ⟨rfl, rfl⟩) | (apply gL; first | refine L_nil ?_ | refine yS ?_ | refine yX fun _ => ?_ | refine yA fun _ => ?_ | (apply gSt; first | refine sR ?_ | refine sB ?_ | refine s1 ?_ | refine sW ?_ | refine sN ?_) | refine kV ?_ | (apply L_val rfl rfl rfl; (· first | (apply gBin; first | fail | exact v_nebs rfl rfl) | fail )) | ((fail_if_success (refine L_known rfl ?_)); refine yW (fun h => ?_) fun h => ?_)) | (apply gW; first | refine W_seq ?_ | refine W_region ?_ | refine W_ret ?_ | refine W_skip ?_ | refine W_cond1 rfl ?_ | refine W_cond0 rfl ?_ | refine Eng.cW (fun h => ?_) fun h => ?_ | refine wQ ?_) | (first | refine seqR.normal ?_ | refine seqR.ret ?_) | (apply gQ; first | refine Q_nil ?_ | refine Q_skip rfl rfl rfl ?_ | refine kQ ?_ | (apply Q_val rfl rfl rfl; (· first | (apply gBin; first | fail | exact v_nebs rfl rfl) | fail )) | ((fail_if_success (refine Q_known rfl ?_)); refine zW (fun h => ?_) fun h => ?_)) | fail)
  apply L_call rfl rfl rfl rfl rfl
  · exact implShapeOfB_c hSR at_ at_ hw (Nat.le_refl _) hl2
  rintro _ _ ⟨gr, grc, grs, gn, gnc, gns, lg, rfl, eg1, eg2, eg3, eg4, rfl⟩
  have hlg : List.length lg ≤ 9000 := by have := congrArg List.length eg1; simp at this; omega
  have hsg : ∀ x ∈ lg, x.1.sl.length ≤ 130 := fun x hx => hs0 _ (by rw [← eg1]; exact List.mem_map_of_mem hx)
  have hgw : lg.map Prod.fst = lw.map Prod.fst := by rw [eg1, ew1]
  apply L_back3G (by (repeat (first | exact Tail.nil | apply Tail.cons)))
  simp only [List.cons_append, List.nil_append]
  have rg : RS (G1 ++ (oV gr vs grs ++ (oN gn lg gns ++ nHL lg))) gr vs gn lg := RS.app (RS.of eg2 eg3 eg4)
  have rw1 := g1 (oV gr vs grs ++ (oN gn lg gns ++ nHL lg))
  repeat' (first | (apply gCall; apply L_call rfl rfl rfl rfl rfl; (· exact eqShape_c (br := gr) (bn := gn) (br' := wr) (bn' := wn) (l := lg) (l' := lw) hgw (by (repeat (first | assumption | apply RS.there | apply RS.app))) (by (repeat (first | assumption | apply RS.there | apply RS.app))) (by omega) (by omega) (fun x hx => Nat.le_trans (hsg x hx) (by decide))); rintro _ _ ⟨rfl, rfl⟩) | exact absurd rfl h | ((fail_if_success apply gAt 10); (first | ((first | (apply gCall; apply L_call rfl rfl rfl rfl rfl) | (apply gQC; apply Q_call rfl rfl rfl rfl rfl)); (· exact eqArena_c (C := ⟨bw2, A.ws.length, [], br2, A.vs.length, []⟩) (C' := ⟨bw3, A.ws.length, [], br3, A.vs.length, []⟩) at_ at_ at_ at_ hl hl2); try rintro _ _ ⟨rfl, rfl⟩) | (apply gL; first | refine L_nil ?_ | refine yS ?_ | refine yX fun _ => ?_ | refine yA fun _ => ?_ | (apply gSt; first | refine sR ?_ | refine sB ?_ | refine s1 ?_ | refine sW ?_ | refine sN ?_) | refine kV ?_ | (apply L_val rfl rfl rfl; (· first | (apply gBin; first | fail | exact v_nebs rfl rfl) | fail )) | ((fail_if_success (refine L_known rfl ?_)); refine yW (fun h => ?_) fun h => ?_)) | (apply gW; first | refine W_seq ?_ | refine W_region ?_ | refine W_ret ?_ | refine W_skip ?_ | refine W_cond1 rfl ?_ | refine W_cond0 rfl ?_ | refine Eng.cW (fun h => ?_) fun h => ?_ | refine wQ ?_) | (first | refine seqR.normal ?_ | refine seqR.ret ?_) | (apply gQ; first | refine Q_nil ?_ | refine Q_skip rfl rfl rfl ?_ | refine kQ ?_ | (apply Q_val rfl rfl rfl; (· first | (apply gBin; first | fail | exact v_nebs rfl rfl) | fail )) | ((fail_if_success (refine Q_known rfl ?_)); refine zW (fun h => ?_) fun h => ?_)) | fail)))
  refine W_seq ?_
  refine W_seq ?_
  apply W_regionA (by kernel_rfl)
  first | refine kA 0 ?_ | (apply A_val 0 rfl (by kernel_rfl) rfl rfl rfl cv_; (· first | (apply gBin; first | fail | exact v_nebs rfl rfl) | fail ))
  first | refine kA 1 ?_ | (apply A_val 1 rfl (by kernel_rfl) rfl rfl rfl cv_; (· first | (apply gBin; first | fail | exact v_nebs rfl rfl) | fail ))
  refine A_one (i := 2) (by kernel_rfl) cv_ rfl (O_of_L fun S hS => ?_)
  apply L_call rfl rfl rfl rfl rfl
  · exact toArena_c hW hR hl hl2
  rintro _ _ ⟨bw3, br3, rfl, rfl⟩
  refine L_nil (hS _ _ ?_)
  clear hS
  refine A_one (i := 3) (by kernel_rfl) cv_ rfl (O_of_L fun S hS => ?_)
  first | (apply gCall; apply L_call rfl rfl rfl rfl rfl; (· exact eqArena_c (C := ⟨bw2, A.ws.length, [], br2, A.vs.length, []⟩) (C' := ⟨bw3, A.ws.length, [], br3, A.vs.length, []⟩) at_ at_ at_ at_ hl hl2); rintro _ _ ⟨rfl, rfl⟩) | (apply gL; first | refine L_nil ?_ | refine yS ?_ | refine yX fun _ => ?_ | refine yA fun _ => ?_ | (apply gSt; first | refine sR ?_ | refine sB ?_ | refine s1 ?_ | refine sW ?_ | refine sN ?_) | refine kV ?_ | (apply L_val rfl rfl rfl; (· first | (apply gBin; first | fail | exact v_nebs rfl rfl) | fail )) | ((fail_if_success (refine L_known rfl ?_)); refine yW (fun h => ?_) fun h => ?_))
  refine L_nil (hS _ _ ?_)
  clear hS
  first | refine kA 4 ?_ | (apply A_val 4 rfl (by kernel_rfl) rfl rfl rfl cv_; (· first | (apply gBin; first | fail | exact v_nebs rfl rfl) | fail ))
  refine A_nil (by kernel_rfl) cv_ ?_
  repeat' (first | ((first | (apply gCall; apply L_call rfl rfl rfl rfl rfl) | (apply gQC; apply Q_call rfl rfl rfl rfl rfl)); (· exact eqArena_c (C := ⟨bw2, A.ws.length, [], br2, A.vs.length, []⟩) (C' := ⟨bw3, A.ws.length, [], br3, A.vs.length, []⟩) at_ at_ at_ at_ hl hl2); try rintro _ _ ⟨rfl, rfl⟩) | (apply gL; first | refine L_nil ?_ | refine yS ?_ | refine yX fun _ => ?_ | refine yA fun _ => ?_ | (apply gSt; first | refine sR ?_ | refine sB ?_ | refine s1 ?_ | refine sW ?_ | refine sN ?_) | refine kV ?_ | (apply L_val rfl rfl rfl; (· first | (apply gBin; first | fail | exact v_nebs rfl rfl) | fail )) | ((fail_if_success (refine L_known rfl ?_)); refine yW (fun h => ?_) fun h => ?_)) | (apply gW; first | refine W_seq ?_ | refine W_region ?_ | refine W_ret ?_ | refine W_skip ?_ | refine W_cond1 rfl ?_ | refine W_cond0 rfl ?_ | refine Eng.cW (fun h => ?_) fun h => ?_ | refine wQ ?_) | (first | refine seqR.normal ?_ | refine seqR.ret ?_) | (apply gQ; first | refine Q_nil ?_ | refine Q_skip rfl rfl rfl ?_ | refine kQ ?_ | (apply Q_val rfl rfl rfl; (· first | (apply gBin; first | fail | exact v_nebs rfl rfl) | fail )) | ((fail_if_success (refine Q_known rfl ?_)); refine zW (fun h => ?_) fun h => ?_)) | fail)
  all_goals (first | exact absurd rfl h | skip)
  apply L_call rfl rfl rfl rfl rfl
  · exact markArena_s (C := ⟨bw2, A.ws.length, [], br2, A.vs.length, []⟩) tk_ tk_ hl hl2 (by omega)
  rintro _ _ ⟨rfl, rfl⟩
  repeat' (first | (apply gCall; apply L_call rfl rfl rfl rfl rfl; (· exact eqShape_c (br := gr) (bn := gn) (br' := wr) (bn' := wn) (l := lg) (l' := lw) hgw (by (repeat (first | assumption | apply RS.there | apply RS.app))) (by (repeat (first | assumption | apply RS.there | apply RS.app))) (by omega) (by omega) (fun x hx => Nat.le_trans (hsg x hx) (by decide))); rintro _ _ ⟨rfl, rfl⟩) | exact absurd rfl h | (exfalso; omega) | first | ((first | (apply gCall; apply L_call rfl rfl rfl rfl rfl) | (apply gQC; apply Q_call rfl rfl rfl rfl rfl)); (· exact eqArena_c (C := ⟨bw2, A.ws.length, [], br2, A.vs.length, []⟩) (C' := ⟨bw3, A.ws.length, [], br3, A.vs.length, []⟩) at_ at_ at_ at_ hl hl2); try rintro _ _ ⟨rfl, rfl⟩) | (apply gL; first | refine L_nil ?_ | refine yS ?_ | refine yX fun _ => ?_ | refine yA fun _ => ?_ | (apply gSt; first | refine sR ?_ | refine sB ?_ | refine s1 ?_ | refine sW ?_ | refine sN ?_) | refine kV ?_ | (apply L_val rfl rfl rfl; (· first | (apply gBin; first | fail | exact v_nebs rfl rfl) | fail )) | ((fail_if_success (refine L_known rfl ?_)); refine yW (fun h => ?_) fun h => ?_)) | (apply gW; first | refine W_seq ?_ | refine W_region ?_ | refine W_ret ?_ | refine W_skip ?_ | refine W_cond1 rfl ?_ | refine W_cond0 rfl ?_ | refine Eng.cW (fun h => ?_) fun h => ?_ | refine wQ ?_) | (first | refine seqR.normal ?_ | refine seqR.ret ?_) | (apply gQ; first | refine Q_nil ?_ | refine Q_skip rfl rfl rfl ?_ | refine kQ ?_ | (apply Q_val rfl rfl rfl; (· first | (apply gBin; first | fail | exact v_nebs rfl rfl) | fail )) | ((fail_if_success (refine Q_known rfl ?_)); refine zW (fun h => ?_) fun h => ?_)) | fail)
  refine L_fore (by (repeat (first | exact Tail.nil | apply Tail.cons))) ?_
  apply L_call rfl rfl rfl rfl rfl
  · exact markShape_c (vs := vs) (l := lg) eg2 eg3 eg4 (by omega) hsg hlg (by omega)
  rintro _ _ ⟨rfl, vs', lm, ⟨hv1, hv2⟩, ⟨hm1, hm2, hm3, hm4, hm5⟩, rfl⟩
  apply L_aft
  simp only [List.cons_append, List.nil_append]
  have hbd := nxK_bd (1 + 2 * (vs.length : Int)) lg hsg
  generalize hrr : nxK (1 + 2 * (vs.length : Int)) lg = rr at *
  have em2 : gr = none → vs' = [] := fun c => List.eq_nil_of_length_eq_zero (by rw [hv1, eg2 c]; rfl)
  have em3 : gn = none → lm = [] := fun c => List.eq_nil_of_length_eq_zero (by rw [hm1, eg3 c]; rfl)
  have rm : RS (oV gr vs' grs ++ (oN gn lm gns ++ nHL lm)) gr vs' gn lm := RS.of em2 em3 hm4
  generalize (oV gr vs' grs ++ (oN gn lm gns ++ nHL lm)) = G2 at rm ⊢
  have rm1 : RS (G1 ++ G2) gr vs' gn lm := RS.app rm
  repeat' (first | (apply gCall; apply L_call rfl rfl rfl rfl rfl; (· exact heldShapeB_c (vs := vs') (l := lm) hv1 hm1 hm3 (by (repeat (first | assumption | apply RS.there | apply RS.app))) hv2 hm2 (by omega) hm5 (by omega) (by omega)); rintro _ _ ⟨rfl, rfl⟩) | exact absurd rfl h | (exfalso; omega) | first | ((first | (apply gCall; apply L_call rfl rfl rfl rfl rfl) | (apply gQC; apply Q_call rfl rfl rfl rfl rfl)); (· exact eqArena_c (C := ⟨bw2, A.ws.length, [], br2, A.vs.length, []⟩) (C' := ⟨bw3, A.ws.length, [], br3, A.vs.length, []⟩) at_ at_ at_ at_ hl hl2); try rintro _ _ ⟨rfl, rfl⟩) | (apply gL; first | refine L_nil ?_ | refine yS ?_ | refine yX fun _ => ?_ | refine yA fun _ => ?_ | (apply gSt; first | refine sR ?_ | refine sB ?_ | refine s1 ?_ | refine sW ?_ | refine sN ?_) | refine kV ?_ | (apply L_val rfl rfl rfl; (· first | (apply gBin; first | fail | exact v_nebs rfl rfl) | fail )) | ((fail_if_success (refine L_known rfl ?_)); refine yW (fun h => ?_) fun h => ?_)) | (apply gW; first | refine W_seq ?_ | refine W_region ?_ | refine W_ret ?_ | refine W_skip ?_ | refine W_cond1 rfl ?_ | refine W_cond0 rfl ?_ | refine Eng.cW (fun h => ?_) fun h => ?_ | refine wQ ?_) | (first | refine seqR.normal ?_ | refine seqR.ret ?_) | (apply gQ; first | refine Q_nil ?_ | refine Q_skip rfl rfl rfl ?_ | refine kQ ?_ | (apply Q_val rfl rfl rfl; (· first | (apply gBin; first | fail | exact v_nebs rfl rfl) | fail )) | ((fail_if_success (refine Q_known rfl ?_)); refine zW (fun h => ?_) fun h => ?_)) | fail)
  apply L_call rfl rfl rfl rfl rfl
  · exact toArena_c hW hR hl hl2
  rintro _ _ ⟨bw4, br4, rfl, rfl⟩
  repeat' (first | ((first | (apply gCall; apply L_call rfl rfl rfl rfl rfl) | (apply gQC; apply Q_call rfl rfl rfl rfl rfl)); (· exact eqArena_c (C := ⟨bw2, A.ws.length, [], br2, A.vs.length, []⟩) (C' := ⟨bw3, A.ws.length, [], br3, A.vs.length, []⟩) at_ at_ at_ at_ hl hl2); try rintro _ _ ⟨rfl, rfl⟩) | (apply gL; first | refine L_nil ?_ | refine yS ?_ | refine yX fun _ => ?_ | refine yA fun _ => ?_ | (apply gSt; first | refine sR ?_ | refine sB ?_ | refine s1 ?_ | refine sW ?_ | refine sN ?_) | refine kV ?_ | (apply L_val rfl rfl rfl; (· first | (apply gBin; first | fail | exact v_nebs rfl rfl) | fail )) | ((fail_if_success (refine L_known rfl ?_)); refine yW (fun h => ?_) fun h => ?_)) | (apply gW; first | refine W_seq ?_ | refine W_region ?_ | refine W_ret ?_ | refine W_skip ?_ | refine W_cond1 rfl ?_ | refine W_cond0 rfl ?_ | refine Eng.cW (fun h => ?_) fun h => ?_ | refine wQ ?_) | (first | refine seqR.normal ?_ | refine seqR.ret ?_) | (apply gQ; first | refine Q_nil ?_ | refine Q_skip rfl rfl rfl ?_ | refine kQ ?_ | (apply Q_val rfl rfl rfl; (· first | (apply gBin; first | fail | exact v_nebs rfl rfl) | fail )) | ((fail_if_success (refine Q_known rfl ?_)); refine zW (fun h => ?_) fun h => ?_)) | fail)
  apply L_call rfl rfl rfl rfl rfl
  · exact implShapeOfB_c hSR at_ at_ hw (Nat.le_refl _) hl2
  rintro _ _ ⟨hr_, hrc, hrs, hn_, hnc, hns, lh, rfl, eh1, eh2, eh3, eh4, rfl⟩
  have hlh : List.length lh ≤ 9000 := by have := congrArg List.length eh1; simp at this; omega
  have hsh : ∀ x ∈ lh, x.1.sl.length ≤ 130 := fun x hx => hs0 _ (by rw [← eh1]; exact List.mem_map_of_mem hx)
  have hhw : lh.map Prod.fst = lw.map Prod.fst := by rw [eh1, ew1]
  apply L_back3G (by (repeat (first | exact Tail.nil | apply Tail.cons)))
  simp only [List.cons_append, List.nil_append]
  have rh : RS (G1 ++ (G2 ++ (oV hr_ vs hrs ++ (oN hn_ lh hns ++ nHL lh)))) hr_ vs hn_ lh := RS.app (RS.app (RS.of eh2 eh3 eh4))
  have rw3 := g1 (G2 ++ (oV hr_ vs hrs ++ (oN hn_ lh hns ++ nHL lh)))
  have rm3 : RS (G1 ++ (G2 ++ (oV hr_ vs hrs ++ (oN hn_ lh hns ++ nHL lh)))) gr vs' gn lm := RS.app (RS.left rm)
  repeat' (first | (apply gCall; apply L_call rfl rfl rfl rfl rfl; (· first | exact eqShape_c (br := hr_) (bn := hn_) (br' := wr) (bn' := wn) (l := lh) (l' := lw) hhw (by (repeat (first | assumption | apply RS.there | apply RS.app))) (by (repeat (first | assumption | apply RS.there | apply RS.app))) (by omega) (by omega) (fun x hx => Nat.le_trans (hsh x hx) (by decide)) | exact heldShapeB_c (vs := vs') (l := lm) hv1 hm1 hm3 (by (repeat (first | assumption | apply RS.there | apply RS.app))) hv2 hm2 (by omega) hm5 (by omega) (by omega)); rintro _ _ ⟨rfl, rfl⟩) | exact absurd rfl h | (exfalso; omega) | first | ((first | (apply gCall; apply L_call rfl rfl rfl rfl rfl) | (apply gQC; apply Q_call rfl rfl rfl rfl rfl)); (· exact eqArena_c (C := ⟨bw2, A.ws.length, [], br2, A.vs.length, []⟩) (C' := ⟨bw3, A.ws.length, [], br3, A.vs.length, []⟩) at_ at_ at_ at_ hl hl2); try rintro _ _ ⟨rfl, rfl⟩) | (apply gL; first | refine L_nil ?_ | refine yS ?_ | refine yX fun _ => ?_ | refine yA fun _ => ?_ | (apply gSt; first | refine sR ?_ | refine sB ?_ | refine s1 ?_ | refine sW ?_ | refine sN ?_) | refine kV ?_ | (apply L_val rfl rfl rfl; (· first | (apply gBin; first | fail | exact v_nebs rfl rfl) | fail )) | ((fail_if_success (refine L_known rfl ?_)); refine yW (fun h => ?_) fun h => ?_)) | (apply gW; first | refine W_seq ?_ | refine W_region ?_ | refine W_ret ?_ | refine W_skip ?_ | refine W_cond1 rfl ?_ | refine W_cond0 rfl ?_ | refine Eng.cW (fun h => ?_) fun h => ?_ | refine wQ ?_) | (first | refine seqR.normal ?_ | refine seqR.ret ?_) | (apply gQ; first | refine Q_nil ?_ | refine Q_skip rfl rfl rfl ?_ | refine kQ ?_ | (apply Q_val rfl rfl rfl; (· first | (apply gBin; first | fail | exact v_nebs rfl rfl) | fail )) | ((fail_if_success (refine Q_known rfl ?_)); refine zW (fun h => ?_) fun h => ?_)) | fail)
  exact retR.ret _ _ (ret1 rfl rfl) cvt_ rfl
end Go.Proofs.Ytfhihnonafklbaa.Eng
