/- What functions of the program compute, said in the abstract logic; no conditions. -/
import Derived.Test.YtffefndnnbcplaaGDrawS

namespace Go.Proofs.Ytffefndnnbcplaa
open Go
set_option linter.unusedSimpArgs false
set_option linter.unusedVariables false
set_option maxRecDepth 100000
set_option maxHeartbeats 8000000
attribute [local go_sem] st0 AC thenA andC locLoadB KsSW_same KsSW_grow oldLoadB KsOS_same KsOS_grow pv ev put upd dstOk cv cvc binI setB Value.oneCell' EndA resA resA1 List.mapM_cons List.mapM_nil Option.pure_def Option.bind_eq_bind noLocV noLoc1 noLoc noLocs plainV cellsA newVarA putCells condA lam0 inBlockA cur lenA rowA avoidsB avoidB clearB Array.toList_append Op.operands Call.operands newSlot Nat.zero_add Nat.add_zero Nat.succ_ne_self Nat.lt_add_one Nat.zero_lt_succ true_and and_true true_or or_true false_or or_false and_self true_implies forall_const Bool.false_eq_true Bool.true_eq_false false_implies implies_true imp_self ne_eq not_false_eq_true not_true_eq_false false_and and_false List.getElem?_toArray List.getElem?_cons_succ List.getElem?_cons_zero Option.bind_some Option.map_some Bool.not_true Bool.not_false List.getD_cons_zero List.getD_cons_succ Option.some.injEq exists_eq_left' AV.bool.injEq List.map_cons List.map_nil List.all_cons List.all_nil Bool.and_self Bool.and_true Bool.true_and List.append_nil List.cons_append List.nil_append List.length_cons List.length_nil List.drop_zero List.take_zero List.drop_succ_cons List.take_succ_cons List.take_nil List.drop_nil List.not_mem_nil List.mem_cons List.contains_nil List.contains_cons Bool.or_self Bool.or_true Bool.true_or Bool.false_or Bool.or_false Bool.and_false Bool.false_and KsS_same KsS_grow skipV KsS_ext KsSW_ext KsOS_ext rep1 rep2 rep3 rep4 rep5 List.flatten_cons List.flatten_nil partsA isPtr fillA List.size_toArray ltT ltF leT leF ltTn ltFn leTn leFn eqTi eqFi wrapId toNat1 intGet boolGet memD app_get app_last app_lst app_set app_setL app_setF set_ne set_eq gt_iff_lt ge_iff_le decide_eq_true_eq len2 len3 get20 get21 drop2 put2 get30 get31 get32 drop3 put3 putI pairEta bneTi bneFi beqTi beqFi bne_eq_false_iff_eq beq_eq_false_iff_ne beq_iff_eq bne_iff_ne Int.toNat_natCast Nat.mul_one List.length_map Bool.not_eq_true Bool.not_eq_false Bool.decide_eq_true decide_true decide_false Bool.not_eq_true' Bool.not_eq_false' decide_eq_false_iff_not eq_self Decidable.not_not

def SLake (lo : Nat) : List AV → List Blk → (AV → List Blk → Prop) → Prop
  | [v], η, K => ∃ g, Row8 5 η v g ∧ g.length ≤ maxLen ∧ ∀ H (r : Int) (l : List Id3) (bs : List Int) (h : Int) (b0 b3 v0 v3 : Nat), balB r l = true → r ≤ 3 → (bs.length : Int) = r → (∀ x ∈ bs, 0 ≤ x ∧ x ≤ 9000) → (0 ≤ h ∧ h ≤ 12000) → H[b0]? = some ⟨v0, 45, 3, (l.map enc3).flatten⟩ → H[b3]? = some ⟨v3, 3, 1, bs.map (.int .i64)⟩ → Ext η H →
      K (.tup [.agg [.int .i64 r, .sl b0 v0 0 l.length], .sl b3 v3 0 bs.length, .int .i64 h]) H
  | _, _, _ => False
def invLk (lo nb : Nat) (η : List Blk) (c : Nat) (v : AV) (r : Int) (l : List Id3) (b0 w0 : Nat) (st : St) : Prop := ∃ (bs : List Int) (H : List Blk) (bq ver : Nat), (bs.length : Int) ≤ r ∧ (∀ x ∈ bs, 0 ≤ x ∧ x ≤ 9000) ∧ CurAt lo H c v ∧ H[b0]? = some ⟨w0, 45, 3, (l.map enc3).flatten⟩ ∧ H[bq]? = some ⟨ver, 3, 1, bs.map (.int .i64)⟩ ∧ nb ≤ bq ∧ FrN nb η H ∧
  st.n = 29 ∧ st.τ 2 = .loc 2 1 0 ∧ st.τ 5 = .ptr c 0 0 ∧ st.τ 6 = .loc 6 1 0 ∧ st.τ 7 = .sl bq ver 0 bs.length ∧ st.τ 8 = .int .i64 bs.length ∧ st.lam 6 = ⟨1, [.int .i64 r, .sl b0 w0 0 l.length]⟩ ∧ st.lam 2 = ⟨1, [.int .i64 0, .nils]⟩ ∧ st.η = H

/- spec.DrawLake -/
def Sp59 (lo : Nat) : Spec := fun g args η K => match g with | 88 => SNew lo args η K | 89 => SBelow lo args η K | 125 => SRootB lo args η K | _ => False
theorem Sp59_ok {lo : Nat} : Sound Try.prog lo (Sp59 lo) := by
  intro g args η K h
  unfold Sp59 at h
  split at h
  · exact f88_ok h
  · exact f89_ok h
  · exact f125_ok h
  · exact h.elim
def D59 : Draws := fun id => match id with | 8 => ([0, 0, 0, 4, 13, 31, 63], [1003], [(1000, 0)], (.one 0 (.one 1 (.one 2 (.one 3 (.one 4 (.one 5 (.one 6 .nil)))))))) | _ => ([], [], [], .nil)
theorem f59_ok {lo : Nat} {args : List AV} {η : List Blk} {K : AV → List Blk → Prop} (h : SLake lo args η K) : AF Try.prog lo 59 args η K := by
  unfold SLake at h
  split at h
  · obtain ⟨g, hr, hml, hK⟩ := h
    rename_i v
    have hn := (noLoc8 hr).1
    refine AF_run Sp59_ok D59 [] [.cell 2 26, .tmp 3, .tmp 4] hm Try.func59 rfl (by decide) Try.ntmps59 rfl (by kernel_rfl) (Nat.le_of_ble_eq_true rfl) ?_; intro hlo
    repeat' (first | with_reducible refine iteI (fun _ => ?_) (fun _ => ?_) | ((first | unfold AOpsC | unfold AOpsD | skip); simp (maxSteps := 1000000) (disch := (first | omega | assumption | (simp only [List.length_append, List.length_cons, List.length_nil, List.length_set]; omega))) only [go_sem, ↓skipC, ↓exitC, ↓retC, ↓seqC, ↓blockC, ↓condC, ↓regC, ↓drawC, ↓drawStep, ↓AOpC, ↓AOpF, ↓AOpE, ↓AEff, ↓contE_at, ↓contC_at, ↓keepC_at, ↓keepW_at, ↓keepO_at, ↓map_parts, ↓reduceIte, reduceCtorEq, Nat.reduceLT, Nat.reduceEqDiff, Nat.reduceAdd, Nat.reduceMul, Nat.reduceLeDiff, Nat.reduceSub, Nat.reduceBEq, Nat.reduceBNe, Nat.reduceBneDiff, Nat.reduceBeqDiff, ag_26, ag_28, ag_3, by_26, by_28, by_3, el_28, fi_26_0, in_3, nf_26, pl_26, ps_26, sz_26, sz_28, sz_3, ze_26, ze_28, ze_3, Sp59, SNew, D59, ↓hn]))
    refine ⟨g, hr, hml, fun h0 => ?_⟩
    repeat' (first | with_reducible refine iteI (fun _ => ?_) (fun _ => ?_) | ((first | unfold AOpsC | unfold AOpsD | skip); simp (maxSteps := 1000000) (disch := (first | omega | assumption | (simp only [List.length_append, List.length_cons, List.length_nil, List.length_set]; omega))) only [go_sem, ↓skipC, ↓exitC, ↓retC, ↓seqC, ↓blockC, ↓condC, ↓regC, ↓drawC, ↓drawStep, ↓AOpC, ↓AOpF, ↓AOpE, ↓AEff, ↓contE_at, ↓contC_at, ↓keepC_at, ↓keepW_at, ↓keepO_at, ↓map_parts, ↓reduceIte, reduceCtorEq, Nat.reduceLT, Nat.reduceEqDiff, Nat.reduceAdd, Nat.reduceMul, Nat.reduceLeDiff, Nat.reduceSub, Nat.reduceBEq, Nat.reduceBNe, Nat.reduceBneDiff, Nat.reduceBeqDiff, ag_26, ag_28, ag_3, by_26, by_28, by_3, el_28, fi_26_0, in_3, nf_26, pl_26, ps_26, sz_26, sz_28, sz_3, ze_26, ze_28, ze_3, Sp59, SNew, D59]))
    unfold SRootB
    refine ⟨η.length, v, hlo, Nat.le_refl _, ⟨hlo, g, 0, h0, hr.app _, hml, by omega, by omega, by simp⟩, fun H0 r l b0 w0 p1 p0 p2 p3 p4 p5 => ?_⟩
    generalize hc : η.length = c at *
    generalize hη1 : η ++ [curB v 0 h0] = η1 at *
    have hmesh : meshB r l = true := by
      simp only [balB, Bool.and_eq_true] at p1
      exact p1.1
    have hml2 := mesh_len hmesh
    have hbl := blt p4
    repeat' (first | with_reducible refine iteI (fun _ => ?_) (fun _ => ?_) | ((first | unfold AOpsC | unfold AOpsD | skip); simp (maxSteps := 1000000) (disch := (first | omega | assumption | (simp only [List.length_append, List.length_cons, List.length_nil, List.length_set]; omega))) only [go_sem, ↓skipC, ↓exitC, ↓retC, ↓seqC, ↓blockC, ↓condC, ↓regC, ↓drawC, ↓drawStep, ↓AOpC, ↓AOpF, ↓AOpE, ↓AEff, ↓contE_at, ↓contC_at, ↓keepC_at, ↓keepW_at, ↓keepO_at, ↓map_parts, ↓reduceIte, reduceCtorEq, Nat.reduceLT, Nat.reduceEqDiff, Nat.reduceAdd, Nat.reduceMul, Nat.reduceLeDiff, Nat.reduceSub, Nat.reduceBEq, Nat.reduceBNe, Nat.reduceBneDiff, Nat.reduceBeqDiff, ag_26, ag_28, ag_3, by_26, by_28, by_3, el_28, fi_26_0, in_3, nf_26, pl_26, ps_26, sz_26, sz_28, sz_3, ze_26, ze_28, ze_3, Sp59, SNew, D59]))
    refine ⟨invLk lo c η1 c v r l b0 w0, fun st => ctr r.toNat st 8, .inr ⟨7, 3, 1, Nat.le_of_ble_eq_true rfl, rfl, [], _, H0.length, 0, by simp; omega, by simp, p2.app _, old_get p4 _, by simp [RecE], by omega, p5.app (by omega) _, rfl, rfl, rfl, rfl, by simp [RecE, upd], rfl, by simp [RecE, upd], by simp [RecE, upd], rfl⟩, ?_⟩
    rintro ⟨n, τ, lam, H'⟩ ⟨bs, H, bq, ver, g0, g1, g2, g3, g4, g5, g6, hn, t2, t5, t6, t7, t8, l6, l2, hη⟩; simp only at hn t2 t5 t6 t7 t8 l6 l2 hη; subst hn hη
    have hHl := blt g4
    have hb03 := blt g3
    by_cases hlt : (bs.length : Int) < r
    · repeat' (first | with_reducible refine iteI (fun _ => ?_) (fun _ => ?_) | ((first | unfold AOpsC | unfold AOpsD | skip); simp (maxSteps := 1000000) (disch := (first | omega | assumption | (simp only [List.length_append, List.length_cons, List.length_nil, List.length_set]; omega))) only [go_sem, ↓skipC, ↓exitC, ↓retC, ↓seqC, ↓blockC, ↓condC, ↓regC, ↓drawC, ↓drawStep, ↓AOpC, ↓AOpF, ↓AOpE, ↓AEff, ↓contE_at, ↓contC_at, ↓keepC_at, ↓keepW_at, ↓keepO_at, ↓map_parts, ↓reduceIte, reduceCtorEq, Nat.reduceLT, Nat.reduceEqDiff, Nat.reduceAdd, Nat.reduceMul, Nat.reduceLeDiff, Nat.reduceSub, Nat.reduceBEq, Nat.reduceBNe, Nat.reduceBneDiff, Nat.reduceBeqDiff, ag_26, ag_28, ag_3, by_26, by_28, by_3, el_28, fi_26_0, in_3, nf_26, pl_26, ps_26, sz_26, sz_28, sz_3, ze_26, ze_28, ze_3, Sp59, SNew, D59, t2, t5, t6, t7, t8, l6, l2, g4, takeMap]))
      unfold SBelow
      refine ⟨v, g2, by omega, fun x i1 e1 x0 x1 _ hc1 => ?_⟩
      replace x1 := x1 (by omega)
      replace g4 := setBlk (x := curB v i1 e1) g4 (g2.ne g4 (by simp))
      replace g3 := setBlk (x := curB v i1 e1) g3 (g2.ne g3 (by simp))
      replace g6 := g6.set (Nat.le_refl c) (curB v i1 e1)
      generalize H'.set c (curB v i1 e1) = H1 at *
      have hH1 := blt g4
      have hb0q : bq ≠ b0 := by rintro rfl; rw [g4] at g3; simp at g3
      repeat' (first | with_reducible refine iteI (fun _ => ?_) (fun _ => ?_) | ((first | unfold AOpsC | unfold AOpsD | skip); simp (maxSteps := 1000000) (disch := (first | omega | assumption | (simp only [List.length_append, List.length_cons, List.length_nil, List.length_set]; omega))) only [go_sem, ↓skipC, ↓exitC, ↓retC, ↓seqC, ↓blockC, ↓condC, ↓regC, ↓drawC, ↓drawStep, ↓AOpC, ↓AOpF, ↓AOpE, ↓AEff, ↓contE_at, ↓contC_at, ↓keepC_at, ↓keepW_at, ↓keepO_at, ↓map_parts, ↓reduceIte, reduceCtorEq, Nat.reduceLT, Nat.reduceEqDiff, Nat.reduceAdd, Nat.reduceMul, Nat.reduceLeDiff, Nat.reduceSub, Nat.reduceBEq, Nat.reduceBNe, Nat.reduceBneDiff, Nat.reduceBeqDiff, ag_26, ag_28, ag_3, by_26, by_28, by_3, el_28, fi_26_0, in_3, nf_26, pl_26, ps_26, sz_26, sz_28, sz_3, ze_26, ze_28, ze_3, Sp59, SNew, D59, t2, t5, t6, t7, t8, l6, l2, g4, hH1, takeMap]))
      refine ⟨⟨bs ++ [x], _, bq, ver + 1, by simp; omega, fun y hy => (List.mem_append.1 hy).elim (g1 y) fun hy => by simp at hy; subst hy; omega, (hc1.oth g4 (by simp) (by simp) _).app _, old_get (setBlk g3 hb0q) _, old_get (x := ⟨ver + 1, 3, 1, (bs ++ [x]).map (.int .i64)⟩) (by rw [set_eq hH1]; simp) _, g5, (g6.set g5 _).app (by simp; omega) _, rfl, by simp [upd, t2], by simp [upd, t5], by simp [upd, t6], by simp [upd], by simp [upd], by simp [upd, l6], by simp [upd, l2], rfl⟩, by simp [ctr, upd, t8]; omega⟩
    · repeat' (first | with_reducible refine iteI (fun _ => ?_) (fun _ => ?_) | ((first | unfold AOpsC | unfold AOpsD | skip); simp (maxSteps := 1000000) (disch := (first | omega | assumption | (simp only [List.length_append, List.length_cons, List.length_nil, List.length_set]; omega))) only [go_sem, ↓skipC, ↓exitC, ↓retC, ↓seqC, ↓blockC, ↓condC, ↓regC, ↓drawC, ↓drawStep, ↓AOpC, ↓AOpF, ↓AOpE, ↓AEff, ↓contE_at, ↓contC_at, ↓keepC_at, ↓keepW_at, ↓keepO_at, ↓map_parts, ↓reduceIte, reduceCtorEq, Nat.reduceLT, Nat.reduceEqDiff, Nat.reduceAdd, Nat.reduceMul, Nat.reduceLeDiff, Nat.reduceSub, Nat.reduceBEq, Nat.reduceBNe, Nat.reduceBneDiff, Nat.reduceBeqDiff, ag_26, ag_28, ag_3, by_26, by_28, by_3, el_28, fi_26_0, in_3, nf_26, pl_26, ps_26, sz_26, sz_28, sz_3, ze_26, ze_28, ze_3, Sp59, SNew, D59, t2, t5, t6, t7, t8, l6, l2, g4]))
      unfold SBelow
      refine ⟨v, g2, by omega, fun x i1 e1 x0 x1 _ hc1 => ?_⟩
      replace x1 := x1 (by omega)
      replace g4 := setBlk (x := curB v i1 e1) g4 (g2.ne g4 (by simp))
      replace g3 := setBlk (x := curB v i1 e1) g3 (g2.ne g3 (by simp))
      replace g6 := g6.set (Nat.le_refl c) (curB v i1 e1)
      have hw := g2.ksw i1 e1
      generalize H'.set c (curB v i1 e1) = H1 at *
      repeat' (first | with_reducible refine iteI (fun _ => ?_) (fun _ => ?_) | ((first | unfold AOpsC | unfold AOpsD | skip); simp (maxSteps := 1000000) (disch := (first | omega | assumption | (simp only [List.length_append, List.length_cons, List.length_nil, List.length_set]; omega))) only [go_sem, ↓skipC, ↓exitC, ↓retC, ↓seqC, ↓blockC, ↓condC, ↓regC, ↓drawC, ↓drawStep, ↓AOpC, ↓AOpF, ↓AOpE, ↓AEff, ↓contE_at, ↓contC_at, ↓keepC_at, ↓keepW_at, ↓keepO_at, ↓map_parts, ↓reduceIte, reduceCtorEq, Nat.reduceLT, Nat.reduceEqDiff, Nat.reduceAdd, Nat.reduceMul, Nat.reduceLeDiff, Nat.reduceSub, Nat.reduceBEq, Nat.reduceBNe, Nat.reduceBneDiff, Nat.reduceBeqDiff, ag_26, ag_28, ag_3, by_26, by_28, by_3, el_28, fi_26_0, in_3, nf_26, pl_26, ps_26, sz_26, sz_28, sz_3, ze_26, ze_28, ze_3, Sp59, SNew, D59, t2, t5, t6, t7, t8, l6, l2, g4, hw]))
      exact hK _ r l bs x b0 bq w0 ver p1 p0 (by omega) g1 (by omega) g3 g4 (by rw [← hη1, ← hc] at g6; exact g6.ext0)
  · exact h.elim

/-- The mass of a leaf below a height. -/
def lkM (l : List Id3) (bs : List Int) (h : Int) (i : Nat) : Int := (if bs.getD (l.getD i (0, 0, 0)).1.toNat 0 < h then h - bs.getD (l.getD i (0, 0, 0)).1.toNat 0 else 0) / 2 ^ (l.getD i (0, 0, 0)).2.1.toNat
def lkN (l : List Id3) (bs : List Int) (h : Int) (n : Nat) : List Int := (List.range n).map (lkM l bs h)
def zsN (n : Nat) : List Int := (List.range n).map fun _ => 0
theorem lkN_succ (l : List Id3) (bs : List Int) (h : Int) (n : Nat) : lkN l bs h (n + 1) = lkN l bs h n ++ [lkM l bs h n] := by simp [lkN, List.range_succ]
theorem zsN_succ (n : Nat) : zsN (n + 1) = zsN n ++ [0] := by simp [zsN, List.range_succ]
theorem lkN_len (l : List Id3) (bs : List Int) (h : Int) (n : Nat) : (lkN l bs h n).length = n := by simp [lkN]
theorem zsN_len (n : Nat) : (zsN n).length = n := by simp [zsN]
theorem lkM_bd {l : List Id3} {bs : List Int} {h : Int} (hb : ∀ x ∈ bs, 0 ≤ x ∧ x ≤ 9000) (hh : 0 ≤ h ∧ h ≤ 12000) {i : Nat} (hi : (l.getD i (0, 0, 0)).1.toNat < bs.length) (hl : 0 ≤ (l.getD i (0, 0, 0)).2.1 ∧ (l.getD i (0, 0, 0)).2.1 ≤ 4) : 0 ≤ lkM l bs h i ∧ lkM l bs h i ≤ 12000 := by
  have b := hb _ (getD_mem (d := 0) hi)
  unfold lkM
  generalize bs.getD (l.getD i (0, 0, 0)).1.toNat 0 = x at *
  generalize (l.getD i (0, 0, 0)).2.1 = y at *
  have e : 0 ≤ (if x < h then h - x else 0) ∧ (if x < h then h - x else 0) ≤ 12000 := by split <;> omega
  generalize (if x < h then h - x else 0) = z at *
  rcases lv5 hl with rfl | rfl | rfl | rfl | rfl <;> simp <;> omega
def SFill : List AV → List Blk → (AV → List Blk → Prop) → Prop
  | [.agg [.int .i64 r, v], u, .int .i64 h], η, K => ∃ (l : List Id3) (bs : List Int), (IsR 45 3 enc3 η v l ∧ IsI η u bs) ∧ balB r l = true ∧ r ≤ 3 ∧ (bs.length : Int) = r ∧ (∀ x ∈ bs, 0 ≤ x ∧ x ≤ 9000) ∧ (0 ≤ h ∧ h ≤ 12000) ∧
      ∀ H b0 b1 b2 b3 v0 v1 v2 v3, New4 η.length H b0 b1 b2 b3 v0 v1 v2 v3 l (lkN l bs h l.length) (zsN l.length) bs → okB r l (lkN l bs h l.length) (zsN l.length) bs = true → Ext η H → K (.tup [.agg [.int .i64 r, .sl b0 v0 0 l.length, .sl b1 v1 0 l.length, .sl b2 v2 0 l.length, .sl b3 v3 0 bs.length], .bool true]) H
  | _, _, _ => False
theorem lk_ok {r : Int} {l : List Id3} {bs : List Int} {h : Int} (hB : balB r l = true) (hr : r ≤ 3) (hb : (bs.length : Int) = r) (hbd : ∀ x ∈ bs, 0 ≤ x ∧ x ≤ 9000) (hh : 0 ≤ h ∧ h ≤ 12000) : okB r l (lkN l bs h l.length) (zsN l.length) bs = true := by
  have hm : meshB r l = true := by
    simp only [balB, Bool.and_eq_true] at hB
    exact hB.1
  have hl := mesh_len hm
  have hlv := mesh_levs hm
  have cb : ∀ i, i < l.length → 0 ≤ lkM l bs h i ∧ lkM l bs h i ≤ 12000 := fun i hi => by
    have hro := mesh_root hm hi
    exact lkM_bd hbd hh (by omega) (levs_at hlv hi)
  refine (drawn_of hB hr ⟨by rw [zsN_len, lkN_len], fun i hi => ?_⟩ (lkN_len _ _ _ _) hb (fun x hx => by have := hbd x hx; omega)).1
  rw [lkN_len] at hi
  have e1 : (lkN l bs h l.length).getD i 0 = lkM l bs h i := by simp [lkN, List.getD_eq_getElem?_getD, List.getElem?_map, List.getElem?_range hi]
  have e2 : (zsN l.length).getD i 0 = 0 := by simp [zsN, List.getD_eq_getElem?_getD, List.getElem?_map, List.getElem?_range hi]
  rw [e1, e2]
  have := cb i hi
  omega

def invFl (η : List Blk) (r : Int) (v u : AV) (h : Int) (l : List Id3) (bs : List Int) (st : St) : Prop := ∃ i : Nat, ∃ x1 : AV, ∃ x2 : AV, ∃ H : List Blk, (i ≤ l.length) ∧ (Ext η H) ∧ (CelH η.length H η.length 0 l (η.length + 1) 0 bs (lkN l bs h i) (zsN i) x1 x2) ∧ st.n = 87 ∧ st.τ 1 = u ∧ st.τ 2 = .int .i64 h ∧ st.τ 3 = .loc 3 1 0 ∧ st.τ 6 = .loc 6 1 0 ∧ st.τ 8 = .loc 8 1 0 ∧ st.τ 9 = .int .i64 i ∧ st.lam 3 = ⟨1, [.int .i64 r, v]⟩ ∧ st.lam 6 = ⟨1, [.int .i64 0, .nils, .nils, .nils, .nils]⟩ ∧ st.lam 8 = ⟨1, [.int .i64 r, .sl η.length 0 0 l.length, x1, x2, .sl (η.length + 1) 0 0 bs.length]⟩ ∧ st.η = H

/- spec.FillState -/
def Sp60 (lo : Nat) : Spec := fun g args η K => match g with | 44 => SOk args η K | 95 => SIn args η K | 99 => SCopyM args η K | 116 => SBal args η K | _ => False
theorem Sp60_ok {lo : Nat} : Sound Try.prog lo (Sp60 lo) := by
  intro g args η K h
  unfold Sp60 at h
  split at h
  · exact f44_ok h
  · exact f95_ok h
  · exact f99_ok h
  · exact f116_ok h
  · exact h.elim
def D60 : Draws := fun id => match id with | 10 => ([0, 1, 0, 0, 8, 0, 56, 120, 248, 504, 1020, 2044, 4095, 8191, 16383], [11], [], (.one 0 (.one 1 (.one 2 (.one 3 (.one 4 (.one 5 (.one 6 (.one 7 (.one 8 (.one 9 (.one 10 (.one 11 (.one 12 (.one 13 (.one 14 .nil)))))))))))))))) | _ => ([], [], [], .nil)
theorem f60_ok {lo : Nat} {args : List AV} {η : List Blk} {K : AV → List Blk → Prop} (h : SFill args η K) : AF Try.prog lo 60 args η K := by
  unfold SFill at h
  split at h
  · obtain ⟨l, bs, ⟨⟨b0, v0, rfl, hb0⟩, ⟨b3, v3, rfl, hb3⟩⟩, hB, hr3, hbl, hbd, hh, hK⟩ := h
    rename_i r h
    have hm1 : meshB r l = true := by
      simp only [balB, Bool.and_eq_true] at hB
      exact hB.1
    have hml := mesh_len hm1
    have hne := mesh_ne hm1
    have hlv := mesh_levs hm1
    have d1 : dec3 45 η (.sl b0 v0 0 l.length) = l := IsR.dec3 ⟨b0, v0, rfl, hb0⟩
    have o1 : ok3 45 η (.sl b0 v0 0 l.length) := ⟨l, ⟨b0, v0, rfl, hb0⟩, by omega⟩
    have hin : inB h 0 2000000 = true := by simp [inB]; omega
    have hnl : (bs.map (AV.int .i64)).all noLoc = true := by
      rw [List.all_eq_true]
      intro x hx
      obtain ⟨y, _, rfl⟩ := List.mem_map.1 hx
      rfl
    refine AF_run Sp60_ok D60 [] [.cell 6 39, .tmp 7] hm Try.func60 rfl (by decide) Try.ntmps60 rfl (by kernel_rfl) (Nat.le_of_ble_eq_true rfl) ?_; intro hlo
    repeat' (first | with_reducible refine iteI (fun _ => ?_) (fun _ => ?_) | ((first | unfold AOpsC | unfold AOpsD | skip); simp (maxSteps := 1000000) (disch := (first | omega | assumption | (simp only [List.length_append, List.length_cons, List.length_nil, List.length_set]; omega))) only [go_sem, ↓skipC, ↓exitC, ↓retC, ↓seqC, ↓blockC, ↓condC, ↓regC, ↓drawC, ↓drawStep, ↓AOpC, ↓AOpF, ↓AOpE, ↓AEff, ↓contE_at, ↓contC_at, ↓keepC_at, ↓keepW_at, ↓keepO_at, ↓map_parts, ↓reduceIte, reduceCtorEq, Nat.reduceLT, Nat.reduceEqDiff, Nat.reduceAdd, Nat.reduceMul, Nat.reduceLeDiff, Nat.reduceSub, Nat.reduceBEq, Nat.reduceBNe, Nat.reduceBneDiff, Nat.reduceBeqDiff, ag_24, ag_26, ag_28, ag_3, ag_39, ag_45, by_24, by_26, by_28, by_3, by_39, by_45, el_24, el_28, fi_26_0, fi_26_1, fi_39_1, fi_39_2, fi_45_0, fi_45_1, in_3, in_33, nf_26, nf_39, nf_45, pl_26, pl_39, pl_45, ps_26, ps_39, ps_45, sz_24, sz_26, sz_28, sz_3, sz_39, sz_45, ze_24, ze_26, ze_28, ze_3, ze_39, ze_45, Sp60, SOk, SIn, SBal, D60, hb0, hb3, d1, o1, hB, hin]))
    unfold SCopyM
    refine ⟨l, ⟨b0, v0, rfl, hb0⟩, by omega, ?_⟩
    have hb3' := old_get hb3 [⟨0, 45, 3, (l.map enc3).flatten⟩]
    repeat' (first | with_reducible refine iteI (fun _ => ?_) (fun _ => ?_) | ((first | unfold AOpsC | unfold AOpsD | skip); simp (maxSteps := 1000000) (disch := (first | omega | assumption | (simp only [List.length_append, List.length_cons, List.length_nil, List.length_set]; omega))) only [go_sem, ↓skipC, ↓exitC, ↓retC, ↓seqC, ↓blockC, ↓condC, ↓regC, ↓drawC, ↓drawStep, ↓AOpC, ↓AOpF, ↓AOpE, ↓AEff, ↓contE_at, ↓contC_at, ↓keepC_at, ↓keepW_at, ↓keepO_at, ↓map_parts, ↓reduceIte, reduceCtorEq, Nat.reduceLT, Nat.reduceEqDiff, Nat.reduceAdd, Nat.reduceMul, Nat.reduceLeDiff, Nat.reduceSub, Nat.reduceBEq, Nat.reduceBNe, Nat.reduceBneDiff, Nat.reduceBeqDiff, ag_24, ag_26, ag_28, ag_3, ag_39, ag_45, by_24, by_26, by_28, by_3, by_39, by_45, el_24, el_28, fi_26_0, fi_26_1, fi_39_1, fi_39_2, fi_45_0, fi_45_1, in_3, in_33, nf_26, nf_39, nf_45, pl_26, pl_39, pl_45, ps_26, ps_39, ps_45, sz_24, sz_26, sz_28, sz_3, sz_39, sz_45, ze_24, ze_26, ze_28, ze_3, ze_39, ze_45, Sp60, SOk, SIn, SBal, D60, hb0, hb3', takeMap, hnl]))
    refine ⟨invFl η r (.sl b0 v0 0 l.length) (.sl b3 v3 0 bs.length) h l bs, fun st => ctr l.length st 9, .inl ⟨0, .nils, .nils, _, Nat.zero_le _, ((Ext.refl η).app _).app _, .inl ⟨rfl, rfl, rfl, rfl, ?_, ?_⟩, rfl, by simp [upd], by simp [upd], by simp [upd], by simp [upd], by simp [upd], by simp [upd], by simp [upd], by simp [upd], by simp [upd], rfl⟩, ?_⟩
    · simp
    · simp
    rintro ⟨n, τ, lam, η'⟩ ⟨i, x1, x2, H, g0, g1, g2, hn, t1, t2, t3, t6, t8, t9, l3, l6, l8, hη⟩; simp only at hn t1 t2 t3 t6 t8 t9 l3 l6 l8 hη; subst hn hη
    have w0 := g1.blk hb0
    have w3 := g1.blk hb3
    by_cases hlt : i < l.length
    · have hro := mesh_root hm1 hlt
      have hlb := levs_at hlv hlt
      have hbi := hbd _ (getD_mem (d := 0) (show (l.getD i (0, 0, 0)).1.toNat < bs.length by omega))
      have hk : lkM l bs h i = (if bs.getD (l.getD i (0, 0, 0)).1.toNat 0 < h then h - bs.getD (l.getD i (0, 0, 0)).1.toNat 0 else 0) / 2 ^ (l.getD i (0, 0, 0)).2.1.toNat := rfl
      have a1 := lkN_succ l bs h i
      have a2 := zsN_succ i
      generalize hR : (l.getD i (0, 0, 0)).1 = R at *
      generalize hL : (l.getD i (0, 0, 0)).2.1 = L at *
      generalize hX : bs.getD R.toNat 0 = X at *
      have hmx : (if X < -1 then -1 else X) = X := if_neg (by omega)
      have hval : ∃ D : Int, (0 ≤ D ∧ D ≤ 12000) ∧ (X < h → D = h - X) ∧ (¬ X < h → D = 0) ∧ lkM l bs h i = D / 2 ^ L.toNat := by
        by_cases c : X < h
        · exact ⟨h - X, by omega, fun _ => rfl, fun e => absurd c e, by rw [hk, if_pos c]⟩
        · exact ⟨0, by omega, fun e => absurd e c, fun _ => rfl, by rw [hk, if_neg c]⟩
      obtain ⟨D, hD, hD1, hD2, hkD⟩ := hval
      clear hk
      generalize lkM l bs h i = V at *
      have hV : V = D.fdiv (2 ^ L.toNat) := by
        rw [hkD, Int.fdiv_eq_ediv_of_nonneg _ (Int.pow_nonneg (by omega))]
      have hv0 : L = 0 → D.fdiv 1 = V := fun e => by rw [hV, e]; rfl
      have hv1 : L = 1 → D.fdiv 2 = V := fun e => by rw [hV, e]; rfl
      have hv2 : L = 2 → D.fdiv 4 = V := fun e => by rw [hV, e]; rfl
      have hv3 : L = 3 → D.fdiv 8 = V := fun e => by rw [hV, e]; rfl
      have hv4 : L = 4 → D.fdiv 16 = V := fun e => by rw [hV, e]; rfl
      by_cases c : X < h
      · have hDe := (hD1 c).symm
        rcases lv5 hlb with h5 | h5 | h5 | h5 | h5
        all_goals
          subst h5
          first | have hv := hv0 rfl | have hv := hv1 rfl | have hv := hv2 rfl | have hv := hv3 rfl | have hv := hv4 rfl
          rcases g2 with ⟨q1, q2, rfl, rfl, q3, q4⟩ | ⟨b1, w1, b2, w2, rfl, rfl, hN⟩
          · repeat' (first | with_reducible refine iteI (fun _ => ?_) (fun _ => ?_) | ((first | unfold AOpsC | unfold AOpsD | skip); simp (maxSteps := 1000000) (disch := (first | omega | assumption | (simp only [List.length_append, List.length_cons, List.length_nil, List.length_set]; omega))) only [go_sem, ↓skipC, ↓exitC, ↓retC, ↓seqC, ↓blockC, ↓condC, ↓regC, ↓drawC, ↓drawStep, ↓AOpC, ↓AOpF, ↓AOpE, ↓AEff, ↓contE_at, ↓contC_at, ↓keepC_at, ↓keepW_at, ↓keepO_at, ↓map_parts, ↓reduceIte, reduceCtorEq, Nat.reduceLT, Nat.reduceEqDiff, Nat.reduceAdd, Nat.reduceMul, Nat.reduceLeDiff, Nat.reduceSub, Nat.reduceBEq, Nat.reduceBNe, Nat.reduceBneDiff, Nat.reduceBeqDiff, ag_24, ag_26, ag_28, ag_3, ag_39, ag_45, by_24, by_26, by_28, by_3, by_39, by_45, el_24, el_28, fi_26_0, fi_26_1, fi_39_1, fi_39_2, fi_45_0, fi_45_1, in_3, in_33, nf_26, nf_39, nf_45, pl_26, pl_39, pl_45, ps_26, ps_39, ps_45, sz_24, sz_26, sz_28, sz_3, sz_39, sz_45, ze_24, ze_26, ze_28, ze_3, ze_39, ze_45, Sp60, SOk, SIn, SBal, D60, w0, w3, hR, hL, hX, maxStep, List.foldl_cons, List.foldl_nil, ↓hmx, Int.reduceToNat, Nat.min_eq_left, Int.reducePow, IntKind.bits, Int.reduceMul, Int.reduceSub, Int.reduceAdd, Int.reduceFDiv, wrapU, Int.one_mul, c, hDe, hv, t1, t2, t3, t6, t8, t9, l3, l6, l8]))
            have hn3 := blt q3
            have hn4 := blt q4
            have hn0 := g1.len
            rw [q1, List.nil_append] at a1
            rw [q2, List.nil_append] at a2
            refine ⟨⟨i + 1, .sl (η' ++ [(⟨0, 3, 1, [.int .i64 V]⟩ : Blk)]).length 0 0 1, .sl (η' ++ [(⟨0, 3, 1, [.int .i64 V]⟩ : Blk)] ++ [(⟨0, 3, 1, [.int .i64 V]⟩ : Blk)] ++ [(⟨0, 3, 1, [.int .i64 0]⟩ : Blk)]).length 0 0 1, _, hlt, (((g1.app [(⟨0, 3, 1, [.int .i64 V]⟩ : Blk)]).app [(⟨0, 3, 1, [.int .i64 V]⟩ : Blk)]).app [(⟨0, 3, 1, [.int .i64 0]⟩ : Blk)]).app [(⟨0, 3, 1, [.int .i64 0]⟩ : Blk)], .inr ⟨(η' ++ [(⟨0, 3, 1, [.int .i64 V]⟩ : Blk)]).length, 0, (η' ++ [(⟨0, 3, 1, [.int .i64 V]⟩ : Blk)] ++ [(⟨0, 3, 1, [.int .i64 V]⟩ : Blk)] ++ [(⟨0, 3, 1, [.int .i64 0]⟩ : Blk)]).length, 0, by rw [a1]; rfl, by rw [a2]; rfl, by rw [a1, a2]; exact ⟨old_get (old_get (old_get (old_get q3 _) _) _) _, by simp, by simp, old_get (old_get (old_get (old_get q4 _) _) _) _, Nat.le_refl _, by simp; omega, by simp; omega, by omega, by simp; omega, by simp; omega, by omega, by simp, by simp; omega, by simp; omega⟩⟩, rfl, by simp [upd, t1], by simp [upd, t2], by simp [upd, t3], by simp [upd, t6], by simp [upd, t8], by simp [upd], by simp [upd, l3], by simp [upd, l6], by simp [upd], rfl⟩, by simp [ctr, upd, t9]; omega⟩
          · have hg1 := hN.g1
            have hg2 := hN.g2
            have hl1 := blt hg1
            have hl2 := blt hg2
            have hn1 := hN.n1
            have hn2 := hN.n2
            have d12 := hN.d12
            have e1 := lkN_len l bs h i
            have e2 := zsN_len i
            have hN2 := (((hN.psh1e (lkN l bs h (i + 1)) (w1 + 1) (L := (lkN l bs h i).map (AV.int .i64) ++ [AV.int .i64 V]) (by rw [a1]; simp)).psh2e (zsN (i + 1)) (w2 + 1) (L := (zsN i).map (AV.int .i64) ++ [AV.int .i64 0]) (by rw [a2]; simp)).app (⟨0, 3, 1, [.int .i64 V]⟩ : Blk)).app (⟨0, 3, 1, [.int .i64 0]⟩ : Blk)
            have x2 := (((g1.set hn1 ⟨w1 + 1, 3, 1, (lkN l bs h i).map (AV.int .i64) ++ [AV.int .i64 V]⟩).set hn2 ⟨w2 + 1, 3, 1, (zsN i).map (AV.int .i64) ++ [AV.int .i64 0]⟩).app [(⟨0, 3, 1, [.int .i64 V]⟩ : Blk)]).app [(⟨0, 3, 1, [.int .i64 0]⟩ : Blk)]
            have f1 : (lkN l bs h (i + 1)).length = (lkN l bs h i).length + 1 := by rw [lkN_len, lkN_len]
            have f2 : (zsN (i + 1)).length = (zsN i).length + 1 := by rw [zsN_len, zsN_len]
            repeat' (first | with_reducible refine iteI (fun _ => ?_) (fun _ => ?_) | ((first | unfold AOpsC | unfold AOpsD | skip); simp (maxSteps := 1000000) (disch := (first | omega | assumption | (simp only [List.length_append, List.length_cons, List.length_nil, List.length_set]; omega))) only [go_sem, ↓skipC, ↓exitC, ↓retC, ↓seqC, ↓blockC, ↓condC, ↓regC, ↓drawC, ↓drawStep, ↓AOpC, ↓AOpF, ↓AOpE, ↓AEff, ↓contE_at, ↓contC_at, ↓keepC_at, ↓keepW_at, ↓keepO_at, ↓map_parts, ↓reduceIte, reduceCtorEq, Nat.reduceLT, Nat.reduceEqDiff, Nat.reduceAdd, Nat.reduceMul, Nat.reduceLeDiff, Nat.reduceSub, Nat.reduceBEq, Nat.reduceBNe, Nat.reduceBneDiff, Nat.reduceBeqDiff, ag_24, ag_26, ag_28, ag_3, ag_39, ag_45, by_24, by_26, by_28, by_3, by_39, by_45, el_24, el_28, fi_26_0, fi_26_1, fi_39_1, fi_39_2, fi_45_0, fi_45_1, in_3, in_33, nf_26, nf_39, nf_45, pl_26, pl_39, pl_45, ps_26, ps_39, ps_45, sz_24, sz_26, sz_28, sz_3, sz_39, sz_45, ze_24, ze_26, ze_28, ze_3, ze_39, ze_45, Sp60, SOk, SIn, SBal, D60, w0, w3, hR, hL, hX, maxStep, List.foldl_cons, List.foldl_nil, ↓hmx, Int.reduceToNat, Nat.min_eq_left, Int.reducePow, IntKind.bits, Int.reduceMul, Int.reduceSub, Int.reduceAdd, Int.reduceFDiv, wrapU, Int.one_mul, c, hDe, hv, hg1, hg2, takeMap, t1, t2, t3, t6, t8, t9, l3, l6, l8]))
            refine ⟨⟨i + 1, .sl b1 (w1 + 1) 0 ((lkN l bs h i).length + 1), .sl b2 (w2 + 1) 0 ((zsN i).length + 1), _, hlt, x2, .inr ⟨b1, w1 + 1, b2, w2 + 1, by rw [f1], by rw [f2], hN2⟩, rfl, by simp [upd, t1], by simp [upd, t2], by simp [upd, t3], by simp [upd, t6], by simp [upd, t8], by simp [upd], by simp [upd, l3], by simp [upd, l6], by simp [upd], rfl⟩, by simp [ctr, upd, t9]; omega⟩
      · have hDe := hD2 c
        subst hDe
        have hVz : V = 0 := by rw [hV]; exact Int.zero_fdiv _
        subst hVz
        rcases lv5 hlb with h5 | h5 | h5 | h5 | h5
        all_goals
          subst h5
          rcases g2 with ⟨q1, q2, rfl, rfl, q3, q4⟩ | ⟨b1, w1, b2, w2, rfl, rfl, hN⟩
          · repeat' (first | with_reducible refine iteI (fun _ => ?_) (fun _ => ?_) | ((first | unfold AOpsC | unfold AOpsD | skip); simp (maxSteps := 1000000) (disch := (first | omega | assumption | (simp only [List.length_append, List.length_cons, List.length_nil, List.length_set]; omega))) only [go_sem, ↓skipC, ↓exitC, ↓retC, ↓seqC, ↓blockC, ↓condC, ↓regC, ↓drawC, ↓drawStep, ↓AOpC, ↓AOpF, ↓AOpE, ↓AEff, ↓contE_at, ↓contC_at, ↓keepC_at, ↓keepW_at, ↓keepO_at, ↓map_parts, ↓reduceIte, reduceCtorEq, Nat.reduceLT, Nat.reduceEqDiff, Nat.reduceAdd, Nat.reduceMul, Nat.reduceLeDiff, Nat.reduceSub, Nat.reduceBEq, Nat.reduceBNe, Nat.reduceBneDiff, Nat.reduceBeqDiff, ag_24, ag_26, ag_28, ag_3, ag_39, ag_45, by_24, by_26, by_28, by_3, by_39, by_45, el_24, el_28, fi_26_0, fi_26_1, fi_39_1, fi_39_2, fi_45_0, fi_45_1, in_3, in_33, nf_26, nf_39, nf_45, pl_26, pl_39, pl_45, ps_26, ps_39, ps_45, sz_24, sz_26, sz_28, sz_3, sz_39, sz_45, ze_24, ze_26, ze_28, ze_3, ze_39, ze_45, Sp60, SOk, SIn, SBal, D60, w0, w3, hR, hL, hX, maxStep, List.foldl_cons, List.foldl_nil, ↓hmx, Int.reduceToNat, Nat.min_eq_left, Int.reducePow, IntKind.bits, Int.reduceMul, Int.reduceSub, Int.reduceAdd, Int.reduceFDiv, wrapU, Int.one_mul, c, Int.zero_fdiv, t1, t2, t3, t6, t8, t9, l3, l6, l8]))
            have hn3 := blt q3
            have hn4 := blt q4
            have hn0 := g1.len
            rw [q1, List.nil_append] at a1
            rw [q2, List.nil_append] at a2
            refine ⟨⟨i + 1, .sl (η' ++ [(⟨0, 3, 1, [.int .i64 0]⟩ : Blk)]).length 0 0 1, .sl (η' ++ [(⟨0, 3, 1, [.int .i64 0]⟩ : Blk)] ++ [(⟨0, 3, 1, [.int .i64 0]⟩ : Blk)] ++ [(⟨0, 3, 1, [.int .i64 0]⟩ : Blk)]).length 0 0 1, _, hlt, (((g1.app [(⟨0, 3, 1, [.int .i64 0]⟩ : Blk)]).app [(⟨0, 3, 1, [.int .i64 0]⟩ : Blk)]).app [(⟨0, 3, 1, [.int .i64 0]⟩ : Blk)]).app [(⟨0, 3, 1, [.int .i64 0]⟩ : Blk)], .inr ⟨(η' ++ [(⟨0, 3, 1, [.int .i64 0]⟩ : Blk)]).length, 0, (η' ++ [(⟨0, 3, 1, [.int .i64 0]⟩ : Blk)] ++ [(⟨0, 3, 1, [.int .i64 0]⟩ : Blk)] ++ [(⟨0, 3, 1, [.int .i64 0]⟩ : Blk)]).length, 0, by rw [a1]; rfl, by rw [a2]; rfl, by rw [a1, a2]; exact ⟨old_get (old_get (old_get (old_get q3 _) _) _) _, by simp, by simp, old_get (old_get (old_get (old_get q4 _) _) _) _, Nat.le_refl _, by simp; omega, by simp; omega, by omega, by simp; omega, by simp; omega, by omega, by simp, by simp; omega, by simp; omega⟩⟩, rfl, by simp [upd, t1], by simp [upd, t2], by simp [upd, t3], by simp [upd, t6], by simp [upd, t8], by simp [upd], by simp [upd, l3], by simp [upd, l6], by simp [upd], rfl⟩, by simp [ctr, upd, t9]; omega⟩
          · have hg1 := hN.g1
            have hg2 := hN.g2
            have hl1 := blt hg1
            have hl2 := blt hg2
            have hn1 := hN.n1
            have hn2 := hN.n2
            have d12 := hN.d12
            have e1 := lkN_len l bs h i
            have e2 := zsN_len i
            have hN2 := (((hN.psh1e (lkN l bs h (i + 1)) (w1 + 1) (L := (lkN l bs h i).map (AV.int .i64) ++ [AV.int .i64 0]) (by rw [a1]; simp)).psh2e (zsN (i + 1)) (w2 + 1) (L := (zsN i).map (AV.int .i64) ++ [AV.int .i64 0]) (by rw [a2]; simp)).app (⟨0, 3, 1, [.int .i64 0]⟩ : Blk)).app (⟨0, 3, 1, [.int .i64 0]⟩ : Blk)
            have x2 := (((g1.set hn1 ⟨w1 + 1, 3, 1, (lkN l bs h i).map (AV.int .i64) ++ [AV.int .i64 0]⟩).set hn2 ⟨w2 + 1, 3, 1, (zsN i).map (AV.int .i64) ++ [AV.int .i64 0]⟩).app [(⟨0, 3, 1, [.int .i64 0]⟩ : Blk)]).app [(⟨0, 3, 1, [.int .i64 0]⟩ : Blk)]
            have f1 : (lkN l bs h (i + 1)).length = (lkN l bs h i).length + 1 := by rw [lkN_len, lkN_len]
            have f2 : (zsN (i + 1)).length = (zsN i).length + 1 := by rw [zsN_len, zsN_len]
            repeat' (first | with_reducible refine iteI (fun _ => ?_) (fun _ => ?_) | ((first | unfold AOpsC | unfold AOpsD | skip); simp (maxSteps := 1000000) (disch := (first | omega | assumption | (simp only [List.length_append, List.length_cons, List.length_nil, List.length_set]; omega))) only [go_sem, ↓skipC, ↓exitC, ↓retC, ↓seqC, ↓blockC, ↓condC, ↓regC, ↓drawC, ↓drawStep, ↓AOpC, ↓AOpF, ↓AOpE, ↓AEff, ↓contE_at, ↓contC_at, ↓keepC_at, ↓keepW_at, ↓keepO_at, ↓map_parts, ↓reduceIte, reduceCtorEq, Nat.reduceLT, Nat.reduceEqDiff, Nat.reduceAdd, Nat.reduceMul, Nat.reduceLeDiff, Nat.reduceSub, Nat.reduceBEq, Nat.reduceBNe, Nat.reduceBneDiff, Nat.reduceBeqDiff, ag_24, ag_26, ag_28, ag_3, ag_39, ag_45, by_24, by_26, by_28, by_3, by_39, by_45, el_24, el_28, fi_26_0, fi_26_1, fi_39_1, fi_39_2, fi_45_0, fi_45_1, in_3, in_33, nf_26, nf_39, nf_45, pl_26, pl_39, pl_45, ps_26, ps_39, ps_45, sz_24, sz_26, sz_28, sz_3, sz_39, sz_45, ze_24, ze_26, ze_28, ze_3, ze_39, ze_45, Sp60, SOk, SIn, SBal, D60, w0, w3, hR, hL, hX, maxStep, List.foldl_cons, List.foldl_nil, ↓hmx, Int.reduceToNat, Nat.min_eq_left, Int.reducePow, IntKind.bits, Int.reduceMul, Int.reduceSub, Int.reduceAdd, Int.reduceFDiv, wrapU, Int.one_mul, c, Int.zero_fdiv, hg1, hg2, takeMap, t1, t2, t3, t6, t8, t9, l3, l6, l8]))
            refine ⟨⟨i + 1, .sl b1 (w1 + 1) 0 ((lkN l bs h i).length + 1), .sl b2 (w2 + 1) 0 ((zsN i).length + 1), _, hlt, x2, .inr ⟨b1, w1 + 1, b2, w2 + 1, by rw [f1], by rw [f2], hN2⟩, rfl, by simp [upd, t1], by simp [upd, t2], by simp [upd, t3], by simp [upd, t6], by simp [upd, t8], by simp [upd], by simp [upd, l3], by simp [upd, l6], by simp [upd], rfl⟩, by simp [ctr, upd, t9]; omega⟩
    · obtain rfl : i = l.length := by omega
      have e2 := lk_ok hB hr3 hbl hbd hh
      have e4 := lkN_len l bs h l.length
      have e5 := zsN_len l.length
      rcases g2 with ⟨q1, q2, rfl, rfl, q3, q4⟩ | ⟨b1, w1, b2, w2, rfl, rfl, hN⟩
      · exfalso
        rw [q1] at e4
        simp at e4
        omega
      have i0 : IsR 45 3 enc3 η' (.sl η.length 0 0 l.length) l := ⟨_, _, rfl, hN.g0⟩
      have i1 : IsI η' (.sl b1 w1 0 (lkN l bs h l.length).length) (lkN l bs h l.length) := ⟨_, _, rfl, hN.g1⟩
      have i2 : IsI η' (.sl b2 w2 0 (zsN l.length).length) (zsN l.length) := ⟨_, _, rfl, hN.g2⟩
      have i3 : IsI η' (.sl (η.length + 1) 0 0 bs.length) bs := ⟨_, _, rfl, hN.g3⟩
      have D1 := i0.dec3
      have D2 := i1.dec
      have D3 := i2.dec
      have D4 := i3.dec
      have O1 : ok3 45 _ _ := ⟨_, i0, by omega⟩
      have O2 : okI _ _ := ⟨_, i1, by omega⟩
      have O3 : okI _ _ := ⟨_, i2, by omega⟩
      have O4 : okI _ _ := ⟨_, i3, by omega⟩
      repeat' (first | with_reducible refine iteI (fun _ => ?_) (fun _ => ?_) | ((first | unfold AOpsC | unfold AOpsD | skip); simp (maxSteps := 1000000) (disch := (first | omega | assumption | (simp only [List.length_append, List.length_cons, List.length_nil, List.length_set]; omega))) only [go_sem, ↓skipC, ↓exitC, ↓retC, ↓seqC, ↓blockC, ↓condC, ↓regC, ↓drawC, ↓drawStep, ↓AOpC, ↓AOpF, ↓AOpE, ↓AEff, ↓contE_at, ↓contC_at, ↓keepC_at, ↓keepW_at, ↓keepO_at, ↓map_parts, ↓reduceIte, reduceCtorEq, Nat.reduceLT, Nat.reduceEqDiff, Nat.reduceAdd, Nat.reduceMul, Nat.reduceLeDiff, Nat.reduceSub, Nat.reduceBEq, Nat.reduceBNe, Nat.reduceBneDiff, Nat.reduceBeqDiff, ag_24, ag_26, ag_28, ag_3, ag_39, ag_45, by_24, by_26, by_28, by_3, by_39, by_45, el_24, el_28, fi_26_0, fi_26_1, fi_39_1, fi_39_2, fi_45_0, fi_45_1, in_3, in_33, nf_26, nf_39, nf_45, pl_26, pl_39, pl_45, ps_26, ps_39, ps_45, sz_24, sz_26, sz_28, sz_3, sz_39, sz_45, ze_24, ze_26, ze_28, ze_3, ze_39, ze_45, Sp60, SOk, SIn, SBal, D60, w0, D1, D2, D3, D4, O1, O2, O3, O4, e2, t1, t2, t3, t6, t8, t9, l3, l6, l8]))
      rw [e4, e5]
      exact hK _ _ _ _ _ _ _ _ _ hN e2 g1
  · exact h.elim

end Go.Proofs.Ytffefndnnbcplaa
