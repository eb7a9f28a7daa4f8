/- What functions of the program compute, said in the abstract logic; no conditions. -/
import Derived.Test.YtaalpmbopkbdiaaGDrawM

namespace Go.Proofs.Ytaalpmbopkbdiaa
open Go
set_option linter.unusedSimpArgs false
set_option linter.unusedVariables false
set_option maxRecDepth 100000
set_option maxHeartbeats 8000000
attribute [local go_sem] st0 AC thenA andC locLoadB KsSW_same KsSW_grow oldLoadB noBlkB KsSL_same KsOS_same KsOS_grow pv ev put upd dstOk cv cvc binI setB Value.oneCell' EndA resA resA1 List.mapM_cons List.mapM_nil Option.pure_def Option.bind_eq_bind noLocV noLoc1 noLoc noLocs plainV cellsA newVarA putCells condA lam0 inBlockA cur lenA rowA writeA dstA appendC appendZ mapPut mapGet avoidsB avoidB clearB Array.toList_append Op.operands Call.operands newSlot Nat.zero_add Nat.add_zero Nat.succ_ne_self Nat.lt_add_one Nat.zero_lt_succ true_and and_true true_or or_true false_or or_false and_self true_implies forall_const Bool.false_eq_true Bool.true_eq_false false_implies implies_true imp_self ne_eq not_false_eq_true not_true_eq_false false_and and_false List.getElem?_toArray List.getElem?_cons_succ List.getElem?_cons_zero Option.bind_some Option.map_some Bool.not_true Bool.not_false List.getD_cons_zero List.getD_cons_succ Option.some.injEq exists_eq_left' AV.bool.injEq List.map_cons List.map_nil List.all_cons List.all_nil Bool.and_self Bool.and_true Bool.true_and List.append_nil List.cons_append List.nil_append List.length_cons List.length_nil List.drop_zero List.take_zero List.drop_succ_cons List.take_succ_cons List.take_nil List.drop_nil List.not_mem_nil List.mem_cons List.contains_nil List.contains_cons Bool.or_self Bool.or_true Bool.true_or Bool.false_or Bool.or_false Bool.and_false Bool.false_and KsS_same KsS_grow skipV KsS_ext KsSW_ext KsOS_ext rep1 rep2 rep3 rep4 rep5 List.flatten_cons List.flatten_nil partsA isPtr fillA List.size_toArray ltT ltF leT leF ltTn ltFn leTn leFn eqTi eqFi wrapId toNat1 intGet boolGet memD app_get app_last app_lst app_set app_setL app_setF set_ne set_eq gt_iff_lt ge_iff_le decide_eq_true_eq len2 len3 get20 get21 drop2 put2 get30 get31 get32 drop3 put3 putI pairEta bneTi bneFi beqTi beqFi bne_eq_false_iff_eq beq_eq_false_iff_ne beq_iff_eq bne_iff_ne Int.toNat_natCast Nat.mul_one List.length_map Bool.not_eq_true Bool.not_eq_false Bool.decide_eq_true decide_true decide_false Bool.not_eq_true' Bool.not_eq_false' decide_eq_false_iff_not eq_self Decidable.not_not
attribute [local go_sem ↓] skipC exitC retC seqC blockC condC regC drawC drawStep AOpC AOpF AOpE AEff contE_at contC_at keepC_at keepW_at keepO_at keepL_at map_parts
attribute [local go_sem] reduceCtorEq Nat.reduceLT Nat.reduceEqDiff Nat.reduceAdd Nat.reduceMul Nat.reduceLeDiff Nat.reduceSub Nat.reduceBEq Nat.reduceBNe Nat.reduceBneDiff Nat.reduceBeqDiff
attribute [local go_sem ↓] reduceIte
attribute [local go_sem] ag_26 ag_3 ag_63 by_26 by_3 by_63 en_3 fi_26_0 fi_26_1 in_3 nf_26 nf_63 pl_26 pl_63 ps_26 ps_63 sz_26 sz_3 sz_63 ze_26 ze_3 ze_63

def SRootM (lo : Nat) : List AV → List Blk → (AV → List Blk → Prop) → Prop
  | [.ptr c 0 0], η, K => ∃ (nb : Nat) (v : AV), lo ≤ nb ∧ nb ≤ c ∧ CurAt lo η c v ∧ ∀ H (r : Int) (l : List Id3) (b w : Nat), meshB r l = true → r ≤ 3 → CurAt lo H c v → nb ≤ b → H[b]? = some ⟨w, 63, 3, (l.map enc3).flatten⟩ → FrN nb η H → K (.agg [.int .i64 r, .sl b w 0 l.length]) H
  | _, _, _ => False
theorem root_geo {i : Int} (h : 0 ≤ i ∧ i ≤ 7) : idB i 0 0 = true ∧ stI i 0 0 = i * 16 ∧ enI i 0 0 = (i + 1) * 16 := by
  have h1 : idB i 0 0 = true := by simp [idB, inB]; omega
  refine ⟨h1, ?_, ?_⟩ <;> simp [enI, stI, h1, wdI] <;> omega
theorem meshB_of {r : Int} {l : List Id3} (h : meshAt 0 l = some (r * 16)) (hr : 1 ≤ r ∧ r ≤ 8) : meshB r l = true := by
  simp [meshB, h, inB]; omega

def invMs (lo nb : Nat) (η : List Blk) (c q : Nat) (v : AV) (r : Int) (st : St) : Prop := ∃ i : Nat, ∃ H : List Blk, ∃ l : List Id3, (i ≤ r.toNat) ∧ (RootI lo nb H c q v r l) ∧ (meshAt 0 l = some ((i : Int) * 16)) ∧ (FrN nb η H) ∧ st.n = 24 ∧ st.τ 0 = .ptr c 0 0 ∧ st.τ 2 = .loc 2 1 0 ∧ st.τ 3 = .ptr q 0 0 ∧ st.τ 4 = .int .i64 i ∧ st.lam 2 = ⟨1, [.int .i64 0, .nils]⟩ ∧ st.η = H

/- spec.l04Mesh -/
def Sp126 (lo : Nat) : Spec := fun g args η K => match g with | 41 => SBelow lo args η K | 152 => SRootD lo 4 args η K | _ => False
theorem Sp126_ok {lo : Nat} : Sound Try.prog lo (Sp126 lo) := by
  intro g args η K h
  unfold Sp126 at h
  split at h
  · exact .inl (f41_ok h)
  · exact .inl (f152_ok h)
  · exact h.elim
theorem f126_ok {lo : Nat} {args : List AV} {η : List Blk} {K : AV → List Blk → Prop} (h : SRootM lo args η K) : AF Try.prog lo 126 args η K := by
  unfold SRootM at h
  split at h
  · obtain ⟨nb, v, k1, k2, k3, hK⟩ := h
    rename_i c
    have hnl : nb ≤ η.length := by
      obtain ⟨_, _, _, _, _, _, _, _, hb⟩ := k3
      have := blt hb
      omega
    refine AF_run Sp126_ok D0 [3] [.cell 2 26] hm Try.func126 rfl (by decide) Try.ntmps126 rfl (by kernel_rfl) (Nat.le_of_ble_eq_true rfl) ?_; intro hlo
    repeat' (first | with_reducible refine iteI (fun _ => ?_) (fun _ => ?_) | ((first | unfold AOpsC | unfold AOpsD | skip); simp (maxSteps := 1000000) (disch := (first | omega | assumption | (simp only [List.length_append, List.length_cons, List.length_nil, List.length_set]; omega))) only [go_sem, Sp126, SBelow]))
    refine ⟨v, k3, fun y i k hy0 hy1 hcu => ?_⟩
    have hF1 : FrN nb η (η.set c (curB v i k)) := (FrN.refl nb η).set k2 _
    have hl1 : (η.set c (curB v i k)).length = η.length := by simp
    generalize η.set c (curB v i k) = H1 at *
    repeat' (first | with_reducible refine iteI (fun _ => ?_) (fun _ => ?_) | ((first | unfold AOpsC | unfold AOpsD | skip); simp (maxSteps := 1000000) (disch := (first | omega | assumption | (simp only [List.length_append, List.length_cons, List.length_nil, List.length_set]; omega))) only [go_sem, Sp126, SBelow]))
    refine ⟨invMs lo nb η c H1.length v (1 + y), fun st => ctr (1 + y).toNat st 4, .inl ⟨0, _, [], Nat.zero_le _, ⟨k1, k2, by omega, hcu.app _, .nils, by simp, .inl ⟨rfl, rfl⟩⟩, by simp [meshAt], hF1.app (by omega) _, rfl, (by first | (simp [upd]; done) | (simp [upd, *]; done) | rfl), (by first | (simp [upd]; done) | (simp [upd, *]; done) | rfl), (by first | (simp [upd]; done) | (simp [upd, *]; done) | rfl), (by first | (simp [upd]; done) | (simp [upd, *]; done) | rfl), (by first | (simp [upd]; done) | (simp [upd, *]; done) | rfl), rfl⟩, ?_⟩
    generalize hq : H1.length = q at *
    generalize hR : 1 + y = R at *
    have hR1 : 1 ≤ R ∧ R ≤ 3 := by omega
    clear hcu hF1 k3
    rintro ⟨n, τ, lam, η'⟩ ⟨i, H, l, g0, g1, g2, g3, hn, t0, t2, t3, t4, l2, hη⟩; simp only at hn t0 t2 t3 t4 l2 hη; subst hn hη
    have g1' := g1
    obtain ⟨m1, m2, m3, m4, x, m5, m6⟩ := g1'
    have hql := blt m5
    by_cases hlt : i < R.toNat
    · have hlt' : (i : Int) < R := by omega
      repeat' (first | with_reducible refine iteI (fun _ => ?_) (fun _ => ?_) | ((first | unfold AOpsC | unfold AOpsD | skip); simp (maxSteps := 1000000) (disch := (first | omega | assumption | (simp only [List.length_append, List.length_cons, List.length_nil, List.length_set]; omega))) only [go_sem, Sp126, SBelow, t0, t2, t3, t4, l2, m5, hql]))
      refine ⟨v, m4, fun y i2 k hy0 hy1 hcu => ?_⟩
      have g4 := g1.cur hcu
      have hF1 : FrN nb η (η'.set c (curB v i2 k)) := g3.set k2 _
      obtain ⟨e1, e2, e3⟩ := root_geo (i := (i : Int)) (by omega)
      have hm : meshAt 0 l = some (stI (i : Int) 0 0) := by rw [g2, e2]
      generalize η'.set c (curB v i2 k) = H2 at *
      have g5 := g4
      obtain ⟨_, _, _, _, x2, m7, _⟩ := g5
      have hql2 := blt m7
      repeat' (first | with_reducible refine iteI (fun _ => ?_) (fun _ => ?_) | ((first | unfold AOpsC | unfold AOpsD | skip); simp (maxSteps := 1000000) (disch := (first | omega | assumption | (simp only [List.length_append, List.length_cons, List.length_nil, List.length_set]; omega))) only [go_sem, Sp126, SBelow, t0, t2, t3, t4, l2, m7, hql2]))
      refine ⟨⟨by omega, e1, by omega, by omega⟩, nb, v, R, l, g4, hm, fun H l' q1 q2 q3 => ?_⟩
      repeat' (first | with_reducible refine iteI (fun _ => ?_) (fun _ => ?_) | ((first | unfold AOpsC | unfold AOpsD | skip); simp (maxSteps := 1000000) (disch := (first | omega | assumption | (simp only [List.length_append, List.length_cons, List.length_nil, List.length_set]; omega))) only [go_sem, Sp126, SBelow, t0, t2, t3, t4, l2]))
      refine ⟨⟨i + 1, H, l', hlt, q1, by rw [q2, e3]; simp, hF1.trans q3, rfl, by simp [upd, t0], by simp [upd, t2], by simp [upd, t3], by simp [upd], by simp [upd, l2], rfl⟩, by simp [ctr, upd, t4]; omega⟩
    · have hii : (i : Int) = R := by omega
      have hlR : ¬ (i : Int) < R := by omega
      have hmB : meshB R l = true := meshB_of (by rw [g2, hii]) (by omega)
      rcases m6 with ⟨rfl, rfl⟩ | ⟨b, w, rfl, m6, m7⟩
      · have := mesh_ne hmB
        simp at this
      · repeat' (first | with_reducible refine iteI (fun _ => ?_) (fun _ => ?_) | ((first | unfold AOpsC | unfold AOpsD | skip); simp (maxSteps := 1000000) (disch := (first | omega | assumption | (simp only [List.length_append, List.length_cons, List.length_nil, List.length_set]; omega))) only [go_sem, Sp126, SBelow, t0, t2, t3, t4, l2, m5, hql]))
        exact hK _ R l b w hmB hR1.2 m4 m6 m7 g3
  · exact h.elim

theorem ext_of {η H : List Blk} (hl : η.length ≤ H.length) (h : ∀ i, i < η.length → H[i]? = η[i]?) : Ext η H := by
  refine ⟨H.drop η.length, ?_⟩
  have e : H.take η.length = η := by
    apply List.ext_getElem?
    intro i
    by_cases hi : i < η.length
    · rw [List.getElem?_take_of_lt hi]; exact h i hi
    · rw [List.getElem?_eq_none (by simp; omega), List.getElem?_eq_none (by omega)]
  exact (List.take_append_drop η.length H).symm.trans (by rw [e])
theorem FrN.ext {η H : List Blk} (h : FrN η.length η H) : Ext η H := ext_of h.1 h.2
theorem FrN.ext0 {η : List Blk} {B : Blk} {H : List Blk} (h : FrN η.length (η ++ [B]) H) : Ext η H :=
  ext_of (by have := h.1; simp at this; omega) fun i hi => by rw [h.2 i hi, List.getElem?_append_left hi]
end Go.Proofs.Ytaalpmbopkbdiaa
