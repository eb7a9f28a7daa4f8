/- What functions of the program compute, said in the abstract logic; no conditions. -/
import Derived.Test.YtaalpmbopkbdiaaGreatGRes
import Derived.Test.YtaalpmbopkbdiaaGreatGBal

namespace Go.Proofs.YtaalpmbopkbdiaaGreat
open Go
set_option linter.unusedSimpArgs false
set_option linter.unusedVariables false
set_option maxRecDepth 100000
set_option maxHeartbeats 8000000
attribute [local go_sem] st0 AC thenA andC locLoadB KsSW_same KsSW_grow oldLoadB noBlkB KsSL_same KsOS_same KsOS_grow pv ev put upd dstOk cv cvc binI setB Value.oneCell' EndA resA resA1 List.mapM_cons List.mapM_nil Option.pure_def Option.bind_eq_bind noLocV noLoc1 noLoc noLocs plainV cellsA newVarA putCells condA lam0 inBlockA cur lenA rowA writeA dstA appendC appendZ mapPut mapGet avoidsB avoidB clearB Array.toList_append Op.operands Call.operands newSlot Nat.zero_add Nat.add_zero Nat.succ_ne_self Nat.lt_add_one Nat.zero_lt_succ true_and and_true true_or or_true false_or or_false and_self true_implies forall_const Bool.false_eq_true Bool.true_eq_false false_implies implies_true imp_self ne_eq not_false_eq_true not_true_eq_false false_and and_false List.getElem?_toArray List.getElem?_cons_succ List.getElem?_cons_zero Option.bind_some Option.map_some Bool.not_true Bool.not_false List.getD_cons_zero List.getD_cons_succ Option.some.injEq exists_eq_left' AV.bool.injEq List.map_cons List.map_nil List.all_cons List.all_nil Bool.and_self Bool.and_true Bool.true_and List.append_nil List.cons_append List.nil_append List.length_cons List.length_nil List.drop_zero List.take_zero List.drop_succ_cons List.take_succ_cons List.take_nil List.drop_nil List.not_mem_nil List.mem_cons List.contains_nil List.contains_cons Bool.or_self Bool.or_true Bool.true_or Bool.false_or Bool.or_false Bool.and_false Bool.false_and KsS_same KsS_grow skipV KsS_ext KsSW_ext KsOS_ext rep1 rep2 rep3 rep4 rep5 List.flatten_cons List.flatten_nil partsA isPtr fillA List.size_toArray ltT ltF leT leF ltTn ltFn leTn leFn eqTi eqFi wrapId toNat1 intGet boolGet memD app_get app_last app_lst app_set app_setL app_setF set_ne set_eq gt_iff_lt ge_iff_le decide_eq_true_eq len2 len3 get20 get21 drop2 put2 get30 get31 get32 drop3 put3 putI pairEta bneTi bneFi beqTi beqFi bne_eq_false_iff_eq beq_eq_false_iff_ne beq_iff_eq bne_iff_ne Int.toNat_natCast Nat.mul_one List.length_map Bool.not_eq_true Bool.not_eq_false Bool.decide_eq_true decide_true decide_false Bool.not_eq_true' Bool.not_eq_false' decide_eq_false_iff_not eq_self Decidable.not_not
attribute [local go_sem ↓] skipC exitC retC seqC blockC condC regC drawC drawStep AOpC AOpF AOpE AEff contE_at contC_at keepC_at keepW_at keepO_at keepL_at map_parts
attribute [local go_sem] reduceCtorEq Nat.reduceLT Nat.reduceEqDiff Nat.reduceAdd Nat.reduceMul Nat.reduceLeDiff Nat.reduceSub Nat.reduceBEq Nat.reduceBNe Nat.reduceBneDiff Nat.reduceBeqDiff
attribute [local go_sem ↓] reduceIte
attribute [local go_sem] ag_3 ag_30 ag_32 ag_69 by_3 by_30 by_32 by_69 el_30 en_3 fi_32_1 fi_69_0 fi_69_1 fi_69_2 in_112 in_3 nf_32 nf_69 pl_32 pl_69 ps_32 ps_69 sz_3 sz_30 sz_32 sz_69 ze_3 ze_30 ze_32 ze_69

def idxR (l : List Id3) (f : Id3 → Bool) : Int := match l.findIdx? f with | some i => (i : Int) | none => -1
theorem idxR_here {l : List Id3} {f : Id3 → Bool} {i : Nat} (hi : i < l.length) (h : (l.take i).all (fun x => !f x) = true) (hf : f (l.getD i (0, 0, 0)) = true) : idxR l f = i := by
  unfold idxR
  have : l.findIdx? f = some i := by
    rw [List.findIdx?_eq_some_iff_getElem]
    refine ⟨hi, by simpa [List.getD_eq_getElem?_getD, hi] using hf, fun j hj => ?_⟩
    have hj2 : j < l.length := by omega
    have hm : l[j] ∈ l.take i := by
      rw [List.mem_iff_getElem?]
      exact ⟨j, by rw [List.getElem?_take, if_pos hj, List.getElem?_eq_getElem hj2]⟩
    have := List.all_eq_true.1 h _ hm
    simpa using this
  rw [this]
theorem idxR_none {l : List Id3} {f : Id3 → Bool} (h : l.all (fun x => !f x) = true) : idxR l f = -1 := by
  unfold idxR
  have : l.findIdx? f = none := by
    rw [List.findIdx?_eq_none_iff]
    intro x hx
    have := List.all_eq_true.1 h x hx
    simpa using this
  rw [this]
theorem allR {l : List Id3} {p : Id3 → Bool} {i : Nat} (hi : i < l.length) (h : (l.take i).all p = true) (hp : p (l.getD i (0, 0, 0)) = true) : (l.take (i + 1)).all p = true := by
  rw [take1 (d := (0, 0, 0)) hi, List.all_append, h]; simp only [List.all_cons, List.all_nil, hp, Bool.and_self]
def SLeafOf : List AV → List Blk → (AV → List Blk → Prop) → Prop
  | [.agg [.int .i64 r, v], .agg [.int .i64 a, .int .i64 b, .int .i64 c]], η, K => ok3 69 η v ∧ K (.int .i64 (idxR (dec3 69 η v) fun x => decide (x = (a, b, c)))) η
  | _, _, _ => False
/- spec.Contains -/
/- impl.Contains -/
/- slices.IndexFunc[[]impl.Id,impl.Id] -/
def invSLeafOf (η : List Blk) (r a b c : Int) (l : List Id3) (v : AV) (st : St) : Prop := ∃ i : Nat, (i ≤ l.length) ∧ ((l.take i).all (fun x => !(fun x => decide (x = (a, b, c))) x) = true) ∧ st.n = 21 ∧ st.τ 2 = .loc 2 1 0 ∧ st.τ 3 = .loc 3 1 0 ∧ st.τ 5 = .int .i64 i ∧ st.lam 2 = ⟨1, [.int .i64 r, v]⟩ ∧ st.lam 3 = ⟨1, [.int .i64 a, .int .i64 b, .int .i64 c]⟩ ∧ st.η = η

/- spec.LeafOf -/
def Dr68 : Draws := fun id => match id with | 4 => ([0, 1, 0, 7, 15, 0, 63], [], [], (.one 0 (.one 1 (.one 2 (.one 3 (.one 4 (.one 5 (.one 6 .nil)))))))) | _ => ([], [], [], .nil)
theorem f68_ok {lo : Nat} {args : List AV} {η : List Blk} {K : AV → List Blk → Prop} (h : SLeafOf args η K) : AF Tryz.prog lo 68 args η K := by
  unfold SLeafOf at h
  split at h
  · obtain ⟨⟨l, hr, hl⟩, hK⟩ := h
    rename_i r _ a b c
    have d1 := hr.dec3
    simp only [d1] at hK
    obtain ⟨bb, ver, rfl, hb⟩ := hr
    refine AF_run noSp_ok Dr68 [] [.tmp 4] hm Tryz.func68 rfl (by decide) Tryz.ntmps68 rfl (by kernel_rfl) (Nat.le_of_ble_eq_true rfl) ?_; intro hlo
    repeat' (first | with_reducible refine iteI (fun _ => ?_) (fun _ => ?_) | ((first | unfold AOpsC | unfold AOpsD | skip); simp (maxSteps := 1000000) (disch := (first | omega | assumption | (simp only [List.length_append, List.length_cons, List.length_nil, List.length_set]; omega))) only [go_sem, Dr68, hb]))
    refine ⟨invSLeafOf η r a b c l (.sl bb ver 0 l.length), fun st => ctr l.length st 5, .inl ⟨0, Nat.zero_le _, rfl, rfl, (by first | (simp [upd]; done) | (simp [upd, *]; done) | rfl), (by first | (simp [upd]; done) | (simp [upd, *]; done) | rfl), (by first | (simp [upd]; done) | (simp [upd, *]; done) | rfl), (by first | (simp [upd]; done) | (simp [upd, *]; done) | rfl), (by first | (simp [upd]; done) | (simp [upd, *]; done) | rfl), rfl⟩, ?_⟩
    rintro ⟨n, τ, lam, η'⟩ ⟨i, g0, g1, hn, t2, t3, t5, l2, l3, hη⟩; simp only at hn t2 t3 t5 l2 l3 hη; subst hn hη
    by_cases hlt : i < l.length
    · cases hfx : decide (l.getD i (0, 0, 0) = (a, b, c))
      · have hnx := allR hlt g1 (by simp only [hfx]; rfl)
        have hfx2 : ((l.getD i (0, 0, 0)).1 = a ∧ (l.getD i (0, 0, 0)).2.1 = b ∧ (l.getD i (0, 0, 0)).2.2 = c) = False := by
          refine eq_false ?_
          rintro ⟨q1, q2, q3⟩
          exact of_decide_eq_false hfx (Prod.ext q1 (Prod.ext q2 q3))
        have hfx3 : sameInts [(IntKind.i64, (l.getD i (0, 0, 0)).1), (.i64, (l.getD i (0, 0, 0)).2.1), (.i64, (l.getD i (0, 0, 0)).2.2)] [(.i64, a), (.i64, b), (.i64, c)] = false := by
          simp [sameInts]; simpa using hfx2
        repeat' (first | with_reducible refine iteI (fun _ => ?_) (fun _ => ?_) | ((first | unfold AOpsC | unfold AOpsD | skip); simp (maxSteps := 1000000) (disch := (first | omega | assumption | (simp only [List.length_append, List.length_cons, List.length_nil, List.length_set]; omega))) only [go_sem, Dr68, hb, t2, t3, t5, l2, l3, intsOf, hfx3]))
        refine ⟨⟨i + 1, hlt, hnx, rfl, (by simp [upd, t2, t3, t5]), (by simp [upd, t2, t3, t5]), (by simp [upd, t2, t3, t5]), (by simp [upd, l2, l3]), (by simp [upd, l2, l3]), rfl⟩, (by simp [ctr, upd, t2, t3, t5]; omega)⟩
      · rw [idxR_here hlt g1 hfx] at hK
        have hfx3 : sameInts [(IntKind.i64, (l.getD i (0, 0, 0)).1), (.i64, (l.getD i (0, 0, 0)).2.1), (.i64, (l.getD i (0, 0, 0)).2.2)] [(.i64, a), (.i64, b), (.i64, c)] = true := by
          rw [of_decide_eq_true hfx]; simp [sameInts]
        repeat' (first | with_reducible refine iteI (fun _ => ?_) (fun _ => ?_) | ((first | unfold AOpsC | unfold AOpsD | skip); simp (maxSteps := 1000000) (disch := (first | omega | assumption | (simp only [List.length_append, List.length_cons, List.length_nil, List.length_set]; omega))) only [go_sem, Dr68, hb, t2, t3, t5, l2, l3, intsOf, hfx3]))
        exact hK
    · obtain rfl : i = l.length := by omega
      rw [List.take_length] at g1
      rw [idxR_none g1] at hK
      repeat' (first | with_reducible refine iteI (fun _ => ?_) (fun _ => ?_) | ((first | unfold AOpsC | unfold AOpsD | skip); simp (maxSteps := 1000000) (disch := (first | omega | assumption | (simp only [List.length_append, List.length_cons, List.length_nil, List.length_set]; omega))) only [go_sem, Dr68, hb, t2, t3, t5, l2, l3]))
      exact hK
  · exact h.elim

/- spec.l17Outer -/
end Go.Proofs.YtaalpmbopkbdiaaGreat
