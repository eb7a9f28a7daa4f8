/- What functions of the program compute, said in the abstract logic; no conditions. -/
import Derived.Test.YtaalpmbopkbdiaaGreatGGeo
import Derived.Test.YtaalpmbopkbdiaaGreatGCost
import Derived.Test.YtaalpmbopkbdiaaGreatGCopy

namespace Go.Proofs.YtaalpmbopkbdiaaGreat
open Go
set_option linter.unusedSimpArgs false
set_option linter.unusedVariables false
set_option maxRecDepth 100000
set_option maxHeartbeats 8000000
attribute [local go_sem] st0 AC thenA andC locLoadB KsSW_same KsSW_grow oldLoadB noBlkB KsSL_same KsOS_same KsOS_grow pv ev put upd dstOk cv cvc binI setB Value.oneCell' EndA resA resA1 List.mapM_cons List.mapM_nil Option.pure_def Option.bind_eq_bind noLocV noLoc1 noLoc noLocs plainV cellsA newVarA putCells condA lam0 inBlockA cur lenA rowA writeA dstA appendC appendZ mapPut mapGet avoidsB avoidB clearB Array.toList_append Op.operands Call.operands newSlot Nat.zero_add Nat.add_zero Nat.succ_ne_self Nat.lt_add_one Nat.zero_lt_succ true_and and_true true_or or_true false_or or_false and_self true_implies forall_const Bool.false_eq_true Bool.true_eq_false false_implies implies_true imp_self ne_eq not_false_eq_true not_true_eq_false false_and and_false List.getElem?_toArray List.getElem?_cons_succ List.getElem?_cons_zero Option.bind_some Option.map_some Bool.not_true Bool.not_false List.getD_cons_zero List.getD_cons_succ Option.some.injEq exists_eq_left' AV.bool.injEq List.map_cons List.map_nil List.all_cons List.all_nil Bool.and_self Bool.and_true Bool.true_and List.append_nil List.cons_append List.nil_append List.length_cons List.length_nil List.drop_zero List.take_zero List.drop_succ_cons List.take_succ_cons List.take_nil List.drop_nil List.not_mem_nil List.mem_cons List.contains_nil List.contains_cons Bool.or_self Bool.or_true Bool.true_or Bool.false_or Bool.or_false Bool.and_false Bool.false_and KsS_same KsS_grow skipV KsS_ext KsSW_ext KsOS_ext rep1 rep2 rep3 rep4 rep5 List.flatten_cons List.flatten_nil partsA isPtr fillA List.size_toArray ltT ltF leT leF ltTn ltFn leTn leFn eqTi eqFi wrapId toNat1 intGet boolGet memD app_get app_last app_lst app_set app_setL app_setF set_ne set_eq gt_iff_lt ge_iff_le decide_eq_true_eq len2 len3 get20 get21 drop2 put2 get30 get31 get32 drop3 put3 putI pairEta bneTi bneFi beqTi beqFi bne_eq_false_iff_eq beq_eq_false_iff_ne beq_iff_eq bne_iff_ne Int.toNat_natCast Nat.mul_one List.length_map Bool.not_eq_true Bool.not_eq_false Bool.decide_eq_true decide_true decide_false Bool.not_eq_true' Bool.not_eq_false' decide_eq_false_iff_not eq_self Decidable.not_not
attribute [local go_sem ↓] skipC exitC retC seqC blockC condC regC drawC drawStep AOpC AOpF AOpE AEff contE_at contC_at keepC_at keepW_at keepO_at keepL_at map_parts
attribute [local go_sem] reduceCtorEq Nat.reduceLT Nat.reduceEqDiff Nat.reduceAdd Nat.reduceMul Nat.reduceLeDiff Nat.reduceSub Nat.reduceBEq Nat.reduceBNe Nat.reduceBneDiff Nat.reduceBeqDiff
attribute [local go_sem ↓] reduceIte
attribute [local go_sem] ag_3 ag_30 ag_32 ag_69 by_3 by_30 by_32 by_69 el_30 en_3 fi_32_0 fi_32_1 fi_69_1 in_3 nf_32 nf_69 pl_32 pl_69 ps_32 ps_69 sz_3 sz_30 sz_32 sz_69 ze_3 ze_30 ze_32 ze_69

def coarI (l : List Id3) (i : Nat) : Nat := if lvD l (i + 1) < lvD l i then i + 1 else i
def SCoar : List AV → List Blk → (AV → List Blk → Prop) → Prop
  | [.agg [.int .i64 r, v], .int .i64 i], η, K => ∃ l : List Id3, (IsR 69 3 enc3 η v l ∧ l.length ≤ 1048576 ∧ levs l ∧ 0 ≤ i ∧ i + 1 < l.length) ∧ K (.int .i64 (coarI l i.toNat)) η
  | _, _, _ => False
def splitL (l : List Id3) (i : Nat) : List Id3 := l.take i ++ [((l.getD i z3).1, (l.getD i z3).2.1 + 1, 2 * (l.getD i z3).2.2 + 0), ((l.getD i z3).1, (l.getD i z3).2.1 + 1, 2 * (l.getD i z3).2.2 + 1)] ++ l.drop (i + 1)
def SSplit : List AV → List Blk → (AV → List Blk → Prop) → Prop
  | [.agg [.int .i64 r, v], .int .i64 i], η, K => ∃ l : List Id3, (IsR 69 3 enc3 η v l ∧ l.length ≤ 128 ∧ 0 ≤ i ∧ i < l.length ∧ idT (l.getD i.toNat z3) = true ∧ (l.getD i.toNat z3).2.1 ≠ 4) ∧
      ∀ H b w, η.length ≤ b → H[b]? = some ⟨w, 69, 3, ((splitL l i.toNat).map enc3).flatten⟩ → Ext η H → K (.agg [.int .i64 r, .sl b w 0 (splitL l i.toNat).length]) H
  | _, _, _ => False

/- spec.l05Coarser -/
def Dr127 : Draws := fun id => match id with | 1 => ([0, 1, 0, 7, 15, 31, 0, 64, 0, 256, 960, 1984, 4032, 8191], [], [], (.one 0 (.one 1 (.one 2 (.one 3 (.one 4 (.one 5 (.one 6 (.one 7 (.one 8 (.one 9 (.one 10 (.one 11 (.one 12 (.one 13 .nil))))))))))))))) | _ => ([], [], [], .nil)
theorem f127_ok {lo : Nat} {args : List AV} {η : List Blk} {K : AV → List Blk → Prop} (h : SCoar args η K) : AF Tryz.prog lo 127 args η K := by
  unfold SCoar at h
  split at h
  · obtain ⟨l, ⟨hr, hl, hlv, i0, i1⟩, hK⟩ := h
    rename_i r _ i
    obtain ⟨b, ver, rfl, hb⟩ := hr
    obtain ⟨j, rfl⟩ : ∃ j : Nat, i = j := ⟨i.toNat, by omega⟩
    rw [Int.toNat_natCast] at hK
    have b1 := levs_at hlv (i := j) (by omega)
    have b2 := levs_at hlv (i := j + 1) (by omega)
    refine AF_run noSp_ok Dr127 [] [.tmp 4] hm Tryz.func127 rfl (by decide) Tryz.ntmps127 rfl (by kernel_rfl) (Nat.le_of_ble_eq_true rfl) ?_; intro hlo
    by_cases hc : lvD l (j + 1) < lvD l j
    · rw [coarI, if_pos hc] at hK
      unfold lvD at hc
      repeat' (first | with_reducible refine iteI (fun _ => ?_) (fun _ => ?_) | ((first | unfold AOpsC | unfold AOpsD | skip); simp (maxSteps := 1000000) (disch := (first | omega | assumption | (simp only [List.length_append, List.length_cons, List.length_nil, List.length_set]; omega))) only [go_sem, Dr127, hb, hc]))
      exact hK
    · rw [coarI, if_neg hc] at hK
      unfold lvD at hc
      repeat' (first | with_reducible refine iteI (fun _ => ?_) (fun _ => ?_) | ((first | unfold AOpsC | unfold AOpsD | skip); simp (maxSteps := 1000000) (disch := (first | omega | assumption | (simp only [List.length_append, List.length_cons, List.length_nil, List.length_set]; omega))) only [go_sem, Dr127, hb, hc]))
      exact hK
  · exact h.elim

theorem flDrop : ∀ (l : List Id3) (a : Nat), (l.map enc3).flatten.drop (a * 3) = ((l.drop a).map enc3).flatten
  | l, 0 => by simp
  | [], a + 1 => by simp
  | x :: l, a + 1 => by rw [Nat.add_mul, Nat.one_mul]; exact flDrop l a
theorem flTake : ∀ (l : List Id3) (a : Nat), (l.map enc3).flatten.take (a * 3) = ((l.take a).map enc3).flatten
  | l, 0 => by simp
  | [], a + 1 => by simp
  | x :: l, a + 1 => by rw [Nat.add_mul, Nat.one_mul]; exact congrArg (enc3 x ++ ·) (flTake l a)
theorem flLen : ∀ (l : List Id3), (l.map enc3).flatten.length = l.length * 3
  | [] => rfl
  | x :: l => by
    rw [List.map_cons, List.flatten_cons, List.length_append, flLen l, List.length_cons]
    simp [enc3]; omega

/- spec.l05Split -/
def Sp72 (lo : Nat) : Spec := fun g args η K => match g with | 110 => SChild args η K | _ => False
theorem Sp72_ok {lo : Nat} : Sound Tryz.prog lo (Sp72 lo) := by
  intro g args η K h
  unfold Sp72 at h
  split at h
  · exact .inl (f110_ok h)
  · exact h.elim
def Dr72 : Draws := fun id => match id with | 5 => ([0, 1, 0, 0, 8, 0, 32, 120, 252, 511, 1023], [], [], (.one 2 (.one 3 (.one 4 (.one 5 (.one 6 (.one 7 (.two 0 8 (.two 1 8 (.one 8 (.one 9 (.one 10 .nil))) (.one 1 (.one 9 (.one 10 .nil)))) (.one 0 (.one 1 (.one 9 (.one 10 .nil)))))))))))) | _ => ([], [], [], .nil)
theorem f72_ok {lo : Nat} {args : List AV} {η : List Blk} {K : AV → List Blk → Prop} (h : SSplit args η K) : AF Tryz.prog lo 72 args η K := by
  unfold SSplit at h
  split at h
  · obtain ⟨l, ⟨hr, hl, i0, i1, hid, h4⟩, hK⟩ := h
    rename_i r _ i
    obtain ⟨b, ver, rfl, hb⟩ := hr
    obtain ⟨j, rfl⟩ : ∃ j : Nat, i = j := ⟨i.toNat, by omega⟩
    rw [Int.toNat_natCast] at hK hid h4
    have hbl := blt hb
    have hbd := id_bd (r := (l.getD j z3).1) (lv := (l.getD j z3).2.1) (ix := (l.getD j z3).2.2) hid
    unfold idT at hid
    unfold z3 at hid h4 hbd
    have hjl : (l.take j).length = j := by rw [List.length_take]; omega
    have hdl : (l.drop (j + 1)).length = l.length - (j + 1) := by rw [List.length_drop]
    have hdt : (l.drop (j + 1)).take (l.length - (j + 1)) = l.drop (j + 1) := by rw [← hdl, List.take_length]
    have s1 : (l.map enc3).flatten.take (j * 3) = ((l.take j).map enc3).flatten := flTake l j
    have s2 : ((l.map enc3).flatten.drop ((j + 1) * 3)).take ((l.length - (j + 1)) * 3) = ((l.drop (j + 1)).map enc3).flatten := by rw [flDrop, flTake, hdt]
    have s3 : ((l.take j).map enc3).flatten.take (j * 3) = ((l.take j).map enc3).flatten := by rw [flTake, List.take_take, Nat.min_self]
    refine AF_run Sp72_ok Dr72 [] [.cell 4 32] hm Tryz.func72 rfl (by decide) Tryz.ntmps72 rfl (by kernel_rfl) (Nat.le_of_ble_eq_true rfl) ?_; intro hlo
    repeat' (first | with_reducible refine iteI (fun _ => ?_) (fun _ => ?_) | ((first | unfold AOpsC | unfold AOpsD | skip); simp (maxSteps := 1000000) (disch := (first | omega | assumption | (simp only [List.length_append, List.length_cons, List.length_nil, List.length_set]; omega))) only [go_sem, Sp72, SChild, Dr72, hb, hbl, hid, h4, takeF3, all3, s1, s2, s3, flLen, Int.toNat_zero, Nat.sub_zero, Nat.zero_mul, List.drop_zero, hjl, hdl]))
    have hsl : (splitL l j).length = j + 2 + (l.length - (j + 1)) := by simp [splitL]; omega
    refine ⟨by simp only [List.length_append, flLen, hjl, List.length_cons, List.length_nil]; omega, ?_⟩
    rw [List.take_of_length_le (by simp only [List.length_append, flLen, hjl, List.length_cons, List.length_nil]; omega), ← hsl]
    refine hK _ η.length 2 (Nat.le_refl _) ?_ (((Ext.refl η).app _).app _)
    rw [List.getElem?_append_left (by simp), List.getElem?_append_right (Nat.le_refl _), Nat.sub_self]
    simp [splitL, enc3, z3]
  · exact h.elim

theorem meshAt_cat : ∀ (l m : List Id3) (a : Int), meshAt a (l ++ m) = (meshAt a l).bind fun b => meshAt b m
  | [], m, a => by simp only [List.nil_append, meshAt, Option.bind_some]
  | y :: l, m, a => by
    simp only [List.cons_append, meshAt]
    split
    · exact meshAt_cat l m _
    · rfl
theorem split_mesh {r : Int} {l : List Id3} {i : Nat} (h : meshB r l = true) (hi : i < l.length) (h4 : (l.getD i z3).2.1 ≠ 4) : meshB r (splitL l i) = true := by
  have hx : idB (l.getD i z3).1 (l.getD i z3).2.1 (l.getD i z3).2.2 = true := mesh_ids h _ (getD_mem hi)
  obtain ⟨c1, c2, c3, c4, c5⟩ := child_geo hx h4
  have e : meshAt 0 (splitL l i) = meshAt 0 l := by
    have e1 : l = l.take i ++ (l.getD i z3 :: l.drop (i + 1)) := by
      rw [List.getD_eq_getElem?_getD, List.getElem?_eq_getElem hi, Option.getD_some, List.getElem_cons_drop, List.take_append_drop]
    rw [splitL, List.append_assoc, meshAt_cat]
    conv => rhs; rw [e1, meshAt_cat]
    cases hm : meshAt 0 (l.take i) with
    | none => rfl
    | some a =>
      simp only [Option.bind_some, List.cons_append, List.nil_append, meshAt, idT, hx, c1, c2, c3, c4, c5, true_and]
      by_cases ha : stI (l.getD i z3).1 (l.getD i z3).2.1 (l.getD i z3).2.2 = a
      · simp [ha]
      · simp [ha]
  unfold meshB at h ⊢
  rw [e]; exact h

end Go.Proofs.YtaalpmbopkbdiaaGreat
