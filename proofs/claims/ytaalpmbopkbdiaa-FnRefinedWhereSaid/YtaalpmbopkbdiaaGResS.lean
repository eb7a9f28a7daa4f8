/- What functions of the program compute, said in the abstract logic; no conditions. -/
import Derived.Test.YtaalpmbopkbdiaaGRes
import Derived.Test.YtaalpmbopkbdiaaGStTo
import Derived.Test.YtaalpmbopkbdiaaGInts

namespace Go.Proofs.Ytaalpmbopkbdiaa
open Go
set_option linter.unusedSimpArgs false
set_option linter.unusedVariables false
set_option maxRecDepth 100000
set_option maxHeartbeats 8000000
attribute [local go_sem] st0 AC thenA andC locLoadB KsSW_same KsSW_grow oldLoadB noBlkB KsSL_same KsOS_same KsOS_grow pv ev put upd dstOk cv cvc binI setB Value.oneCell' EndA resA resA1 List.mapM_cons List.mapM_nil Option.pure_def Option.bind_eq_bind noLocV noLoc1 noLoc noLocs plainV cellsA newVarA putCells condA lam0 inBlockA cur lenA rowA writeA dstA appendC appendZ mapPut mapGet avoidsB avoidB clearB Array.toList_append Op.operands Call.operands newSlot Nat.zero_add Nat.add_zero Nat.succ_ne_self Nat.lt_add_one Nat.zero_lt_succ true_and and_true true_or or_true false_or or_false and_self true_implies forall_const Bool.false_eq_true Bool.true_eq_false false_implies implies_true imp_self ne_eq not_false_eq_true not_true_eq_false false_and and_false List.getElem?_toArray List.getElem?_cons_succ List.getElem?_cons_zero Option.bind_some Option.map_some Bool.not_true Bool.not_false List.getD_cons_zero List.getD_cons_succ Option.some.injEq exists_eq_left' AV.bool.injEq List.map_cons List.map_nil List.all_cons List.all_nil Bool.and_self Bool.and_true Bool.true_and List.append_nil List.cons_append List.nil_append List.length_cons List.length_nil List.drop_zero List.take_zero List.drop_succ_cons List.take_succ_cons List.take_nil List.drop_nil List.not_mem_nil List.mem_cons List.contains_nil List.contains_cons Bool.or_self Bool.or_true Bool.true_or Bool.false_or Bool.or_false Bool.and_false Bool.false_and KsS_same KsS_grow skipV KsS_ext KsSW_ext KsOS_ext rep1 rep2 rep3 rep4 rep5 List.flatten_cons List.flatten_nil partsA isPtr fillA List.size_toArray ltT ltF leT leF ltTn ltFn leTn leFn eqTi eqFi wrapId toNat1 intGet boolGet memD app_get app_last app_lst app_set app_setL app_setF set_ne set_eq gt_iff_lt ge_iff_le decide_eq_true_eq len2 len3 get20 get21 drop2 put2 get30 get31 get32 drop3 put3 putI pairEta bneTi bneFi beqTi beqFi bne_eq_false_iff_eq beq_eq_false_iff_ne beq_iff_eq bne_iff_ne Int.toNat_natCast Nat.mul_one List.length_map Bool.not_eq_true Bool.not_eq_false Bool.decide_eq_true decide_true decide_false Bool.not_eq_true' Bool.not_eq_false' decide_eq_false_iff_not eq_self Decidable.not_not
attribute [local go_sem ↓] skipC exitC retC seqC blockC condC regC drawC drawStep AOpC AOpF AOpE AEff contE_at contC_at keepC_at keepW_at keepO_at keepL_at map_parts
attribute [local go_sem] reduceCtorEq Nat.reduceLT Nat.reduceEqDiff Nat.reduceAdd Nat.reduceMul Nat.reduceLeDiff Nat.reduceSub Nat.reduceBEq Nat.reduceBNe Nat.reduceBneDiff Nat.reduceBeqDiff
attribute [local go_sem ↓] reduceIte
attribute [local go_sem] ag_24 ag_26 ag_27 ag_29 ag_3 ag_37 ag_39 ag_63 by_24 by_26 by_27 by_29 by_3 by_37 by_39 by_63 el_24 el_27 en_3 fi_26_1 fi_29_0 fi_29_1 fi_29_2 fi_29_3 fi_39_0 fi_39_1 fi_39_2 fi_39_3 in_3 nf_26 nf_29 nf_37 nf_39 nf_63 pl_26 pl_29 pl_37 pl_39 pl_63 ps_26 ps_29 ps_37 ps_39 ps_63 sz_24 sz_26 sz_27 sz_29 sz_3 sz_37 sz_39 sz_63 ze_24 ze_26 ze_27 ze_29 ze_3 ze_37 ze_39 ze_63

/-- Four new rows, apart from each other. -/
structure New4 (n : Nat) (η : List Blk) (b0 b1 b2 b3 v0 v1 v2 v3 : Nat) (l : List Id3) (ms ts bs : List Int) : Prop where
  g0 : η[b0]? = some ⟨v0, 63, 3, (l.map enc3).flatten⟩
  g1 : η[b1]? = some ⟨v1, 3, 1, ms.map (.int .i64)⟩
  g2 : η[b2]? = some ⟨v2, 3, 1, ts.map (.int .i64)⟩
  g3 : η[b3]? = some ⟨v3, 3, 1, bs.map (.int .i64)⟩
  n0 : n ≤ b0
  n1 : n ≤ b1
  n2 : n ≤ b2
  n3 : n ≤ b3
  d01 : b0 ≠ b1
  d02 : b0 ≠ b2
  d03 : b0 ≠ b3
  d12 : b1 ≠ b2
  d13 : b1 ≠ b3
  d23 : b2 ≠ b3
def hit4 (b0 b1 b2 b3 c : Nat) : Prop := c = b0 ∨ c = b1 ∨ c = b2 ∨ c = b3
section
variable {n : Nat} {η H : List Blk} {b0 b1 b2 b3 v0 v1 v2 v3 : Nat} {l : List Id3} {ms ts bs : List Int}
theorem New4.ext (h : New4 n η b0 b1 b2 b3 v0 v1 v2 v3 l ms ts bs) (x : Ext η H) : New4 n H b0 b1 b2 b3 v0 v1 v2 v3 l ms ts bs :=
  ⟨x.blk h.g0, x.blk h.g1, x.blk h.g2, x.blk h.g3, h.n0, h.n1, h.n2, h.n3, h.d01, h.d02, h.d03, h.d12, h.d13, h.d23⟩
theorem New4.touch {S : Nat → Prop} (h : New4 n η b0 b1 b2 b3 v0 v1 v2 v3 l ms ts bs) (x : Touch S η H) (hs : ∀ c, S c → ¬ hit4 b0 b1 b2 b3 c) : New4 n H b0 b1 b2 b3 v0 v1 v2 v3 l ms ts bs :=
  ⟨x.blk (fun e => hs _ e (.inl rfl)) h.g0, x.blk (fun e => hs _ e (.inr (.inl rfl))) h.g1, x.blk (fun e => hs _ e (.inr (.inr (.inl rfl)))) h.g2, x.blk (fun e => hs _ e (.inr (.inr (.inr rfl)))) h.g3, h.n0, h.n1, h.n2, h.n3, h.d01, h.d02, h.d03, h.d12, h.d13, h.d23⟩
theorem New4.mono {m : Nat} (h : New4 n η b0 b1 b2 b3 v0 v1 v2 v3 l ms ts bs) (x : m ≤ n) : New4 m η b0 b1 b2 b3 v0 v1 v2 v3 l ms ts bs :=
  ⟨h.g0, h.g1, h.g2, h.g3, Nat.le_trans x h.n0, Nat.le_trans x h.n1, Nat.le_trans x h.n2, Nat.le_trans x h.n3, h.d01, h.d02, h.d03, h.d12, h.d13, h.d23⟩
theorem New4.low (h : New4 n η b0 b1 b2 b3 v0 v1 v2 v3 l ms ts bs) {c : Nat} (hc : hit4 b0 b1 b2 b3 c) : n ≤ c := by
  rcases hc with rfl | rfl | rfl | rfl
  · exact h.n0
  · exact h.n1
  · exact h.n2
  · exact h.n3
theorem New4.lt (h : New4 n η b0 b1 b2 b3 v0 v1 v2 v3 l ms ts bs) {c : Nat} (hc : hit4 b0 b1 b2 b3 c) : c < η.length := by
  rcases hc with rfl | rfl | rfl | rfl
  · exact blt h.g0
  · exact blt h.g1
  · exact blt h.g2
  · exact blt h.g3
end
theorem ROWS4.keep {η H : List Blk} {v a b c : AV} {l : List Id3} {ms ts bs : List Int} (h : ROWS4 η v a b c l ms ts bs) (k : Keep η.length η H) : ROWS4 H v a b c l ms ts bs := ⟨h.1.keep k, h.2.1.keep k, h.2.2.1.keep k, h.2.2.2.keep k⟩
/- laws.toState -/
/- laws.markMesh -/
theorem sl_inj {b b' v v' n n' : Nat} (h : AV.sl b v 0 n = .sl b' v' 0 n') : b = b' ∧ v = v' ∧ n = n' := by
  injection h with h1 h2 _ h4
  exact ⟨h1, h2, h4⟩
theorem RowEI.blk {η : List Blk} {b v n : Nat} {l : List Int} (h : RowEI η (.sl b v 0 n) l) : η[b]? = some ⟨v, 3, 1, l.map (.int .i64)⟩ ∧ n = l.length := by
  rcases h with ⟨h | h, _⟩ | ⟨b', v', e, h⟩
  · cases h
  · cases h
  · obtain ⟨rfl, rfl, rfl⟩ := sl_inj e
    exact ⟨h, rfl⟩
theorem RowER.blk {α : Type} {enc : α → List AV} {k : Nat} {e : TypeId} {η : List Blk} {b v n : Nat} {l : List α} (h : RowER e k enc η (.sl b v 0 n) l) : η[b]? = some ⟨v, e, k, (l.map enc).flatten⟩ ∧ n = l.length := by
  rcases h with ⟨h | h, _⟩ | ⟨b', v', e, h⟩
  · cases h
  · cases h
  · obtain ⟨rfl, rfl, rfl⟩ := sl_inj e
    exact ⟨h, rfl⟩

/- laws.markState -/
/- laws.heldMesh -/
/- laws.heldState -/
end Go.Proofs.Ytaalpmbopkbdiaa
