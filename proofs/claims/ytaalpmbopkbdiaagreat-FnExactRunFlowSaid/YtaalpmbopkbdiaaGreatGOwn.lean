/- What functions of the program compute, said in the abstract logic; no conditions. -/
import Derived.Test.YtaalpmbopkbdiaaGreatGResS
import Derived.Test.YtaalpmbopkbdiaaGreatGCopy

namespace Go.Proofs.YtaalpmbopkbdiaaGreat
open Go
set_option linter.unusedSimpArgs false
set_option linter.unusedVariables false
set_option maxRecDepth 100000
set_option maxHeartbeats 8000000
attribute [local go_sem] st0 AC thenA andC locLoadB KsSW_same KsSW_grow oldLoadB noBlkB KsSL_same KsOS_same KsOS_grow pv ev put upd dstOk cv cvc binI setB Value.oneCell' EndA resA resA1 List.mapM_cons List.mapM_nil Option.pure_def Option.bind_eq_bind noLocV noLoc1 noLoc noLocs plainV cellsA newVarA putCells condA lam0 inBlockA cur lenA rowA writeA dstA appendC appendZ mapPut mapGet avoidsB avoidB clearB Array.toList_append Op.operands Call.operands newSlot Nat.zero_add Nat.add_zero Nat.succ_ne_self Nat.lt_add_one Nat.zero_lt_succ true_and and_true true_or or_true false_or or_false and_self true_implies forall_const Bool.false_eq_true Bool.true_eq_false false_implies implies_true imp_self ne_eq not_false_eq_true not_true_eq_false false_and and_false List.getElem?_toArray List.getElem?_cons_succ List.getElem?_cons_zero Option.bind_some Option.map_some Bool.not_true Bool.not_false List.getD_cons_zero List.getD_cons_succ Option.some.injEq exists_eq_left' AV.bool.injEq List.map_cons List.map_nil List.all_cons List.all_nil Bool.and_self Bool.and_true Bool.true_and List.append_nil List.cons_append List.nil_append List.length_cons List.length_nil List.drop_zero List.take_zero List.drop_succ_cons List.take_succ_cons List.take_nil List.drop_nil List.not_mem_nil List.mem_cons List.contains_nil List.contains_cons Bool.or_self Bool.or_true Bool.true_or Bool.false_or Bool.or_false Bool.and_false Bool.false_and KsS_same KsS_grow skipV KsS_ext KsSW_ext KsOS_ext rep1 rep2 rep3 rep4 rep5 List.flatten_cons List.flatten_nil partsA isPtr fillA List.size_toArray ltT ltF leT leF ltTn ltFn leTn leFn eqTi eqFi wrapId toNat1 intGet boolGet memD app_get app_last app_lst app_set app_setL app_setF set_ne set_eq gt_iff_lt ge_iff_le decide_eq_true_eq len2 len3 get20 get21 drop2 put2 get30 get31 get32 drop3 put3 putI pairEta bneTi bneFi beqTi beqFi bne_eq_false_iff_eq beq_eq_false_iff_ne beq_iff_eq bne_iff_ne Int.toNat_natCast Nat.mul_one List.length_map Bool.not_eq_true Bool.not_eq_false Bool.decide_eq_true decide_true decide_false Bool.not_eq_true' Bool.not_eq_false' decide_eq_false_iff_not eq_self Decidable.not_not
attribute [local go_sem ↓] skipC exitC retC seqC blockC condC regC drawC drawStep AOpC AOpF AOpE AEff contE_at contC_at keepC_at keepW_at keepO_at keepL_at map_parts
attribute [local go_sem] reduceCtorEq Nat.reduceLT Nat.reduceEqDiff Nat.reduceAdd Nat.reduceMul Nat.reduceLeDiff Nat.reduceSub Nat.reduceBEq Nat.reduceBNe Nat.reduceBneDiff Nat.reduceBeqDiff
attribute [local go_sem ↓] reduceIte

def SCopyN : List AV → List Blk → (AV → List Blk → Prop) → Prop
  | [.agg [.int .i64 r, v, a, b, c]], η, K => ∃ (l : List Id3) (ms ts bs : List Int), (IsR 69 3 enc3 η v l ∧ IsI η a ms ∧ IsI η b ts ∧ IsI η c bs) ∧ (l.length ≤ 1048576 ∧ ms.length ≤ 1048576 ∧ ts.length ≤ 1048576 ∧ bs.length ≤ 1048576) ∧
      ∀ H b0 b1 b2 b3, New4 η.length H b0 b1 b2 b3 0 0 0 0 l ms ts bs → Ext η H → K (.agg [.int .i64 r, .sl b0 0 0 l.length, .sl b1 0 0 ms.length, .sl b2 0 0 ts.length, .sl b3 0 0 bs.length]) H
  | _, _, _ => False
theorem copyN {args : List AV} {η : List Blk} {K : AV → List Blk → Prop} (h : SCopyN args η K) : SCopyS args η K := by
  unfold SCopyN at h
  split at h
  · obtain ⟨l, ms, ts, bs, h1, h2, h3⟩ := h
    refine ⟨l, ms, ts, bs, h1, h2, h3 _ _ _ _ _ ?_ ⟨_, rfl⟩⟩
    exact ⟨by simp [blkL], by simp [blkI], by simp [blkI], by simp [blkI], by omega, by omega, by omega, by omega, by omega, by omega, by omega, by omega, by omega, by omega⟩
  · exact h.elim
/-- A pointer to a state of one's own. -/
structure PtrS (n p : Nat) (η : List Blk) (r : Int) (b0 b1 b2 b3 v0 v1 v2 v3 : Nat) (l : List Id3) (ms ts bs : List Int) : Prop where
  pb : η[p]? = some ⟨0, 34, 5, [.int .i64 r, .sl b0 v0 0 l.length, .sl b1 v1 0 ms.length, .sl b2 v2 0 ts.length, .sl b3 v3 0 bs.length]⟩
  n4 : New4 n η b0 b1 b2 b3 v0 v1 v2 v3 l ms ts bs
  np : n ≤ p
  p0 : p ≠ b0
  p1 : p ≠ b1
  p2 : p ≠ b2
  p3 : p ≠ b3
def hit5 (p b0 b1 b2 b3 c : Nat) : Prop := c = p ∨ hit4 b0 b1 b2 b3 c
theorem setBlk {η : List Blk} {b c : Nat} {x y : Blk} (h : η[c]? = some y) (hb : b ≠ c) : (η.set b x)[c]? = some y := by rw [set_ne hb]; exact h
section
variable {n p : Nat} {η H : List Blk} {r : Int} {b0 b1 b2 b3 v0 v1 v2 v3 : Nat} {l : List Id3} {ms ts bs : List Int}
theorem PtrS.low (h : PtrS n p η r b0 b1 b2 b3 v0 v1 v2 v3 l ms ts bs) {c : Nat} (hc : hit5 p b0 b1 b2 b3 c) : n ≤ c := by
  rcases hc with rfl | hc
  · exact h.np
  · exact h.n4.low hc
theorem PtrS.put1 (h : PtrS n p η r b0 b1 b2 b3 v0 v1 v2 v3 l ms ts bs) {ms' : List Int} (hl : ms'.length = ms.length) : PtrS n p (η.set b1 ⟨v1, 3, 1, ms'.map (.int .i64)⟩) r b0 b1 b2 b3 v0 v1 v2 v3 l ms' ts bs :=
  ⟨by rw [hl]; exact setBlk h.pb h.p1.symm, ⟨setBlk h.n4.g0 h.n4.d01.symm, set_eq (blt h.n4.g1), setBlk h.n4.g2 h.n4.d12, setBlk h.n4.g3 h.n4.d13, h.n4.n0, h.n4.n1, h.n4.n2, h.n4.n3, h.n4.d01, h.n4.d02, h.n4.d03, h.n4.d12, h.n4.d13, h.n4.d23⟩, h.np, h.p0, h.p1, h.p2, h.p3⟩
theorem PtrS.put2 (h : PtrS n p η r b0 b1 b2 b3 v0 v1 v2 v3 l ms ts bs) {ts' : List Int} (hl : ts'.length = ts.length) : PtrS n p (η.set b2 ⟨v2, 3, 1, ts'.map (.int .i64)⟩) r b0 b1 b2 b3 v0 v1 v2 v3 l ms ts' bs :=
  ⟨by rw [hl]; exact setBlk h.pb h.p2.symm, ⟨setBlk h.n4.g0 h.n4.d02.symm, setBlk h.n4.g1 h.n4.d12.symm, set_eq (blt h.n4.g2), setBlk h.n4.g3 h.n4.d23, h.n4.n0, h.n4.n1, h.n4.n2, h.n4.n3, h.n4.d01, h.n4.d02, h.n4.d03, h.n4.d12, h.n4.d13, h.n4.d23⟩, h.np, h.p0, h.p1, h.p2, h.p3⟩
theorem New4.put1 (h : New4 n η b0 b1 b2 b3 v0 v1 v2 v3 l ms ts bs) (ms' : List Int) : New4 n (η.set b1 ⟨v1, 3, 1, ms'.map (.int .i64)⟩) b0 b1 b2 b3 v0 v1 v2 v3 l ms' ts bs :=
  ⟨setBlk h.g0 h.d01.symm, set_eq (blt h.g1), setBlk h.g2 h.d12, setBlk h.g3 h.d13, h.n0, h.n1, h.n2, h.n3, h.d01, h.d02, h.d03, h.d12, h.d13, h.d23⟩
theorem New4.put2 (h : New4 n η b0 b1 b2 b3 v0 v1 v2 v3 l ms ts bs) (ts' : List Int) : New4 n (η.set b2 ⟨v2, 3, 1, ts'.map (.int .i64)⟩) b0 b1 b2 b3 v0 v1 v2 v3 l ms ts' bs :=
  ⟨setBlk h.g0 h.d02.symm, setBlk h.g1 h.d12.symm, set_eq (blt h.g2), setBlk h.g3 h.d23, h.n0, h.n1, h.n2, h.n3, h.d01, h.d02, h.d03, h.d12, h.d13, h.d23⟩
end
theorem Keep.toExt {η H : List Blk} (h : Keep η.length η H) : Ext η H := by
  refine ⟨H.drop η.length, ?_⟩
  apply List.ext_getElem?
  intro c
  by_cases hc : c < η.length
  · rw [List.getElem?_append_left hc]; exact h.2 c hc
  · rw [List.getElem?_append_right (by omega), List.getElem?_drop]; congr 1; omega
theorem Ext.after {η H H' : List Blk} (x : Ext η H) {S : Nat → Prop} (t : Touch S H H') (hs : ∀ c, S c → η.length ≤ c) : Ext η H' := (x.keep.touch t hs).toExt
def sumN (f : Nat → Int) : Nat → Int
  | 0 => 0
  | i + 1 => sumN f i + f i
theorem sumN_bd {f : Nat → Int} {X : Int} {m : Nat} (h : ∀ i, i < m → 0 ≤ f i ∧ f i ≤ X) : ∀ i : Nat, i ≤ m → 0 ≤ sumN f i ∧ sumN f i ≤ i * X
  | 0, _ => by simp [sumN]
  | i + 1, hi => by
    have := sumN_bd h i (by omega)
    have := h i (by omega)
    rw [sumN, show ((i + 1 : Nat) : Int) * X = i * X + X by rw [Int.natCast_add, Int.add_mul]; simp]
    omega
theorem mapR_len (f : Nat → Int) (n : Nat) : ((List.range n).map f).length = n := by simp

end Go.Proofs.YtaalpmbopkbdiaaGreat
