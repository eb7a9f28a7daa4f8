/- What functions of the program compute, said in the abstract logic; no conditions. -/
import Derived.Test.YtaalpmbopkbdiaaGreatGOut
import Derived.Test.YtaalpmbopkbdiaaGreatGOwn

namespace Go.Proofs.YtaalpmbopkbdiaaGreat
open Go
set_option linter.unusedSimpArgs false
set_option linter.unusedVariables false
set_option maxRecDepth 100000
set_option maxHeartbeats 8000000
attribute [local go_sem] st0 AC thenA andC locLoadB KsSW_same KsSW_grow oldLoadB noBlkB KsSL_same KsOS_same KsOS_grow pv ev put upd dstOk cv cvc binI setB Value.oneCell' EndA resA resA1 List.mapM_cons List.mapM_nil Option.pure_def Option.bind_eq_bind noLocV noLoc1 noLoc noLocs plainV cellsA newVarA putCells condA lam0 inBlockA cur lenA rowA writeA dstA appendC appendZ mapPut mapGet avoidsB avoidB clearB Array.toList_append Op.operands Call.operands newSlot Nat.zero_add Nat.add_zero Nat.succ_ne_self Nat.lt_add_one Nat.zero_lt_succ true_and and_true true_or or_true false_or or_false and_self true_implies forall_const Bool.false_eq_true Bool.true_eq_false false_implies implies_true imp_self ne_eq not_false_eq_true not_true_eq_false false_and and_false List.getElem?_toArray List.getElem?_cons_succ List.getElem?_cons_zero Option.bind_some Option.map_some Bool.not_true Bool.not_false List.getD_cons_zero List.getD_cons_succ Option.some.injEq exists_eq_left' AV.bool.injEq List.map_cons List.map_nil List.all_cons List.all_nil Bool.and_self Bool.and_true Bool.true_and List.append_nil List.cons_append List.nil_append List.length_cons List.length_nil List.drop_zero List.take_zero List.drop_succ_cons List.take_succ_cons List.take_nil List.drop_nil List.not_mem_nil List.mem_cons List.contains_nil List.contains_cons Bool.or_self Bool.or_true Bool.true_or Bool.false_or Bool.or_false Bool.and_false Bool.false_and KsS_same KsS_grow skipV KsS_ext KsSW_ext KsOS_ext rep1 rep2 rep3 rep4 rep5 List.flatten_cons List.flatten_nil partsA isPtr fillA List.size_toArray ltT ltF leT leF ltTn ltFn leTn leFn eqTi eqFi wrapId toNat1 intGet boolGet memD app_get app_last app_lst app_set app_setL app_setF set_ne set_eq gt_iff_lt ge_iff_le decide_eq_true_eq len2 len3 get20 get21 drop2 put2 get30 get31 get32 drop3 put3 putI pairEta bneTi bneFi beqTi beqFi bne_eq_false_iff_eq beq_eq_false_iff_ne beq_iff_eq bne_iff_ne Int.toNat_natCast Nat.mul_one List.length_map Bool.not_eq_true Bool.not_eq_false Bool.decide_eq_true decide_true decide_false Bool.not_eq_true' Bool.not_eq_false' decide_eq_false_iff_not eq_self Decidable.not_not
attribute [local go_sem ↓] skipC exitC retC seqC blockC condC regC drawC drawStep AOpC AOpF AOpE AEff contE_at contC_at keepC_at keepW_at keepO_at keepL_at map_parts
attribute [local go_sem] reduceCtorEq Nat.reduceLT Nat.reduceEqDiff Nat.reduceAdd Nat.reduceMul Nat.reduceLeDiff Nat.reduceSub Nat.reduceBEq Nat.reduceBNe Nat.reduceBneDiff Nat.reduceBeqDiff
attribute [local go_sem ↓] reduceIte
attribute [local go_sem] ag_25 ag_3 by_25 by_3 el_25 en_3 fi_34_1 fi_34_2 fi_51_1 fi_51_3 in_3 sz_25 sz_3 ze_25 ze_3

theorem shareO_le {t p w : Int} (ht : 0 ≤ t) : 0 ≤ shareO t p w ∧ shareO t p w ≤ t := by
  unfold shareO
  split
  · rename_i h
    have h1 := inT h.1
    have h2 := inT h.2.1
    have h3 : 0 ≤ t * p := Int.mul_nonneg ht h2.1
    have h4 : t * p ≤ t * w := Int.mul_le_mul_of_nonneg_left h2.2 ht
    refine ⟨Int.tdiv_nonneg h3 (by omega), ?_⟩
    rw [Int.tdiv_eq_ediv_of_nonneg h3]
    have := Int.ediv_le_ediv (show 0 < w by omega) h4
    rwa [Int.mul_ediv_cancel _ (by omega)] at this
  · omega
def ledB (a b c d : Int) : Blk := ⟨0, 51, 4, [.int .i64 a, .int .i64 b, .int .i64 c, .int .i64 d]⟩
def SRem (lo : Nat) : List AV → List Blk → (AV → List Blk → Prop) → Prop
  | [.ptr p 0 0, .int .i64 i, .int .i64 m, .ptr q 0 0], η, K => ∃ (n : Nat) (r : Int) (b0 b1 b2 b3 v0 v1 v2 v3 : Nat) (l : List Id3) (ms ts bs : List Int) (a b c d : Int), lo ≤ n ∧ PtrS n p η r b0 b1 b2 b3 v0 v1 v2 v3 l ms ts bs ∧ η[q]? = some (ledB a b c d) ∧ n ≤ q ∧ (q ≠ p ∧ ¬ hit4 b0 b1 b2 b3 q) ∧
      (0 ≤ i ∧ i < ms.length ∧ ms.length = ts.length ∧ ms.length ≤ 1048576) ∧ (0 ≤ ms.getD i.toNat 0 ∧ ms.getD i.toNat 0 ≤ 10000000 ∧ 0 ≤ m ∧ m ≤ 10000000) ∧ (0 ≤ ts.getD i.toNat 0 ∧ ts.getD i.toNat 0 ≤ 10000000000) ∧ (0 ≤ b ∧ b ≤ 1000000000000000 ∧ 0 ≤ d ∧ d ≤ 1000000000000000) ∧
      ∀ H, PtrS n p H r b0 b1 b2 b3 v0 v1 v2 v3 l (ms.set i.toNat (ms.getD i.toNat 0 - m)) (ts.set i.toNat (ts.getD i.toNat 0 - shareO (ts.getD i.toNat 0) m (ms.getD i.toNat 0))) bs → H[q]? = some (ledB a (b + m) c (d + shareO (ts.getD i.toNat 0) m (ms.getD i.toNat 0))) → Touch (fun x => x = q ∨ hit5 p b0 b1 b2 b3 x) η H → K (.tup []) H
  | _, _, _ => False

/- (*impl.State).remove -/
def Sp138 (lo : Nat) : Spec := fun g args η K => match g with | 122 => SShare args η K | _ => False
theorem Sp138_ok {lo : Nat} : Sound Tryz.prog lo (Sp138 lo) := by
  intro g args η K h
  unfold Sp138 at h
  split at h
  · exact .inl (f122_ok h)
  · exact h.elim
def Dr138 : Draws := fun id => match id with | 0 => ([0, 1, 3, 7, 0, 31, 63, 0, 0, 256, 768, 1792, 0, 7936, 16128, 32767, 65535], [], [], (.one 0 (.one 1 (.one 2 (.one 3 (.one 4 (.one 5 (.one 6 (.one 7 (.one 8 (.one 9 (.one 10 (.one 11 (.one 12 (.one 13 (.one 14 (.one 15 (.one 16 .nil)))))))))))))))))) | _ => ([], [], [], .nil)
theorem f138_ok {lo : Nat} {args : List AV} {η : List Blk} {K : AV → List Blk → Prop} (h : SRem lo args η K) : AF Tryz.prog lo 138 args η K := by
  unfold SRem at h
  split at h
  · obtain ⟨n, r, b0, b1, b2, b3, v0, v1, v2, v3, l, ms, ts, bs, a, b, c, d, hn, hP, hq, hnq, ⟨hqp, hq4⟩, ⟨i0, i1, i2, i3⟩, ⟨m0, m1, m2, m3⟩, ⟨t0, t1⟩, ⟨z0, z1, z2, z3⟩, hK⟩ := h
    rename_i p i m q
    obtain ⟨j, rfl⟩ : ∃ j : Nat, i = j := ⟨i.toNat, by omega⟩
    simp only [Int.toNat_natCast] at hK m0 m1 t0 t1
    have j1 : j < ms.length := by omega
    have j2 : j < ts.length := by omega
    have hp := hP.pb
    have hg1 := hP.n4.g1
    have hg2 := hP.n4.g2
    have d12 := hP.n4.d12
    have p1 := hP.p1
    have p2 := hP.p2
    have q1 : q ≠ b1 := fun e => hq4 (.inr (.inl e))
    have q2 : q ≠ b2 := fun e => hq4 (.inr (.inr (.inl e)))
    have l1 := blt hg1
    have l2 := blt hg2
    have lp := blt hp
    have lq := blt hq
    have hl1 : lo ≤ b1 := Nat.le_trans hn hP.n4.n1
    have hl2 : lo ≤ b2 := Nat.le_trans hn hP.n4.n2
    have hlq : lo ≤ q := Nat.le_trans hn hnq
    have sb := shareO_le (p := m) (w := ms.getD j 0) t0
    unfold ledB at hq hK
    have k1 := hP.put1 (ms' := ms.set j (ms.getD j 0 - m)) (by simp)
    have k2 := k1.put2 (ts' := ts.set j (ts.getD j 0 - shareO (ts.getD j 0) m (ms.getD j 0))) (by simp)
    generalize hsh : shareO (ts.getD j 0) m (ms.getD j 0) = sh at *
    generalize hA : ms.set j (ms.getD j 0 - m) = A at *
    generalize hB : ts.set j (ts.getD j 0 - sh) = B at *
    refine AF_run Sp138_ok Dr138 [] [] hm Tryz.func138 rfl (by decide) Tryz.ntmps138 rfl (by kernel_rfl) (Nat.le_of_ble_eq_true rfl) ?_; intro hlo
    repeat' (first | with_reducible refine iteI (fun _ => ?_) (fun _ => ?_) | ((first | unfold AOpsC | unfold AOpsD | skip); simp (maxSteps := 1000000) (disch := (first | omega | assumption | (simp only [List.length_append, List.length_cons, List.length_nil, List.length_set]; omega))) only [go_sem, Sp138, SShare, Dr138, hp, hg1, hg2, hq, hsh, hA, hB, setGet, List.length_set, List.set_set]))
    refine hK _ ⟨?_, ?_, hP.np, hP.p0, hP.p1, hP.p2, hP.p3⟩ ?_ ?_
    · exact setBlk k2.pb hqp
    · exact k2.n4.touch (Touch.set (S := fun x => x = q) rfl) (fun x (e : x = q) e2 => hq4 (e ▸ e2))
    · rw [set_eq (by simpa using lq)]
    · refine ((Touch.set (S := fun x => x = q ∨ hit5 p b0 b1 b2 b3 x) (b := b1) ?_).trans (Touch.set (b := b2) ?_)).trans (Touch.set (b := q) (.inl rfl))
      · exact .inr (.inr (.inr (.inl rfl)))
      · exact .inr (.inr (.inr (.inr (.inl rfl))))
  · exact h.elim

end Go.Proofs.YtaalpmbopkbdiaaGreat
