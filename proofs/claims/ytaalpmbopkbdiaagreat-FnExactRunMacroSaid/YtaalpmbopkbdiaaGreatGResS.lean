/- What functions of the program compute, said in the abstract logic; no conditions. -/
import Derived.Test.YtaalpmbopkbdiaaGreatGRes
import Derived.Test.YtaalpmbopkbdiaaGreatGStTo
import Derived.Test.YtaalpmbopkbdiaaGreatGInts

namespace Go.Proofs.YtaalpmbopkbdiaaGreat
open Go
set_option linter.unusedSimpArgs false
set_option linter.unusedVariables false
set_option maxRecDepth 100000
set_option maxHeartbeats 8000000
attribute [local go_sem] st0 AC thenA andC locLoadB KsSW_same KsSW_grow oldLoadB noBlkB KsSL_same KsOS_same KsOS_grow pv ev put upd dstOk cv cvc binI setB Value.oneCell' EndA resA resA1 List.mapM_cons List.mapM_nil Option.pure_def Option.bind_eq_bind noLocV noLoc1 noLoc noLocs plainV cellsA newVarA putCells condA lam0 inBlockA cur lenA rowA writeA dstA appendC appendZ mapPut mapGet avoidsB avoidB clearB Array.toList_append Op.operands Call.operands newSlot Nat.zero_add Nat.add_zero Nat.succ_ne_self Nat.lt_add_one Nat.zero_lt_succ true_and and_true true_or or_true false_or or_false and_self true_implies forall_const Bool.false_eq_true Bool.true_eq_false false_implies implies_true imp_self ne_eq not_false_eq_true not_true_eq_false false_and and_false List.getElem?_toArray List.getElem?_cons_succ List.getElem?_cons_zero Option.bind_some Option.map_some Bool.not_true Bool.not_false List.getD_cons_zero List.getD_cons_succ Option.some.injEq exists_eq_left' AV.bool.injEq List.map_cons List.map_nil List.all_cons List.all_nil Bool.and_self Bool.and_true Bool.true_and List.append_nil List.cons_append List.nil_append List.length_cons List.length_nil List.drop_zero List.take_zero List.drop_succ_cons List.take_succ_cons List.take_nil List.drop_nil List.not_mem_nil List.mem_cons List.contains_nil List.contains_cons Bool.or_self Bool.or_true Bool.true_or Bool.false_or Bool.or_false Bool.and_false Bool.false_and KsS_same KsS_grow skipV KsS_ext KsSW_ext KsOS_ext rep1 rep2 rep3 rep4 rep5 List.flatten_cons List.flatten_nil partsA isPtr fillA List.size_toArray ltT ltF leT leF ltTn ltFn leTn leFn eqTi eqFi wrapId toNat1 intGet boolGet memD app_get app_last app_lst app_set app_setL app_setF set_ne set_eq gt_iff_lt ge_iff_le decide_eq_true_eq len2 len3 get20 get21 drop2 put2 get30 get31 get32 drop3 put3 putI pairEta bneTi bneFi beqTi beqFi bne_eq_false_iff_eq beq_eq_false_iff_ne beq_iff_eq bne_iff_ne Int.toNat_natCast Nat.mul_one List.length_map Bool.not_eq_true Bool.not_eq_false Bool.decide_eq_true decide_true decide_false Bool.not_eq_true' Bool.not_eq_false' decide_eq_false_iff_not eq_self Decidable.not_not
attribute [local go_sem ↓] skipC exitC retC seqC blockC condC regC drawC drawStep AOpC AOpF AOpE AEff contE_at contC_at keepC_at keepW_at keepO_at keepL_at map_parts
attribute [local go_sem] reduceCtorEq Nat.reduceLT Nat.reduceEqDiff Nat.reduceAdd Nat.reduceMul Nat.reduceLeDiff Nat.reduceSub Nat.reduceBEq Nat.reduceBNe Nat.reduceBneDiff Nat.reduceBeqDiff
attribute [local go_sem ↓] reduceIte
attribute [local go_sem] ag_24 ag_25 ag_27 ag_3 ag_30 ag_32 ag_34 ag_69 by_24 by_25 by_27 by_3 by_30 by_32 by_34 by_69 el_25 el_30 en_3 fi_27_0 fi_27_1 fi_27_2 fi_27_3 fi_32_1 fi_34_0 fi_34_1 fi_34_2 fi_34_3 in_3 nf_24 nf_27 nf_32 nf_34 nf_69 pl_24 pl_27 pl_32 pl_34 pl_69 ps_24 ps_27 ps_32 ps_34 ps_69 sz_24 sz_25 sz_27 sz_3 sz_30 sz_32 sz_34 sz_69 ze_24 ze_25 ze_27 ze_3 ze_30 ze_32 ze_34 ze_69

/-- Four new rows, apart from each other. -/
structure New4 (n : Nat) (η : List Blk) (b0 b1 b2 b3 v0 v1 v2 v3 : Nat) (l : List Id3) (ms ts bs : List Int) : Prop where
  g0 : η[b0]? = some ⟨v0, 69, 3, (l.map enc3).flatten⟩
  g1 : η[b1]? = some ⟨v1, 3, 1, ms.map (.int .i64)⟩
  g2 : η[b2]? = some ⟨v2, 3, 1, ts.map (.int .i64)⟩
  g3 : η[b3]? = some ⟨v3, 3, 1, bs.map (.int .i64)⟩
  n0 : n ≤ b0
  n1 : n ≤ b1
  n2 : n ≤ b2
  n3 : n ≤ b3
  d01 : b0 ≠ b1
  d02 : b0 ≠ b2
  d03 : b0 ≠ b3
  d12 : b1 ≠ b2
  d13 : b1 ≠ b3
  d23 : b2 ≠ b3
def hit4 (b0 b1 b2 b3 c : Nat) : Prop := c = b0 ∨ c = b1 ∨ c = b2 ∨ c = b3
section
variable {n : Nat} {η H : List Blk} {b0 b1 b2 b3 v0 v1 v2 v3 : Nat} {l : List Id3} {ms ts bs : List Int}
theorem New4.ext (h : New4 n η b0 b1 b2 b3 v0 v1 v2 v3 l ms ts bs) (x : Ext η H) : New4 n H b0 b1 b2 b3 v0 v1 v2 v3 l ms ts bs :=
  ⟨x.blk h.g0, x.blk h.g1, x.blk h.g2, x.blk h.g3, h.n0, h.n1, h.n2, h.n3, h.d01, h.d02, h.d03, h.d12, h.d13, h.d23⟩
theorem New4.touch {S : Nat → Prop} (h : New4 n η b0 b1 b2 b3 v0 v1 v2 v3 l ms ts bs) (x : Touch S η H) (hs : ∀ c, S c → ¬ hit4 b0 b1 b2 b3 c) : New4 n H b0 b1 b2 b3 v0 v1 v2 v3 l ms ts bs :=
  ⟨x.blk (fun e => hs _ e (.inl rfl)) h.g0, x.blk (fun e => hs _ e (.inr (.inl rfl))) h.g1, x.blk (fun e => hs _ e (.inr (.inr (.inl rfl)))) h.g2, x.blk (fun e => hs _ e (.inr (.inr (.inr rfl)))) h.g3, h.n0, h.n1, h.n2, h.n3, h.d01, h.d02, h.d03, h.d12, h.d13, h.d23⟩
theorem New4.mono {m : Nat} (h : New4 n η b0 b1 b2 b3 v0 v1 v2 v3 l ms ts bs) (x : m ≤ n) : New4 m η b0 b1 b2 b3 v0 v1 v2 v3 l ms ts bs :=
  ⟨h.g0, h.g1, h.g2, h.g3, Nat.le_trans x h.n0, Nat.le_trans x h.n1, Nat.le_trans x h.n2, Nat.le_trans x h.n3, h.d01, h.d02, h.d03, h.d12, h.d13, h.d23⟩
theorem New4.low (h : New4 n η b0 b1 b2 b3 v0 v1 v2 v3 l ms ts bs) {c : Nat} (hc : hit4 b0 b1 b2 b3 c) : n ≤ c := by
  rcases hc with rfl | rfl | rfl | rfl
  · exact h.n0
  · exact h.n1
  · exact h.n2
  · exact h.n3
theorem New4.lt (h : New4 n η b0 b1 b2 b3 v0 v1 v2 v3 l ms ts bs) {c : Nat} (hc : hit4 b0 b1 b2 b3 c) : c < η.length := by
  rcases hc with rfl | rfl | rfl | rfl
  · exact blt h.g0
  · exact blt h.g1
  · exact blt h.g2
  · exact blt h.g3
theorem New4.is4 (h : New4 n η b0 b1 b2 b3 v0 v1 v2 v3 l ms ts bs) : IS4 η (.sl b0 v0 0 l.length) (.sl b1 v1 0 ms.length) (.sl b2 v2 0 ts.length) (.sl b3 v3 0 bs.length) l ms ts bs :=
  ⟨⟨b0, v0, rfl, h.g0⟩, ⟨b1, v1, rfl, h.g1⟩, ⟨b2, v2, rfl, h.g2⟩, ⟨b3, v3, rfl, h.g3⟩⟩
end
theorem ROWS4.keep {η H : List Blk} {v a b c : AV} {l : List Id3} {ms ts bs : List Int} (h : ROWS4 η v a b c l ms ts bs) (k : Keep η.length η H) : ROWS4 H v a b c l ms ts bs := ⟨h.1.keep k, h.2.1.keep k, h.2.2.1.keep k, h.2.2.2.keep k⟩
def SToStN : List AV → List Blk → (AV → List Blk → Prop) → Prop
  | [.agg [.int .i64 r, v, a, b, c]], η, K => ∃ (l : List Id3) (ms ts bs : List Int), ROWS4 η v a b c l ms ts bs ∧ len4 1048576 l ms ts bs ∧
      ∀ H b0 b1 b2 b3, New4 η.length H b0 b1 b2 b3 0 0 0 0 l ms ts bs → Ext η H → K (.agg [.int .i64 r, .sl b0 0 0 l.length, .sl b1 0 0 ms.length, .sl b2 0 0 ts.length, .sl b3 0 0 bs.length]) H
  | _, _, _ => False

/- laws.toState -/
def Sp10N (lo : Nat) : Spec := fun g args η K => match g with | 11 => SToMesh args η K | 37 => SToInt args η K | _ => False
theorem Sp10N_ok {lo : Nat} : Sound Tryz.prog lo (Sp10N lo) := by
  intro g args η K h
  unfold Sp10N at h
  split at h
  · exact .inl (f11_ok h)
  · exact .inl (f37_ok h)
  · exact h.elim
theorem f10N_ok {lo : Nat} {args : List AV} {η : List Blk} {K : AV → List Blk → Prop} (h : SToStN args η K) : AF Tryz.prog lo 10 args η K := by
  unfold SToStN at h
  split at h
  · obtain ⟨l, ms, ts, bs, hr, ⟨n1, n2, n3, n4⟩, hK⟩ := h
    rename_i r v a b c
    obtain ⟨q1, q2, q3, q4⟩ := hr.noLoc
    obtain ⟨p1, p2, p3, p4⟩ := hr.noLoc1
    obtain ⟨hr1, hr2, hr3, hr4⟩ := hr
    refine AF_run Sp10N_ok D0 [] [.cell 2 34] hm Tryz.func10 rfl (by decide) Tryz.ntmps10 rfl (by kernel_rfl) (Nat.le_of_ble_eq_true rfl) ?_; intro hlo
    repeat' (first | with_reducible refine iteI (fun _ => ?_) (fun _ => ?_) | ((first | unfold AOpsC | unfold AOpsD | skip); simp (maxSteps := 1000000) (disch := (first | omega | assumption | (simp only [List.length_append, List.length_cons, List.length_nil, List.length_set]; omega))) only [go_sem, Sp10N, ↓q1, ↓q2, ↓q3, ↓q4, ↓p1, ↓p2, ↓p3, ↓p4]))
    unfold SToMesh
    refine ⟨l, (by repeat (first | assumption | exact IsI.last _ _ | exact RowI.last _ _ | exact IsR.last _ _ | exact RowR.last _ _ | refine IsI.app ?_ _ | refine RowI.app ?_ _ | refine IsR.app ?_ _ | refine RowR.app ?_ _)), n1, ?_⟩
    repeat' (first | with_reducible refine iteI (fun _ => ?_) (fun _ => ?_) | ((first | unfold AOpsC | unfold AOpsD | skip); simp (maxSteps := 1000000) (disch := (first | omega | assumption | (simp only [List.length_append, List.length_cons, List.length_nil, List.length_set]; omega))) only [go_sem, Sp10N, ↓q1, ↓q2, ↓q3, ↓q4, ↓p1, ↓p2, ↓p3, ↓p4]))
    unfold SToInt
    refine ⟨ms, (by repeat (first | assumption | exact IsI.last _ _ | exact RowI.last _ _ | exact IsR.last _ _ | exact RowR.last _ _ | refine IsI.app ?_ _ | refine RowI.app ?_ _ | refine IsR.app ?_ _ | refine RowR.app ?_ _)), n2, ?_⟩
    repeat' (first | with_reducible refine iteI (fun _ => ?_) (fun _ => ?_) | ((first | unfold AOpsC | unfold AOpsD | skip); simp (maxSteps := 1000000) (disch := (first | omega | assumption | (simp only [List.length_append, List.length_cons, List.length_nil, List.length_set]; omega))) only [go_sem, Sp10N, ↓q1, ↓q2, ↓q3, ↓q4, ↓p1, ↓p2, ↓p3, ↓p4]))
    unfold SToInt
    refine ⟨ts, (by repeat (first | assumption | exact IsI.last _ _ | exact RowI.last _ _ | exact IsR.last _ _ | exact RowR.last _ _ | refine IsI.app ?_ _ | refine RowI.app ?_ _ | refine IsR.app ?_ _ | refine RowR.app ?_ _)), n3, ?_⟩
    repeat' (first | with_reducible refine iteI (fun _ => ?_) (fun _ => ?_) | ((first | unfold AOpsC | unfold AOpsD | skip); simp (maxSteps := 1000000) (disch := (first | omega | assumption | (simp only [List.length_append, List.length_cons, List.length_nil, List.length_set]; omega))) only [go_sem, Sp10N, ↓q1, ↓q2, ↓q3, ↓q4, ↓p1, ↓p2, ↓p3, ↓p4]))
    unfold SToInt
    refine ⟨bs, (by repeat (first | assumption | exact IsI.last _ _ | exact RowI.last _ _ | exact IsR.last _ _ | exact RowR.last _ _ | refine IsI.app ?_ _ | refine RowI.app ?_ _ | refine IsR.app ?_ _ | refine RowR.app ?_ _)), n4, ?_⟩
    repeat' (first | with_reducible refine iteI (fun _ => ?_) (fun _ => ?_) | ((first | unfold AOpsC | unfold AOpsD | skip); simp (maxSteps := 1000000) (disch := (first | omega | assumption | (simp only [List.length_append, List.length_cons, List.length_nil, List.length_set]; omega))) only [go_sem, Sp10N, ↓q1, ↓q2, ↓q3, ↓q4, ↓p1, ↓p2, ↓p3, ↓p4]))
    have e1 : ∀ (x y z w : Blk), (((η ++ [x]) ++ [y]) ++ [z]) ++ [w] = η ++ [x, y, z, w] := by intros; simp
    have hN : New4 η.length (η ++ [⟨0, 69, 3, (l.map enc3).flatten⟩, ⟨0, 3, 1, ms.map (.int .i64)⟩, ⟨0, 3, 1, ts.map (.int .i64)⟩, ⟨0, 3, 1, bs.map (.int .i64)⟩]) η.length (η.length + 1) (η.length + 2) (η.length + 3) 0 0 0 0 l ms ts bs :=
      ⟨by simp, by simp, by simp, by simp, by omega, by omega, by omega, by omega, by omega, by omega, by omega, by omega, by omega, by omega⟩
    have := hK _ _ _ _ _ hN ⟨_, rfl⟩
    simpa [e1] using this
  · exact h.elim

def SMarkMesh (lo : Nat) : List AV → List Blk → (AV → List Blk → Prop) → Prop
  | [.agg [.int .i64 r, v], .int .i64 q], η, K => ∃ l : List (Int × Int × Int), IsR 69 3 enc3 η v l ∧ ownE lo v ∧ l.length ≤ 1048576 ∧ 0 ≤ q ∧ q ≤ 1099511627776 ∧ ∀ H, Touch (hits v) η H → RowER 69 3 enc3 H v ((List.range l.length).map (mkId q)) → K (.int .i64 (q + 3 * l.length)) H
  | _, _, _ => False

/- laws.markMesh -/
def Sp16 (lo : Nat) : Spec := fun g args η K => match g with | 49 => SMarkId lo args η K | _ => False
theorem Sp16_ok {lo : Nat} : Sound Tryz.prog lo (Sp16 lo) := by
  intro g args η K h
  unfold Sp16 at h
  split at h
  · exact .inl (f49_ok h)
  · exact h.elim
theorem f16_ok {lo : Nat} {args : List AV} {η : List Blk} {K : AV → List Blk → Prop} (h : SMarkMesh lo args η K) : AF Tryz.prog lo 16 args η K := by
  unfold SMarkMesh at h
  split at h
  · obtain ⟨l, hr, hown, hl, q0, q1, hK⟩ := h
    have hn := (IsR.rowE hr).noLoc
    obtain ⟨hn1, hn2⟩ := hn
    refine AF_run Sp16_ok D0 [] [.tmp 4] hm Tryz.func16 rfl (by decide) Tryz.ntmps16 rfl (by kernel_rfl) (Nat.le_of_ble_eq_true rfl) ?_; intro hlo
    repeat' (first | with_reducible refine iteI (fun _ => ?_) (fun _ => ?_) | ((first | unfold AOpsC | unfold AOpsD | skip); simp (maxSteps := 1000000) (disch := (first | omega | assumption | (simp only [List.length_append, List.length_cons, List.length_nil, List.length_set]; omega))) only [go_sem, Sp16, ↓hn1, ↓hn2]))
    unfold SMarkId
    refine ⟨l, hr.rowE, hown, hl, q0, q1, fun H t r' => ?_⟩
    repeat' (first | with_reducible refine iteI (fun _ => ?_) (fun _ => ?_) | ((first | unfold AOpsC | unfold AOpsD | skip); simp (maxSteps := 1000000) (disch := (first | omega | assumption | (simp only [List.length_append, List.length_cons, List.length_nil, List.length_set]; omega))) only [go_sem, Sp16]))
    exact hK _ t r'
  · exact h.elim

def SMarkSt (lo : Nat) : List AV → List Blk → (AV → List Blk → Prop) → Prop
  | [.agg [.int .i64 r, .sl b0 v0 0 n0, .sl b1 v1 0 n1, .sl b2 v2 0 n2, .sl b3 v3 0 n3], .int .i64 q], η, K => ∃ (l : List Id3) (ms ts bs : List Int) (n : Nat), New4 n η b0 b1 b2 b3 v0 v1 v2 v3 l ms ts bs ∧ lo ≤ n ∧ (n0 = l.length ∧ n1 = ms.length ∧ n2 = ts.length ∧ n3 = bs.length) ∧ len4 1048576 l ms ts bs ∧ 0 ≤ q ∧ q ≤ 1048576 ∧
      ∀ H, Touch (hit4 b0 b1 b2 b3) η H → New4 n H b0 b1 b2 b3 v0 v1 v2 v3 ((List.range l.length).map (mkId q)) ((List.range ms.length).map (mkI (q + 3 * l.length))) ((List.range ts.length).map (mkI (q + 3 * l.length + 1 * ms.length))) ((List.range bs.length).map (mkI (q + 3 * l.length + 1 * ms.length + 1 * ts.length))) →
        K (.int .i64 (q + 3 * l.length + 1 * ms.length + 1 * ts.length + 1 * bs.length)) H
  | _, _, _ => False
theorem sl_inj {b b' v v' n n' : Nat} (h : AV.sl b v 0 n = .sl b' v' 0 n') : b = b' ∧ v = v' ∧ n = n' := by
  injection h with h1 h2 _ h4
  exact ⟨h1, h2, h4⟩
theorem RowEI.blk {η : List Blk} {b v n : Nat} {l : List Int} (h : RowEI η (.sl b v 0 n) l) : η[b]? = some ⟨v, 3, 1, l.map (.int .i64)⟩ ∧ n = l.length := by
  rcases h with ⟨h | h, _⟩ | ⟨b', v', e, h⟩
  · cases h
  · cases h
  · obtain ⟨rfl, rfl, rfl⟩ := sl_inj e
    exact ⟨h, rfl⟩
theorem RowER.blk {α : Type} {enc : α → List AV} {k : Nat} {e : TypeId} {η : List Blk} {b v n : Nat} {l : List α} (h : RowER e k enc η (.sl b v 0 n) l) : η[b]? = some ⟨v, e, k, (l.map enc).flatten⟩ ∧ n = l.length := by
  rcases h with ⟨h | h, _⟩ | ⟨b', v', e, h⟩
  · cases h
  · cases h
  · obtain ⟨rfl, rfl, rfl⟩ := sl_inj e
    exact ⟨h, rfl⟩

/- laws.markState -/
def Sp15 (lo : Nat) : Spec := fun g args η K => match g with | 16 => SMarkMesh lo args η K | 48 => SMarkI lo args η K | _ => False
theorem Sp15_ok {lo : Nat} : Sound Tryz.prog lo (Sp15 lo) := by
  intro g args η K h
  unfold Sp15 at h
  split at h
  · exact .inl (f16_ok h)
  · exact .inl (f48_ok h)
  · exact h.elim
theorem f15_ok {lo : Nat} {args : List AV} {η : List Blk} {K : AV → List Blk → Prop} (h : SMarkSt lo args η K) : AF Tryz.prog lo 15 args η K := by
  unfold SMarkSt at h
  split at h
  · obtain ⟨l, ms, ts, bs, n, hN, hlon, ⟨rfl, rfl, rfl, rfl⟩, ⟨m1, m2, m3, m4⟩, q0, q1, hK⟩ := h
    rename_i r b0 v0 b1 v1 b2 v2 b3 v3 q
    have i0 := hN.n0
    have i1 := hN.n1
    have i2 := hN.n2
    have i3 := hN.n3
    have d01 := hN.d01
    have d02 := hN.d02
    have d03 := hN.d03
    have d12 := hN.d12
    have d13 := hN.d13
    have d23 := hN.d23
    refine AF_run Sp15_ok D0 [] [.tmp 4] hm Tryz.func15 rfl (by decide) Tryz.ntmps15 rfl (by kernel_rfl) (Nat.le_of_ble_eq_true rfl) ?_; intro hlo
    repeat' (first | with_reducible refine iteI (fun _ => ?_) (fun _ => ?_) | ((first | unfold AOpsC | unfold AOpsD | skip); simp (maxSteps := 1000000) (disch := (first | omega | assumption | (simp only [List.length_append, List.length_cons, List.length_nil, List.length_set]; omega))) only [go_sem, Sp15]))
    unfold SMarkMesh
    refine ⟨l, ⟨b0, v0, rfl, hN.g0⟩, fun c (hc : b0 = c) => by omega, m1, q0, by omega, fun H0 t0 r0 => ?_⟩
    repeat' (first | with_reducible refine iteI (fun _ => ?_) (fun _ => ?_) | ((first | unfold AOpsC | unfold AOpsD | skip); simp (maxSteps := 1000000) (disch := (first | omega | assumption | (simp only [List.length_append, List.length_cons, List.length_nil, List.length_set]; omega))) only [go_sem, Sp15]))
    unfold SMarkI
    refine ⟨ms, .inr ⟨b1, v1, rfl, t0.blk d01 hN.g1⟩, fun c (hc : b1 = c) => by omega, m2, by omega, by omega, fun H1 t1 r1 => ?_⟩
    repeat' (first | with_reducible refine iteI (fun _ => ?_) (fun _ => ?_) | ((first | unfold AOpsC | unfold AOpsD | skip); simp (maxSteps := 1000000) (disch := (first | omega | assumption | (simp only [List.length_append, List.length_cons, List.length_nil, List.length_set]; omega))) only [go_sem, Sp15]))
    unfold SMarkI
    refine ⟨ts, .inr ⟨b2, v2, rfl, t1.blk d12 (t0.blk d02 hN.g2)⟩, fun c (hc : b2 = c) => by omega, m3, by omega, by omega, fun H2 t2 r2 => ?_⟩
    repeat' (first | with_reducible refine iteI (fun _ => ?_) (fun _ => ?_) | ((first | unfold AOpsC | unfold AOpsD | skip); simp (maxSteps := 1000000) (disch := (first | omega | assumption | (simp only [List.length_append, List.length_cons, List.length_nil, List.length_set]; omega))) only [go_sem, Sp15]))
    unfold SMarkI
    refine ⟨bs, .inr ⟨b3, v3, rfl, t2.blk d23 (t1.blk d13 (t0.blk d03 hN.g3))⟩, fun c (hc : b3 = c) => by omega, m4, by omega, by omega, fun H3 t3 r3 => ?_⟩
    repeat' (first | with_reducible refine iteI (fun _ => ?_) (fun _ => ?_) | ((first | unfold AOpsC | unfold AOpsD | skip); simp (maxSteps := 1000000) (disch := (first | omega | assumption | (simp only [List.length_append, List.length_cons, List.length_nil, List.length_set]; omega))) only [go_sem, Sp15]))
    refine hK _ ?_ ⟨t3.blk d03.symm (t2.blk d02.symm (t1.blk d01.symm r0.blk.1)), t3.blk d13.symm (t2.blk d12.symm r1.blk.1), t3.blk d23.symm r2.blk.1, r3.blk.1, i0, i1, i2, i3, d01, d02, d03, d12, d13, d23⟩
    refine (((t0.mono ?_).trans (t1.mono ?_)).trans (t2.mono ?_)).trans (t3.mono ?_)
    · exact fun c (hc : b0 = c) => .inl hc.symm
    · exact fun c (hc : b1 = c) => .inr (.inl hc.symm)
    · exact fun c (hc : b2 = c) => .inr (.inr (.inl hc.symm))
    · exact fun c (hc : b3 = c) => .inr (.inr (.inr hc.symm))
  · exact h.elim

def SHeldMesh : List AV → List Blk → (AV → List Blk → Prop) → Prop
  | [.agg [.int .i64 r, v], .int .i64 q], η, K => ∃ m : Nat, RowER 69 3 enc3 η v ((List.range m).map (mkId q)) ∧ m ≤ 1048576 ∧ 0 ≤ q ∧ q ≤ 1099511627776 ∧ K (.int .i64 (q + 3 * m)) η
  | _, _, _ => False

/- laws.heldMesh -/
def Sp50 (lo : Nat) : Spec := fun g args η K => match g with | 86 => SHeldId args η K | _ => False
theorem Sp50_ok {lo : Nat} : Sound Tryz.prog lo (Sp50 lo) := by
  intro g args η K h
  unfold Sp50 at h
  split at h
  · exact .inl (f86_ok h)
  · exact h.elim
theorem f50_ok {lo : Nat} {args : List AV} {η : List Blk} {K : AV → List Blk → Prop} (h : SHeldMesh args η K) : AF Tryz.prog lo 50 args η K := by
  unfold SHeldMesh at h
  split at h
  · obtain ⟨m, hr, hl, q0, q1, hK⟩ := h
    have hn := hr.noLoc
    obtain ⟨hn1, hn2⟩ := hn
    refine AF_run Sp50_ok D0 [] [.tmp 4] hm Tryz.func50 rfl (by decide) Tryz.ntmps50 rfl (by kernel_rfl) (Nat.le_of_ble_eq_true rfl) ?_; intro hlo
    repeat' (first | with_reducible refine iteI (fun _ => ?_) (fun _ => ?_) | ((first | unfold AOpsC | unfold AOpsD | skip); simp (maxSteps := 1000000) (disch := (first | omega | assumption | (simp only [List.length_append, List.length_cons, List.length_nil, List.length_set]; omega))) only [go_sem, Sp50, ↓hn1, ↓hn2]))
    unfold SHeldId
    refine ⟨m, hr, hl, q0, q1, ?_⟩
    repeat' (first | with_reducible refine iteI (fun _ => ?_) (fun _ => ?_) | ((first | unfold AOpsC | unfold AOpsD | skip); simp (maxSteps := 1000000) (disch := (first | omega | assumption | (simp only [List.length_append, List.length_cons, List.length_nil, List.length_set]; omega))) only [go_sem, Sp50]))
    exact hK
  · exact h.elim

def SHeldSt : List AV → List Blk → (AV → List Blk → Prop) → Prop
  | [.agg [.int .i64 r, .sl b0 v0 0 n0, .sl b1 v1 0 n1, .sl b2 v2 0 n2, .sl b3 v3 0 n3], .int .i64 q], η, K => ∃ (n i j k m : Nat), New4 n η b0 b1 b2 b3 v0 v1 v2 v3 ((List.range i).map (mkId q)) ((List.range j).map (mkI (q + 3 * i))) ((List.range k).map (mkI (q + 3 * i + 1 * j))) ((List.range m).map (mkI (q + 3 * i + 1 * j + 1 * k))) ∧
      (n0 = i ∧ n1 = j ∧ n2 = k ∧ n3 = m) ∧ (i ≤ 1048576 ∧ j ≤ 1048576 ∧ k ≤ 1048576 ∧ m ≤ 1048576) ∧ 0 ≤ q ∧ q ≤ 1048576 ∧ K (.int .i64 (q + 3 * i + 1 * j + 1 * k + 1 * m)) η
  | _, _, _ => False

/- laws.heldState -/
def Sp17 (lo : Nat) : Spec := fun g args η K => match g with | 50 => SHeldMesh args η K | 51 => SHeldI args η K | _ => False
theorem Sp17_ok {lo : Nat} : Sound Tryz.prog lo (Sp17 lo) := by
  intro g args η K h
  unfold Sp17 at h
  split at h
  · exact .inl (f50_ok h)
  · exact .inl (f51_ok h)
  · exact h.elim
theorem f17_ok {lo : Nat} {args : List AV} {η : List Blk} {K : AV → List Blk → Prop} (h : SHeldSt args η K) : AF Tryz.prog lo 17 args η K := by
  unfold SHeldSt at h
  split at h
  · obtain ⟨n, i, j, k, m, hN, ⟨s0, s1, s2, s3⟩, ⟨m1, m2, m3, m4⟩, q0, q1, hK⟩ := h
    rename_i r b0 v0 n0 b1 v1 n1 b2 v2 n2 b3 v3 n3 q
    subst s0 s1 s2 s3
    refine AF_run Sp17_ok D0 [] [.tmp 4] hm Tryz.func17 rfl (by decide) Tryz.ntmps17 rfl (by kernel_rfl) (Nat.le_of_ble_eq_true rfl) ?_; intro hlo
    repeat' (first | with_reducible refine iteI (fun _ => ?_) (fun _ => ?_) | ((first | unfold AOpsC | unfold AOpsD | skip); simp (maxSteps := 1000000) (disch := (first | omega | assumption | (simp only [List.length_append, List.length_cons, List.length_nil, List.length_set]; omega))) only [go_sem, Sp17]))
    unfold SHeldMesh
    refine ⟨_, .inr ⟨b0, v0, by simp, hN.g0⟩, m1, q0, by omega, ?_⟩
    repeat' (first | with_reducible refine iteI (fun _ => ?_) (fun _ => ?_) | ((first | unfold AOpsC | unfold AOpsD | skip); simp (maxSteps := 1000000) (disch := (first | omega | assumption | (simp only [List.length_append, List.length_cons, List.length_nil, List.length_set]; omega))) only [go_sem, Sp17]))
    unfold SHeldI
    refine ⟨_, .inr ⟨b1, v1, by simp, hN.g1⟩, m2, by omega, by omega, ?_⟩
    repeat' (first | with_reducible refine iteI (fun _ => ?_) (fun _ => ?_) | ((first | unfold AOpsC | unfold AOpsD | skip); simp (maxSteps := 1000000) (disch := (first | omega | assumption | (simp only [List.length_append, List.length_cons, List.length_nil, List.length_set]; omega))) only [go_sem, Sp17]))
    unfold SHeldI
    refine ⟨_, .inr ⟨b2, v2, by simp, hN.g2⟩, m3, by omega, by omega, ?_⟩
    repeat' (first | with_reducible refine iteI (fun _ => ?_) (fun _ => ?_) | ((first | unfold AOpsC | unfold AOpsD | skip); simp (maxSteps := 1000000) (disch := (first | omega | assumption | (simp only [List.length_append, List.length_cons, List.length_nil, List.length_set]; omega))) only [go_sem, Sp17]))
    unfold SHeldI
    refine ⟨_, .inr ⟨b3, v3, by simp, hN.g3⟩, m4, by omega, by omega, ?_⟩
    repeat' (first | with_reducible refine iteI (fun _ => ?_) (fun _ => ?_) | ((first | unfold AOpsC | unfold AOpsD | skip); simp (maxSteps := 1000000) (disch := (first | omega | assumption | (simp only [List.length_append, List.length_cons, List.length_nil, List.length_set]; omega))) only [go_sem, Sp17]))
    exact hK
  · exact h.elim

end Go.Proofs.YtaalpmbopkbdiaaGreat
