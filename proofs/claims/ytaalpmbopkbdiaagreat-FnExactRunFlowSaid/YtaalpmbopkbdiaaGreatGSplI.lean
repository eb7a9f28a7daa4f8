/- What functions of the program compute, said in the abstract logic; no conditions. -/
import Derived.Test.YtaalpmbopkbdiaaGreatGSplS
import Derived.Test.YtaalpmbopkbdiaaGreatGRepl

namespace Go.Proofs.YtaalpmbopkbdiaaGreat
open Go
set_option linter.unusedSimpArgs false
set_option linter.unusedVariables false
set_option maxRecDepth 100000
set_option maxHeartbeats 8000000
attribute [local go_sem] st0 AC thenA andC locLoadB KsSW_same KsSW_grow oldLoadB noBlkB KsSL_same KsOS_same KsOS_grow pv ev put upd dstOk cv cvc binI setB Value.oneCell' EndA resA resA1 List.mapM_cons List.mapM_nil Option.pure_def Option.bind_eq_bind noLocV noLoc1 noLoc noLocs plainV cellsA newVarA putCells condA lam0 inBlockA cur lenA rowA writeA dstA appendC appendZ mapPut mapGet avoidsB avoidB clearB Array.toList_append Op.operands Call.operands newSlot Nat.zero_add Nat.add_zero Nat.succ_ne_self Nat.lt_add_one Nat.zero_lt_succ true_and and_true true_or or_true false_or or_false and_self true_implies forall_const Bool.false_eq_true Bool.true_eq_false false_implies implies_true imp_self ne_eq not_false_eq_true not_true_eq_false false_and and_false List.getElem?_toArray List.getElem?_cons_succ List.getElem?_cons_zero Option.bind_some Option.map_some Bool.not_true Bool.not_false List.getD_cons_zero List.getD_cons_succ Option.some.injEq exists_eq_left' AV.bool.injEq List.map_cons List.map_nil List.all_cons List.all_nil Bool.and_self Bool.and_true Bool.true_and List.append_nil List.cons_append List.nil_append List.length_cons List.length_nil List.drop_zero List.take_zero List.drop_succ_cons List.take_succ_cons List.take_nil List.drop_nil List.not_mem_nil List.mem_cons List.contains_nil List.contains_cons Bool.or_self Bool.or_true Bool.true_or Bool.false_or Bool.or_false Bool.and_false Bool.false_and KsS_same KsS_grow skipV KsS_ext KsSW_ext KsOS_ext rep1 rep2 rep3 rep4 rep5 List.flatten_cons List.flatten_nil partsA isPtr fillA List.size_toArray ltT ltF leT leF ltTn ltFn leTn leFn eqTi eqFi wrapId toNat1 intGet boolGet memD app_get app_last app_lst app_set app_setL app_setF set_ne set_eq gt_iff_lt ge_iff_le decide_eq_true_eq len2 len3 get20 get21 drop2 put2 get30 get31 get32 drop3 put3 putI pairEta bneTi bneFi beqTi beqFi bne_eq_false_iff_eq beq_eq_false_iff_ne beq_iff_eq bne_iff_ne Int.toNat_natCast Nat.mul_one List.length_map Bool.not_eq_true Bool.not_eq_false Bool.decide_eq_true decide_true decide_false Bool.not_eq_true' Bool.not_eq_false' decide_eq_false_iff_not eq_self Decidable.not_not
attribute [local go_sem ↓] skipC exitC retC seqC blockC condC regC drawC drawStep AOpC AOpF AOpE AEff contE_at contC_at keepC_at keepW_at keepO_at keepL_at map_parts
attribute [local go_sem] reduceCtorEq Nat.reduceLT Nat.reduceEqDiff Nat.reduceAdd Nat.reduceMul Nat.reduceLeDiff Nat.reduceSub Nat.reduceBEq Nat.reduceBNe Nat.reduceBneDiff Nat.reduceBeqDiff
attribute [local go_sem ↓] reduceIte
attribute [local go_sem] ag_25 ag_3 ag_30 ag_32 ag_69 by_25 by_3 by_30 by_32 by_69 el_25 el_30 en_3 fi_32_1 fi_34_0 fi_34_1 fi_34_2 fi_69_0 fi_69_1 fi_69_2 in_3 nf_32 nf_69 pl_32 pl_69 ps_32 ps_69 sz_25 sz_3 sz_30 sz_32 sz_69 ze_25 ze_3 ze_30 ze_32 ze_69

def SChi : List AV → List Blk → (AV → List Blk → Prop) → Prop
  | [.agg [.int .i64 r, .int .i64 lv, .int .i64 ix], .int .i64 k], η, K => ((-1000000 ≤ lv ∧ lv ≤ 1000000) ∧ (-1000000 ≤ ix ∧ ix ≤ 1000000) ∧ 0 ≤ k ∧ k ≤ 1) ∧ K (.agg [.int .i64 r, .int .i64 (lv + 1), .int .i64 (2 * ix + k)]) η
  | _, _, _ => False
def SMrf (lo : Nat) : List AV → List Blk → (AV → List Blk → Prop) → Prop
  | [.ptr p 0 0, .int .i64 i], η, K => ∃ (r : Int) (b0 v0 : Nat) (x y z : AV) (l : List Id3) (j : Nat), (lo ≤ p ∧ lo ≤ b0 ∧ p ≠ b0 ∧ i = j) ∧ η[p]? = some ⟨0, 34, 5, [.int .i64 r, .sl b0 v0 0 l.length, x, y, z]⟩ ∧ η[b0]? = some ⟨v0, 69, 3, (l.map enc3).flatten⟩ ∧ (l.length ≤ 128 ∧ j < l.length ∧ idT (l.getD j z3) = true ∧ (l.getD j z3).2.1 ≠ 4) ∧
      ∀ H c0 u0, H[p]? = some ⟨0, 34, 5, [.int .i64 r, .sl c0 u0 0 (splitL l j).length, x, y, z]⟩ → H[c0]? = some ⟨u0, 69, 3, ((splitL l j).map enc3).flatten⟩ → (c0 = b0 ∨ η.length ≤ c0) → Touch (fun c => c = p ∨ c = b0) η H → K (.tup []) H
  | _, _, _ => False
/-- A block that is not the state's. -/
def GQ (G : Prop) (q p b0 b1 b2 b3 : Nat) (η : List Blk) : Prop := G → q < η.length ∧ q ≠ p ∧ q ≠ b0 ∧ q ≠ b1 ∧ q ≠ b2 ∧ q ≠ b3
theorem GQ.no {q p b0 b1 b2 b3 : Nat} {η : List Blk} : GQ False q p b0 b1 b2 b3 η := fun h => h.elim
def SSrf (lo : Nat) : List AV → List Blk → (AV → List Blk → Prop) → Prop
  | [.ptr p 0 0, .int .i64 i], η, K => ∃ (n : Nat) (r : Int) (b0 b1 b2 b3 v0 v1 v2 v3 : Nat) (l : List Id3) (ms ts bs : List Int) (j : Nat) (G : Prop) (q : Nat), (lo ≤ n ∧ i = j ∧ GQ G q p b0 b1 b2 b3 η) ∧ PtrS n p η r b0 b1 b2 b3 v0 v1 v2 v3 l ms ts bs ∧ (meshB r l = true ∧ celB r l ms ts bs = true ∧ l.length ≤ 128 ∧ j < l.length ∧ (l.getD j z3).2.1 ≠ 4) ∧
      ∀ H c0 c1 c2 u0 u1 u2, PtrS n p H r c0 c1 c2 b3 u0 u1 u2 v3 (splitL l j) (splM ms j) (splT ms ts j) bs → Keep n η H → (GQ G q p c0 c1 c2 b3 H ∧ (G → H[q]? = η[q]?)) → K (.tup []) H
  | _, _, _ => False
def toR (l : List Id3) : Int := if 0 ≤ unbI l then (coarI l (unbI l).toNat : Int) else unbI l
def SToR : List AV → List Blk → (AV → List Blk → Prop) → Prop
  | [.agg [.int .i64 r, v]], η, K => (ok3 69 η v ∧ levs (dec3 69 η v)) ∧ K (.int .i64 (toR (dec3 69 η v))) η
  | _, _, _ => False
def SBla (lo : Nat) : List AV → List Blk → (AV → List Blk → Prop) → Prop
  | [.ptr p 0 0], η, K => ∃ (n : Nat) (r : Int) (b0 b1 b2 b3 v0 v1 v2 v3 : Nat) (l : List Id3) (ms ts bs : List Int) (G : Prop) (q : Nat), (lo ≤ n ∧ GQ G q p b0 b1 b2 b3 η) ∧ PtrS n p η r b0 b1 b2 b3 v0 v1 v2 v3 l ms ts bs ∧ (meshB r l = true ∧ celB r l ms ts bs = true) ∧
      ∀ H c0 c1 c2 u0 u1 u2, PtrS n p H r c0 c1 c2 b3 u0 u1 u2 v3 (lvlR l ms ts).1 (lvlR l ms ts).2.1 (lvlR l ms ts).2.2 bs → Keep n η H → (GQ G q p c0 c1 c2 b3 H ∧ (G → H[q]? = η[q]?)) → K (.tup []) H
  | _, _, _ => False
def muBp (p : Nat) (st : St) : Nat := match st.η[p]? with | some ⟨_, _, _, _ :: .sl _ _ _ n :: _⟩ => 129 - n | _ => 0
theorem Keep.trans {n : Nat} {η H G : List Blk} (h : Keep n η H) (k : Keep n H G) : Keep n η G := ⟨k.1, fun c hc => (k.2 c hc).trans (h.2 c hc)⟩

/- impl.child -/
theorem f147_ok {lo : Nat} {args : List AV} {η : List Blk} {K : AV → List Blk → Prop} (h : SChi args η K) : AF Tryz.prog lo 147 args η K := by
  unfold SChi at h
  split at h
  · obtain ⟨⟨⟨h1, h2⟩, ⟨h3, h4⟩, h5, h6⟩, hK⟩ := h
    refine AF_run noSp_ok D0 [] [.cell 4 69] hm Tryz.func147 rfl (by decide) Tryz.ntmps147 rfl (by kernel_rfl) (Nat.le_of_ble_eq_true rfl) ?_; intro hlo
    repeat' (first | with_reducible refine iteI (fun _ => ?_) (fun _ => ?_) | ((first | unfold AOpsC | unfold AOpsD | skip); simp (maxSteps := 1000000) (disch := (first | omega | assumption | (simp only [List.length_append, List.length_cons, List.length_nil, List.length_set]; omega))) only [go_sem, AOpsD]))
    exact hK
  · exact h.elim

/- (*impl.Mesh).refine -/
def Sp123 (lo : Nat) : Spec := fun g args η K => match g with | 146 => SRepR lo args η K | 147 => SChi args η K | _ => False
theorem Sp123_ok {lo : Nat} : Sound Tryz.prog lo (Sp123 lo) := by
  intro g args η K h
  unfold Sp123 at h
  split at h
  · exact .inl (f146_ok h)
  · exact .inl (f147_ok h)
  · exact h.elim
def Dr123 : Draws := fun id => match id with | 1 => ([0, 0, 2, 6, 14, 0, 0, 64, 0, 256, 0, 1792, 3840, 8190, 16383, 32767, 65535], [9, 11, 12, 3013], [(3000, 0)], (.one 0 (.one 1 (.one 2 (.one 3 (.one 4 (.one 5 (.one 6 (.one 7 (.one 8 (.one 10 (.one 9 (.one 11 (.one 12 (.one 13 (.one 14 (.one 15 (.one 16 .nil)))))))))))))))))) | _ => ([], [], [], .nil)
theorem f123_ok {lo : Nat} {args : List AV} {η : List Blk} {K : AV → List Blk → Prop} (h : SMrf lo args η K) : AF Tryz.prog lo 123 args η K := by
  unfold SMrf at h
  split at h
  · obtain ⟨r, b0, v0, x, y, z, l, j, ⟨hlp, hlb, hpb, rfl⟩, hp, hb, ⟨hl, hj, hid, h4⟩, hK⟩ := h
    rename_i p
    have lp := blt hp
    have lb := blt hb
    have hbd := id_bd (r := (l.getD j z3).1) (lv := (l.getD j z3).2.1) (ix := (l.getD j z3).2.2) hid
    unfold z3 at hbd
    refine AF_run Sp123_ok Dr123 [] [] hm Tryz.func123 rfl (by decide) Tryz.ntmps123 rfl (by kernel_rfl) (Nat.le_of_ble_eq_true rfl) ?_; intro hlo
    repeat' (first | with_reducible refine iteI (fun _ => ?_) (fun _ => ?_) | ((first | unfold AOpsC | unfold AOpsD | skip); simp (maxSteps := 1000000) (disch := (first | omega | assumption | (simp only [List.length_append, List.length_cons, List.length_nil, List.length_set]; omega))) only [go_sem, Sp123, SChi, Dr123, hp, hb]))
    unfold SRepR
    have eS : l.take j ++ [((l.getD j z3).1, (l.getD j z3).2.1 + 1, 2 * (l.getD j z3).2.2 + 0), ((l.getD j z3).1, (l.getD j z3).2.1 + 1, 2 * (l.getD j z3).2.2 + 1)] ++ l.drop (j + 1) = splitL l j := rfl
    refine ⟨l, [((l.getD j z3).1, (l.getD j z3).2.1 + 1, 2 * (l.getD j z3).2.2 + 0), ((l.getD j z3).1, (l.getD j z3).2.1 + 1, 2 * (l.getD j z3).2.2 + 1)], j, j + 1, ⟨hlb, hlo, by omega, rfl, rfl⟩, ⟨rfl, by rw [app_get lb]; exact hb⟩, ⟨rfl, app_last _ _⟩, ⟨by omega, by simp, by simp, by omega, by omega, by simp⟩, fun H c0 u0 hc0 hcb ht => ?_⟩
    rw [eS] at hc0 ⊢
    have hp' : H[p]? = _ := ht.blk hpb (by rw [app_get lp]; exact hp)
    have hHl := blt hp'
    have hne : c0 ≠ p := by rcases hcb with ⟨rfl, _⟩ | ⟨h, _⟩
                            · exact hpb.symm
                            · simp only [List.length_append, List.length_cons, List.length_nil] at h; omega
    repeat' (first | with_reducible refine iteI (fun _ => ?_) (fun _ => ?_) | ((first | unfold AOpsC | unfold AOpsD | skip); simp (maxSteps := 1000000) (disch := (first | omega | assumption | (simp only [List.length_append, List.length_cons, List.length_nil, List.length_set]; omega))) only [go_sem, Sp123, SChi, Dr123, hp']))
    exact hK _ c0 u0 (set_eq hHl) (setBlk hc0 hne.symm) (by rcases hcb with ⟨h, _⟩ | ⟨h, _⟩
                                                            · exact .inl h
                                                            · simp only [List.length_append, List.length_cons, List.length_nil] at h; right; omega) (((((Ext.refl η).app _).touch _).trans (ht.mono fun c hc => .inr hc)).trans (Touch.set (.inl rfl)))
  · exact h.elim

/- (*impl.State).refine -/
def Sp83 (lo : Nat) : Spec := fun g args η K => match g with | 121 => SSpE args η K | 122 => SShare args η K | 123 => SMrf lo args η K | 124 => SRepI lo args η K | _ => False
theorem Sp83_ok {lo : Nat} : Sound Tryz.prog lo (Sp83 lo) := by
  intro g args η K h
  unfold Sp83 at h
  split at h
  · exact .inl (f121_ok h)
  · exact .inl (f122_ok h)
  · exact .inl (f123_ok h)
  · exact .inl (f124_ok h)
  · exact h.elim
def Dr83 : Draws := fun id => match id with | 1 => ([0, 1, 3, 7, 0, 31, 63, 0, 0, 256, 768, 1792, 0, 7936, 16128, 32767, 65535], [], [], (.one 0 (.one 1 (.one 2 (.one 3 (.one 4 (.one 5 (.one 6 (.one 7 (.one 8 (.one 9 (.one 10 (.one 11 (.one 12 (.one 13 (.one 14 (.one 15 (.one 16 .nil)))))))))))))))))) | 4 => ([0, 0, 2, 6, 14, 0, 0, 64, 0, 0, 512, 1536, 3584, 0, 15872, 32256, 0, 130560, 261888, 524286, 1048575, 2097151, 4194303], [18, 3019], [(3000, 0)], (.one 0 (.one 1 (.one 2 (.one 3 (.one 4 (.one 5 (.one 6 (.one 7 (.one 8 (.one 9 (.one 10 (.one 11 (.one 12 (.one 13 (.one 14 (.one 15 (.one 16 (.one 17 (.one 18 (.one 19 (.one 20 (.one 21 (.one 22 .nil)))))))))))))))))))))))) | _ => ([], [], [], .nil)
theorem f83_ok {lo : Nat} {args : List AV} {η : List Blk} {K : AV → List Blk → Prop} (h : SSrf lo args η K) : AF Tryz.prog lo 83 args η K := by
  unfold SSrf at h
  split at h
  · obtain ⟨n, r, b0, b1, b2, b3, v0, v1, v2, v3, l, ms, ts, bs, j, G, q, ⟨hn, rfl, hq⟩, hP, ⟨hM, hC, hl, hj, h4⟩, hK⟩ := h
    rename_i p
    obtain ⟨k3, k4, k5, k6, k7, k8⟩ := celT hC
    have hid := mesh_ids hM _ (getD_mem (d := z3) (i := j) (by omega))
    have m1 := cells_at k7 (i := j) (by omega)
    have hh := half_bd m1.1
    have sb := shareO_bd (ts.getD j 0) (ms.getD j 0 - (ms.getD j 0).tdiv 2) (ms.getD j 0)
    have pp := hP.pb
    have w0 := hP.n4.g0
    have w1 := hP.n4.g1
    have w2 := hP.n4.g2
    have w3 := hP.n4.g3
    have lp := blt pp
    have l1 := blt w1
    have l2 := blt w2
    have l3 := blt w3
    refine AF_run Sp83_ok Dr83 [] [] hm Tryz.func83 rfl (by decide) Tryz.ntmps83 rfl (by kernel_rfl) (Nat.le_of_ble_eq_true rfl) ?_; intro hlo
    repeat' (first | with_reducible refine iteI (fun _ => ?_) (fun _ => ?_) | ((first | unfold AOpsC | unfold AOpsD | skip); simp (maxSteps := 1000000) (disch := (first | omega | assumption | (simp only [List.length_append, List.length_cons, List.length_nil, List.length_set]; omega))) only [go_sem, Sp83, Dr83, pp, w1]))
    unfold SSpE
    refine ⟨⟨m1.1, m1.2.1⟩, ?_⟩
    repeat' (first | with_reducible refine iteI (fun _ => ?_) (fun _ => ?_) | ((first | unfold AOpsC | unfold AOpsD | skip); simp (maxSteps := 1000000) (disch := (first | omega | assumption | (simp only [List.length_append, List.length_cons, List.length_nil, List.length_set]; omega))) only [go_sem, Sp83, Dr83, pp, w1, w2]))
    unfold SShare
    repeat' (first | with_reducible refine iteI (fun _ => ?_) (fun _ => ?_) | ((first | unfold AOpsC | unfold AOpsD | skip); simp (maxSteps := 1000000) (disch := (first | omega | assumption | (simp only [List.length_append, List.length_cons, List.length_nil, List.length_set]; omega))) only [go_sem, Sp83, Dr83, pp, w1, w2]))
    have hp0 := hP.p0
    have hp1 := hP.p1
    have hp2 := hP.p2
    have hp3 := hP.p3
    have d01 := hP.n4.d01
    have d02 := hP.n4.d02
    have d03 := hP.n4.d03
    have d12 := hP.n4.d12
    have d13 := hP.n4.d13
    have d23 := hP.n4.d23
    have z0 := hP.n4.n0
    have z1 := hP.n4.n1
    have z2 := hP.n4.n2
    have z3' := hP.n4.n3
    have zp := hP.np
    have eSA : shareO (ts.getD j 0) (ms.getD j 0 - (ms.getD j 0).tdiv 2) (ms.getD j 0) = splA ms ts j := rfl
    have eM : ms.take j ++ [ms.getD j 0 - (ms.getD j 0).tdiv 2, (ms.getD j 0).tdiv 2] ++ ms.drop (j + 1) = splM ms j := rfl
    have eT : ts.take j ++ [splA ms ts j, ts.getD j 0 - splA ms ts j] ++ ts.drop (j + 1) = splT ms ts j := rfl
    rw [eSA] at sb
    simp only [eSA]
    unfold SMrf
    refine ⟨r, b0, v0, _, _, _, l, j, ⟨by omega, by omega, hp0, rfl⟩, pp, w0, ⟨hl, hj, hid, h4⟩, fun H c0 u0 gp g0 hc0 ht => ?_⟩
    have g1 : H[b1]? = _ := ht.blk (by omega) w1
    have g2 : H[b2]? = _ := ht.blk (by omega) w2
    have g3 : H[b3]? = _ := ht.blk (by omega) w3
    have ln := ht.1
    have kp := blt gp
    have kl0 := blt g0
    have kl1 := blt g1
    have kl2 := blt g2
    have kl3 := blt g3
    have kc0 : c0 ≠ p := by rintro rfl; rw [gp] at g0; cases g0
    repeat' (first | with_reducible refine iteI (fun _ => ?_) (fun _ => ?_) | ((first | unfold AOpsC | unfold AOpsD | skip); simp (maxSteps := 1000000) (disch := (first | omega | assumption | (simp only [List.length_append, List.length_cons, List.length_nil, List.length_set]; omega))) only [go_sem, Sp83, Dr83, gp, g1]))
    unfold SRepI
    refine ⟨ms, [ms.getD j 0 - (ms.getD j 0).tdiv 2, (ms.getD j 0).tdiv 2], j, j + 1, ⟨by omega, by omega, by omega, rfl, rfl⟩, ⟨rfl, by rw [app_get kl1]; exact g1⟩, ⟨rfl, app_last _ _⟩, ⟨by omega, by simp, by simp, by omega, by omega, by simp⟩, fun H2 c1 u1 y1 hc1 ht2 => ?_⟩
    rw [eM] at y1 ⊢
    have yp : H2[p]? = _ := ht2.blk hp1 (by rw [app_get kp]; exact gp)
    have y0 : H2[c0]? = _ := ht2.blk (by omega) (by rw [app_get kl0]; exact g0)
    have y2 : H2[b2]? = _ := ht2.blk (by omega) (by rw [app_get kl2]; exact g2)
    have y3 : H2[b3]? = _ := ht2.blk (by omega) (by rw [app_get kl3]; exact g3)
    have ln2 := ht2.1
    simp only [List.length_append, List.length_cons, List.length_nil] at ln2 hc1
    have yl := blt yp
    have yl0 := blt y0
    have yl1 := blt y1
    have yl2 := blt y2
    have yl3 := blt y3
    have yc1 : c1 ≠ p := by rintro rfl; rw [yp] at y1; cases y1
    repeat' (first | with_reducible refine iteI (fun _ => ?_) (fun _ => ?_) | ((first | unfold AOpsC | unfold AOpsD | skip); simp (maxSteps := 1000000) (disch := (first | omega | assumption | (simp only [List.length_append, List.length_cons, List.length_nil, List.length_set]; omega))) only [go_sem, Sp83, Dr83, yp, y2]))
    obtain ⟨E, hE⟩ : ∃ E, E = H2.set p (⟨0, 34, 5, [.int .i64 r, .sl c0 u0 0 (splitL l j).length, .sl c1 u1 0 (splM ms j).length, .sl b2 v2 0 ts.length, .sl b3 v3 0 bs.length]⟩ : Blk) := ⟨_, rfl⟩
    rw [← hE]
    have eq := fun c : Nat => congrArg (fun L : List Blk => L[c]?) hE
    have ep := (eq p).trans (set_eq yl)
    have e0 := (eq c0).trans (setBlk y0 kc0.symm)
    have e1 := (eq c1).trans (setBlk y1 yc1.symm)
    have e2 := (eq b2).trans (setBlk y2 hp2)
    have e3 := (eq b3).trans (setBlk y3 hp3)
    have hEl : E.length = H2.length := by rw [hE]; simp
    have kE : Keep n η E := by
      refine ⟨by omega, fun c hc => ?_⟩
      rw [hE, set_ne (by omega), ht2.2 c (by simp only [List.length_append, List.length_cons, List.length_nil]; omega) (by omega), app_get (by omega), ht.2 c (by omega) (by omega)]
    have kEq : G → E[q]? = η[q]? := fun hg => by
      obtain ⟨h1, h2, h3, h4, h5, h6⟩ := hq hg
      rw [hE, set_ne (by omega), ht2.2 q (by simp only [List.length_append, List.length_cons, List.length_nil]; omega) (by omega), app_get (by omega), ht.2 q h1 (by omega)]
    clear eq
    have el := blt ep
    have el0 := blt e0
    have el1 := blt e1
    have el2 := blt e2
    have el3 := blt e3
    unfold SRepI
    refine ⟨ts, [splA ms ts j, ts.getD j 0 - splA ms ts j], j, j + 1, ⟨by omega, by omega, by omega, rfl, rfl⟩, ⟨rfl, by rw [app_get el2]; exact e2⟩, ⟨rfl, app_last _ _⟩, ⟨by omega, by simp, by simp, by omega, by omega, by simp⟩, fun H3 c2 u2 q2 hc2 ht3 => ?_⟩
    rw [eT] at q2 ⊢
    have qp : H3[p]? = _ := ht3.blk hp2 (by rw [app_get el]; exact ep)
    have q0 : H3[c0]? = _ := ht3.blk (by omega) (by rw [app_get el0]; exact e0)
    have q1 : H3[c1]? = _ := ht3.blk (by omega) (by rw [app_get el1]; exact e1)
    have q3 : H3[b3]? = _ := ht3.blk (by omega) (by rw [app_get el3]; exact e3)
    have ln3 := ht3.1
    simp only [List.length_append, List.length_cons, List.length_nil] at ln3 hc2
    have ql := blt qp
    have qc2 : c2 ≠ p := by rintro rfl; rw [qp] at q2; cases q2
    repeat' (first | with_reducible refine iteI (fun _ => ?_) (fun _ => ?_) | ((first | unfold AOpsC | unfold AOpsD | skip); simp (maxSteps := 1000000) (disch := (first | omega | assumption | (simp only [List.length_append, List.length_cons, List.length_nil, List.length_set]; omega))) only [go_sem, Sp83, Dr83, qp]))
    refine hK _ c0 c1 c2 u0 u1 u2 ⟨set_eq ql, ⟨setBlk q0 kc0.symm, setBlk q1 yc1.symm, setBlk q2 qc2.symm, setBlk q3 hp3, by omega, by omega, by omega, by omega, by omega, by omega, by omega, by omega, by omega, by omega⟩, zp, by omega, by omega, by omega, hp3⟩ ⟨by simp only [List.length_set]; omega, fun c hc => ?_⟩ ⟨fun hg => ?_, fun hg => ?_⟩
    · rw [set_ne (by omega), ht3.2 c (by simp only [List.length_append, List.length_cons, List.length_nil]; omega) (by omega), app_get (by omega), kE.2 c hc]
    · obtain ⟨h1, h2, h3, h4, h5, h6⟩ := hq hg
      simp only [List.length_set]
      omega
    · obtain ⟨h1, h2, h3, h4, h5, h6⟩ := hq hg
      rw [set_ne (by omega), ht3.2 q (by simp only [List.length_append, List.length_cons, List.length_nil]; omega) (by omega), app_get (by omega), kEq hg]
  · exact h.elim

/- (impl.Mesh).toRefine -/
def Sp130 (lo : Nat) : Spec := fun g args η K => match g with | 77 => SUnb args η K | _ => False
theorem Sp130_ok {lo : Nat} : Sound Tryz.prog lo (Sp130 lo) := by
  intro g args η K h
  unfold Sp130 at h
  split at h
  · exact .inl (f77_ok h)
  · exact h.elim
def Dr130 : Draws := fun id => match id with | 2 => ([0, 1, 3, 7, 15, 7, 63, 127, 255, 7, 519, 7, 2055, 7687, 15879, 32263, 65535, 131071], [], [], (.one 0 (.one 1 (.one 2 (.one 3 (.one 4 (.one 5 (.one 6 (.one 7 (.one 8 (.one 9 (.one 10 (.one 11 (.one 12 (.one 13 (.one 14 (.one 15 (.one 16 (.one 17 .nil))))))))))))))))))) | _ => ([], [], [], .nil)
theorem f130_ok {lo : Nat} {args : List AV} {η : List Blk} {K : AV → List Blk → Prop} (h : SToR args η K) : AF Tryz.prog lo 130 args η K := by
  unfold SToR at h
  split at h
  · obtain ⟨⟨⟨l, hr, hl⟩, hlv⟩, hK⟩ := h
    have d1 := hr.dec3
    have o1 : ok3 69 _ _ := ⟨l, hr, hl⟩
    rw [d1] at hK hlv
    obtain ⟨b, ver, rfl, hb⟩ := hr
    rename_i r
    refine AF_run Sp130_ok Dr130 [] [.tmp 2] hm Tryz.func130 rfl (by decide) Tryz.ntmps130 rfl (by kernel_rfl) (Nat.le_of_ble_eq_true rfl) ?_; intro hlo
    by_cases hu : 0 ≤ unbI l
    · obtain ⟨i, u1, u2, u3⟩ := unb_pos hu
      have b1 := levs_at hlv (i := i) (by omega)
      have b2 := levs_at hlv (i := i + 1) (by omega)
      have e1 : toR l = (coarI l i : Int) := by rw [toR, if_pos hu, u1, Int.toNat_natCast]
      rw [e1] at hK
      unfold coarI lvD at hK
      repeat' (first | with_reducible refine iteI (fun _ => ?_) (fun _ => ?_) | ((first | unfold AOpsC | unfold AOpsD | skip); simp (maxSteps := 1000000) (disch := (first | omega | assumption | (simp only [List.length_append, List.length_cons, List.length_nil, List.length_set]; omega))) only [go_sem, Sp130, SUnb, Dr130, hb, d1, o1, hlv, u1]))
      · rename_i hc
        rw [if_pos hc] at hK
        exact hK
      · rename_i hc
        rw [if_neg hc] at hK
        exact hK
    · have e1 : toR l = unbI l := if_neg hu
      rw [e1] at hK
      repeat' (first | with_reducible refine iteI (fun _ => ?_) (fun _ => ?_) | ((first | unfold AOpsC | unfold AOpsD | skip); simp (maxSteps := 1000000) (disch := (first | omega | assumption | (simp only [List.length_append, List.length_cons, List.length_nil, List.length_set]; omega))) only [go_sem, Sp130, SUnb, Dr130, hb, d1, o1, hlv, hu]))
      exact hK
  · exact h.elim

def invBla (η : List Blk) (n p : Nat) (G : Prop) (q : Nat) (r : Int) (b3 v3 : Nat) (l0 : List Id3) (ms0 ts0 bs : List Int) (st : St) : Prop := ∃ i : Nat, ∃ H : List Blk, ∃ c0 : Nat, ∃ c1 : Nat, ∃ c2 : Nat, ∃ u0 : Nat, ∃ u1 : Nat, ∃ u2 : Nat, ∃ l : List Id3, ∃ ms : List Int, ∃ ts : List Int, (i = 0) ∧ (PtrS n p H r c0 c1 c2 b3 u0 u1 u2 v3 l ms ts bs) ∧ (meshB r l = true ∧ celB r l ms ts bs = true) ∧ (lvlR l0 ms0 ts0 = lvlR l ms ts) ∧ (Keep n η H) ∧ (GQ G q p c0 c1 c2 b3 H ∧ (G → H[q]? = η[q]?)) ∧ st.n = 18 ∧ st.τ 0 = .ptr p 0 0 ∧ st.τ 2 = .int .i64 (toR l) ∧ st.lam = lam0 ∧ st.η = H

/- (*impl.State).balance -/
def Sp91 (lo : Nat) : Spec := fun g args η K => match g with | 83 => SSrf lo args η K | 130 => SToR args η K | _ => False
theorem Sp91_ok {lo : Nat} : Sound Tryz.prog lo (Sp91 lo) := by
  intro g args η K h
  unfold Sp91 at h
  split at h
  · exact .inl (f83_ok h)
  · exact .inl (f130_ok h)
  · exact h.elim
theorem f91_ok {lo : Nat} {args : List AV} {η : List Blk} {K : AV → List Blk → Prop} (h : SBla lo args η K) : AF Tryz.prog lo 91 args η K := by
  unfold SBla at h
  split at h
  · obtain ⟨n, r, b0, b1, b2, b3, v0, v1, v2, v3, l, ms, ts, bs, G, q, ⟨hn, hq⟩, hP, ⟨hM, hC⟩, hK⟩ := h
    rename_i p
    have pp := hP.pb
    have w0 := hP.n4.g0
    have hln := mesh_len hM
    have hlv := mesh_levs hM
    have D1 : dec3 69 η (.sl b0 v0 0 l.length) = l := IsR.dec3 ⟨b0, v0, rfl, w0⟩
    have O1 : ok3 69 η (.sl b0 v0 0 l.length) := ⟨l, ⟨b0, v0, rfl, w0⟩, by omega⟩
    refine AF_run Sp91_ok D0 [] [] hm Tryz.func91 rfl (by decide) Tryz.ntmps91 rfl (by kernel_rfl) (Nat.le_of_ble_eq_true rfl) ?_; intro hlo
    repeat' (first | with_reducible refine iteI (fun _ => ?_) (fun _ => ?_) | ((first | unfold AOpsC | unfold AOpsD | skip); simp (maxSteps := 1000000) (disch := (first | omega | assumption | (simp only [List.length_append, List.length_cons, List.length_nil, List.length_set]; omega))) only [go_sem, Sp91, SToR, pp, D1, O1, hlv]))
    refine ⟨invBla η n p G q r b3 v3 l ms ts bs, muBp p, .inl ⟨0, η, b0, b1, b2, v0, v1, v2, l, ms, ts, rfl, hP, ⟨hM, hC⟩, rfl, ⟨by have := hP.np; have := blt pp; omega, fun _ _ => rfl⟩, ⟨hq, fun _ => rfl⟩, rfl, by simp [upd], by simp [upd], rfl, rfl⟩, ?_⟩
    clear pp w0 hln hlv D1 O1 hP hM hC hq
    rintro ⟨n, τ, lam, η'⟩ ⟨i, H, c0, c1, c2, u0, u1, u2, l, ms, ts, g0, g1, g2, g3, g4, g5, hn, t0, t2, hlam, hη⟩; simp only at hn t0 t2 hlam hη; subst hn hlam hη
    obtain ⟨hM, hC⟩ := g2
    rw [g3] at hK
    have pp := g1.pb
    have w0 := g1.n4.g0
    have hln := mesh_len hM
    have hlv := mesh_levs hM
    obtain ⟨k3, k4, k5, k6, k7, k8⟩ := celT hC
    by_cases hu : 0 ≤ unbI l
    · obtain ⟨i', u1', q1, q2, q3, q4, q5⟩ := lvl_step hM hC hu
      have e1 : toR l = (coarI l i' : Int) := by rw [toR, if_pos hu, u1', Int.toNat_natCast]
      have q6 := split_len q1
      rw [e1] at t2
      repeat' (first | with_reducible refine iteI (fun _ => ?_) (fun _ => ?_) | ((first | unfold AOpsC | unfold AOpsD | skip); simp (maxSteps := 1000000) (disch := (first | omega | assumption | (simp only [List.length_append, List.length_cons, List.length_nil, List.length_set]; omega))) only [go_sem, Sp91, SToR, pp, t0, t2]))
      unfold SSrf
      refine ⟨n, r, _, _, _, b3, _, _, _, v3, l, ms, ts, bs, _, G, q, ⟨hn, rfl, g5.1⟩, g1, ⟨hM, hC, by omega, q1, q2⟩, fun G' d0 d1 d2 y0 y1 y2 hG kG kQ => ?_⟩
      have pp2 := hG.pb
      have w02 := hG.n4.g0
      have hln3 := mesh_len q3
      have hlv3 := mesh_levs q3
      have D1 : dec3 69 G' (.sl d0 y0 0 (splitL l (coarI l i')).length) = splitL l (coarI l i') := IsR.dec3 ⟨d0, y0, rfl, w02⟩
      have O1 : ok3 69 G' (.sl d0 y0 0 (splitL l (coarI l i')).length) := ⟨_, ⟨d0, y0, rfl, w02⟩, by omega⟩
      repeat' (first | with_reducible refine iteI (fun _ => ?_) (fun _ => ?_) | ((first | unfold AOpsC | unfold AOpsD | skip); simp (maxSteps := 1000000) (disch := (first | omega | assumption | (simp only [List.length_append, List.length_cons, List.length_nil, List.length_set]; omega))) only [go_sem, Sp91, SToR, pp2, D1, O1, hlv3, t0, t2]))
      refine ⟨⟨0, G', d0, d1, d2, y0, y1, y2, _, _, _, rfl, hG, ⟨q3, q4⟩, g3.trans q5, g4.trans kG, ⟨kQ.1, fun hg => (kQ.2 hg).trans (g5.2 hg)⟩, rfl, by simp [upd, t0], by simp [upd], rfl, rfl⟩, ?_⟩
      simp only [muBp, pp, pp2]
      omega
    · rw [lvlR_0 (by omega)] at hK
      have e1 : toR l = unbI l := if_neg hu
      rw [e1] at t2
      repeat' (first | with_reducible refine iteI (fun _ => ?_) (fun _ => ?_) | ((first | unfold AOpsC | unfold AOpsD | skip); simp (maxSteps := 1000000) (disch := (first | omega | assumption | (simp only [List.length_append, List.length_cons, List.length_nil, List.length_set]; omega))) only [go_sem, Sp91, SToR, pp, t0, t2]))
      exact hK _ _ _ _ _ _ _ g1 g4 g5
  · exact h.elim

end Go.Proofs.YtaalpmbopkbdiaaGreat
