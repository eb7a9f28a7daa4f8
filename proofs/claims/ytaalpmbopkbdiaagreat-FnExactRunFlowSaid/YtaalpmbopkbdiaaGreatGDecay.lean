/- What functions of the program compute, said in the abstract logic; no conditions. -/
import Derived.Test.YtaalpmbopkbdiaaGreatGOwn

namespace Go.Proofs.YtaalpmbopkbdiaaGreat
open Go
set_option linter.unusedSimpArgs false
set_option linter.unusedVariables false
set_option maxRecDepth 100000
set_option maxHeartbeats 8000000
attribute [local go_sem] st0 AC thenA andC locLoadB KsSW_same KsSW_grow oldLoadB noBlkB KsSL_same KsOS_same KsOS_grow pv ev put upd dstOk cv cvc binI setB Value.oneCell' EndA resA resA1 List.mapM_cons List.mapM_nil Option.pure_def Option.bind_eq_bind noLocV noLoc1 noLoc noLocs plainV cellsA newVarA putCells condA lam0 inBlockA cur lenA rowA writeA dstA appendC appendZ mapPut mapGet avoidsB avoidB clearB Array.toList_append Op.operands Call.operands newSlot Nat.zero_add Nat.add_zero Nat.succ_ne_self Nat.lt_add_one Nat.zero_lt_succ true_and and_true true_or or_true false_or or_false and_self true_implies forall_const Bool.false_eq_true Bool.true_eq_false false_implies implies_true imp_self ne_eq not_false_eq_true not_true_eq_false false_and and_false List.getElem?_toArray List.getElem?_cons_succ List.getElem?_cons_zero Option.bind_some Option.map_some Bool.not_true Bool.not_false List.getD_cons_zero List.getD_cons_succ Option.some.injEq exists_eq_left' AV.bool.injEq List.map_cons List.map_nil List.all_cons List.all_nil Bool.and_self Bool.and_true Bool.true_and List.append_nil List.cons_append List.nil_append List.length_cons List.length_nil List.drop_zero List.take_zero List.drop_succ_cons List.take_succ_cons List.take_nil List.drop_nil List.not_mem_nil List.mem_cons List.contains_nil List.contains_cons Bool.or_self Bool.or_true Bool.true_or Bool.false_or Bool.or_false Bool.and_false Bool.false_and KsS_same KsS_grow skipV KsS_ext KsSW_ext KsOS_ext rep1 rep2 rep3 rep4 rep5 List.flatten_cons List.flatten_nil partsA isPtr fillA List.size_toArray ltT ltF leT leF ltTn ltFn leTn leFn eqTi eqFi wrapId toNat1 intGet boolGet memD app_get app_last app_lst app_set app_setL app_setF set_ne set_eq gt_iff_lt ge_iff_le decide_eq_true_eq len2 len3 get20 get21 drop2 put2 get30 get31 get32 drop3 put3 putI pairEta bneTi bneFi beqTi beqFi bne_eq_false_iff_eq beq_eq_false_iff_ne beq_iff_eq bne_iff_ne Int.toNat_natCast Nat.mul_one List.length_map Bool.not_eq_true Bool.not_eq_false Bool.decide_eq_true decide_true decide_false Bool.not_eq_true' Bool.not_eq_false' decide_eq_false_iff_not eq_self Decidable.not_not
attribute [local go_sem ↓] skipC exitC retC seqC blockC condC regC drawC drawStep AOpC AOpF AOpE AEff contE_at contC_at keepC_at keepW_at keepO_at keepL_at map_parts
attribute [local go_sem] reduceCtorEq Nat.reduceLT Nat.reduceEqDiff Nat.reduceAdd Nat.reduceMul Nat.reduceLeDiff Nat.reduceSub Nat.reduceBEq Nat.reduceBNe Nat.reduceBneDiff Nat.reduceBeqDiff
attribute [local go_sem ↓] reduceIte
attribute [local go_sem] ag_25 ag_3 ag_34 ag_51 by_25 by_3 by_34 by_51 el_25 en_3 fi_34_2 fi_51_3 in_3 nf_34 nf_51 pl_34 pl_51 ps_34 ps_51 sz_25 sz_3 sz_34 sz_51 ze_25 ze_3 ze_34 ze_51

def goneF (ts : List Int) (y : Int) (i : Nat) : Int := (ts.getD i 0 * y).tdiv 1000
def decF (ts : List Int) (y : Int) (i : Nat) : Int := ts.getD i 0 - goneF ts y i
theorem gone_bd {ts : List Int} {y : Int} {i : Nat} (ht : 0 ≤ ts.getD i 0 ∧ ts.getD i 0 ≤ 10000000000) (hy : 0 ≤ y ∧ y ≤ 1000) : 0 ≤ ts.getD i 0 * y ∧ ts.getD i 0 * y ≤ 10000000000000 ∧ 0 ≤ goneF ts y i ∧ goneF ts y i ≤ 10000000000000 := by
  have h1 : 0 ≤ ts.getD i 0 * y := Int.mul_nonneg ht.1 hy.1
  have h2 : ts.getD i 0 * y ≤ ts.getD i 0 * 1000 := Int.mul_le_mul_of_nonneg_left hy.2 ht.1
  have h3 : 0 ≤ (ts.getD i 0 * y).tdiv 1000 := Int.tdiv_nonneg h1 (by omega)
  have h4 : (ts.getD i 0 * y).tdiv 1000 ≤ ts.getD i 0 * y := Int.tdiv_le_self _ h1
  unfold goneF
  omega
def SRate : List AV → List Blk → (AV → List Blk → Prop) → Prop
  | [.int .i64 y], η, K => K (.bool (inB y 0 1000)) η
  | _, _, _ => False
def SDecP (lo : Nat) : List AV → List Blk → (AV → List Blk → Prop) → Prop
  | [.ptr p 0 0, .int .i64 y], η, K => ∃ (n : Nat) (r : Int) (b0 b1 b2 b3 v0 v1 v2 v3 : Nat) (l : List Id3) (ms ts bs : List Int), lo ≤ n ∧ PtrS n p η r b0 b1 b2 b3 v0 v1 v2 v3 l ms ts bs ∧ okB r l ms ts bs = true ∧ (0 ≤ y ∧ y ≤ 1000) ∧
      ∀ H, PtrS n p H r b0 b1 b2 b3 v0 v1 v2 v3 l ms ((List.range ts.length).map (decF ts y)) bs → Touch (hit5 p b0 b1 b2 b3) η H → K (.agg [.int .i64 0, .int .i64 0, .int .i64 0, .int .i64 (sumN (goneF ts y) ts.length)]) H
  | _, _, _ => False

/- impl.isRate -/
def Sp101 (lo : Nat) : Spec := fun g args η K => match g with | 59 => SIn args η K | _ => False
theorem Sp101_ok {lo : Nat} : Sound Tryz.prog lo (Sp101 lo) := by
  intro g args η K h
  unfold Sp101 at h
  split at h
  · exact .inl (f59_ok h)
  · exact h.elim
theorem f101_ok {lo : Nat} {args : List AV} {η : List Blk} {K : AV → List Blk → Prop} (h : SRate args η K) : AF Tryz.prog lo 101 args η K := by
  unfold SRate at h
  split at h
  · refine AF_run Sp101_ok D0 [] [.tmp 2] hm Tryz.func101 rfl (by decide) Tryz.ntmps101 rfl (by kernel_rfl) (Nat.le_of_ble_eq_true rfl) ?_; intro hlo
    repeat' (first | with_reducible refine iteI (fun _ => ?_) (fun _ => ?_) | ((first | unfold AOpsC | unfold AOpsD | skip); simp (maxSteps := 1000000) (disch := (first | omega | assumption | (simp only [List.length_append, List.length_cons, List.length_nil, List.length_set]; omega))) only [go_sem, Sp101, SIn]))
    exact h
  · exact h.elim

def invDec (η : List Blk) (p : Nat) (y : Int) (b2 v2 : Nat) (ts : List Int) (st : St) : Prop := ∃ i : Nat, (i ≤ ts.length) ∧ st.n = 41 ∧ st.τ 0 = .ptr p 0 0 ∧ st.τ 1 = .int .i64 y ∧ st.τ 4 = .loc 4 1 0 ∧ st.τ 5 = .loc 5 1 0 ∧ st.τ 13 = .sl b2 v2 0 ts.length ∧ st.τ 14 = .int .i64 ts.length ∧ st.τ 15 = .int .i64 i ∧ st.lam 4 = ⟨1, [.int .i64 0, .int .i64 0, .int .i64 0, .int .i64 0]⟩ ∧ st.lam 5 = ⟨1, [.int .i64 0, .int .i64 0, .int .i64 0, .int .i64 (sumN (goneF ts y) i)]⟩ ∧ st.η = η.set b2 ⟨v2, 3, 1, (mixed (decF ts y) ts i).map (.int .i64)⟩

/- (*impl.State).decay -/
theorem f105_ok {lo : Nat} {args : List AV} {η : List Blk} {K : AV → List Blk → Prop} (h : SDecP lo args η K) : AF Tryz.prog lo 105 args η K := by
  unfold SDecP at h
  split at h
  · obtain ⟨n, r, b0, b1, b2, b3, v0, v1, v2, v3, l, ms, ts, bs, hn, hP, e1, hy, hK⟩ := h
    rename_i p y
    obtain ⟨k1, k2, k3, k4, k5, k6, k7, k8⟩ := okT e1
    have hl8 : l.length ≤ 128 := by have := mesh_len k1; omega
    have hp := hP.pb
    have hg2 := hP.n4.g2
    have hp2 := hP.p2
    have hlb2 : lo ≤ b2 := Nat.le_trans hn hP.n4.n2
    have hb2l := blt hg2
    have hpl := blt hp
    have gb : ∀ i, i < ts.length → 0 ≤ goneF ts y i ∧ goneF ts y i ≤ 10000000000000 := fun i hi => by
      have := cells_at k7 (i := i) (by omega)
      exact (gone_bd (by omega) hy).2.2
    refine AF_run noSp_ok D0 [] [.cell 4 51] hm Tryz.func105 rfl (by decide) Tryz.ntmps105 rfl (by kernel_rfl) (Nat.le_of_ble_eq_true rfl) ?_; intro hlo
    repeat' (first | with_reducible refine iteI (fun _ => ?_) (fun _ => ?_) | ((first | unfold AOpsC | unfold AOpsD | skip); simp (maxSteps := 1000000) (disch := (first | omega | assumption | (simp only [List.length_append, List.length_cons, List.length_nil, List.length_set]; omega))) only [go_sem, AOpsD, hp, hg2]))
    refine ⟨invDec η p y b2 v2 ts, fun st => ctr ts.length st 15, .inl ⟨0, Nat.zero_le _, rfl, by simp [upd], by simp [upd], by simp [upd], by simp [upd], by simp [upd], by simp [upd], by simp [upd], by simp [upd], by simp [upd, sumN], by rw [mixed_0]; exact (set_same hg2).symm⟩, ?_⟩
    rintro ⟨n, τ, lam, η'⟩ ⟨i, g0, hn, t0, t1, t4, t5, t13, t14, t15, l4, l5, hη⟩; simp only at hn t0 t1 t4 t5 t13 t14 t15 l4 l5 hη; subst hn hη
    have hml := mixed_len (decF ts y) ts g0
    have hsl : b2 < (η.set b2 ⟨v2, 3, 1, (mixed (decF ts y) ts i).map (.int .i64)⟩).length := by simpa using hb2l
    have sb := sumN_bd gb i g0
    by_cases hlt : i < ts.length
    · have m1 := cells_at k7 (i := i) (by omega)
      have gi := gone_bd (ts := ts) (y := y) (i := i) (by omega) hy
      have hms : (mixed (decF ts y) ts i).set i (decF ts y i) = mixed (decF ts y) ts (i + 1) := mixed_set (decF ts y) ts hlt
      have hmg := mixed_get (decF ts y) ts 0 hlt
      have hgd : (ts.getD i 0 * y).tdiv 1000 = goneF ts y i := rfl
      have hdd : ts.getD i 0 - goneF ts y i = decF ts y i := rfl
      have hss : sumN (goneF ts y) i + goneF ts y i = sumN (goneF ts y) (i + 1) := rfl
      have hdb : 0 ≤ 1 ∧ -10000000000000 ≤ ts.getD i 0 - goneF ts y i ∧ ts.getD i 0 - goneF ts y i ≤ 10000000000 := by omega
      repeat' (first | with_reducible refine iteI (fun _ => ?_) (fun _ => ?_) | ((first | unfold AOpsC | unfold AOpsD | skip); simp (maxSteps := 1000000) (disch := (first | omega | assumption | (simp only [List.length_append, List.length_cons, List.length_nil, List.length_set]; omega))) only [go_sem, AOpsD, hp, hg2, t0, t1, t4, t5, t13, t14, t15, l4, l5, List.set_set, List.length_set, hml, hmg, hgd, setGet]))
      refine ⟨⟨i + 1, hlt, rfl, by simp [upd, t0, t1, t4, t5, t13, t14, t15], by simp [upd, t0, t1, t4, t5, t13, t14, t15], by simp [upd, t0, t1, t4, t5, t13, t14, t15], by simp [upd, t0, t1, t4, t5, t13, t14, t15], by simp [upd, t0, t1, t4, t5, t13, t14, t15], by simp [upd, t0, t1, t4, t5, t13, t14, t15], by simp [upd, t0, t1, t4, t5, t13, t14, t15], by simp [upd, l4], by simp [upd, l5, hss], ?_⟩, by simp [ctr, upd, t15]; omega⟩
      try dsimp only
      rw [hdd, hms]
    · obtain rfl : i = ts.length := by omega
      repeat' (first | with_reducible refine iteI (fun _ => ?_) (fun _ => ?_) | ((first | unfold AOpsC | unfold AOpsD | skip); simp (maxSteps := 1000000) (disch := (first | omega | assumption | (simp only [List.length_append, List.length_cons, List.length_nil, List.length_set]; omega))) only [go_sem, AOpsD, hp, hg2, t0, t1, t4, t5, t13, t14, t15, l4, l5, List.set_set]))
      rw [mixed_end]
      exact hK _ (hP.put2 (by simp)) (Touch.set (.inr (.inr (.inr (.inl rfl)))))
  · exact h.elim

def SDecQ : List AV → List Blk → (AV → List Blk → Prop) → Prop
  | [.agg [.int .i64 r, v, a, b, c], .int .i64 y], η, K => ((ok3 69 η v ∧ okI η a ∧ okI η b ∧ okI η c) ∧ okB r (dec3 69 η v) (decI η a) (decI η b) (decI η c) = true ∧ 0 ≤ y ∧ y ≤ 1000) ∧ ∀ H b0 b1 b2 b3 v0 v1 v2 v3, New4 η.length H b0 b1 b2 b3 v0 v1 v2 v3 (dec3 69 η v) (decI η a) ((List.range (decI η b).length).map (decF (decI η b) y)) (decI η c) → Ext η H →
      K (.tup [.agg [.int .i64 r, .sl b0 v0 0 (dec3 69 η v).length, .sl b1 v1 0 (decI η a).length, .sl b2 v2 0 (decI η b).length, .sl b3 v3 0 (decI η c).length], .agg [.int .i64 0, .int .i64 0, .int .i64 0, .int .i64 (sumN (goneF (decI η b) y) (decI η b).length)]]) H
  | _, _, _ => False

def invDeQ (H : List Blk) (r : Int) (v a b c : AV) (y : Int) (q0 q1 q2 q3 : Nat) (l : List Id3) (ms ts bs : List Int) (st : St) : Prop := ∃ i : Nat, (i ≤ ts.length) ∧ st.n = 46 ∧ st.τ 1 = .int .i64 y ∧ st.τ 2 = .loc 2 1 0 ∧ st.τ 4 = .loc 4 1 0 ∧ st.τ 5 = .loc 5 1 0 ∧ st.τ 6 = .loc 6 1 0 ∧ st.τ 7 = .loc 7 1 0 ∧ st.τ 8 = .int .i64 i ∧ st.lam 2 = ⟨1, [.int .i64 r, v, a, b, c]⟩ ∧ st.lam 4 = ⟨1, [.int .i64 0, .nils, .nils, .nils, .nils]⟩ ∧ st.lam 5 = ⟨1, [.int .i64 0, .int .i64 0, .int .i64 0, .int .i64 0]⟩ ∧ st.lam 6 = ⟨1, [.int .i64 r, .sl q0 0 0 l.length, .sl q1 0 0 ms.length, .sl q2 0 0 ts.length, .sl q3 0 0 bs.length]⟩ ∧ st.lam 7 = ⟨1, [.int .i64 0, .int .i64 0, .int .i64 0, .int .i64 (sumN (goneF ts y) i)]⟩ ∧ st.η = H.set q2 ⟨0, 3, 1, (mixed (decF ts y) ts i).map (.int .i64)⟩

/- spec.l15Decay -/
def Sp97 (lo : Nat) : Spec := fun g args η K => match g with | 30 => SCopyS args η K | _ => False
theorem Sp97_ok {lo : Nat} : Sound Tryz.prog lo (Sp97 lo) := by
  intro g args η K h
  unfold Sp97 at h
  split at h
  · exact .inl (f30_ok h)
  · exact h.elim
def Dr97 : Draws := fun id => match id with | 7 => ([0, 1, 0, 0, 8, 0, 56, 120, 0, 504, 1023, 2047], [], [], (.one 0 (.one 1 (.one 2 (.one 3 (.one 4 (.one 5 (.one 6 (.one 7 (.one 8 (.one 9 (.one 10 (.one 11 .nil))))))))))))) | 9 => ([0, 0, 1, 7], [], [], (.one 0 (.two 1 2 (.one 2 (.one 3 .nil)) (.one 1 (.one 3 .nil))))) | _ => ([], [], [], .nil)
theorem f97_ok {lo : Nat} {args : List AV} {η : List Blk} {K : AV → List Blk → Prop} (h : SDecQ args η K) : AF Tryz.prog lo 97 args η K := by
  unfold SDecQ at h
  split at h
  · obtain ⟨⟨⟨⟨l, hr, hl⟩, ⟨ms, ha, hla⟩, ⟨ts, hb, hlb⟩, ⟨bs, hc, hlc⟩⟩, e1, hy⟩, hK⟩ := h
    rename_i r _ _ _ _ y
    rw [hr.dec3, ha.dec, hb.dec, hc.dec] at e1
    have d1 := hr.dec3
    have d2 := ha.dec
    have d3 := hb.dec
    have d4 := hc.dec
    have o1 : ok3 69 _ _ := ⟨l, hr, hl⟩
    have o2 : okI _ _ := ⟨ms, ha, hla⟩
    have o3 : okI _ _ := ⟨ts, hb, hlb⟩
    have o4 : okI _ _ := ⟨bs, hc, hlc⟩
    simp only [d1, d2, d3, d4] at hK
    have hr' := hr
    have ha' := ha
    have hb' := hb
    have hc' := hc
    obtain ⟨b0, v0, rfl, hb0⟩ := hr'
    obtain ⟨b1, v1, rfl, hb1⟩ := ha'
    obtain ⟨b2, v2, rfl, hb2⟩ := hb'
    obtain ⟨b3, v3, rfl, hb3⟩ := hc'
    obtain ⟨k1, k2, k3, k4, k5, k6, k7, k8⟩ := okT e1
    have hl8 : l.length ≤ 128 := by have := mesh_len k1; omega
    have gb : ∀ i, i < ts.length → 0 ≤ goneF ts y i ∧ goneF ts y i ≤ 10000000000000 := fun i hi => by
      have := cells_at k7 (i := i) (by omega)
      exact (gone_bd (by omega) hy).2.2
    refine AF_run Sp97_ok Dr97 [] [.cell 4 34, .cell 5 51] hm Tryz.func97 rfl (by decide) Tryz.ntmps97 rfl (by kernel_rfl) (Nat.le_of_ble_eq_true rfl) ?_; intro hlo
    repeat' (first | with_reducible refine iteI (fun _ => ?_) (fun _ => ?_) | ((first | unfold AOpsC | unfold AOpsD | skip); simp (maxSteps := 1000000) (disch := (first | omega | assumption | (simp only [List.length_append, List.length_cons, List.length_nil, List.length_set]; omega))) only [go_sem, Sp97, Dr97, hb0, hb1, hb2, hb3, d1, d2, d3, d4, o1, o2, o3, o4]))
    refine copyN ⟨l, ms, ts, bs, ⟨hr, ha, hb, hc⟩, ⟨hl, hla, hlb, hlc⟩, fun H q0 q1 q2 q3 hN x => ?_⟩
    have w0 := x.blk hb0
    have w1 := x.blk hb1
    have w2 := x.blk hb2
    have w3 := x.blk hb3
    have D1 : dec3 69 H (.sl b0 v0 0 l.length) = l := IsR.dec3 ⟨b0, v0, rfl, w0⟩
    have D2 : decI H (.sl b1 v1 0 ms.length) = ms := IsI.dec ⟨b1, v1, rfl, w1⟩
    have D3 : decI H (.sl b2 v2 0 ts.length) = ts := IsI.dec ⟨b2, v2, rfl, w2⟩
    have D4 : decI H (.sl b3 v3 0 bs.length) = bs := IsI.dec ⟨b3, v3, rfl, w3⟩
    have O1 : ok3 69 H (.sl b0 v0 0 l.length) := ⟨l, ⟨b0, v0, rfl, w0⟩, hl⟩
    have O2 : okI H (.sl b1 v1 0 ms.length) := ⟨ms, ⟨b1, v1, rfl, w1⟩, hla⟩
    have O3 : okI H (.sl b2 v2 0 ts.length) := ⟨ts, ⟨b2, v2, rfl, w2⟩, hlb⟩
    have O4 : okI H (.sl b3 v3 0 bs.length) := ⟨bs, ⟨b3, v3, rfl, w3⟩, hlc⟩
    have hg2 := hN.g2
    have hq2 := hN.n2
    have hb2l := blt hg2
    have hbt := blt hb2
    have hbq : q2 ≠ b2 := by omega
    repeat' (first | with_reducible refine iteI (fun _ => ?_) (fun _ => ?_) | ((first | unfold AOpsC | unfold AOpsD | skip); simp (maxSteps := 1000000) (disch := (first | omega | assumption | (simp only [List.length_append, List.length_cons, List.length_nil, List.length_set]; omega))) only [go_sem, Sp97, Dr97, w0, w1, w2, w3, D1, D2, D3, D4, O1, O2, O3, O4, hg2]))
    refine ⟨invDeQ H r (.sl b0 v0 0 l.length) (.sl b1 v1 0 ms.length) (.sl b2 v2 0 ts.length) (.sl b3 v3 0 bs.length) y q0 q1 q2 q3 l ms ts bs, fun st => ctr ts.length st 8, .inl ⟨0, Nat.zero_le _, rfl, by simp [upd], by simp [upd], by simp [upd], by simp [upd], by simp [upd], by simp [upd], by simp [upd], by simp [upd], by simp [upd], by simp [upd], by simp [upd], by simp [upd, sumN], by rw [mixed_0]; exact (set_same hg2).symm⟩, ?_⟩
    rintro ⟨n, τ, lam, η'⟩ ⟨i, g0, hn, t1, t2, t4, t5, t6, t7, t8, l2, l4, l5, l6, l7, hη⟩; simp only at hn t1 t2 t4 t5 t6 t7 t8 l2 l4 l5 l6 l7 hη; subst hn hη
    have hml := mixed_len (decF ts y) ts g0
    have hsl : q2 < (H.set q2 ⟨0, 3, 1, (mixed (decF ts y) ts i).map (.int .i64)⟩).length := by simpa using hb2l
    have sb := sumN_bd gb i g0
    by_cases hlt : i < ts.length
    · have m1 := cells_at k7 (i := i) (by omega)
      have gi := gone_bd (ts := ts) (y := y) (i := i) (by omega) hy
      have hms : (mixed (decF ts y) ts i).set i (decF ts y i) = mixed (decF ts y) ts (i + 1) := mixed_set (decF ts y) ts hlt
      have hmg := mixed_get (decF ts y) ts 0 hlt
      have hgd : (ts.getD i 0 * y).tdiv 1000 = goneF ts y i := rfl
      have hdd : ts.getD i 0 - goneF ts y i = decF ts y i := rfl
      have hss : sumN (goneF ts y) i + goneF ts y i = sumN (goneF ts y) (i + 1) := rfl
      have hdb : 0 ≤ 1 ∧ -10000000000000 ≤ ts.getD i 0 - goneF ts y i ∧ ts.getD i 0 - goneF ts y i ≤ 10000000000 := by omega
      repeat' (first | with_reducible refine iteI (fun _ => ?_) (fun _ => ?_) | ((first | unfold AOpsC | unfold AOpsD | skip); simp (maxSteps := 1000000) (disch := (first | omega | assumption | (simp only [List.length_append, List.length_cons, List.length_nil, List.length_set]; omega))) only [go_sem, Sp97, Dr97, w0, w1, w2, w3, D1, D2, D3, D4, O1, O2, O3, O4, hg2, t1, t2, t4, t5, t6, t7, t8, l2, l4, l5, l6, l7, List.set_set, List.length_set, hml, hmg, hgd, setGet]))
      refine ⟨⟨i + 1, hlt, rfl, by simp [upd, t1, t2, t4, t5, t6, t7, t8], by simp [upd, t1, t2, t4, t5, t6, t7, t8], by simp [upd, t1, t2, t4, t5, t6, t7, t8], by simp [upd, t1, t2, t4, t5, t6, t7, t8], by simp [upd, t1, t2, t4, t5, t6, t7, t8], by simp [upd, t1, t2, t4, t5, t6, t7, t8], by simp [upd, t1, t2, t4, t5, t6, t7, t8], by simp [upd, l2], by simp [upd, l4], by simp [upd, l5], by simp [upd, l6], by simp [upd, l7, hss], ?_⟩, by simp [ctr, upd, t8]; omega⟩
      try dsimp only
      rw [hdd, hms]
    · obtain rfl : i = ts.length := by omega
      repeat' (first | with_reducible refine iteI (fun _ => ?_) (fun _ => ?_) | ((first | unfold AOpsC | unfold AOpsD | skip); simp (maxSteps := 1000000) (disch := (first | omega | assumption | (simp only [List.length_append, List.length_cons, List.length_nil, List.length_set]; omega))) only [go_sem, Sp97, Dr97, w0, w1, w2, w3, D1, D2, D3, D4, O1, O2, O3, O4, hg2, t1, t2, t4, t5, t6, t7, t8, l2, l4, l5, l6, l7, List.set_set]))
      rw [mixed_end]
      exact hK _ _ _ _ _ _ _ _ _ (hN.put2 _) (x.after (Touch.set (S := fun c => c = q2) rfl) (fun c hc => by rw [hc]; exact hq2))
  · exact h.elim

end Go.Proofs.YtaalpmbopkbdiaaGreat
