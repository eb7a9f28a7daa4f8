/- What functions of the program compute, said in the abstract logic; no conditions. -/
import Derived.Test.YtaalpmbopkbdiaaGreatGMergeW
import Derived.Test.YtaalpmbopkbdiaaGreatGAdP

namespace Go.Proofs.YtaalpmbopkbdiaaGreat
open Go
set_option linter.unusedSimpArgs false
set_option linter.unusedVariables false
set_option maxRecDepth 100000
set_option maxHeartbeats 8000000
attribute [local go_sem] st0 AC thenA andC locLoadB KsSW_same KsSW_grow oldLoadB noBlkB KsSL_same KsOS_same KsOS_grow pv ev put upd dstOk cv cvc binI setB Value.oneCell' EndA resA resA1 List.mapM_cons List.mapM_nil Option.pure_def Option.bind_eq_bind noLocV noLoc1 noLoc noLocs plainV cellsA newVarA putCells condA lam0 inBlockA cur lenA rowA writeA dstA appendC appendZ mapPut mapGet avoidsB avoidB clearB Array.toList_append Op.operands Call.operands newSlot Nat.zero_add Nat.add_zero Nat.succ_ne_self Nat.lt_add_one Nat.zero_lt_succ true_and and_true true_or or_true false_or or_false and_self true_implies forall_const Bool.false_eq_true Bool.true_eq_false false_implies implies_true imp_self ne_eq not_false_eq_true not_true_eq_false false_and and_false List.getElem?_toArray List.getElem?_cons_succ List.getElem?_cons_zero Option.bind_some Option.map_some Bool.not_true Bool.not_false List.getD_cons_zero List.getD_cons_succ Option.some.injEq exists_eq_left' AV.bool.injEq List.map_cons List.map_nil List.all_cons List.all_nil Bool.and_self Bool.and_true Bool.true_and List.append_nil List.cons_append List.nil_append List.length_cons List.length_nil List.drop_zero List.take_zero List.drop_succ_cons List.take_succ_cons List.take_nil List.drop_nil List.not_mem_nil List.mem_cons List.contains_nil List.contains_cons Bool.or_self Bool.or_true Bool.true_or Bool.false_or Bool.or_false Bool.and_false Bool.false_and KsS_same KsS_grow skipV KsS_ext KsSW_ext KsOS_ext rep1 rep2 rep3 rep4 rep5 List.flatten_cons List.flatten_nil partsA isPtr fillA List.size_toArray ltT ltF leT leF ltTn ltFn leTn leFn eqTi eqFi wrapId toNat1 intGet boolGet memD app_get app_last app_lst app_set app_setL app_setF set_ne set_eq gt_iff_lt ge_iff_le decide_eq_true_eq len2 len3 get20 get21 drop2 put2 get30 get31 get32 drop3 put3 putI pairEta bneTi bneFi beqTi beqFi bne_eq_false_iff_eq beq_eq_false_iff_ne beq_iff_eq bne_iff_ne Int.toNat_natCast Nat.mul_one List.length_map Bool.not_eq_true Bool.not_eq_false Bool.decide_eq_true decide_true decide_false Bool.not_eq_true' Bool.not_eq_false' decide_eq_false_iff_not eq_self Decidable.not_not
attribute [local go_sem ↓] skipC exitC retC seqC blockC condC regC drawC drawStep AOpC AOpF AOpE AEff contE_at contC_at keepC_at keepW_at keepO_at keepL_at map_parts
attribute [local go_sem] reduceCtorEq Nat.reduceLT Nat.reduceEqDiff Nat.reduceAdd Nat.reduceMul Nat.reduceLeDiff Nat.reduceSub Nat.reduceBEq Nat.reduceBNe Nat.reduceBneDiff Nat.reduceBeqDiff
attribute [local go_sem ↓] reduceIte
attribute [local go_sem] ag_25 ag_3 ag_30 ag_32 ag_34 ag_69 by_25 by_3 by_30 by_32 by_34 by_69 el_25 el_30 en_3 fi_32_1 fi_34_0 fi_34_1 in_3 mb_105 nf_32 nf_34 nf_69 pl_32 pl_34 pl_69 ps_32 ps_34 ps_69 sz_25 sz_3 sz_30 sz_32 sz_34 sz_69 ze_25 ze_3 ze_30 ze_32 ze_34 ze_69

def SAdS : List AV → List Blk → (AV → List Blk → Prop) → Prop
  | [.agg [.int .i64 r, v, a, b, c], .int .i64 hi, .int .i64 lw], η, K => ∃ (l : List Id3) (ms ts bs : List Int), ((IsR 69 3 enc3 η v l ∧ IsI η a ms ∧ IsI η b ts ∧ IsI η c bs) ∧ okB r l ms ts bs = true) ∧
      ∀ H b0 b1 b2 b3 v0 v1 v2 v3, New4 η.length H b0 b1 b2 b3 v0 v1 v2 v3 (adR l ms ts bs hi lw).1 (adR l ms ts bs hi lw).2.1 (adR l ms ts bs hi lw).2.2 bs → Ext η H → K (.agg [.int .i64 r, .sl b0 v0 0 (adR l ms ts bs hi lw).1.length, .sl b1 v1 0 (adR l ms ts bs hi lw).2.1.length, .sl b2 v2 0 (adR l ms ts bs hi lw).2.2.length, .sl b3 v3 0 bs.length]) H
  | _, _, _ => False
def SAda (lo : Nat) : List AV → List Blk → (AV → List Blk → Prop) → Prop
  | [.ptr p 0 0, .int .i64 hi, .int .i64 lw], η, K => ∃ (n : Nat) (r : Int) (b0 b1 b2 b3 v0 v1 v2 v3 : Nat) (l : List Id3) (ms ts bs : List Int), lo ≤ n ∧ PtrS n p η r b0 b1 b2 b3 v0 v1 v2 v3 l ms ts bs ∧ okB r l ms ts bs = true ∧
      ∀ H c0 c1 c2 u0 u1 u2, PtrS n p H r c0 c1 c2 b3 u0 u1 u2 v3 (adR l ms ts bs hi lw).1 (adR l ms ts bs hi lw).2.1 (adR l ms ts bs hi lw).2.2 bs → Keep n η H → K (.tup []) H
  | _, _, _ => False
def muD (k : Nat) (st : St) : Nat := match st.τ k with | .int _ i => (i + 1).toNat | _ => 0
def muA (s k : Nat) (st : St) : Nat := match (st.lam s).cells with | _ :: .sl _ _ _ n :: _ => (match st.τ k with | .int _ i => n - i.toNat | _ => 0) | _ => 0
def muAp (p k : Nat) (st : St) : Nat := match st.η[p]? with | some ⟨_, _, _, _ :: .sl _ _ _ n :: _⟩ => (match st.τ k with | .int _ i => n - i.toNat | _ => 0) | _ => 0
theorem okC {r : Int} {l : List Id3} {ms ts bs : List Int} (h : okB r l ms ts bs = true) : celB r l ms ts bs = true := by
  simp only [okB, Bool.and_eq_true] at h; exact h.2

def invAS1 (η : List Blk) (r : Int) (v a b c : AV) (l0 : List Id3) (ms0 ts0 bs ws : List Int) (q w : Nat) (st : St) : Prop := ∃ i : Nat, ∃ H : List Blk, ∃ p0 : Nat, ∃ p1 : Nat, ∃ p2 : Nat, ∃ p3 : Nat, ∃ u0 : Nat, ∃ u1 : Nat, ∃ u2 : Nat, ∃ u3 : Nat, (i ≤ l0.length) ∧ (Ext η H) ∧ (New4 η.length H p0 p1 p2 p3 u0 u1 u2 u3 (rfF ws l0 ms0 ts0 i).1 (rfF ws l0 ms0 ts0 i).2.1 (rfF ws l0 ms0 ts0 i).2.2 bs) ∧ (H[q]? = some ⟨w, 3, 1, ws.map (.int .i64)⟩) ∧ st.n = 93 ∧ st.τ 3 = .loc 3 1 0 ∧ st.τ 6 = .loc 6 1 0 ∧ st.τ 7 = .sl q w 0 ws.length ∧ st.τ 8 = .loc 8 1 0 ∧ st.τ 9 = .int .i64 ((l0.length : Int) - 1 - i) ∧ st.lam 3 = ⟨1, [.int .i64 r, v, a, b, c]⟩ ∧ st.lam 6 = ⟨1, [.int .i64 0, .nils, .nils, .nils, .nils]⟩ ∧ st.lam 8 = ⟨1, [.int .i64 r, .sl p0 u0 0 (rfF ws l0 ms0 ts0 i).1.length, .sl p1 u1 0 (rfF ws l0 ms0 ts0 i).2.1.length, .sl p2 u2 0 (rfF ws l0 ms0 ts0 i).2.2.length, .sl p3 u3 0 bs.length]⟩ ∧ st.η = H

def invAS2 (η : List Blk) (r : Int) (v a b c : AV) (l0 : List Id3) (bs ws : List Int) (q w : Nat) (R : List Id3 × List Int × List Int) (st : St) : Prop := ∃ i : Nat, ∃ H : List Blk, ∃ p0 : Nat, ∃ p1 : Nat, ∃ p2 : Nat, ∃ p3 : Nat, ∃ u0 : Nat, ∃ u1 : Nat, ∃ u2 : Nat, ∃ u3 : Nat, ∃ l1 : List Id3, ∃ ms1 : List Int, ∃ ts1 : List Int, (Ext η H) ∧ (New4 η.length H p0 p1 p2 p3 u0 u1 u2 u3 l1 ms1 ts1 bs) ∧ (H[q]? = some ⟨w, 3, 1, ws.map (.int .i64)⟩) ∧ (okB r l1 ms1 ts1 bs = true) ∧ (R = mgR (coA ws l0) i l1 ms1 ts1) ∧ (i ≤ l1.length) ∧ st.n = 93 ∧ st.τ 3 = .loc 3 1 0 ∧ st.τ 6 = .loc 6 1 0 ∧ st.τ 7 = .sl q w 0 ws.length ∧ st.τ 8 = .loc 8 1 0 ∧ st.τ 10 = .int .i64 i ∧ st.lam 3 = ⟨1, [.int .i64 r, v, a, b, c]⟩ ∧ st.lam 6 = ⟨1, [.int .i64 0, .nils, .nils, .nils, .nils]⟩ ∧ st.lam 8 = ⟨1, [.int .i64 r, .sl p0 u0 0 l1.length, .sl p1 u1 0 ms1.length, .sl p2 u2 0 ts1.length, .sl p3 u3 0 bs.length]⟩ ∧ st.η = H

/- spec.l17Adapt -/
def Sp52 (lo : Nat) : Spec := fun g args η K => match g with | 30 => SCopyS args η K | 33 => SSpl args η K | 34 => SMgS args η K | 68 => SLeafOf args η K | 87 => SWishS args η K | 88 => SLvl args η K | 89 => SMay args η K | _ => False
theorem Sp52_ok {lo : Nat} : Sound Tryz.prog lo (Sp52 lo) := by
  intro g args η K h
  unfold Sp52 at h
  split at h
  · exact .inl (f30_ok h)
  · exact .inl (f33_ok h)
  · exact .inl (f34_ok h)
  · exact .inl (f68_ok h)
  · exact .inl (f87_ok h)
  · exact .inl (f88_ok h)
  · exact .inl (f89_ok h)
  · exact h.elim
def Dr52 : Draws := fun id => match id with | 12 => ([0, 1, 0, 4, 12, 0, 60, 124, 255, 511], [], [], (.one 0 (.one 1 (.one 2 (.one 3 (.one 4 (.one 5 (.one 6 (.one 7 (.one 8 (.one 9 .nil))))))))))) | 13 => ([0, 1, 0, 4, 12, 0, 32, 124, 252, 511, 1023], [], [], (.one 0 (.one 1 (.one 2 (.one 3 (.one 4 (.one 5 (.one 6 (.one 7 (.one 8 (.one 9 (.one 10 .nil)))))))))))) | _ => ([], [], [], .nil)
theorem f52_ok {lo : Nat} {args : List AV} {η : List Blk} {K : AV → List Blk → Prop} (h : SAdS args η K) : AF Tryz.prog lo 52 args η K := by
  unfold SAdS at h
  split at h
  · obtain ⟨l, ms, ts, bs, ⟨⟨hr, ha, hb, hc⟩, e1⟩, hK⟩ := h
    rename_i r _ _ _ _ hi lw
    obtain ⟨b0, v0, rfl, hb0⟩ := hr
    obtain ⟨b1, v1, rfl, hb1⟩ := ha
    obtain ⟨b2, v2, rfl, hb2⟩ := hb
    obtain ⟨b3, v3, rfl, hb3⟩ := hc
    obtain ⟨k1, k2, k3, k4, k5, k6, k7, k8⟩ := okT e1
    have hC := okC e1
    have hln := mesh_len k1
    have hne := mesh_ne k1
    have hl : l.length ≤ 1048576 := by omega
    have hla : ms.length ≤ 1048576 := by omega
    have hlb : ts.length ≤ 1048576 := by omega
    have hlc : bs.length ≤ 1048576 := by omega
    have w0 := (Ext.refl η).blk hb0
    have w1 := (Ext.refl η).blk hb1
    have w2 := (Ext.refl η).blk hb2
    have w3 := (Ext.refl η).blk hb3
    have D1 : dec3 69 η (.sl b0 v0 0 l.length) = l := IsR.dec3 ⟨b0, v0, rfl, w0⟩
    have D2 : decI η (.sl b1 v1 0 ms.length) = ms := IsI.dec ⟨b1, v1, rfl, w1⟩
    have D3 : decI η (.sl b2 v2 0 ts.length) = ts := IsI.dec ⟨b2, v2, rfl, w2⟩
    have D4 : decI η (.sl b3 v3 0 bs.length) = bs := IsI.dec ⟨b3, v3, rfl, w3⟩
    have O1 : ok3 69 η (.sl b0 v0 0 l.length) := ⟨l, ⟨b0, v0, rfl, w0⟩, hl⟩
    have O2 : okI η (.sl b1 v1 0 ms.length) := ⟨ms, ⟨b1, v1, rfl, w1⟩, hla⟩
    have O3 : okI η (.sl b2 v2 0 ts.length) := ⟨ts, ⟨b2, v2, rfl, w2⟩, hlb⟩
    have O4 : okI η (.sl b3 v3 0 bs.length) := ⟨bs, ⟨b3, v3, rfl, w3⟩, hlc⟩
    refine AF_run Sp52_ok Dr52 [] [.cell 6 34] hm Tryz.func52 rfl (by decide) Tryz.ntmps52 rfl (by kernel_rfl) (Nat.le_of_ble_eq_true rfl) ?_; intro hlo
    repeat' (first | with_reducible refine iteI (fun _ => ?_) (fun _ => ?_) | ((first | unfold AOpsC | unfold AOpsD | skip); simp (maxSteps := 1000000) (disch := (first | omega | assumption | (simp only [List.length_append, List.length_cons, List.length_nil, List.length_set]; omega))) only [go_sem, Sp52, SLeafOf, SMay, Dr52, w0, w1, w2, w3, D1, D2, D3, D4, O1, O2, O3, O4, e1]))
    unfold SWishS
    simp only [w0, w1, w2, w3, D1, D2, D3, D4, O1, O2, O3, O4]
    refine ⟨⟨⟨trivial, trivial, trivial, trivial⟩, e1⟩, fun H u hu x => ?_⟩
    have hwl : (adW l ms bs hi lw).length = l.length := wshN_len _ _ _ _ _ _
    have hw : ∀ j, j < l.length → (adW l ms bs hi lw).getD j 0 = 1 → (l.getD j z3).2.1 ≠ 4 := fun j hj h1 => adW_4 hj h1
    rcases hu with ⟨⟨_, h0⟩ | ⟨q, w, rfl, hq⟩, hnb⟩
    · have := wshN_len l ms bs hi lw l.length
      rw [h0] at this
      simp only [List.length_nil] at this
      omega
    have hR : adR l ms ts bs hi lw = mgR (coA (adW l ms bs hi lw) l) 0 (lvlR (rfF (adW l ms bs hi lw) l ms ts l.length).1 (rfF (adW l ms bs hi lw) l ms ts l.length).2.1 (rfF (adW l ms bs hi lw) l ms ts l.length).2.2).1 (lvlR (rfF (adW l ms bs hi lw) l ms ts l.length).1 (rfF (adW l ms bs hi lw) l ms ts l.length).2.1 (rfF (adW l ms bs hi lw) l ms ts l.length).2.2).2.1 (lvlR (rfF (adW l ms bs hi lw) l ms ts l.length).1 (rfF (adW l ms bs hi lw) l ms ts l.length).2.1 (rfF (adW l ms bs hi lw) l ms ts l.length).2.2).2.2 := rfl
    have hB : okB r (lvlR (rfF (adW l ms bs hi lw) l ms ts l.length).1 (rfF (adW l ms bs hi lw) l ms ts l.length).2.1 (rfF (adW l ms bs hi lw) l ms ts l.length).2.2).1 (lvlR (rfF (adW l ms bs hi lw) l ms ts l.length).1 (rfF (adW l ms bs hi lw) l ms ts l.length).2.1 (rfF (adW l ms bs hi lw) l ms ts l.length).2.2).2.1 (lvlR (rfF (adW l ms bs hi lw) l ms ts l.length).1 (rfF (adW l ms bs hi lw) l ms ts l.length).2.1 (rfF (adW l ms bs hi lw) l ms ts l.length).2.2).2.2 bs = true := adB_ok (hi := hi) (lo := lw) e1
    rw [show wshN l ms bs hi lw l.length = adW l ms bs hi lw from rfl] at hq ⊢
    generalize adW l ms bs hi lw = ws at *
    repeat' (first | with_reducible refine iteI (fun _ => ?_) (fun _ => ?_) | ((first | unfold AOpsC | unfold AOpsD | skip); simp (maxSteps := 1000000) (disch := (first | omega | assumption | (simp only [List.length_append, List.length_cons, List.length_nil, List.length_set]; omega))) only [go_sem, Sp52, SLeafOf, SMay, Dr52]))
    refine copyN ⟨l, ms, ts, bs, ⟨⟨b0, v0, rfl, x.blk hb0⟩, ⟨b1, v1, rfl, x.blk hb1⟩, ⟨b2, v2, rfl, x.blk hb2⟩, ⟨b3, v3, rfl, x.blk hb3⟩⟩, ⟨hl, hla, hlb, hlc⟩, fun H2 q0 q1 q2 q3 hN x2 => ?_⟩
    have hq2 := x2.blk hq
    repeat' (first | with_reducible refine iteI (fun _ => ?_) (fun _ => ?_) | ((first | unfold AOpsC | unfold AOpsD | skip); simp (maxSteps := 1000000) (disch := (first | omega | assumption | (simp only [List.length_append, List.length_cons, List.length_nil, List.length_set]; omega))) only [go_sem, Sp52, SLeafOf, SMay, Dr52, hq2]))
    refine ⟨invAS1 η r (.sl b0 v0 0 l.length) (.sl b1 v1 0 ms.length) (.sl b2 v2 0 ts.length) (.sl b3 v3 0 bs.length) l ms ts bs ws q w, muD 9, .inl ⟨0, H2, q0, q1, q2, q3, 0, 0, 0, 0, Nat.zero_le _, x.trans x2, hN.mono x.len, hq2, rfl, by simp [upd], by simp [upd], by simp [upd], by simp [upd], by simp [upd, hwl], by simp [upd], by simp [upd], by simp [upd, rfF], rfl⟩, ?_⟩
    clear hN hq2 hq x2 x hnb w0 w1 w2 w3 D1 D2 D3 D4 O1 O2 O3 O4
    rintro ⟨n, τ, lam, η'⟩ ⟨i, H, p0, p1, p2, p3, u0, u1, u2, u3, g0, g1, g2, g3, hn, t3, t6, t7, t8, t9, l3, l6, l8, hη⟩; simp only at hn t3 t6 t7 t8 t9 l3 l6 l8 hη; subst hn hη
    obtain ⟨m1, m2, m3, m4⟩ := rfF_ok k1 hC hw i g0
    have hln2 := mesh_len m1
    by_cases hlt : i < l.length
    · obtain ⟨j, hj⟩ : ∃ j : Nat, (l.length : Int) - 1 - i = j := ⟨l.length - 1 - i, by omega⟩
      have hjn : l.length - 1 - i = j := by omega
      have hj1 : (j : Int) - 1 = (l.length : Int) - 1 - ((i + 1 : Nat) : Int) := by omega
      rw [hj] at t9
      have h4 := rfF_4 k1 hC hw hlt
      rw [hjn] at h4
      by_cases c1 : ws.getD j 0 = 1
      · have hrf : rfF ws l ms ts (i + 1) = (splitL (rfF ws l ms ts i).1 j, splM (rfF ws l ms ts i).2.1 j, splT (rfF ws l ms ts i).2.1 (rfF ws l ms ts i).2.2 j) := by rw [rfF, hjn, if_pos c1]
        repeat' (first | with_reducible refine iteI (fun _ => ?_) (fun _ => ?_) | ((first | unfold AOpsC | unfold AOpsD | skip); simp (maxSteps := 1000000) (disch := (first | omega | assumption | (simp only [List.length_append, List.length_cons, List.length_nil, List.length_set]; omega))) only [go_sem, Sp52, SLeafOf, SMay, Dr52, g3, c1, t3, t6, t7, t8, t9, l3, l6, l8]))
        unfold SSpl
        refine ⟨_, _, _, bs, ⟨⟨p0, u0, rfl, g2.g0⟩, ⟨p1, u1, rfl, g2.g1⟩, ⟨p2, u2, rfl, g2.g2⟩, ⟨p3, u3, rfl, g2.g3⟩⟩, ⟨by omega, m1, m2, by omega, by omega, by rw [Int.toNat_natCast, h4]; exact hw j (by omega) c1⟩, fun G d0 d1 d2 d3 y0 y1 y2 y3 hG x => ?_⟩
        rw [Int.toNat_natCast] at hG ⊢
        repeat' (first | with_reducible refine iteI (fun _ => ?_) (fun _ => ?_) | ((first | unfold AOpsC | unfold AOpsD | skip); simp (maxSteps := 1000000) (disch := (first | omega | assumption | (simp only [List.length_append, List.length_cons, List.length_nil, List.length_set]; omega))) only [go_sem, Sp52, SLeafOf, SMay, Dr52, t3, t6, t7, t8, t9, l3, l6, l8]))
        refine ⟨⟨i + 1, G, d0, d1, d2, d3, y0, y1, y2, y3, hlt, g1.trans x, by rw [hrf]; exact hG.mono g1.len, x.blk g3, rfl, by simp [upd, t3, t6, t7, t8], by simp [upd, t3, t6, t7, t8], by simp [upd, t3, t6, t7, t8], by simp [upd, t3, t6, t7, t8], by simp [upd, hj1], by simp [upd, l3], by simp [upd, l6], by simp [upd, hrf], rfl⟩, by (simp [muD, upd, t9]) <;> omega⟩
      · have hrf : rfF ws l ms ts (i + 1) = rfF ws l ms ts i := by rw [rfF, hjn, if_neg c1]
        repeat' (first | with_reducible refine iteI (fun _ => ?_) (fun _ => ?_) | ((first | unfold AOpsC | unfold AOpsD | skip); simp (maxSteps := 1000000) (disch := (first | omega | assumption | (simp only [List.length_append, List.length_cons, List.length_nil, List.length_set]; omega))) only [go_sem, Sp52, SLeafOf, SMay, Dr52, g3, c1, t3, t6, t7, t8, t9, l3, l6, l8]))
        refine ⟨⟨i + 1, _, p0, p1, p2, p3, u0, u1, u2, u3, hlt, g1, by rw [hrf]; exact g2, g3, rfl, by simp [upd, t3, t6, t7, t8], by simp [upd, t3, t6, t7, t8], by simp [upd, t3, t6, t7, t8], by simp [upd, t3, t6, t7, t8], by simp [upd, hj1], by simp [upd, l3], by simp [upd, l6], by simp [upd, l8, hrf], rfl⟩, by (simp [muD, upd, t9]) <;> omega⟩
    · obtain rfl : i = l.length := by omega
      have hj : (l.length : Int) - 1 - (l.length : Int) = -1 := by omega
      rw [hj] at t9
      repeat' (first | with_reducible refine iteI (fun _ => ?_) (fun _ => ?_) | ((first | unfold AOpsC | unfold AOpsD | skip); simp (maxSteps := 1000000) (disch := (first | omega | assumption | (simp only [List.length_append, List.length_cons, List.length_nil, List.length_set]; omega))) only [go_sem, Sp52, SLeafOf, SMay, Dr52, t3, t6, t7, t8, t9, l3, l6, l8]))
      unfold SLvl
      refine ⟨η.length, r, p0, p1, p2, p3, u0, u1, u2, u3, _, _, _, bs, rfl, g1.len, g2, m1, m2, fun H2 d0 d1 d2 d3 y0 y1 y2 y3 hN2 x2 => ?_⟩
      repeat' (first | with_reducible refine iteI (fun _ => ?_) (fun _ => ?_) | ((first | unfold AOpsC | unfold AOpsD | skip); simp (maxSteps := 1000000) (disch := (first | omega | assumption | (simp only [List.length_append, List.length_cons, List.length_nil, List.length_set]; omega))) only [go_sem, Sp52, SLeafOf, SMay, Dr52, t3, t6, t7, t8, t9, l3, l6, l8]))
      refine ⟨invAS2 η r (.sl b0 v0 0 l.length) (.sl b1 v1 0 ms.length) (.sl b2 v2 0 ts.length) (.sl b3 v3 0 bs.length) l bs ws q w (adR l ms ts bs hi lw), muA 8 10, .inl ⟨0, H2, d0, d1, d2, d3, y0, y1, y2, y3, _, _, _, g1.trans x2, hN2, x2.blk g3, hB, hR, Nat.zero_le _, rfl, by simp [upd, t3], by simp [upd, t6], by simp [upd, t7], by simp [upd, t8], by simp [upd], by simp [upd, l3], by simp [upd, l6], by simp [upd], rfl⟩, ?_⟩
      clear hN2 x2 g3 g2 g1 g0 m1 m2 m3 m4 hln2 hj t9 t3 t6 t7 t8 l3 l6 l8 hB
      rintro ⟨n, τ, lam, η'⟩ ⟨i, H, p0, p1, p2, p3, u0, u1, u2, u3, l1, ms1, ts1, g0, g1, g2, g3, g4, g5, hn, t3, t6, t7, t8, t10, l3, l6, l8, hη⟩; simp only at hn t3 t6 t7 t8 t10 l3 l6 l8 hη; subst hn hη
      have hC1 := okC g3
      obtain ⟨n1, n2, n3, n4, n5, n6, n7, n8⟩ := okT g3
      have hln1 := mesh_len n1
      have hlv1 := mesh_levs n1
      have w0 := g0.blk hb0
      have D0 : dec3 69 η' (.sl b0 v0 0 l.length) = l := IsR.dec3 ⟨b0, v0, rfl, w0⟩
      have O0 : ok3 69 η' (.sl b0 v0 0 l.length) := ⟨l, ⟨b0, v0, rfl, w0⟩, hl⟩
      have W0 := g1.g0
      have W1 := g1.g1
      have D1 : dec3 69 η' (.sl p0 u0 0 l1.length) = l1 := IsR.dec3 ⟨p0, u0, rfl, W0⟩
      have O1 : ok3 69 η' (.sl p0 u0 0 l1.length) := ⟨l1, ⟨p0, u0, rfl, W0⟩, by omega⟩
      by_cases hlt : i + 1 < l1.length
      · have hcd := cdA_ix (l0 := l) (l := l1) (ws := ws) (i := i) k1
        have hX1 : idxR l (fun x => decide (x = l1.getD i (0, 0, 0))) = ixL l (l1.getD i z3) := rfl
        have hY1 : idxR l (fun x => decide (x = l1.getD (i + 1) (0, 0, 0))) = ixL l (l1.getD (i + 1) z3) := rfl
        have hX2 : idxR l (fun x => decide (x = ((l1.getD i (0, 0, 0)).1, (l1.getD i (0, 0, 0)).2.1, (l1.getD i (0, 0, 0)).2.2))) = ixL l (l1.getD i z3) := rfl
        have hY2 : idxR l (fun x => decide (x = ((l1.getD (i + 1) (0, 0, 0)).1, (l1.getD (i + 1) (0, 0, 0)).2.1, (l1.getD (i + 1) (0, 0, 0)).2.2))) = ixL l (l1.getD (i + 1) z3) := rfl
        have bX : 0 ≤ ixL l (l1.getD i z3) → ∃ x : Nat, ixL l (l1.getD i z3) = x ∧ x < ws.length := fun h => by
          obtain ⟨x, e1, e2, _⟩ := ixL_pos h
          exact ⟨x, e1, by omega⟩
        have bY : 0 ≤ ixL l (l1.getD (i + 1) z3) → ∃ x : Nat, ixL l (l1.getD (i + 1) z3) = x ∧ x < ws.length := fun h => by
          obtain ⟨x, e1, e2, _⟩ := ixL_pos h
          exact ⟨x, e1, by omega⟩
        generalize ixL l (l1.getD i z3) = X at *
        generalize ixL l (l1.getD (i + 1) z3) = Y at *
        rw [mgR_step hlt] at g4
        by_cases q1 : 0 ≤ X
        case neg =>
          rw [decide_eq_false q1, Bool.false_and] at hcd
          repeat' (first | with_reducible refine iteI (fun _ => ?_) (fun _ => ?_) | ((first | unfold AOpsC | unfold AOpsD | skip); simp (maxSteps := 1000000) (disch := (first | omega | assumption | (simp only [List.length_append, List.length_cons, List.length_nil, List.length_set]; omega))) only [go_sem, Sp52, SLeafOf, SMay, Dr52, w0, W0, W1, D0, O0, D1, O1, hlv1, hX1, hX2, hY1, hY2, g2, q1, t3, t6, t7, t8, t10, l3, l6, l8]))
          refine ⟨⟨i + 1, _, p0, p1, p2, p3, u0, u1, u2, u3, _, _, _, g0, g1, g2, g3, by rw [g4, hcd, if_neg Bool.false_ne_true], by omega, rfl, by simp [upd, t3, t6, t7, t8, t10], by simp [upd, t3, t6, t7, t8, t10], by simp [upd, t3, t6, t7, t8, t10], by simp [upd, t3, t6, t7, t8, t10], by simp [upd, t3, t6, t7, t8, t10], by simp [upd, l3], by simp [upd, l6], by simp [upd, l8], rfl⟩, by (simp [muA, upd, t10, l8]) <;> omega⟩
        obtain ⟨x, rfl, hx⟩ := bX q1
        by_cases q2 : 0 ≤ Y
        case neg =>
          rw [decide_eq_false q2, Bool.false_and, Bool.and_false] at hcd
          repeat' (first | with_reducible refine iteI (fun _ => ?_) (fun _ => ?_) | ((first | unfold AOpsC | unfold AOpsD | skip); simp (maxSteps := 1000000) (disch := (first | omega | assumption | (simp only [List.length_append, List.length_cons, List.length_nil, List.length_set]; omega))) only [go_sem, Sp52, SLeafOf, SMay, Dr52, w0, W0, W1, D0, O0, D1, O1, hlv1, hX1, hX2, hY1, hY2, g2, q2, t3, t6, t7, t8, t10, l3, l6, l8]))
          refine ⟨⟨i + 1, _, p0, p1, p2, p3, u0, u1, u2, u3, _, _, _, g0, g1, g2, g3, by rw [g4, hcd, if_neg Bool.false_ne_true], by omega, rfl, by simp [upd, t3, t6, t7, t8, t10], by simp [upd, t3, t6, t7, t8, t10], by simp [upd, t3, t6, t7, t8, t10], by simp [upd, t3, t6, t7, t8, t10], by simp [upd, t3, t6, t7, t8, t10], by simp [upd, l3], by simp [upd, l6], by simp [upd, l8], rfl⟩, by (simp [muA, upd, t10, l8]) <;> omega⟩
        obtain ⟨y, rfl, hy⟩ := bY q2
        rw [Int.toNat_natCast, Int.toNat_natCast] at hcd
        by_cases q3 : ws.getD x 0 = -1
        case neg =>
          rw [decide_eq_false q3, Bool.false_and, Bool.and_false, Bool.and_false] at hcd
          repeat' (first | with_reducible refine iteI (fun _ => ?_) (fun _ => ?_) | ((first | unfold AOpsC | unfold AOpsD | skip); simp (maxSteps := 1000000) (disch := (first | omega | assumption | (simp only [List.length_append, List.length_cons, List.length_nil, List.length_set]; omega))) only [go_sem, Sp52, SLeafOf, SMay, Dr52, w0, W0, W1, D0, O0, D1, O1, hlv1, hX1, hX2, hY1, hY2, g2, q3, t3, t6, t7, t8, t10, l3, l6, l8]))
          refine ⟨⟨i + 1, _, p0, p1, p2, p3, u0, u1, u2, u3, _, _, _, g0, g1, g2, g3, by rw [g4, hcd, if_neg Bool.false_ne_true], by omega, rfl, by simp [upd, t3, t6, t7, t8, t10], by simp [upd, t3, t6, t7, t8, t10], by simp [upd, t3, t6, t7, t8, t10], by simp [upd, t3, t6, t7, t8, t10], by simp [upd, t3, t6, t7, t8, t10], by simp [upd, l3], by simp [upd, l6], by simp [upd, l8], rfl⟩, by (simp [muA, upd, t10, l8]) <;> omega⟩
        by_cases q4 : ws.getD y 0 = -1
        case neg =>
          rw [decide_eq_false q4, Bool.false_and, Bool.and_false, Bool.and_false, Bool.and_false] at hcd
          repeat' (first | with_reducible refine iteI (fun _ => ?_) (fun _ => ?_) | ((first | unfold AOpsC | unfold AOpsD | skip); simp (maxSteps := 1000000) (disch := (first | omega | assumption | (simp only [List.length_append, List.length_cons, List.length_nil, List.length_set]; omega))) only [go_sem, Sp52, SLeafOf, SMay, Dr52, w0, W0, W1, D0, O0, D1, O1, hlv1, hX1, hX2, hY1, hY2, g2, q3, q4, t3, t6, t7, t8, t10, l3, l6, l8]))
          refine ⟨⟨i + 1, _, p0, p1, p2, p3, u0, u1, u2, u3, _, _, _, g0, g1, g2, g3, by rw [g4, hcd, if_neg Bool.false_ne_true], by omega, rfl, by simp [upd, t3, t6, t7, t8, t10], by simp [upd, t3, t6, t7, t8, t10], by simp [upd, t3, t6, t7, t8, t10], by simp [upd, t3, t6, t7, t8, t10], by simp [upd, t3, t6, t7, t8, t10], by simp [upd, l3], by simp [upd, l6], by simp [upd, l8], rfl⟩, by (simp [muA, upd, t10, l8]) <;> omega⟩
        cases q5 : mayC l1 i
        · rw [q5, Bool.and_false, Bool.and_false, Bool.and_false, Bool.and_false] at hcd
          repeat' (first | with_reducible refine iteI (fun _ => ?_) (fun _ => ?_) | ((first | unfold AOpsC | unfold AOpsD | skip); simp (maxSteps := 1000000) (disch := (first | omega | assumption | (simp only [List.length_append, List.length_cons, List.length_nil, List.length_set]; omega))) only [go_sem, Sp52, SLeafOf, SMay, Dr52, w0, W0, W1, D0, O0, D1, O1, hlv1, hX1, hX2, hY1, hY2, g2, q3, q4, q5, t3, t6, t7, t8, t10, l3, l6, l8]))
          refine ⟨⟨i + 1, _, p0, p1, p2, p3, u0, u1, u2, u3, _, _, _, g0, g1, g2, g3, by rw [g4, hcd, if_neg Bool.false_ne_true], by omega, rfl, by simp [upd, t3, t6, t7, t8, t10], by simp [upd, t3, t6, t7, t8, t10], by simp [upd, t3, t6, t7, t8, t10], by simp [upd, t3, t6, t7, t8, t10], by simp [upd, t3, t6, t7, t8, t10], by simp [upd, l3], by simp [upd, l6], by simp [upd, l8], rfl⟩, by (simp [muA, upd, t10, l8]) <;> omega⟩
        rw [q5, decide_eq_true q1, decide_eq_true q2, decide_eq_true q3, decide_eq_true q4] at hcd
        repeat' (first | with_reducible refine iteI (fun _ => ?_) (fun _ => ?_) | ((first | unfold AOpsC | unfold AOpsD | skip); simp (maxSteps := 1000000) (disch := (first | omega | assumption | (simp only [List.length_append, List.length_cons, List.length_nil, List.length_set]; omega))) only [go_sem, Sp52, SLeafOf, SMay, Dr52, w0, W0, W1, D0, O0, D1, O1, hlv1, hX1, hX2, hY1, hY2, g2, q3, q4, q5, t3, t6, t7, t8, t10, l3, l6, l8]))
        unfold SMgS
        refine ⟨l1, ms1, ts1, bs, ⟨⟨p0, u0, rfl, g1.g0⟩, ⟨p1, u1, rfl, g1.g1⟩, ⟨p2, u2, rfl, g1.g2⟩, ⟨p3, u3, rfl, g1.g3⟩⟩, ⟨by omega, by omega, hC1, by omega, by omega, by rw [Int.toNat_natCast]; exact may_par q5⟩, fun G d0 d1 d2 d3 y0 y1 y2 y3 hG x => ?_⟩
        rw [Int.toNat_natCast] at hG ⊢
        have hml := mrgL_len hlt
        repeat' (first | with_reducible refine iteI (fun _ => ?_) (fun _ => ?_) | ((first | unfold AOpsC | unfold AOpsD | skip); simp (maxSteps := 1000000) (disch := (first | omega | assumption | (simp only [List.length_append, List.length_cons, List.length_nil, List.length_set]; omega))) only [go_sem, Sp52, SLeafOf, SMay, Dr52, t3, t6, t7, t8, t10, l3, l6, l8]))
        refine ⟨⟨i + 1, G, d0, d1, d2, d3, y0, y1, y2, y3, _, _, _, g0.trans x, hG.mono g0.len, x.blk g2, mrg_ok g3 hlt q5, by rw [g4, if_pos (show cdA _ _ _ = true from hcd)], by omega, rfl, by simp [upd, t3, t6, t7, t8, t10], by simp [upd, t3, t6, t7, t8, t10], by simp [upd, t3, t6, t7, t8, t10], by simp [upd, t3, t6, t7, t8, t10], by simp [upd, t3, t6, t7, t8, t10], by simp [upd, l3], by simp [upd, l6], by simp [upd], rfl⟩, by (simp [muA, upd, t10, l8, hml]) <;> omega⟩
      · rw [mgR_end hlt] at g4
        rw [g4] at hK
        repeat' (first | with_reducible refine iteI (fun _ => ?_) (fun _ => ?_) | ((first | unfold AOpsC | unfold AOpsD | skip); simp (maxSteps := 1000000) (disch := (first | omega | assumption | (simp only [List.length_append, List.length_cons, List.length_nil, List.length_set]; omega))) only [go_sem, Sp52, SLeafOf, SMay, Dr52, w0, W0, W1, t3, t6, t7, t8, t10, l3, l6, l8]))
        exact hK _ _ _ _ _ _ _ _ _ g1 g0
  · exact h.elim

def invAI1 (η : List Blk) (n p : Nat) (r : Int) (b3 v3 : Nat) (l0 : List Id3) (ms0 ts0 bs ws : List Int) (q w : Nat) (st : St) : Prop := ∃ i : Nat, ∃ H : List Blk, ∃ c0 : Nat, ∃ c1 : Nat, ∃ c2 : Nat, ∃ u0 : Nat, ∃ u1 : Nat, ∃ u2 : Nat, ∃ C : List Id3, (i ≤ l0.length) ∧ (PtrS n p H r c0 c1 c2 b3 u0 u1 u2 v3 (rfF ws l0 ms0 ts0 i).1 (rfF ws l0 ms0 ts0 i).2.1 (rfF ws l0 ms0 ts0 i).2.2 bs) ∧ (Keep n η H) ∧ (GQ True q p c0 c1 c2 b3 H) ∧ (H[q]? = some ⟨w, 3, 1, ws.map (.int .i64)⟩) ∧ (∀ x, x ∈ C ↔ x ∈ coF ws l0 i) ∧ st.n = 91 ∧ st.τ 0 = .ptr p 0 0 ∧ st.τ 6 = .sl q w 0 ws.length ∧ st.τ 7 = .mp 16 1 ∧ st.τ 8 = .int .i64 ((l0.length : Int) - 1 - i) ∧ st.lam 16 = ⟨1, [.tup (C.map kV)]⟩ ∧ st.η = H

def invAI2 (η : List Blk) (n p : Nat) (r : Int) (b3 v3 : Nat) (C : List Id3) (bs : List Int) (R : List Id3 × List Int × List Int) (st : St) : Prop := ∃ i : Nat, ∃ H : List Blk, ∃ c0 : Nat, ∃ c1 : Nat, ∃ c2 : Nat, ∃ u0 : Nat, ∃ u1 : Nat, ∃ u2 : Nat, ∃ l1 : List Id3, ∃ ms1 : List Int, ∃ ts1 : List Int, (PtrS n p H r c0 c1 c2 b3 u0 u1 u2 v3 l1 ms1 ts1 bs) ∧ (Keep n η H) ∧ (okB r l1 ms1 ts1 bs = true) ∧ (R = mgR C i l1 ms1 ts1) ∧ (i ≤ l1.length) ∧ st.n = 91 ∧ st.τ 0 = .ptr p 0 0 ∧ st.τ 7 = .mp 16 1 ∧ st.τ 9 = .int .i64 i ∧ st.lam 16 = ⟨1, [.tup (C.map kV)]⟩ ∧ st.η = H

/- (*impl.State).adapt -/
def Sp53 (lo : Nat) : Spec := fun g args η K => match g with | 83 => SSrf lo args η K | 84 => SSco lo args η K | 90 => SWish args η K | 91 => SBla lo args η K | 92 => SMay args η K | _ => False
theorem Sp53_ok {lo : Nat} : Sound Tryz.prog lo (Sp53 lo) := by
  intro g args η K h
  unfold Sp53 at h
  split at h
  · exact .inl (f83_ok h)
  · exact .inl (f84_ok h)
  · exact .inl (f90_ok h)
  · exact .inl (f91_ok h)
  · exact .inl (f92_ok h)
  · exact h.elim
theorem f53_ok {lo : Nat} {args : List AV} {η : List Blk} {K : AV → List Blk → Prop} (h : SAda lo args η K) : AF Tryz.prog lo 53 args η K := by
  unfold SAda at h
  split at h
  · obtain ⟨n, r, b0, b1, b2, b3, v0, v1, v2, v3, l, ms, ts, bs, hn, hP, e1, hK⟩ := h
    rename_i p hi lw
    obtain ⟨k1, k2, k3, k4, k5, k6, k7, k8⟩ := okT e1
    have hC := okC e1
    have hln := mesh_len k1
    have hne := mesh_ne k1
    have hl : l.length ≤ 1048576 := by omega
    have hla : ms.length ≤ 1048576 := by omega
    have hlb : ts.length ≤ 1048576 := by omega
    have hlc : bs.length ≤ 1048576 := by omega
    have pp := hP.pb
    have hb0 := hP.n4.g0
    have hb1 := hP.n4.g1
    have hb2 := hP.n4.g2
    have hb3 := hP.n4.g3
    have w0 := (Ext.refl η).blk hb0
    have w1 := (Ext.refl η).blk hb1
    have w2 := (Ext.refl η).blk hb2
    have w3 := (Ext.refl η).blk hb3
    have D1 : dec3 69 η (.sl b0 v0 0 l.length) = l := IsR.dec3 ⟨b0, v0, rfl, w0⟩
    have D2 : decI η (.sl b1 v1 0 ms.length) = ms := IsI.dec ⟨b1, v1, rfl, w1⟩
    have D3 : decI η (.sl b2 v2 0 ts.length) = ts := IsI.dec ⟨b2, v2, rfl, w2⟩
    have D4 : decI η (.sl b3 v3 0 bs.length) = bs := IsI.dec ⟨b3, v3, rfl, w3⟩
    have O1 : ok3 69 η (.sl b0 v0 0 l.length) := ⟨l, ⟨b0, v0, rfl, w0⟩, hl⟩
    have O2 : okI η (.sl b1 v1 0 ms.length) := ⟨ms, ⟨b1, v1, rfl, w1⟩, hla⟩
    have O3 : okI η (.sl b2 v2 0 ts.length) := ⟨ts, ⟨b2, v2, rfl, w2⟩, hlb⟩
    have O4 : okI η (.sl b3 v3 0 bs.length) := ⟨bs, ⟨b3, v3, rfl, w3⟩, hlc⟩
    refine AF_run Sp53_ok D0 [] [] hm Tryz.func53 rfl (by decide) Tryz.ntmps53 rfl (by kernel_rfl) (Nat.le_of_ble_eq_true rfl) ?_; intro hlo
    repeat' (first | with_reducible refine iteI (fun _ => ?_) (fun _ => ?_) | ((first | unfold AOpsC | unfold AOpsD | skip); simp (maxSteps := 1000000) (disch := (first | omega | assumption | (simp only [List.length_append, List.length_cons, List.length_nil, List.length_set]; omega))) only [go_sem, Sp53, SMay, pp, w0, w1, w2, w3, D1, D2, D3, D4, O1, O2, O3, O4, e1]))
    unfold SWish
    simp only [w0, w1, w2, w3, D1, D2, D3, D4, O1, O2, O3, O4]
    refine ⟨⟨trivial, trivial, trivial, trivial⟩, fun H u hu x => ?_⟩
    rw [wshR, if_pos e1] at hu
    have hwl : (adW l ms bs hi lw).length = l.length := wshN_len _ _ _ _ _ _
    have hw : ∀ j, j < l.length → (adW l ms bs hi lw).getD j 0 = 1 → (l.getD j z3).2.1 ≠ 4 := fun j hj h1 => adW_4 hj h1
    rcases hu with ⟨⟨_, h0⟩ | ⟨q, w, rfl, hq⟩, hnb⟩
    · have := wshN_len l ms bs hi lw l.length
      rw [h0] at this
      simp only [List.length_nil] at this
      omega
    have hR : adR l ms ts bs hi lw = mgR (coA (adW l ms bs hi lw) l) 0 (lvlR (rfF (adW l ms bs hi lw) l ms ts l.length).1 (rfF (adW l ms bs hi lw) l ms ts l.length).2.1 (rfF (adW l ms bs hi lw) l ms ts l.length).2.2).1 (lvlR (rfF (adW l ms bs hi lw) l ms ts l.length).1 (rfF (adW l ms bs hi lw) l ms ts l.length).2.1 (rfF (adW l ms bs hi lw) l ms ts l.length).2.2).2.1 (lvlR (rfF (adW l ms bs hi lw) l ms ts l.length).1 (rfF (adW l ms bs hi lw) l ms ts l.length).2.1 (rfF (adW l ms bs hi lw) l ms ts l.length).2.2).2.2 := rfl
    have hB : okB r (lvlR (rfF (adW l ms bs hi lw) l ms ts l.length).1 (rfF (adW l ms bs hi lw) l ms ts l.length).2.1 (rfF (adW l ms bs hi lw) l ms ts l.length).2.2).1 (lvlR (rfF (adW l ms bs hi lw) l ms ts l.length).1 (rfF (adW l ms bs hi lw) l ms ts l.length).2.1 (rfF (adW l ms bs hi lw) l ms ts l.length).2.2).2.1 (lvlR (rfF (adW l ms bs hi lw) l ms ts l.length).1 (rfF (adW l ms bs hi lw) l ms ts l.length).2.1 (rfF (adW l ms bs hi lw) l ms ts l.length).2.2).2.2 bs = true := adB_ok (hi := hi) (lo := lw) e1
    have hqb : q < H.length := blt hq
    have hqn := hnb q rfl
    have hP1 : PtrS n p H r b0 b1 b2 b3 v0 v1 v2 v3 l ms ts bs := ⟨x.blk pp, hP.n4.ext x, hP.np, hP.p0, hP.p1, hP.p2, hP.p3⟩
    have hGQ : GQ True q p b0 b1 b2 b3 H := by
      have := blt pp
      have := blt hb0
      have := blt hb1
      have := blt hb2
      have := blt hb3
      exact fun _ => ⟨hqb, by omega, by omega, by omega, by omega, by omega⟩
    rw [show wshN l ms bs hi lw l.length = adW l ms bs hi lw from rfl] at hq ⊢
    generalize adW l ms bs hi lw = ws at *
    repeat' (first | with_reducible refine iteI (fun _ => ?_) (fun _ => ?_) | ((first | unfold AOpsC | unfold AOpsD | skip); simp (maxSteps := 1000000) (disch := (first | omega | assumption | (simp only [List.length_append, List.length_cons, List.length_nil, List.length_set]; omega))) only [go_sem, Sp53, SMay, hq]))
    refine ⟨invAI1 η n p r b3 v3 l ms ts bs ws q w, muD 8, .inl ⟨0, H, b0, b1, b2, v0, v1, v2, [], Nat.zero_le _, hP1, ⟨by have := hP1.np; have := blt hP1.pb; omega, fun c hc => x.get (by have := hP.np; have := blt pp; omega)⟩, hGQ, hq, fun _ => by simp [coF], rfl, by simp [upd], by simp [upd, hwl], by simp [upd], by simp [upd, hwl], by simp [upd], rfl⟩, ?_⟩
    clear hGQ hP1 hqn hqb hq hnb x pp hb0 hb1 hb2 hb3 w0 w1 w2 w3 D1 D2 D3 D4 O1 O2 O3 O4
    rintro ⟨n, τ, lam, η'⟩ ⟨i, H, c0, c1, c2, u0, u1, u2, C, g0, g1, g2, g3, g4, g5, hn, t0, t6, t7, t8, l16, hη⟩; simp only at hn t0 t6 t7 t8 l16 hη; subst hn hη
    obtain ⟨m1, m2, m3, m4⟩ := rfF_ok k1 hC hw i g0
    have hln2 := mesh_len m1
    have pp := g1.pb
    have w0 := g1.n4.g0
    by_cases hlt : i < l.length
    · obtain ⟨j, hj⟩ : ∃ j : Nat, (l.length : Int) - 1 - i = j := ⟨l.length - 1 - i, by omega⟩
      have hjn : l.length - 1 - i = j := by omega
      have hj1 : (j : Int) - 1 = (l.length : Int) - 1 - ((i + 1 : Nat) : Int) := by omega
      rw [hj] at t8
      have h4 := rfF_4 k1 hC hw hlt
      have hcs := coF_step g5
      rw [hjn] at h4 hcs
      by_cases q1 : ws.getD j 0 = 1
      · have hrf : rfF ws l ms ts (i + 1) = (splitL (rfF ws l ms ts i).1 j, splM (rfF ws l ms ts i).2.1 j, splT (rfF ws l ms ts i).2.1 (rfF ws l ms ts i).2.2 j) := by rw [rfF, hjn, if_pos q1]
        rw [if_neg (by omega)] at hcs
        repeat' (first | with_reducible refine iteI (fun _ => ?_) (fun _ => ?_) | ((first | unfold AOpsC | unfold AOpsD | skip); simp (maxSteps := 1000000) (disch := (first | omega | assumption | (simp only [List.length_append, List.length_cons, List.length_nil, List.length_set]; omega))) only [go_sem, Sp53, SMay, g4, q1, t0, t6, t7, t8, l16]))
        unfold SSrf
        refine ⟨n, r, c0, c1, c2, b3, u0, u1, u2, v3, _, _, _, bs, j, True, q, ⟨hn, rfl, g3⟩, g1, ⟨m1, m2, by omega, by omega, by rw [h4]; exact hw j (by omega) q1⟩, fun G d0 d1 d2 y0 y1 y2 hG kG kQ => ?_⟩
        repeat' (first | with_reducible refine iteI (fun _ => ?_) (fun _ => ?_) | ((first | unfold AOpsC | unfold AOpsD | skip); simp (maxSteps := 1000000) (disch := (first | omega | assumption | (simp only [List.length_append, List.length_cons, List.length_nil, List.length_set]; omega))) only [go_sem, Sp53, SMay, t0, t6, t7, t8, l16]))
        refine ⟨⟨i + 1, G, d0, d1, d2, y0, y1, y2, C, hlt, by rw [hrf]; exact hG, g2.trans kG, kQ.1, (kQ.2 trivial).trans g4, hcs, rfl, by simp [upd, t0, t6, t7], by simp [upd, t0, t6, t7], by simp [upd, t0, t6, t7], by simp [upd, hj1], by simp [upd, l16], rfl⟩, by (simp [muD, upd, t8]) <;> omega⟩
      · have hrf : rfF ws l ms ts (i + 1) = rfF ws l ms ts i := by rw [rfF, hjn, if_neg q1]
        by_cases q2 : ws.getD j 0 = -1
        · rw [if_pos q2, ← h4] at hcs
          have hjl : j < (rfF ws l ms ts i).1.length := by omega
          repeat' (first | with_reducible refine iteI (fun _ => ?_) (fun _ => ?_) | ((first | unfold AOpsC | unfold AOpsD | skip); simp (maxSteps := 1000000) (disch := (first | omega | assumption | (simp only [List.length_append, List.length_cons, List.length_nil, List.length_set]; omega))) only [go_sem, Sp53, SMay, g4, q1, q2, pp, w0, keyOk_kV, addK_3, t0, t6, t7, t8, l16]))
          refine ⟨⟨i + 1, _, c0, c1, c2, u0, u1, u2, _, hlt, by rw [hrf]; exact g1, g2, g3, g4, hcs, rfl, by simp [upd, t0, t6, t7], by simp [upd, t0, t6, t7], by simp [upd, t0, t6, t7], by simp [upd, hj1], by simp only [upd, l16, ↓reduceIte]; rfl, rfl⟩, by (simp [muD, upd, t8]) <;> omega⟩
        · rw [if_neg q2] at hcs
          repeat' (first | with_reducible refine iteI (fun _ => ?_) (fun _ => ?_) | ((first | unfold AOpsC | unfold AOpsD | skip); simp (maxSteps := 1000000) (disch := (first | omega | assumption | (simp only [List.length_append, List.length_cons, List.length_nil, List.length_set]; omega))) only [go_sem, Sp53, SMay, g4, q1, q2, t0, t6, t7, t8, l16]))
          refine ⟨⟨i + 1, _, c0, c1, c2, u0, u1, u2, C, hlt, by rw [hrf]; exact g1, g2, g3, g4, hcs, rfl, by simp [upd, t0, t6, t7], by simp [upd, t0, t6, t7], by simp [upd, t0, t6, t7], by simp [upd, hj1], by simp [upd, l16], rfl⟩, by (simp [muD, upd, t8]) <;> omega⟩
    · obtain rfl : i = l.length := by omega
      have hj : (l.length : Int) - 1 - (l.length : Int) = -1 := by omega
      rw [hj] at t8
      repeat' (first | with_reducible refine iteI (fun _ => ?_) (fun _ => ?_) | ((first | unfold AOpsC | unfold AOpsD | skip); simp (maxSteps := 1000000) (disch := (first | omega | assumption | (simp only [List.length_append, List.length_cons, List.length_nil, List.length_set]; omega))) only [go_sem, Sp53, SMay, t0, t6, t7, t8, l16]))
      unfold SBla
      refine ⟨n, r, c0, c1, c2, b3, u0, u1, u2, v3, _, _, _, bs, False, 0, ⟨hn, GQ.no⟩, g1, ⟨m1, m2⟩, fun H2 d0 d1 d2 y0 y1 y2 hN2 kG _ => ?_⟩
      repeat' (first | with_reducible refine iteI (fun _ => ?_) (fun _ => ?_) | ((first | unfold AOpsC | unfold AOpsD | skip); simp (maxSteps := 1000000) (disch := (first | omega | assumption | (simp only [List.length_append, List.length_cons, List.length_nil, List.length_set]; omega))) only [go_sem, Sp53, SMay, t0, t6, t7, t8, l16]))
      have hRC : adR l ms ts bs hi lw = mgR C 0 (lvlR (rfF ws l ms ts l.length).1 (rfF ws l ms ts l.length).2.1 (rfF ws l ms ts l.length).2.2).1 (lvlR (rfF ws l ms ts l.length).1 (rfF ws l ms ts l.length).2.1 (rfF ws l ms ts l.length).2.2).2.1 (lvlR (rfF ws l ms ts l.length).1 (rfF ws l ms ts l.length).2.1 (rfF ws l ms ts l.length).2.2).2.2 := by rw [hR]; exact mgR_ext (fun x => (g5 x).symm) _ _ _ _
      refine ⟨invAI2 η n p r b3 v3 C bs (adR l ms ts bs hi lw), muAp p 9, .inl ⟨0, H2, d0, d1, d2, y0, y1, y2, _, _, _, hN2, g2.trans kG, hB, hRC, Nat.zero_le _, rfl, by simp [upd, t0], by simp [upd, t7], by simp [upd], by simp [upd, l16], rfl⟩, ?_⟩
      clear hN2 kG g5 g4 g3 g2 g1 g0 m1 m2 m3 m4 hln2 hj t8 t0 t6 t7 l16 hB hRC hR pp w0
      rintro ⟨n, τ, lam, η'⟩ ⟨i, H, c0, c1, c2, u0, u1, u2, l1, ms1, ts1, g0, g1, g2, g3, g4, hn, t0, t7, t9, l16, hη⟩; simp only at hn t0 t7 t9 l16 hη; subst hn hη
      obtain ⟨n1, n2, n3, n4, n5, n6, n7, n8⟩ := okT g2
      have hC1 := okC g2
      have hln1 := mesh_len n1
      have hlv1 := mesh_levs n1
      have pp := g0.pb
      have w0 := g0.n4.g0
      have D1 : dec3 69 η' (.sl c0 u0 0 l1.length) = l1 := IsR.dec3 ⟨c0, u0, rfl, w0⟩
      have O1 : ok3 69 η' (.sl c0 u0 0 l1.length) := ⟨l1, ⟨c0, u0, rfl, w0⟩, by omega⟩
      by_cases hlt : i + 1 < l1.length
      · rw [mgR_step hlt] at g3
        have hcd : cdA C l1 i = (decide (l1.getD i z3 ∈ C) && (decide (l1.getD (i + 1) z3 ∈ C) && mayC l1 i)) := rfl
        have hX1 : decide (l1.getD i (0, 0, 0) ∈ C) = decide (l1.getD i z3 ∈ C) := rfl
        have hY1 : decide (l1.getD (i + 1) (0, 0, 0) ∈ C) = decide (l1.getD (i + 1) z3 ∈ C) := rfl
        have hX2 : decide (((l1.getD i (0, 0, 0)).1, (l1.getD i (0, 0, 0)).2.1, (l1.getD i (0, 0, 0)).2.2) ∈ C) = decide (l1.getD i z3 ∈ C) := rfl
        have hY2 : decide (((l1.getD (i + 1) (0, 0, 0)).1, (l1.getD (i + 1) (0, 0, 0)).2.1, (l1.getD (i + 1) (0, 0, 0)).2.2) ∈ C) = decide (l1.getD (i + 1) z3 ∈ C) := rfl
        generalize decide (l1.getD i z3 ∈ C) = X at *
        generalize decide (l1.getD (i + 1) z3 ∈ C) = Y at *
        cases X
        · rw [Bool.false_and] at hcd
          repeat' (first | with_reducible refine iteI (fun _ => ?_) (fun _ => ?_) | ((first | unfold AOpsC | unfold AOpsD | skip); simp (maxSteps := 1000000) (disch := (first | omega | assumption | (simp only [List.length_append, List.length_cons, List.length_nil, List.length_set]; omega))) only [go_sem, Sp53, SMay, pp, w0, D1, O1, hlv1, keyOk_kV, hasK_3, hX1, hX2, hY1, hY2, t0, t7, t9, l16]))
          refine ⟨⟨i + 1, _, c0, c1, c2, u0, u1, u2, _, _, _, g0, g1, g2, by rw [g3, hcd, if_neg Bool.false_ne_true], by omega, rfl, by simp [upd, t0, t7, t9], by simp [upd, t0, t7, t9], by simp [upd, t0, t7, t9], by simp [upd, l16], rfl⟩, by (simp [muAp, upd, t9, pp]) <;> omega⟩
        cases Y
        · rw [Bool.false_and, Bool.and_false] at hcd
          repeat' (first | with_reducible refine iteI (fun _ => ?_) (fun _ => ?_) | ((first | unfold AOpsC | unfold AOpsD | skip); simp (maxSteps := 1000000) (disch := (first | omega | assumption | (simp only [List.length_append, List.length_cons, List.length_nil, List.length_set]; omega))) only [go_sem, Sp53, SMay, pp, w0, D1, O1, hlv1, keyOk_kV, hasK_3, hX1, hX2, hY1, hY2, t0, t7, t9, l16]))
          refine ⟨⟨i + 1, _, c0, c1, c2, u0, u1, u2, _, _, _, g0, g1, g2, by rw [g3, hcd, if_neg Bool.false_ne_true], by omega, rfl, by simp [upd, t0, t7, t9], by simp [upd, t0, t7, t9], by simp [upd, t0, t7, t9], by simp [upd, l16], rfl⟩, by (simp [muAp, upd, t9, pp]) <;> omega⟩
        cases q5 : mayC l1 i
        · rw [q5, Bool.and_false, Bool.and_false] at hcd
          repeat' (first | with_reducible refine iteI (fun _ => ?_) (fun _ => ?_) | ((first | unfold AOpsC | unfold AOpsD | skip); simp (maxSteps := 1000000) (disch := (first | omega | assumption | (simp only [List.length_append, List.length_cons, List.length_nil, List.length_set]; omega))) only [go_sem, Sp53, SMay, pp, w0, D1, O1, hlv1, keyOk_kV, hasK_3, hX1, hX2, hY1, hY2, q5, t0, t7, t9, l16]))
          refine ⟨⟨i + 1, _, c0, c1, c2, u0, u1, u2, _, _, _, g0, g1, g2, by rw [g3, hcd, if_neg Bool.false_ne_true], by omega, rfl, by simp [upd, t0, t7, t9], by simp [upd, t0, t7, t9], by simp [upd, t0, t7, t9], by simp [upd, l16], rfl⟩, by (simp [muAp, upd, t9, pp]) <;> omega⟩
        rw [q5] at hcd
        repeat' (first | with_reducible refine iteI (fun _ => ?_) (fun _ => ?_) | ((first | unfold AOpsC | unfold AOpsD | skip); simp (maxSteps := 1000000) (disch := (first | omega | assumption | (simp only [List.length_append, List.length_cons, List.length_nil, List.length_set]; omega))) only [go_sem, Sp53, SMay, pp, w0, D1, O1, hlv1, keyOk_kV, hasK_3, hX1, hX2, hY1, hY2, q5, t0, t7, t9, l16]))
        unfold SSco
        refine ⟨n, r, c0, c1, c2, b3, u0, u1, u2, v3, l1, ms1, ts1, bs, i, False, 0, ⟨hn, rfl, GQ.no⟩, g0, ⟨hC1, by omega, hlt, may_par q5⟩, fun G d0 d1 d2 y0 y1 y2 hG kG _ => ?_⟩
        have hml := mrgL_len hlt
        have pp2 := hG.pb
        repeat' (first | with_reducible refine iteI (fun _ => ?_) (fun _ => ?_) | ((first | unfold AOpsC | unfold AOpsD | skip); simp (maxSteps := 1000000) (disch := (first | omega | assumption | (simp only [List.length_append, List.length_cons, List.length_nil, List.length_set]; omega))) only [go_sem, Sp53, SMay, t0, t7, t9, l16]))
        refine ⟨⟨i + 1, G, d0, d1, d2, y0, y1, y2, _, _, _, hG, g1.trans kG, mrg_ok g2 hlt q5, by rw [g3, if_pos (show cdA _ _ _ = true from hcd)], by omega, rfl, by simp [upd, t0, t7, t9], by simp [upd, t0, t7, t9], by simp [upd, t0, t7, t9], by simp [upd, l16], rfl⟩, by (simp [muAp, upd, t9, pp, pp2, hml]) <;> omega⟩
      · rw [mgR_end hlt] at g3
        rw [g3] at hK
        repeat' (first | with_reducible refine iteI (fun _ => ?_) (fun _ => ?_) | ((first | unfold AOpsC | unfold AOpsD | skip); simp (maxSteps := 1000000) (disch := (first | omega | assumption | (simp only [List.length_append, List.length_cons, List.length_nil, List.length_set]; omega))) only [go_sem, Sp53, SMay, pp, w0, t0, t7, t9, l16]))
        exact hK _ _ _ _ _ _ _ g0 g1
  · exact h.elim

end Go.Proofs.YtaalpmbopkbdiaaGreat
