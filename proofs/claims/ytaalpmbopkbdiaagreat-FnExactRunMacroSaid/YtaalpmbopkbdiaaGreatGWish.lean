/- What functions of the program compute, said in the abstract logic; no conditions. -/
import Derived.Test.YtaalpmbopkbdiaaGreatGNb

namespace Go.Proofs.YtaalpmbopkbdiaaGreat
open Go
set_option linter.unusedSimpArgs false
set_option linter.unusedVariables false
set_option maxRecDepth 100000
set_option maxHeartbeats 8000000
attribute [local go_sem] st0 AC thenA andC locLoadB KsSW_same KsSW_grow oldLoadB noBlkB KsSL_same KsOS_same KsOS_grow pv ev put upd dstOk cv cvc binI setB Value.oneCell' EndA resA resA1 List.mapM_cons List.mapM_nil Option.pure_def Option.bind_eq_bind noLocV noLoc1 noLoc noLocs plainV cellsA newVarA putCells condA lam0 inBlockA cur lenA rowA writeA dstA appendC appendZ mapPut mapGet avoidsB avoidB clearB Array.toList_append Op.operands Call.operands newSlot Nat.zero_add Nat.add_zero Nat.succ_ne_self Nat.lt_add_one Nat.zero_lt_succ true_and and_true true_or or_true false_or or_false and_self true_implies forall_const Bool.false_eq_true Bool.true_eq_false false_implies implies_true imp_self ne_eq not_false_eq_true not_true_eq_false false_and and_false List.getElem?_toArray List.getElem?_cons_succ List.getElem?_cons_zero Option.bind_some Option.map_some Bool.not_true Bool.not_false List.getD_cons_zero List.getD_cons_succ Option.some.injEq exists_eq_left' AV.bool.injEq List.map_cons List.map_nil List.all_cons List.all_nil Bool.and_self Bool.and_true Bool.true_and List.append_nil List.cons_append List.nil_append List.length_cons List.length_nil List.drop_zero List.take_zero List.drop_succ_cons List.take_succ_cons List.take_nil List.drop_nil List.not_mem_nil List.mem_cons List.contains_nil List.contains_cons Bool.or_self Bool.or_true Bool.true_or Bool.false_or Bool.or_false Bool.and_false Bool.false_and KsS_same KsS_grow skipV KsS_ext KsSW_ext KsOS_ext rep1 rep2 rep3 rep4 rep5 List.flatten_cons List.flatten_nil partsA isPtr fillA List.size_toArray ltT ltF leT leF ltTn ltFn leTn leFn eqTi eqFi wrapId toNat1 intGet boolGet memD app_get app_last app_lst app_set app_setL app_setF set_ne set_eq gt_iff_lt ge_iff_le decide_eq_true_eq len2 len3 get20 get21 drop2 put2 get30 get31 get32 drop3 put3 putI pairEta bneTi bneFi beqTi beqFi bne_eq_false_iff_eq beq_eq_false_iff_ne beq_iff_eq bne_iff_ne Int.toNat_natCast Nat.mul_one List.length_map Bool.not_eq_true Bool.not_eq_false Bool.decide_eq_true decide_true decide_false Bool.not_eq_true' Bool.not_eq_false' decide_eq_false_iff_not eq_self Decidable.not_not
attribute [local go_sem ↓] skipC exitC retC seqC blockC condC regC drawC drawStep AOpC AOpF AOpE AEff contE_at contC_at keepC_at keepW_at keepO_at keepL_at map_parts
attribute [local go_sem] reduceCtorEq Nat.reduceLT Nat.reduceEqDiff Nat.reduceAdd Nat.reduceMul Nat.reduceLeDiff Nat.reduceSub Nat.reduceBEq Nat.reduceBNe Nat.reduceBneDiff Nat.reduceBeqDiff
attribute [local go_sem ↓] reduceIte
attribute [local go_sem] ag_25 ag_3 ag_30 ag_34 ag_69 by_25 by_3 by_30 by_34 by_69 el_25 el_30 en_3 fi_32_1 fi_34_0 fi_34_1 fi_69_1 in_3 nf_34 nf_69 pl_34 pl_69 ps_34 ps_69 sz_25 sz_3 sz_30 sz_34 sz_69 ze_25 ze_3 ze_30 ze_34 ze_69

def wshI (l : List Id3) (ms bs : List Int) (hi lo : Int) (i : Nat) : Int :=
  if hi < jumpI l ms bs i ∧ (l.getD i (0, 0, 0)).2.1 < 4 then 1 else if jumpI l ms bs i < lo ∧ 0 < (l.getD i (0, 0, 0)).2.1 then -1 else 0
def wshN (l : List Id3) (ms bs : List Int) (hi lo : Int) (n : Nat) : List Int := (List.range n).map (wshI l ms bs hi lo)
theorem wshN_succ (l : List Id3) (ms bs : List Int) (hi lo : Int) (n : Nat) : wshN l ms bs hi lo (n + 1) = wshN l ms bs hi lo n ++ [wshI l ms bs hi lo n] := by simp [wshN, List.range_succ]
theorem wshN_len (l : List Id3) (ms bs : List Int) (hi lo : Int) (n : Nat) : (wshN l ms bs hi lo n).length = n := by simp [wshN]
def wshR (r : Int) (l : List Id3) (ms ts bs : List Int) (hi lo : Int) : List Int := if okB r l ms ts bs = true then wshN l ms bs hi lo l.length else []
def SWishS : List AV → List Blk → (AV → List Blk → Prop) → Prop
  | [.agg [.int .i64 r, v, a, b, c], .int .i64 y0, .int .i64 y1], η, K => ((ok3 69 η v ∧ okI η a ∧ okI η b ∧ okI η c) ∧ okB r (dec3 69 η v) (decI η a) (decI η b) (decI η c) = true) ∧ ∀ H u, NewI η.length H u (wshN (dec3 69 η v) (decI η a) (decI η c) y0 y1 (dec3 69 η v).length) → Ext η H → K u H
  | _, _, _ => False

def SWish : List AV → List Blk → (AV → List Blk → Prop) → Prop
  | [.agg [.int .i64 r, v, a, b, c], .int .i64 y0, .int .i64 y1], η, K => (ok3 69 η v ∧ okI η a ∧ okI η b ∧ okI η c) ∧ ∀ H u, NewI η.length H u (wshR r (dec3 69 η v) (decI η a) (decI η b) (decI η c) y0 y1) → Ext η H → K u H
  | _, _, _ => False

def invWsS (η : List Blk) (r : Int) (l : List Id3) (v a b c : AV) (ms ts bs : List Int) (hi lw : Int) (st : St) : Prop := ∃ i : Nat, ∃ H : List Blk, ∃ bl : Nat, ∃ wer : Nat, (i ≤ l.length) ∧ (Ext η H) ∧ (η.length ≤ bl) ∧ (H[bl]? = some ⟨wer, 3, 1, (wshN l ms bs hi lw i).map (.int .i64)⟩) ∧ st.n = 53 ∧ st.τ 1 = .int .i64 hi ∧ st.τ 2 = .int .i64 lw ∧ st.τ 3 = .loc 3 1 0 ∧ st.τ 7 = .sl bl wer 0 (wshN l ms bs hi lw i).length ∧ st.τ 8 = .int .i64 i ∧ st.lam 3 = ⟨1, [.int .i64 r, v, a, b, c]⟩ ∧ st.η = H

/- spec.l16Wishes -/
def Sp87 (lo : Nat) : Spec := fun g args η K => match g with | 126 => SJump args η K | _ => False
theorem Sp87_ok {lo : Nat} : Sound Tryz.prog lo (Sp87 lo) := by
  intro g args η K h
  unfold Sp87 at h
  split at h
  · exact .inl (f126_ok h)
  · exact h.elim
theorem f87_ok {lo : Nat} {args : List AV} {η : List Blk} {K : AV → List Blk → Prop} (h : SWishS args η K) : AF Tryz.prog lo 87 args η K := by
  unfold SWishS at h
  split at h
  · obtain ⟨⟨⟨⟨l, hr, hl⟩, ⟨ms, ha, hla⟩, ⟨ts, hb, hlb⟩, ⟨bs, hc, hlc⟩⟩, e1⟩, hK⟩ := h
    rename_i r _ _ _ _ hi lw
    rw [hr.dec3, ha.dec, hb.dec, hc.dec] at e1
    have d1 := hr.dec3
    have d2 := ha.dec
    have d3 := hb.dec
    have d4 := hc.dec
    have o1 : ok3 69 _ _ := ⟨l, hr, hl⟩
    have o2 : okI _ _ := ⟨ms, ha, hla⟩
    have o3 : okI _ _ := ⟨ts, hb, hlb⟩
    have o4 : okI _ _ := ⟨bs, hc, hlc⟩
    simp only [d1, d2, d3, d4] at hK
    have hr' := hr
    have ha' := ha
    have hb' := hb
    have hc' := hc
    obtain ⟨b0, v0, rfl, hb0⟩ := hr'
    obtain ⟨b1, v1, rfl, hb1⟩ := ha'
    obtain ⟨b2, v2, rfl, hb2⟩ := hb'
    obtain ⟨b3, v3, rfl, hb3⟩ := hc'
    refine AF_run Sp87_ok D0 [] [.tmp 6] hm Tryz.func87 rfl (by decide) Tryz.ntmps87 rfl (by kernel_rfl) (Nat.le_of_ble_eq_true rfl) ?_; intro hlo
    obtain ⟨k1, k2, k3, k4, k5, k6, k7, k8⟩ := okT e1
    repeat' (first | with_reducible refine iteI (fun _ => ?_) (fun _ => ?_) | ((first | unfold AOpsC | unfold AOpsD | skip); simp (maxSteps := 1000000) (disch := (first | omega | assumption | (simp only [List.length_append, List.length_cons, List.length_nil, List.length_set]; omega))) only [go_sem, Sp87, hb0, hb1, hb2, hb3, d1, d2, d3, d4, o1, o2, o3, o4, e1]))
    refine ⟨invWsS η r l (.sl b0 v0 0 l.length) (.sl b1 v1 0 ms.length) (.sl b2 v2 0 ts.length) (.sl b3 v3 0 bs.length) ms ts bs hi lw, fun st => ctr l.length st 8, .inr ⟨7, 3, 1, Nat.le_of_ble_eq_true rfl, rfl, 0, _, η.length, 0, Nat.zero_le _, (Ext.refl η).app _, Nat.le_refl _, by simp [RecE, wshN], rfl, by simp [RecE, upd, wshN], by simp [RecE, upd, wshN], by simp [RecE, upd, wshN], by simp [RecE, upd, wshN], by simp [RecE, upd, wshN], by simp [RecE, upd], rfl⟩, ?_⟩
    rintro ⟨n, τ, lam, η'⟩ ⟨i, H, bl, wer, g0, g1, g2, g3, hn, t1, t2, t3, t7, t8, l3, hη⟩; simp only at hn t1 t2 t3 t7 t8 l3 hη; subst hn hη
    have w0 := g1.blk hb0
    have w1 := g1.blk hb1
    have w2 := g1.blk hb2
    have w3 := g1.blk hb3
    have D1 : dec3 69 η' (.sl b0 v0 0 l.length) = l := IsR.dec3 ⟨b0, v0, rfl, w0⟩
    have D2 : decI η' (.sl b1 v1 0 ms.length) = ms := IsI.dec ⟨b1, v1, rfl, w1⟩
    have D3 : decI η' (.sl b2 v2 0 ts.length) = ts := IsI.dec ⟨b2, v2, rfl, w2⟩
    have D4 : decI η' (.sl b3 v3 0 bs.length) = bs := IsI.dec ⟨b3, v3, rfl, w3⟩
    have O1 : ok3 69 η' (.sl b0 v0 0 l.length) := ⟨l, ⟨b0, v0, rfl, w0⟩, hl⟩
    have O2 : okI η' (.sl b1 v1 0 ms.length) := ⟨ms, ⟨b1, v1, rfl, w1⟩, hla⟩
    have O3 : okI η' (.sl b2 v2 0 ts.length) := ⟨ts, ⟨b2, v2, rfl, w2⟩, hlb⟩
    have O4 : okI η' (.sl b3 v3 0 bs.length) := ⟨bs, ⟨b3, v3, rfl, w3⟩, hlc⟩
    have hHl := blt g3
    have hal := wshN_len l ms bs hi lw i
    by_cases hlt : i < l.length
    · by_cases c0 : hi < jumpI l ms bs i ∧ (l.getD i (0, 0, 0)).2.1 < 4
      · have c1 := c0.1
        have c2 := c0.2
        have hac : wshN l ms bs hi lw (i + 1) = wshN l ms bs hi lw i ++ [1] := by rw [wshN_succ, wshI, if_pos c0]
        repeat' (first | with_reducible refine iteI (fun _ => ?_) (fun _ => ?_) | ((first | unfold AOpsC | unfold AOpsD | skip); simp (maxSteps := 1000000) (disch := (first | omega | assumption | (simp only [List.length_append, List.length_cons, List.length_nil, List.length_set]; omega))) only [go_sem, Sp87, w0, w1, w2, w3, D1, D2, D3, D4, O1, O2, O3, O4, t1, t2, t3, t7, t8, l3, e1]))
        unfold SJump
        simp only [w0, w1, w2, w3, D1, D2, D3, D4, O1, O2, O3, O4]
        refine ⟨⟨⟨trivial, trivial, trivial, trivial⟩, e1, by omega, by omega⟩, fun H2 x2 => ?_⟩
        rw [Int.toNat_natCast]
        have q3 := x2.blk g3
        have q0 := x2.blk w0
        have q1 := x2.blk w1
        have hq := blt q3
        repeat' (first | with_reducible refine iteI (fun _ => ?_) (fun _ => ?_) | ((first | unfold AOpsC | unfold AOpsD | skip); simp (maxSteps := 1000000) (disch := (first | omega | assumption | (simp only [List.length_append, List.length_cons, List.length_nil, List.length_set]; omega))) only [go_sem, Sp87, c1, c2, q0, q1, q3, t1, t2, t3, t7, t8, l3, takeMap]))
        refine ⟨⟨i + 1, _, bl, wer + 1, by omega, ((g1.trans x2).set g2 _).app _, g2, by rw [hac, app_get (by simpa using hq), set_eq hq]; simp, rfl, by simp [upd, t1, t2, t3, t7, t8, hac], by simp [upd, t1, t2, t3, t7, t8, hac], by simp [upd, t1, t2, t3, t7, t8, hac], by simp [upd, t1, t2, t3, t7, t8, hac], by simp [upd, t1, t2, t3, t7, t8, hac], by simp [upd, l3], rfl⟩, by simp [ctr, upd, t8]; omega⟩
      by_cases d0 : jumpI l ms bs i < lw ∧ 0 < (l.getD i (0, 0, 0)).2.1
      · have f1 := d0.1
        have f2 := d0.2
        by_cases c1 : hi < jumpI l ms bs i
        · have c2 : ¬ (l.getD i (0, 0, 0)).2.1 < 4 := fun e => c0 ⟨c1, e⟩
          have hac : wshN l ms bs hi lw (i + 1) = wshN l ms bs hi lw i ++ [-1] := by rw [wshN_succ, wshI, if_neg c0, if_pos d0]
          repeat' (first | with_reducible refine iteI (fun _ => ?_) (fun _ => ?_) | ((first | unfold AOpsC | unfold AOpsD | skip); simp (maxSteps := 1000000) (disch := (first | omega | assumption | (simp only [List.length_append, List.length_cons, List.length_nil, List.length_set]; omega))) only [go_sem, Sp87, w0, w1, w2, w3, D1, D2, D3, D4, O1, O2, O3, O4, t1, t2, t3, t7, t8, l3, e1]))
          unfold SJump
          simp only [w0, w1, w2, w3, D1, D2, D3, D4, O1, O2, O3, O4]
          refine ⟨⟨⟨trivial, trivial, trivial, trivial⟩, e1, by omega, by omega⟩, fun H2 x2 => ?_⟩
          rw [Int.toNat_natCast]
          have q3 := x2.blk g3
          have q0 := x2.blk w0
          have q1 := x2.blk w1
          have hq := blt q3
          repeat' (first | with_reducible refine iteI (fun _ => ?_) (fun _ => ?_) | ((first | unfold AOpsC | unfold AOpsD | skip); simp (maxSteps := 1000000) (disch := (first | omega | assumption | (simp only [List.length_append, List.length_cons, List.length_nil, List.length_set]; omega))) only [go_sem, Sp87, c1, c2, f1, f2, q0, q1, q3, t1, t2, t3, t7, t8, l3, takeMap]))
          refine ⟨⟨i + 1, _, bl, wer + 1, by omega, ((g1.trans x2).set g2 _).app _, g2, by rw [hac, app_get (by simpa using hq), set_eq hq]; simp, rfl, by simp [upd, t1, t2, t3, t7, t8, hac], by simp [upd, t1, t2, t3, t7, t8, hac], by simp [upd, t1, t2, t3, t7, t8, hac], by simp [upd, t1, t2, t3, t7, t8, hac], by simp [upd, t1, t2, t3, t7, t8, hac], by simp [upd, l3], rfl⟩, by simp [ctr, upd, t8]; omega⟩
        · skip
          have hac : wshN l ms bs hi lw (i + 1) = wshN l ms bs hi lw i ++ [-1] := by rw [wshN_succ, wshI, if_neg c0, if_pos d0]
          repeat' (first | with_reducible refine iteI (fun _ => ?_) (fun _ => ?_) | ((first | unfold AOpsC | unfold AOpsD | skip); simp (maxSteps := 1000000) (disch := (first | omega | assumption | (simp only [List.length_append, List.length_cons, List.length_nil, List.length_set]; omega))) only [go_sem, Sp87, w0, w1, w2, w3, D1, D2, D3, D4, O1, O2, O3, O4, t1, t2, t3, t7, t8, l3, e1]))
          unfold SJump
          simp only [w0, w1, w2, w3, D1, D2, D3, D4, O1, O2, O3, O4]
          refine ⟨⟨⟨trivial, trivial, trivial, trivial⟩, e1, by omega, by omega⟩, fun H2 x2 => ?_⟩
          rw [Int.toNat_natCast]
          have q3 := x2.blk g3
          have q0 := x2.blk w0
          have q1 := x2.blk w1
          have hq := blt q3
          repeat' (first | with_reducible refine iteI (fun _ => ?_) (fun _ => ?_) | ((first | unfold AOpsC | unfold AOpsD | skip); simp (maxSteps := 1000000) (disch := (first | omega | assumption | (simp only [List.length_append, List.length_cons, List.length_nil, List.length_set]; omega))) only [go_sem, Sp87, c1, f1, f2, q0, q1, q3, t1, t2, t3, t7, t8, l3, takeMap]))
          refine ⟨⟨i + 1, _, bl, wer + 1, by omega, ((g1.trans x2).set g2 _).app _, g2, by rw [hac, app_get (by simpa using hq), set_eq hq]; simp, rfl, by simp [upd, t1, t2, t3, t7, t8, hac], by simp [upd, t1, t2, t3, t7, t8, hac], by simp [upd, t1, t2, t3, t7, t8, hac], by simp [upd, t1, t2, t3, t7, t8, hac], by simp [upd, t1, t2, t3, t7, t8, hac], by simp [upd, l3], rfl⟩, by simp [ctr, upd, t8]; omega⟩
      · by_cases c1 : hi < jumpI l ms bs i
        · have c2 : ¬ (l.getD i (0, 0, 0)).2.1 < 4 := fun e => c0 ⟨c1, e⟩
          by_cases f1 : jumpI l ms bs i < lw
          · have f2 : ¬ 0 < (l.getD i (0, 0, 0)).2.1 := fun e => d0 ⟨f1, e⟩
            omega
          · skip
            have hac : wshN l ms bs hi lw (i + 1) = wshN l ms bs hi lw i ++ [0] := by rw [wshN_succ, wshI, if_neg c0, if_neg d0]
            repeat' (first | with_reducible refine iteI (fun _ => ?_) (fun _ => ?_) | ((first | unfold AOpsC | unfold AOpsD | skip); simp (maxSteps := 1000000) (disch := (first | omega | assumption | (simp only [List.length_append, List.length_cons, List.length_nil, List.length_set]; omega))) only [go_sem, Sp87, w0, w1, w2, w3, D1, D2, D3, D4, O1, O2, O3, O4, t1, t2, t3, t7, t8, l3, e1]))
            unfold SJump
            simp only [w0, w1, w2, w3, D1, D2, D3, D4, O1, O2, O3, O4]
            refine ⟨⟨⟨trivial, trivial, trivial, trivial⟩, e1, by omega, by omega⟩, fun H2 x2 => ?_⟩
            rw [Int.toNat_natCast]
            have q3 := x2.blk g3
            have q0 := x2.blk w0
            have q1 := x2.blk w1
            have hq := blt q3
            repeat' (first | with_reducible refine iteI (fun _ => ?_) (fun _ => ?_) | ((first | unfold AOpsC | unfold AOpsD | skip); simp (maxSteps := 1000000) (disch := (first | omega | assumption | (simp only [List.length_append, List.length_cons, List.length_nil, List.length_set]; omega))) only [go_sem, Sp87, c1, c2, f1, q0, q1, q3, t1, t2, t3, t7, t8, l3, takeMap]))
            refine ⟨⟨i + 1, _, bl, wer + 1, by omega, ((g1.trans x2).set g2 _).app _, g2, by rw [hac, app_get (by simpa using hq), set_eq hq]; simp, rfl, by simp [upd, t1, t2, t3, t7, t8, hac], by simp [upd, t1, t2, t3, t7, t8, hac], by simp [upd, t1, t2, t3, t7, t8, hac], by simp [upd, t1, t2, t3, t7, t8, hac], by simp [upd, t1, t2, t3, t7, t8, hac], by simp [upd, l3], rfl⟩, by simp [ctr, upd, t8]; omega⟩
        · by_cases f1 : jumpI l ms bs i < lw
          · have f2 : ¬ 0 < (l.getD i (0, 0, 0)).2.1 := fun e => d0 ⟨f1, e⟩
            have hac : wshN l ms bs hi lw (i + 1) = wshN l ms bs hi lw i ++ [0] := by rw [wshN_succ, wshI, if_neg c0, if_neg d0]
            repeat' (first | with_reducible refine iteI (fun _ => ?_) (fun _ => ?_) | ((first | unfold AOpsC | unfold AOpsD | skip); simp (maxSteps := 1000000) (disch := (first | omega | assumption | (simp only [List.length_append, List.length_cons, List.length_nil, List.length_set]; omega))) only [go_sem, Sp87, w0, w1, w2, w3, D1, D2, D3, D4, O1, O2, O3, O4, t1, t2, t3, t7, t8, l3, e1]))
            unfold SJump
            simp only [w0, w1, w2, w3, D1, D2, D3, D4, O1, O2, O3, O4]
            refine ⟨⟨⟨trivial, trivial, trivial, trivial⟩, e1, by omega, by omega⟩, fun H2 x2 => ?_⟩
            rw [Int.toNat_natCast]
            have q3 := x2.blk g3
            have q0 := x2.blk w0
            have q1 := x2.blk w1
            have hq := blt q3
            repeat' (first | with_reducible refine iteI (fun _ => ?_) (fun _ => ?_) | ((first | unfold AOpsC | unfold AOpsD | skip); simp (maxSteps := 1000000) (disch := (first | omega | assumption | (simp only [List.length_append, List.length_cons, List.length_nil, List.length_set]; omega))) only [go_sem, Sp87, c1, f1, f2, q0, q1, q3, t1, t2, t3, t7, t8, l3, takeMap]))
            refine ⟨⟨i + 1, _, bl, wer + 1, by omega, ((g1.trans x2).set g2 _).app _, g2, by rw [hac, app_get (by simpa using hq), set_eq hq]; simp, rfl, by simp [upd, t1, t2, t3, t7, t8, hac], by simp [upd, t1, t2, t3, t7, t8, hac], by simp [upd, t1, t2, t3, t7, t8, hac], by simp [upd, t1, t2, t3, t7, t8, hac], by simp [upd, t1, t2, t3, t7, t8, hac], by simp [upd, l3], rfl⟩, by simp [ctr, upd, t8]; omega⟩
          · skip
            have hac : wshN l ms bs hi lw (i + 1) = wshN l ms bs hi lw i ++ [0] := by rw [wshN_succ, wshI, if_neg c0, if_neg d0]
            repeat' (first | with_reducible refine iteI (fun _ => ?_) (fun _ => ?_) | ((first | unfold AOpsC | unfold AOpsD | skip); simp (maxSteps := 1000000) (disch := (first | omega | assumption | (simp only [List.length_append, List.length_cons, List.length_nil, List.length_set]; omega))) only [go_sem, Sp87, w0, w1, w2, w3, D1, D2, D3, D4, O1, O2, O3, O4, t1, t2, t3, t7, t8, l3, e1]))
            unfold SJump
            simp only [w0, w1, w2, w3, D1, D2, D3, D4, O1, O2, O3, O4]
            refine ⟨⟨⟨trivial, trivial, trivial, trivial⟩, e1, by omega, by omega⟩, fun H2 x2 => ?_⟩
            rw [Int.toNat_natCast]
            have q3 := x2.blk g3
            have q0 := x2.blk w0
            have q1 := x2.blk w1
            have hq := blt q3
            repeat' (first | with_reducible refine iteI (fun _ => ?_) (fun _ => ?_) | ((first | unfold AOpsC | unfold AOpsD | skip); simp (maxSteps := 1000000) (disch := (first | omega | assumption | (simp only [List.length_append, List.length_cons, List.length_nil, List.length_set]; omega))) only [go_sem, Sp87, c1, f1, q0, q1, q3, t1, t2, t3, t7, t8, l3, takeMap]))
            refine ⟨⟨i + 1, _, bl, wer + 1, by omega, ((g1.trans x2).set g2 _).app _, g2, by rw [hac, app_get (by simpa using hq), set_eq hq]; simp, rfl, by simp [upd, t1, t2, t3, t7, t8, hac], by simp [upd, t1, t2, t3, t7, t8, hac], by simp [upd, t1, t2, t3, t7, t8, hac], by simp [upd, t1, t2, t3, t7, t8, hac], by simp [upd, t1, t2, t3, t7, t8, hac], by simp [upd, l3], rfl⟩, by simp [ctr, upd, t8]; omega⟩
    · obtain rfl : i = l.length := by omega
      repeat' (first | with_reducible refine iteI (fun _ => ?_) (fun _ => ?_) | ((first | unfold AOpsC | unfold AOpsD | skip); simp (maxSteps := 1000000) (disch := (first | omega | assumption | (simp only [List.length_append, List.length_cons, List.length_nil, List.length_set]; omega))) only [go_sem, Sp87, w0, w1, w2, w3, D1, D2, D3, D4, O1, O2, O3, O4, t1, t2, t3, t7, t8, l3]))
      exact hK _ _ (NewI.mk g2 g3) g1
  · exact h.elim

def invWsI (η : List Blk) (r : Int) (l : List Id3) (v a b c : AV) (ms ts bs : List Int) (hi lw : Int) (st : St) : Prop := ∃ i : Nat, ∃ H : List Blk, ∃ bl : Nat, ∃ wer : Nat, (i ≤ l.length) ∧ (Ext η H) ∧ (η.length ≤ bl) ∧ (H[bl]? = some ⟨wer, 3, 1, (wshN l ms bs hi lw i).map (.int .i64)⟩) ∧ st.n = 52 ∧ st.τ 1 = .int .i64 hi ∧ st.τ 2 = .int .i64 lw ∧ st.τ 3 = .loc 3 1 0 ∧ st.τ 7 = .sl bl wer 0 (wshN l ms bs hi lw i).length ∧ st.τ 18 = v ∧ st.τ 19 = .int .i64 l.length ∧ st.τ 20 = .int .i64 i ∧ st.lam 3 = ⟨1, [.int .i64 r, v, a, b, c]⟩ ∧ st.η = H

/- impl.Wishes -/
def Sp90 (lo : Nat) : Spec := fun g args η K => match g with | 39 => SOk args η K | 129 => SJump args η K | _ => False
theorem Sp90_ok {lo : Nat} : Sound Tryz.prog lo (Sp90 lo) := by
  intro g args η K h
  unfold Sp90 at h
  split at h
  · exact .inl (f39_ok h)
  · exact .inl (f129_ok h)
  · exact h.elim
theorem f90_ok {lo : Nat} {args : List AV} {η : List Blk} {K : AV → List Blk → Prop} (h : SWish args η K) : AF Tryz.prog lo 90 args η K := by
  unfold SWish at h
  split at h
  · obtain ⟨⟨⟨l, hr, hl⟩, ⟨ms, ha, hla⟩, ⟨ts, hb, hlb⟩, ⟨bs, hc, hlc⟩⟩, hK⟩ := h
    rename_i r _ _ _ _ hi lw
    have d1 := hr.dec3
    have d2 := ha.dec
    have d3 := hb.dec
    have d4 := hc.dec
    have o1 : ok3 69 _ _ := ⟨l, hr, hl⟩
    have o2 : okI _ _ := ⟨ms, ha, hla⟩
    have o3 : okI _ _ := ⟨ts, hb, hlb⟩
    have o4 : okI _ _ := ⟨bs, hc, hlc⟩
    simp only [d1, d2, d3, d4] at hK
    have hr' := hr
    have ha' := ha
    have hb' := hb
    have hc' := hc
    obtain ⟨b0, v0, rfl, hb0⟩ := hr'
    obtain ⟨b1, v1, rfl, hb1⟩ := ha'
    obtain ⟨b2, v2, rfl, hb2⟩ := hb'
    obtain ⟨b3, v3, rfl, hb3⟩ := hc'
    refine AF_run Sp90_ok D0 [] [.tmp 6] hm Tryz.func90 rfl (by decide) Tryz.ntmps90 rfl (by kernel_rfl) (Nat.le_of_ble_eq_true rfl) ?_; intro hlo
    cases e1 : okB r l ms ts bs
    · repeat' (first | with_reducible refine iteI (fun _ => ?_) (fun _ => ?_) | ((first | unfold AOpsC | unfold AOpsD | skip); simp (maxSteps := 1000000) (disch := (first | omega | assumption | (simp only [List.length_append, List.length_cons, List.length_nil, List.length_set]; omega))) only [go_sem, Sp90, SOk, hb0, hb1, hb2, hb3, d1, d2, d3, d4, o1, o2, o3, o4, e1]))
      exact hK _ _ ((NewI.nil _ _).eq (by simp [wshR, e1])) (Ext.refl _)
    obtain ⟨k1, k2, k3, k4, k5, k6, k7, k8⟩ := okT e1
    repeat' (first | with_reducible refine iteI (fun _ => ?_) (fun _ => ?_) | ((first | unfold AOpsC | unfold AOpsD | skip); simp (maxSteps := 1000000) (disch := (first | omega | assumption | (simp only [List.length_append, List.length_cons, List.length_nil, List.length_set]; omega))) only [go_sem, Sp90, SOk, hb0, hb1, hb2, hb3, d1, d2, d3, d4, o1, o2, o3, o4, e1]))
    refine ⟨invWsI η r l (.sl b0 v0 0 l.length) (.sl b1 v1 0 ms.length) (.sl b2 v2 0 ts.length) (.sl b3 v3 0 bs.length) ms ts bs hi lw, fun st => ctr l.length st 20, .inr ⟨7, 3, 1, Nat.le_of_ble_eq_true rfl, rfl, 0, _, η.length, 0, Nat.zero_le _, (Ext.refl η).app _, Nat.le_refl _, by simp [RecE, wshN], rfl, by simp [RecE, upd, wshN], by simp [RecE, upd, wshN], by simp [RecE, upd, wshN], by simp [RecE, upd, wshN], by simp [RecE, upd, wshN], by simp [RecE, upd, wshN], by simp [RecE, upd, wshN], by simp [RecE, upd], rfl⟩, ?_⟩
    rintro ⟨n, τ, lam, η'⟩ ⟨i, H, bl, wer, g0, g1, g2, g3, hn, t1, t2, t3, t7, t18, t19, t20, l3, hη⟩; simp only at hn t1 t2 t3 t7 t18 t19 t20 l3 hη; subst hn hη
    have w0 := g1.blk hb0
    have w1 := g1.blk hb1
    have w2 := g1.blk hb2
    have w3 := g1.blk hb3
    have D1 : dec3 69 η' (.sl b0 v0 0 l.length) = l := IsR.dec3 ⟨b0, v0, rfl, w0⟩
    have D2 : decI η' (.sl b1 v1 0 ms.length) = ms := IsI.dec ⟨b1, v1, rfl, w1⟩
    have D3 : decI η' (.sl b2 v2 0 ts.length) = ts := IsI.dec ⟨b2, v2, rfl, w2⟩
    have D4 : decI η' (.sl b3 v3 0 bs.length) = bs := IsI.dec ⟨b3, v3, rfl, w3⟩
    have O1 : ok3 69 η' (.sl b0 v0 0 l.length) := ⟨l, ⟨b0, v0, rfl, w0⟩, hl⟩
    have O2 : okI η' (.sl b1 v1 0 ms.length) := ⟨ms, ⟨b1, v1, rfl, w1⟩, hla⟩
    have O3 : okI η' (.sl b2 v2 0 ts.length) := ⟨ts, ⟨b2, v2, rfl, w2⟩, hlb⟩
    have O4 : okI η' (.sl b3 v3 0 bs.length) := ⟨bs, ⟨b3, v3, rfl, w3⟩, hlc⟩
    have hHl := blt g3
    have hal := wshN_len l ms bs hi lw i
    by_cases hlt : i < l.length
    · by_cases c0 : hi < jumpI l ms bs i ∧ (l.getD i (0, 0, 0)).2.1 < 4
      · have c1 := c0.1
        have c2 := c0.2
        have hac : wshN l ms bs hi lw (i + 1) = wshN l ms bs hi lw i ++ [1] := by rw [wshN_succ, wshI, if_pos c0]
        repeat' (first | with_reducible refine iteI (fun _ => ?_) (fun _ => ?_) | ((first | unfold AOpsC | unfold AOpsD | skip); simp (maxSteps := 1000000) (disch := (first | omega | assumption | (simp only [List.length_append, List.length_cons, List.length_nil, List.length_set]; omega))) only [go_sem, Sp90, SOk, w0, w1, w2, w3, D1, D2, D3, D4, O1, O2, O3, O4, t1, t2, t3, t7, t18, t19, t20, l3, e1]))
        unfold SJump
        simp only [w0, w1, w2, w3, D1, D2, D3, D4, O1, O2, O3, O4]
        refine ⟨⟨⟨trivial, trivial, trivial, trivial⟩, e1, by omega, by omega⟩, fun H2 x2 => ?_⟩
        rw [Int.toNat_natCast]
        have q3 := x2.blk g3
        have q0 := x2.blk w0
        have q1 := x2.blk w1
        have hq := blt q3
        repeat' (first | with_reducible refine iteI (fun _ => ?_) (fun _ => ?_) | ((first | unfold AOpsC | unfold AOpsD | skip); simp (maxSteps := 1000000) (disch := (first | omega | assumption | (simp only [List.length_append, List.length_cons, List.length_nil, List.length_set]; omega))) only [go_sem, Sp90, SOk, c1, c2, q0, q1, q3, t1, t2, t3, t7, t18, t19, t20, l3, takeMap]))
        refine ⟨⟨i + 1, _, bl, wer + 1, by omega, ((g1.trans x2).set g2 _).app _, g2, by rw [hac, app_get (by simpa using hq), set_eq hq]; simp, rfl, by simp [upd, t1, t2, t3, t7, t18, t19, t20, hac], by simp [upd, t1, t2, t3, t7, t18, t19, t20, hac], by simp [upd, t1, t2, t3, t7, t18, t19, t20, hac], by simp [upd, t1, t2, t3, t7, t18, t19, t20, hac], by simp [upd, t1, t2, t3, t7, t18, t19, t20, hac], by simp [upd, t1, t2, t3, t7, t18, t19, t20, hac], by simp [upd, t1, t2, t3, t7, t18, t19, t20, hac], by simp [upd, l3], rfl⟩, by simp [ctr, upd, t20]; omega⟩
      by_cases d0 : jumpI l ms bs i < lw ∧ 0 < (l.getD i (0, 0, 0)).2.1
      · have f1 := d0.1
        have f2 := d0.2
        by_cases c1 : hi < jumpI l ms bs i
        · have c2 : ¬ (l.getD i (0, 0, 0)).2.1 < 4 := fun e => c0 ⟨c1, e⟩
          have hac : wshN l ms bs hi lw (i + 1) = wshN l ms bs hi lw i ++ [-1] := by rw [wshN_succ, wshI, if_neg c0, if_pos d0]
          repeat' (first | with_reducible refine iteI (fun _ => ?_) (fun _ => ?_) | ((first | unfold AOpsC | unfold AOpsD | skip); simp (maxSteps := 1000000) (disch := (first | omega | assumption | (simp only [List.length_append, List.length_cons, List.length_nil, List.length_set]; omega))) only [go_sem, Sp90, SOk, w0, w1, w2, w3, D1, D2, D3, D4, O1, O2, O3, O4, t1, t2, t3, t7, t18, t19, t20, l3, e1]))
          unfold SJump
          simp only [w0, w1, w2, w3, D1, D2, D3, D4, O1, O2, O3, O4]
          refine ⟨⟨⟨trivial, trivial, trivial, trivial⟩, e1, by omega, by omega⟩, fun H2 x2 => ?_⟩
          rw [Int.toNat_natCast]
          have q3 := x2.blk g3
          have q0 := x2.blk w0
          have q1 := x2.blk w1
          have hq := blt q3
          repeat' (first | with_reducible refine iteI (fun _ => ?_) (fun _ => ?_) | ((first | unfold AOpsC | unfold AOpsD | skip); simp (maxSteps := 1000000) (disch := (first | omega | assumption | (simp only [List.length_append, List.length_cons, List.length_nil, List.length_set]; omega))) only [go_sem, Sp90, SOk, c1, c2, f1, f2, q0, q1, q3, t1, t2, t3, t7, t18, t19, t20, l3, takeMap]))
          refine ⟨⟨i + 1, _, bl, wer + 1, by omega, ((g1.trans x2).set g2 _).app _, g2, by rw [hac, app_get (by simpa using hq), set_eq hq]; simp, rfl, by simp [upd, t1, t2, t3, t7, t18, t19, t20, hac], by simp [upd, t1, t2, t3, t7, t18, t19, t20, hac], by simp [upd, t1, t2, t3, t7, t18, t19, t20, hac], by simp [upd, t1, t2, t3, t7, t18, t19, t20, hac], by simp [upd, t1, t2, t3, t7, t18, t19, t20, hac], by simp [upd, t1, t2, t3, t7, t18, t19, t20, hac], by simp [upd, t1, t2, t3, t7, t18, t19, t20, hac], by simp [upd, l3], rfl⟩, by simp [ctr, upd, t20]; omega⟩
        · skip
          have hac : wshN l ms bs hi lw (i + 1) = wshN l ms bs hi lw i ++ [-1] := by rw [wshN_succ, wshI, if_neg c0, if_pos d0]
          repeat' (first | with_reducible refine iteI (fun _ => ?_) (fun _ => ?_) | ((first | unfold AOpsC | unfold AOpsD | skip); simp (maxSteps := 1000000) (disch := (first | omega | assumption | (simp only [List.length_append, List.length_cons, List.length_nil, List.length_set]; omega))) only [go_sem, Sp90, SOk, w0, w1, w2, w3, D1, D2, D3, D4, O1, O2, O3, O4, t1, t2, t3, t7, t18, t19, t20, l3, e1]))
          unfold SJump
          simp only [w0, w1, w2, w3, D1, D2, D3, D4, O1, O2, O3, O4]
          refine ⟨⟨⟨trivial, trivial, trivial, trivial⟩, e1, by omega, by omega⟩, fun H2 x2 => ?_⟩
          rw [Int.toNat_natCast]
          have q3 := x2.blk g3
          have q0 := x2.blk w0
          have q1 := x2.blk w1
          have hq := blt q3
          repeat' (first | with_reducible refine iteI (fun _ => ?_) (fun _ => ?_) | ((first | unfold AOpsC | unfold AOpsD | skip); simp (maxSteps := 1000000) (disch := (first | omega | assumption | (simp only [List.length_append, List.length_cons, List.length_nil, List.length_set]; omega))) only [go_sem, Sp90, SOk, c1, f1, f2, q0, q1, q3, t1, t2, t3, t7, t18, t19, t20, l3, takeMap]))
          refine ⟨⟨i + 1, _, bl, wer + 1, by omega, ((g1.trans x2).set g2 _).app _, g2, by rw [hac, app_get (by simpa using hq), set_eq hq]; simp, rfl, by simp [upd, t1, t2, t3, t7, t18, t19, t20, hac], by simp [upd, t1, t2, t3, t7, t18, t19, t20, hac], by simp [upd, t1, t2, t3, t7, t18, t19, t20, hac], by simp [upd, t1, t2, t3, t7, t18, t19, t20, hac], by simp [upd, t1, t2, t3, t7, t18, t19, t20, hac], by simp [upd, t1, t2, t3, t7, t18, t19, t20, hac], by simp [upd, t1, t2, t3, t7, t18, t19, t20, hac], by simp [upd, l3], rfl⟩, by simp [ctr, upd, t20]; omega⟩
      · by_cases c1 : hi < jumpI l ms bs i
        · have c2 : ¬ (l.getD i (0, 0, 0)).2.1 < 4 := fun e => c0 ⟨c1, e⟩
          by_cases f1 : jumpI l ms bs i < lw
          · have f2 : ¬ 0 < (l.getD i (0, 0, 0)).2.1 := fun e => d0 ⟨f1, e⟩
            omega
          · skip
            have hac : wshN l ms bs hi lw (i + 1) = wshN l ms bs hi lw i ++ [0] := by rw [wshN_succ, wshI, if_neg c0, if_neg d0]
            repeat' (first | with_reducible refine iteI (fun _ => ?_) (fun _ => ?_) | ((first | unfold AOpsC | unfold AOpsD | skip); simp (maxSteps := 1000000) (disch := (first | omega | assumption | (simp only [List.length_append, List.length_cons, List.length_nil, List.length_set]; omega))) only [go_sem, Sp90, SOk, w0, w1, w2, w3, D1, D2, D3, D4, O1, O2, O3, O4, t1, t2, t3, t7, t18, t19, t20, l3, e1]))
            unfold SJump
            simp only [w0, w1, w2, w3, D1, D2, D3, D4, O1, O2, O3, O4]
            refine ⟨⟨⟨trivial, trivial, trivial, trivial⟩, e1, by omega, by omega⟩, fun H2 x2 => ?_⟩
            rw [Int.toNat_natCast]
            have q3 := x2.blk g3
            have q0 := x2.blk w0
            have q1 := x2.blk w1
            have hq := blt q3
            repeat' (first | with_reducible refine iteI (fun _ => ?_) (fun _ => ?_) | ((first | unfold AOpsC | unfold AOpsD | skip); simp (maxSteps := 1000000) (disch := (first | omega | assumption | (simp only [List.length_append, List.length_cons, List.length_nil, List.length_set]; omega))) only [go_sem, Sp90, SOk, c1, c2, f1, q0, q1, q3, t1, t2, t3, t7, t18, t19, t20, l3, takeMap]))
            refine ⟨⟨i + 1, _, bl, wer + 1, by omega, ((g1.trans x2).set g2 _).app _, g2, by rw [hac, app_get (by simpa using hq), set_eq hq]; simp, rfl, by simp [upd, t1, t2, t3, t7, t18, t19, t20, hac], by simp [upd, t1, t2, t3, t7, t18, t19, t20, hac], by simp [upd, t1, t2, t3, t7, t18, t19, t20, hac], by simp [upd, t1, t2, t3, t7, t18, t19, t20, hac], by simp [upd, t1, t2, t3, t7, t18, t19, t20, hac], by simp [upd, t1, t2, t3, t7, t18, t19, t20, hac], by simp [upd, t1, t2, t3, t7, t18, t19, t20, hac], by simp [upd, l3], rfl⟩, by simp [ctr, upd, t20]; omega⟩
        · by_cases f1 : jumpI l ms bs i < lw
          · have f2 : ¬ 0 < (l.getD i (0, 0, 0)).2.1 := fun e => d0 ⟨f1, e⟩
            have hac : wshN l ms bs hi lw (i + 1) = wshN l ms bs hi lw i ++ [0] := by rw [wshN_succ, wshI, if_neg c0, if_neg d0]
            repeat' (first | with_reducible refine iteI (fun _ => ?_) (fun _ => ?_) | ((first | unfold AOpsC | unfold AOpsD | skip); simp (maxSteps := 1000000) (disch := (first | omega | assumption | (simp only [List.length_append, List.length_cons, List.length_nil, List.length_set]; omega))) only [go_sem, Sp90, SOk, w0, w1, w2, w3, D1, D2, D3, D4, O1, O2, O3, O4, t1, t2, t3, t7, t18, t19, t20, l3, e1]))
            unfold SJump
            simp only [w0, w1, w2, w3, D1, D2, D3, D4, O1, O2, O3, O4]
            refine ⟨⟨⟨trivial, trivial, trivial, trivial⟩, e1, by omega, by omega⟩, fun H2 x2 => ?_⟩
            rw [Int.toNat_natCast]
            have q3 := x2.blk g3
            have q0 := x2.blk w0
            have q1 := x2.blk w1
            have hq := blt q3
            repeat' (first | with_reducible refine iteI (fun _ => ?_) (fun _ => ?_) | ((first | unfold AOpsC | unfold AOpsD | skip); simp (maxSteps := 1000000) (disch := (first | omega | assumption | (simp only [List.length_append, List.length_cons, List.length_nil, List.length_set]; omega))) only [go_sem, Sp90, SOk, c1, f1, f2, q0, q1, q3, t1, t2, t3, t7, t18, t19, t20, l3, takeMap]))
            refine ⟨⟨i + 1, _, bl, wer + 1, by omega, ((g1.trans x2).set g2 _).app _, g2, by rw [hac, app_get (by simpa using hq), set_eq hq]; simp, rfl, by simp [upd, t1, t2, t3, t7, t18, t19, t20, hac], by simp [upd, t1, t2, t3, t7, t18, t19, t20, hac], by simp [upd, t1, t2, t3, t7, t18, t19, t20, hac], by simp [upd, t1, t2, t3, t7, t18, t19, t20, hac], by simp [upd, t1, t2, t3, t7, t18, t19, t20, hac], by simp [upd, t1, t2, t3, t7, t18, t19, t20, hac], by simp [upd, t1, t2, t3, t7, t18, t19, t20, hac], by simp [upd, l3], rfl⟩, by simp [ctr, upd, t20]; omega⟩
          · skip
            have hac : wshN l ms bs hi lw (i + 1) = wshN l ms bs hi lw i ++ [0] := by rw [wshN_succ, wshI, if_neg c0, if_neg d0]
            repeat' (first | with_reducible refine iteI (fun _ => ?_) (fun _ => ?_) | ((first | unfold AOpsC | unfold AOpsD | skip); simp (maxSteps := 1000000) (disch := (first | omega | assumption | (simp only [List.length_append, List.length_cons, List.length_nil, List.length_set]; omega))) only [go_sem, Sp90, SOk, w0, w1, w2, w3, D1, D2, D3, D4, O1, O2, O3, O4, t1, t2, t3, t7, t18, t19, t20, l3, e1]))
            unfold SJump
            simp only [w0, w1, w2, w3, D1, D2, D3, D4, O1, O2, O3, O4]
            refine ⟨⟨⟨trivial, trivial, trivial, trivial⟩, e1, by omega, by omega⟩, fun H2 x2 => ?_⟩
            rw [Int.toNat_natCast]
            have q3 := x2.blk g3
            have q0 := x2.blk w0
            have q1 := x2.blk w1
            have hq := blt q3
            repeat' (first | with_reducible refine iteI (fun _ => ?_) (fun _ => ?_) | ((first | unfold AOpsC | unfold AOpsD | skip); simp (maxSteps := 1000000) (disch := (first | omega | assumption | (simp only [List.length_append, List.length_cons, List.length_nil, List.length_set]; omega))) only [go_sem, Sp90, SOk, c1, f1, q0, q1, q3, t1, t2, t3, t7, t18, t19, t20, l3, takeMap]))
            refine ⟨⟨i + 1, _, bl, wer + 1, by omega, ((g1.trans x2).set g2 _).app _, g2, by rw [hac, app_get (by simpa using hq), set_eq hq]; simp, rfl, by simp [upd, t1, t2, t3, t7, t18, t19, t20, hac], by simp [upd, t1, t2, t3, t7, t18, t19, t20, hac], by simp [upd, t1, t2, t3, t7, t18, t19, t20, hac], by simp [upd, t1, t2, t3, t7, t18, t19, t20, hac], by simp [upd, t1, t2, t3, t7, t18, t19, t20, hac], by simp [upd, t1, t2, t3, t7, t18, t19, t20, hac], by simp [upd, t1, t2, t3, t7, t18, t19, t20, hac], by simp [upd, l3], rfl⟩, by simp [ctr, upd, t20]; omega⟩
    · obtain rfl : i = l.length := by omega
      repeat' (first | with_reducible refine iteI (fun _ => ?_) (fun _ => ?_) | ((first | unfold AOpsC | unfold AOpsD | skip); simp (maxSteps := 1000000) (disch := (first | omega | assumption | (simp only [List.length_append, List.length_cons, List.length_nil, List.length_set]; omega))) only [go_sem, Sp90, SOk, w0, w1, w2, w3, D1, D2, D3, D4, O1, O2, O3, O4, t1, t2, t3, t7, t18, t19, t20, l3]))
      exact hK _ _ ((NewI.mk g2 g3).eq (by rw [wshR, if_pos e1])) g1
  · exact h.elim

end Go.Proofs.YtaalpmbopkbdiaaGreat
