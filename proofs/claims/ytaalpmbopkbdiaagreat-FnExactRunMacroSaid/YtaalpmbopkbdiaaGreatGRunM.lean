/- What functions of the program compute, said in the abstract logic; no conditions. -/
import Derived.Test.YtaalpmbopkbdiaaGreatGMacR

namespace Go.Proofs.YtaalpmbopkbdiaaGreat
open Go
set_option linter.unusedSimpArgs false
set_option linter.unusedVariables false
set_option maxRecDepth 100000
set_option maxHeartbeats 8000000
attribute [local go_sem] st0 AC thenA andC locLoadB KsSW_same KsSW_grow oldLoadB noBlkB KsSL_same KsOS_same KsOS_grow pv ev put upd dstOk cv cvc binI setB Value.oneCell' EndA resA resA1 List.mapM_cons List.mapM_nil Option.pure_def Option.bind_eq_bind noLocV noLoc1 noLoc noLocs plainV cellsA newVarA putCells condA lam0 inBlockA cur lenA rowA writeA dstA appendC appendZ mapPut mapGet avoidsB avoidB clearB Array.toList_append Op.operands Call.operands newSlot Nat.zero_add Nat.add_zero Nat.succ_ne_self Nat.lt_add_one Nat.zero_lt_succ true_and and_true true_or or_true false_or or_false and_self true_implies forall_const Bool.false_eq_true Bool.true_eq_false false_implies implies_true imp_self ne_eq not_false_eq_true not_true_eq_false false_and and_false List.getElem?_toArray List.getElem?_cons_succ List.getElem?_cons_zero Option.bind_some Option.map_some Bool.not_true Bool.not_false List.getD_cons_zero List.getD_cons_succ Option.some.injEq exists_eq_left' AV.bool.injEq List.map_cons List.map_nil List.all_cons List.all_nil Bool.and_self Bool.and_true Bool.true_and List.append_nil List.cons_append List.nil_append List.length_cons List.length_nil List.drop_zero List.take_zero List.drop_succ_cons List.take_succ_cons List.take_nil List.drop_nil List.not_mem_nil List.mem_cons List.contains_nil List.contains_cons Bool.or_self Bool.or_true Bool.true_or Bool.false_or Bool.or_false Bool.and_false Bool.false_and KsS_same KsS_grow skipV KsS_ext KsSW_ext KsOS_ext rep1 rep2 rep3 rep4 rep5 List.flatten_cons List.flatten_nil partsA isPtr fillA List.size_toArray ltT ltF leT leF ltTn ltFn leTn leFn eqTi eqFi wrapId toNat1 intGet boolGet memD app_get app_last app_lst app_set app_setL app_setF set_ne set_eq gt_iff_lt ge_iff_le decide_eq_true_eq len2 len3 get20 get21 drop2 put2 get30 get31 get32 drop3 put3 putI pairEta bneTi bneFi beqTi beqFi bne_eq_false_iff_eq beq_eq_false_iff_ne beq_iff_eq bne_iff_ne Int.toNat_natCast Nat.mul_one List.length_map Bool.not_eq_true Bool.not_eq_false Bool.decide_eq_true decide_true decide_false Bool.not_eq_true' Bool.not_eq_false' decide_eq_false_iff_not eq_self Decidable.not_not
attribute [local go_sem ↓] skipC exitC retC seqC blockC condC regC drawC drawStep AOpC AOpF AOpE AEff contE_at contC_at keepC_at keepW_at keepO_at keepL_at map_parts
attribute [local go_sem] reduceCtorEq Nat.reduceLT Nat.reduceEqDiff Nat.reduceAdd Nat.reduceMul Nat.reduceLeDiff Nat.reduceSub Nat.reduceBEq Nat.reduceBNe Nat.reduceBneDiff Nat.reduceBeqDiff
attribute [local go_sem ↓] reduceIte
attribute [local go_sem] ag_34 ag_51 ag_56 by_34 by_51 by_56 nf_34 nf_51 nf_56 pl_34 pl_51 pl_56 ps_34 ps_51 ps_56 sz_34 sz_51 sz_56 ze_34 ze_51 ze_56

def rmB (r : Int) (l : List Id3) (ms ts bs : List Int) (y z w d e f g hh i k : Int) : Bool := okB r l ms ts bs && (planB y z w d e f g hh i && inB k 0 1000000)
def rmR (r : Int) (l : List Id3) (ms ts bs : List Int) (y z w d e f g hh i k : Int) : List Id3 × List Int × List Int := if rmB r l ms ts bs y z w d e f g hh i k = true then mcrR l ms ts bs y z w d e f g hh i k else (l, ms, ts)
def rmL (r : Int) (l : List Id3) (ms ts bs : List Int) (y z w d e f g hh i k : Int) : Int × Int × Int × Int := if rmB r l ms ts bs y z w d e f g hh i k = true then mcrL l ms ts y z w d e f else (0, 0, 0, 0)
def SRunM : List AV → List Blk → (AV → List Blk → Prop) → Prop
  | [.agg [.int .i64 r, v, a, b, c], .agg [.int .i64 y, .int .i64 z, .int .i64 w, .int .i64 d, .int .i64 e, .int .i64 f, .int .i64 g, .int .i64 hh, .int .i64 i], .int .i64 k], η, K => (ok3 69 η v ∧ okI η a ∧ okI η b ∧ okI η c) ∧ ∀ H b0 b1 b2 b3 v0 v1 v2 v3, New4 η.length H b0 b1 b2 b3 v0 v1 v2 v3 (rmR r (dec3 69 η v) (decI η a) (decI η b) (decI η c) y z w d e f g hh i k).1 (rmR r (dec3 69 η v) (decI η a) (decI η b) (decI η c) y z w d e f g hh i k).2.1 (rmR r (dec3 69 η v) (decI η a) (decI η b) (decI η c) y z w d e f g hh i k).2.2 (decI η c) → Ext η H →
      K (.tup [.agg [.int .i64 r, .sl b0 v0 0 (rmR r (dec3 69 η v) (decI η a) (decI η b) (decI η c) y z w d e f g hh i k).1.length, .sl b1 v1 0 (rmR r (dec3 69 η v) (decI η a) (decI η b) (decI η c) y z w d e f g hh i k).2.1.length, .sl b2 v2 0 (rmR r (dec3 69 η v) (decI η a) (decI η b) (decI η c) y z w d e f g hh i k).2.2.length, .sl b3 v3 0 (decI η c).length], .agg [.int .i64 (rmL r (dec3 69 η v) (decI η a) (decI η b) (decI η c) y z w d e f g hh i k).1, .int .i64 (rmL r (dec3 69 η v) (decI η a) (decI η b) (decI η c) y z w d e f g hh i k).2.1, .int .i64 (rmL r (dec3 69 η v) (decI η a) (decI η b) (decI η c) y z w d e f g hh i k).2.2.1, .int .i64 (rmL r (dec3 69 η v) (decI η a) (decI η b) (decI η c) y z w d e f g hh i k).2.2.2]]) H
  | _, _, _ => False
theorem rmR_le {r : Int} {l : List Id3} {ms ts bs : List Int} {y z w d e f g hh i k : Int} (h : len4 1048576 l ms ts bs) : len4 1048576 (rmR r l ms ts bs y z w d e f g hh i k).1 (rmR r l ms ts bs y z w d e f g hh i k).2.1 (rmR r l ms ts bs y z w d e f g hh i k).2.2 bs := by
  unfold rmR
  by_cases hb : rmB r l ms ts bs y z w d e f g hh i k = true
  · rw [if_pos hb]
    simp only [rmB, Bool.and_eq_true] at hb
    have hk := mcr_ok (k := k) hb.1 hb.2.1
    obtain ⟨h1, h2, h3, h4, _⟩ := okT hk
    have := mesh_len h1
    obtain ⟨_, _, _, h4'⟩ := h
    exact ⟨by omega, by omega, by omega, h4'⟩
  · rw [if_neg hb]
    exact h

/- impl.RunMacro -/
def Sp22 (lo : Nat) : Spec := fun g args η K => match g with | 39 => SOk args η K | 41 => SCopyS args η K | 58 => SPlan args η K | 59 => SIn args η K | 60 => SMcP lo args η K | _ => False
theorem Sp22_ok {lo : Nat} : Sound Tryz.prog lo (Sp22 lo) := by
  intro g args η K h
  unfold Sp22 at h
  split at h
  · exact .inl (f39_ok h)
  · exact .inl (f41_ok h)
  · exact .inl (f58_ok h)
  · exact .inl (f59_ok h)
  · exact .inl (f60_ok h)
  · exact h.elim
def Dr22 : Draws := fun id => match id with | 5 => ([0, 0, 1, 7], [], [], (.one 0 (.two 1 2 (.one 2 (.one 3 .nil)) (.one 1 (.one 3 .nil))))) | _ => ([], [], [], .nil)
theorem f22_ok {lo : Nat} {args : List AV} {η : List Blk} {K : AV → List Blk → Prop} (h : SRunM args η K) : AF Tryz.prog lo 22 args η K := by
  unfold SRunM at h
  split at h
  · obtain ⟨⟨⟨l, hr, hl⟩, ⟨ms, ha, hla⟩, ⟨ts, hb, hlb⟩, ⟨bs, hc, hlc⟩⟩, hK⟩ := h
    rename_i r _ _ _ _ y z w d e f g hh i k
    have d1 := hr.dec3
    have d2 := ha.dec
    have d3 := hb.dec
    have d4 := hc.dec
    have o1 : ok3 69 _ _ := ⟨l, hr, hl⟩
    have o2 : okI _ _ := ⟨ms, ha, hla⟩
    have o3 : okI _ _ := ⟨ts, hb, hlb⟩
    have o4 : okI _ _ := ⟨bs, hc, hlc⟩
    simp only [d1, d2, d3, d4] at hK
    have hr' := hr
    have ha' := ha
    have hb' := hb
    have hc' := hc
    obtain ⟨b0, v0, rfl, hb0⟩ := hr'
    obtain ⟨b1, v1, rfl, hb1⟩ := ha'
    obtain ⟨b2, v2, rfl, hb2⟩ := hb'
    obtain ⟨b3, v3, rfl, hb3⟩ := hc'
    refine AF_run Sp22_ok Dr22 [8] [.cell 6 34, .cell 7 51] hm Tryz.func22 rfl (by decide) Tryz.ntmps22 rfl (by kernel_rfl) (Nat.le_of_ble_eq_true rfl) ?_; intro hlo
    repeat' (first | with_reducible refine iteI (fun _ => ?_) (fun _ => ?_) | ((first | unfold AOpsC | unfold AOpsD | skip); simp (maxSteps := 1000000) (disch := (first | omega | assumption | (simp only [List.length_append, List.length_cons, List.length_nil, List.length_set]; omega))) only [go_sem, Sp22, SOk, SPlan, SIn, Dr22, hb0, hb1, hb2, hb3, d1, d2, d3, d4, o1, o2, o3, o4]))
    refine copyN ⟨l, ms, ts, bs, ⟨hr, ha, hb, hc⟩, ⟨hl, hla, hlb, hlc⟩, fun H q0 q1 q2 q3 hN x => ?_⟩
    have w0 := x.blk hb0
    have w1 := x.blk hb1
    have w2 := x.blk hb2
    have w3 := x.blk hb3
    have D1 : dec3 69 H (.sl b0 v0 0 l.length) = l := IsR.dec3 ⟨b0, v0, rfl, w0⟩
    have D2 : decI H (.sl b1 v1 0 ms.length) = ms := IsI.dec ⟨b1, v1, rfl, w1⟩
    have D3 : decI H (.sl b2 v2 0 ts.length) = ts := IsI.dec ⟨b2, v2, rfl, w2⟩
    have D4 : decI H (.sl b3 v3 0 bs.length) = bs := IsI.dec ⟨b3, v3, rfl, w3⟩
    have O1 : ok3 69 H (.sl b0 v0 0 l.length) := ⟨l, ⟨b0, v0, rfl, w0⟩, hl⟩
    have O2 : okI H (.sl b1 v1 0 ms.length) := ⟨ms, ⟨b1, v1, rfl, w1⟩, hla⟩
    have O3 : okI H (.sl b2 v2 0 ts.length) := ⟨ts, ⟨b2, v2, rfl, w2⟩, hlb⟩
    have O4 : okI H (.sl b3 v3 0 bs.length) := ⟨bs, ⟨b3, v3, rfl, w3⟩, hlc⟩
    have hHl := x.len
    have nlt := fun c => hN.lt (c := c)
    have l0 := nlt q0 (.inl rfl)
    have l1 := nlt q1 (.inr (.inl rfl))
    have l2 := nlt q2 (.inr (.inr (.inl rfl)))
    have l3 := nlt q3 (.inr (.inr (.inr rfl)))
    generalize hH2 : H ++ [(⟨0, 34, 5, [.int .i64 r, .sl q0 0 0 l.length, .sl q1 0 0 ms.length, .sl q2 0 0 ts.length, .sl q3 0 0 bs.length]⟩ : Blk)] = H2
    have x2 : Ext H H2 := ⟨_, hH2.symm⟩
    have hP : PtrS η.length H.length H2 r q0 q1 q2 q3 0 0 0 0 l ms ts bs := ⟨by rw [← hH2]; exact app_last _ _, hN.ext x2, hHl, by omega, by omega, by omega, by omega⟩
    have xx := x.trans x2
    have w0k := xx.blk hb0
    have w1k := xx.blk hb1
    have w2k := xx.blk hb2
    have w3k := xx.blk hb3
    have D1k : dec3 69 H2 (.sl b0 v0 0 l.length) = l := IsR.dec3 ⟨b0, v0, rfl, w0k⟩
    have D2k : decI H2 (.sl b1 v1 0 ms.length) = ms := IsI.dec ⟨b1, v1, rfl, w1k⟩
    have D3k : decI H2 (.sl b2 v2 0 ts.length) = ts := IsI.dec ⟨b2, v2, rfl, w2k⟩
    have D4k : decI H2 (.sl b3 v3 0 bs.length) = bs := IsI.dec ⟨b3, v3, rfl, w3k⟩
    have O1k : ok3 69 H2 (.sl b0 v0 0 l.length) := ⟨l, ⟨b0, v0, rfl, w0k⟩, hl⟩
    have O2k : okI H2 (.sl b1 v1 0 ms.length) := ⟨ms, ⟨b1, v1, rfl, w1k⟩, hla⟩
    have O3k : okI H2 (.sl b2 v2 0 ts.length) := ⟨ts, ⟨b2, v2, rfl, w2k⟩, hlb⟩
    have O4k : okI H2 (.sl b3 v3 0 bs.length) := ⟨bs, ⟨b3, v3, rfl, w3k⟩, hlc⟩
    have hp := hP.pb
    cases e1 : okB r l ms ts bs
    · have hB : rmB r l ms ts bs y z w d e f g hh i k = false := by simp [rmB, e1]
      have z0 : rmR r l ms ts bs y z w d e f g hh i k = (l, ms, ts) := by rw [rmR, hB]; rfl
      have z1 : rmL r l ms ts bs y z w d e f g hh i k = (0, 0, 0, 0) := by rw [rmL, hB]; rfl
      rw [z0, z1] at hK
      repeat' (first | with_reducible refine iteI (fun _ => ?_) (fun _ => ?_) | ((first | unfold AOpsC | unfold AOpsD | skip); simp (maxSteps := 1000000) (disch := (first | omega | assumption | (simp only [List.length_append, List.length_cons, List.length_nil, List.length_set]; omega))) only [go_sem, Sp22, SOk, SPlan, SIn, Dr22, w0, w1, w2, w3, D1, D2, D3, D4, O1, O2, O3, O4, hH2, hp, w0k, w1k, w2k, w3k, D1k, D2k, D3k, D4k, O1k, O2k, O3k, O4k, e1]))
      exact hK _ _ _ _ _ _ _ _ _ hP.n4 xx
    cases e2 : planB y z w d e f g hh i
    · have hB : rmB r l ms ts bs y z w d e f g hh i k = false := by simp [rmB, e2]
      have z0 : rmR r l ms ts bs y z w d e f g hh i k = (l, ms, ts) := by rw [rmR, hB]; rfl
      have z1 : rmL r l ms ts bs y z w d e f g hh i k = (0, 0, 0, 0) := by rw [rmL, hB]; rfl
      rw [z0, z1] at hK
      repeat' (first | with_reducible refine iteI (fun _ => ?_) (fun _ => ?_) | ((first | unfold AOpsC | unfold AOpsD | skip); simp (maxSteps := 1000000) (disch := (first | omega | assumption | (simp only [List.length_append, List.length_cons, List.length_nil, List.length_set]; omega))) only [go_sem, Sp22, SOk, SPlan, SIn, Dr22, w0, w1, w2, w3, D1, D2, D3, D4, O1, O2, O3, O4, hH2, hp, w0k, w1k, w2k, w3k, D1k, D2k, D3k, D4k, O1k, O2k, O3k, O4k, e1, e2]))
      exact hK _ _ _ _ _ _ _ _ _ hP.n4 xx
    cases e3 : inB k 0 1000000
    · have hB : rmB r l ms ts bs y z w d e f g hh i k = false := by simp [rmB, e3]
      have z0 : rmR r l ms ts bs y z w d e f g hh i k = (l, ms, ts) := by rw [rmR, hB]; rfl
      have z1 : rmL r l ms ts bs y z w d e f g hh i k = (0, 0, 0, 0) := by rw [rmL, hB]; rfl
      rw [z0, z1] at hK
      repeat' (first | with_reducible refine iteI (fun _ => ?_) (fun _ => ?_) | ((first | unfold AOpsC | unfold AOpsD | skip); simp (maxSteps := 1000000) (disch := (first | omega | assumption | (simp only [List.length_append, List.length_cons, List.length_nil, List.length_set]; omega))) only [go_sem, Sp22, SOk, SPlan, SIn, Dr22, w0, w1, w2, w3, D1, D2, D3, D4, O1, O2, O3, O4, hH2, hp, w0k, w1k, w2k, w3k, D1k, D2k, D3k, D4k, O1k, O2k, O3k, O4k, e1, e2, e3]))
      exact hK _ _ _ _ _ _ _ _ _ hP.n4 xx
    have z0 : rmR r l ms ts bs y z w d e f g hh i k = mcrR l ms ts bs y z w d e f g hh i k := by rw [rmR, if_pos (by simp [rmB, e1, e2, e3])]
    have z1 : rmL r l ms ts bs y z w d e f g hh i k = mcrL l ms ts y z w d e f := by rw [rmL, if_pos (by simp [rmB, e1, e2, e3])]
    rw [z0, z1] at hK
    have hk := inT e3
    repeat' (first | with_reducible refine iteI (fun _ => ?_) (fun _ => ?_) | ((first | unfold AOpsC | unfold AOpsD | skip); simp (maxSteps := 1000000) (disch := (first | omega | assumption | (simp only [List.length_append, List.length_cons, List.length_nil, List.length_set]; omega))) only [go_sem, Sp22, SOk, SPlan, SIn, Dr22, w0, w1, w2, w3, D1, D2, D3, D4, O1, O2, O3, O4, hH2, hp, w0k, w1k, w2k, w3k, D1k, D2k, D3k, D4k, O1k, O2k, O3k, O4k, e1, e2, e3]))
    unfold SMcP
    refine ⟨η.length, r, q0, q1, q2, q3, 0, 0, 0, 0, l, ms, ts, bs, hlo, hP, ⟨e1, e2, hk.1, hk.2⟩, fun G2 d0 d1 d2 y0 y1 y2 hG2 kG2 => ?_⟩
    have hp4 := hG2.pb
    have x4 : Ext η G2 := Keep.toExt ⟨kG2.1, fun c hc => by rw [kG2.2 c hc]; exact xx.keep.2 c hc⟩
    repeat' (first | with_reducible refine iteI (fun _ => ?_) (fun _ => ?_) | ((first | unfold AOpsC | unfold AOpsD | skip); simp (maxSteps := 1000000) (disch := (first | omega | assumption | (simp only [List.length_append, List.length_cons, List.length_nil, List.length_set]; omega))) only [go_sem, Sp22, SOk, SPlan, SIn, Dr22, hp4]))
    exact hK _ _ _ _ _ _ _ _ _ hG2.n4 x4
  · exact h.elim

/- spec.RunMacro -/
def Sp20 (lo : Nat) : Spec := fun g args η K => match g with | 28 => SOk args η K | 30 => SCopyS args η K | 54 => SPlan args η K | 55 => SIn args η K | 56 => SMcQ args η K | _ => False
theorem Sp20_ok {lo : Nat} : Sound Tryz.prog lo (Sp20 lo) := by
  intro g args η K h
  unfold Sp20 at h
  split at h
  · exact .inl (f28_ok h)
  · exact .inl (f30_ok h)
  · exact .inl (f54_ok h)
  · exact .inl (f55_ok h)
  · exact .inl (f56_ok h)
  · exact h.elim
theorem f20_ok {lo : Nat} {args : List AV} {η : List Blk} {K : AV → List Blk → Prop} (h : SRunM args η K) : AF Tryz.prog lo 20 args η K := by
  unfold SRunM at h
  split at h
  · obtain ⟨⟨⟨l, hr, hl⟩, ⟨ms, ha, hla⟩, ⟨ts, hb, hlb⟩, ⟨bs, hc, hlc⟩⟩, hK⟩ := h
    rename_i r _ _ _ _ y z w d e f g hh i k
    have d1 := hr.dec3
    have d2 := ha.dec
    have d3 := hb.dec
    have d4 := hc.dec
    have o1 : ok3 69 _ _ := ⟨l, hr, hl⟩
    have o2 : okI _ _ := ⟨ms, ha, hla⟩
    have o3 : okI _ _ := ⟨ts, hb, hlb⟩
    have o4 : okI _ _ := ⟨bs, hc, hlc⟩
    simp only [d1, d2, d3, d4] at hK
    have hr' := hr
    have ha' := ha
    have hb' := hb
    have hc' := hc
    obtain ⟨b0, v0, rfl, hb0⟩ := hr'
    obtain ⟨b1, v1, rfl, hb1⟩ := ha'
    obtain ⟨b2, v2, rfl, hb2⟩ := hb'
    obtain ⟨b3, v3, rfl, hb3⟩ := hc'
    refine AF_run Sp20_ok D0 [] [.cell 6 34, .cell 7 51] hm Tryz.func20 rfl (by decide) Tryz.ntmps20 rfl (by kernel_rfl) (Nat.le_of_ble_eq_true rfl) ?_; intro hlo
    cases e1 : okB r l ms ts bs
    · have hB : rmB r l ms ts bs y z w d e f g hh i k = false := by simp [rmB, e1]
      have z0 : rmR r l ms ts bs y z w d e f g hh i k = (l, ms, ts) := by rw [rmR, hB]; rfl
      have z1 : rmL r l ms ts bs y z w d e f g hh i k = (0, 0, 0, 0) := by rw [rmL, hB]; rfl
      rw [z0, z1] at hK
      repeat' (first | with_reducible refine iteI (fun _ => ?_) (fun _ => ?_) | ((first | unfold AOpsC | unfold AOpsD | skip); simp (maxSteps := 1000000) (disch := (first | omega | assumption | (simp only [List.length_append, List.length_cons, List.length_nil, List.length_set]; omega))) only [go_sem, Sp20, SOk, SPlan, SIn, hb0, hb1, hb2, hb3, d1, d2, d3, d4, o1, o2, o3, o4, e1]))
      refine copyN ⟨l, ms, ts, bs, ⟨hr, ha, hb, hc⟩, ⟨hl, hla, hlb, hlc⟩, fun H q0 q1 q2 q3 hN x => ?_⟩
      repeat' (first | with_reducible refine iteI (fun _ => ?_) (fun _ => ?_) | ((first | unfold AOpsC | unfold AOpsD | skip); simp (maxSteps := 1000000) (disch := (first | omega | assumption | (simp only [List.length_append, List.length_cons, List.length_nil, List.length_set]; omega))) only [go_sem, Sp20, SOk, SPlan, SIn]))
      exact hK _ _ _ _ _ _ _ _ _ hN x
    cases e2 : planB y z w d e f g hh i
    · have hB : rmB r l ms ts bs y z w d e f g hh i k = false := by simp [rmB, e2]
      have z0 : rmR r l ms ts bs y z w d e f g hh i k = (l, ms, ts) := by rw [rmR, hB]; rfl
      have z1 : rmL r l ms ts bs y z w d e f g hh i k = (0, 0, 0, 0) := by rw [rmL, hB]; rfl
      rw [z0, z1] at hK
      repeat' (first | with_reducible refine iteI (fun _ => ?_) (fun _ => ?_) | ((first | unfold AOpsC | unfold AOpsD | skip); simp (maxSteps := 1000000) (disch := (first | omega | assumption | (simp only [List.length_append, List.length_cons, List.length_nil, List.length_set]; omega))) only [go_sem, Sp20, SOk, SPlan, SIn, hb0, hb1, hb2, hb3, d1, d2, d3, d4, o1, o2, o3, o4, e1, e2]))
      refine copyN ⟨l, ms, ts, bs, ⟨hr, ha, hb, hc⟩, ⟨hl, hla, hlb, hlc⟩, fun H q0 q1 q2 q3 hN x => ?_⟩
      repeat' (first | with_reducible refine iteI (fun _ => ?_) (fun _ => ?_) | ((first | unfold AOpsC | unfold AOpsD | skip); simp (maxSteps := 1000000) (disch := (first | omega | assumption | (simp only [List.length_append, List.length_cons, List.length_nil, List.length_set]; omega))) only [go_sem, Sp20, SOk, SPlan, SIn]))
      exact hK _ _ _ _ _ _ _ _ _ hN x
    cases e3 : inB k 0 1000000
    · have hB : rmB r l ms ts bs y z w d e f g hh i k = false := by simp [rmB, e3]
      have z0 : rmR r l ms ts bs y z w d e f g hh i k = (l, ms, ts) := by rw [rmR, hB]; rfl
      have z1 : rmL r l ms ts bs y z w d e f g hh i k = (0, 0, 0, 0) := by rw [rmL, hB]; rfl
      rw [z0, z1] at hK
      repeat' (first | with_reducible refine iteI (fun _ => ?_) (fun _ => ?_) | ((first | unfold AOpsC | unfold AOpsD | skip); simp (maxSteps := 1000000) (disch := (first | omega | assumption | (simp only [List.length_append, List.length_cons, List.length_nil, List.length_set]; omega))) only [go_sem, Sp20, SOk, SPlan, SIn, hb0, hb1, hb2, hb3, d1, d2, d3, d4, o1, o2, o3, o4, e1, e2, e3]))
      refine copyN ⟨l, ms, ts, bs, ⟨hr, ha, hb, hc⟩, ⟨hl, hla, hlb, hlc⟩, fun H q0 q1 q2 q3 hN x => ?_⟩
      repeat' (first | with_reducible refine iteI (fun _ => ?_) (fun _ => ?_) | ((first | unfold AOpsC | unfold AOpsD | skip); simp (maxSteps := 1000000) (disch := (first | omega | assumption | (simp only [List.length_append, List.length_cons, List.length_nil, List.length_set]; omega))) only [go_sem, Sp20, SOk, SPlan, SIn]))
      exact hK _ _ _ _ _ _ _ _ _ hN x
    have z0 : rmR r l ms ts bs y z w d e f g hh i k = mcrR l ms ts bs y z w d e f g hh i k := by rw [rmR, if_pos (by simp [rmB, e1, e2, e3])]
    have z1 : rmL r l ms ts bs y z w d e f g hh i k = mcrL l ms ts y z w d e f := by rw [rmL, if_pos (by simp [rmB, e1, e2, e3])]
    rw [z0, z1] at hK
    have hk := inT e3
    repeat' (first | with_reducible refine iteI (fun _ => ?_) (fun _ => ?_) | ((first | unfold AOpsC | unfold AOpsD | skip); simp (maxSteps := 1000000) (disch := (first | omega | assumption | (simp only [List.length_append, List.length_cons, List.length_nil, List.length_set]; omega))) only [go_sem, Sp20, SOk, SPlan, SIn, hb0, hb1, hb2, hb3, d1, d2, d3, d4, o1, o2, o3, o4, e1, e2, e3]))
    unfold SMcQ
    refine ⟨l, ms, ts, bs, ⟨⟨hr, ha, hb, hc⟩, e1, e2, hk.1, hk.2⟩, fun H c0 c1 c2 c3 w0 w1 w2 w3 hN x => ?_⟩
    repeat' (first | with_reducible refine iteI (fun _ => ?_) (fun _ => ?_) | ((first | unfold AOpsC | unfold AOpsD | skip); simp (maxSteps := 1000000) (disch := (first | omega | assumption | (simp only [List.length_append, List.length_cons, List.length_nil, List.length_set]; omega))) only [go_sem, Sp20, SOk, SPlan, SIn]))
    exact hK _ _ _ _ _ _ _ _ _ hN x
  · exact h.elim

end Go.Proofs.YtaalpmbopkbdiaaGreat
