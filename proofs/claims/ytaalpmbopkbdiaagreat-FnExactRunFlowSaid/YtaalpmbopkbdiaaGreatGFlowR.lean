/- What functions of the program compute, said in the abstract logic; no conditions. -/
import Derived.Test.YtaalpmbopkbdiaaGreatGRunM

namespace Go.Proofs.YtaalpmbopkbdiaaGreat
open Go
set_option linter.unusedSimpArgs false
set_option linter.unusedVariables false
set_option maxRecDepth 100000
set_option maxHeartbeats 8000000
attribute [local go_sem] st0 AC thenA andC locLoadB KsSW_same KsSW_grow oldLoadB noBlkB KsSL_same KsOS_same KsOS_grow pv ev put upd dstOk cv cvc binI setB Value.oneCell' EndA resA resA1 List.mapM_cons List.mapM_nil Option.pure_def Option.bind_eq_bind noLocV noLoc1 noLoc noLocs plainV cellsA newVarA putCells condA lam0 inBlockA cur lenA rowA writeA dstA appendC appendZ mapPut mapGet avoidsB avoidB clearB Array.toList_append Op.operands Call.operands newSlot Nat.zero_add Nat.add_zero Nat.succ_ne_self Nat.lt_add_one Nat.zero_lt_succ true_and and_true true_or or_true false_or or_false and_self true_implies forall_const Bool.false_eq_true Bool.true_eq_false false_implies implies_true imp_self ne_eq not_false_eq_true not_true_eq_false false_and and_false List.getElem?_toArray List.getElem?_cons_succ List.getElem?_cons_zero Option.bind_some Option.map_some Bool.not_true Bool.not_false List.getD_cons_zero List.getD_cons_succ Option.some.injEq exists_eq_left' AV.bool.injEq List.map_cons List.map_nil List.all_cons List.all_nil Bool.and_self Bool.and_true Bool.true_and List.append_nil List.cons_append List.nil_append List.length_cons List.length_nil List.drop_zero List.take_zero List.drop_succ_cons List.take_succ_cons List.take_nil List.drop_nil List.not_mem_nil List.mem_cons List.contains_nil List.contains_cons Bool.or_self Bool.or_true Bool.true_or Bool.false_or Bool.or_false Bool.and_false Bool.false_and KsS_same KsS_grow skipV KsS_ext KsSW_ext KsOS_ext rep1 rep2 rep3 rep4 rep5 List.flatten_cons List.flatten_nil partsA isPtr fillA List.size_toArray ltT ltF leT leF ltTn ltFn leTn leFn eqTi eqFi wrapId toNat1 intGet boolGet memD app_get app_last app_lst app_set app_setL app_setF set_ne set_eq gt_iff_lt ge_iff_le decide_eq_true_eq len2 len3 get20 get21 drop2 put2 get30 get31 get32 drop3 put3 putI pairEta bneTi bneFi beqTi beqFi bne_eq_false_iff_eq beq_eq_false_iff_ne beq_iff_eq bne_iff_ne Int.toNat_natCast Nat.mul_one List.length_map Bool.not_eq_true Bool.not_eq_false Bool.decide_eq_true decide_true decide_false Bool.not_eq_true' Bool.not_eq_false' decide_eq_false_iff_not eq_self Decidable.not_not
attribute [local go_sem ↓] skipC exitC retC seqC blockC condC regC drawC drawStep AOpC AOpF AOpE AEff contE_at contC_at keepC_at keepW_at keepO_at keepL_at map_parts
attribute [local go_sem] reduceCtorEq Nat.reduceLT Nat.reduceEqDiff Nat.reduceAdd Nat.reduceMul Nat.reduceLeDiff Nat.reduceSub Nat.reduceBEq Nat.reduceBNe Nat.reduceBneDiff Nat.reduceBeqDiff
attribute [local go_sem ↓] reduceIte
attribute [local go_sem] ag_34 ag_51 ag_56 by_34 by_51 by_56 nf_34 nf_51 nf_56 pl_34 pl_51 pl_56 ps_34 ps_51 ps_56 sz_34 sz_51 sz_56 ze_34 ze_51 ze_56

def flS (l : List Id3) (ms ts bs : List Int) (y z w d e f g hh i k : Int) : Nat → (List Id3 × List Int × List Int) × (Int × Int × Int × Int)
  | 0 => ((l, ms, ts), (0, 0, 0, 0))
  | j + 1 => (mcrR (flS l ms ts bs y z w d e f g hh i k j).1.1 (flS l ms ts bs y z w d e f g hh i k j).1.2.1 (flS l ms ts bs y z w d e f g hh i k j).1.2.2 bs y z w d e f g hh i (k + j), ldA (flS l ms ts bs y z w d e f g hh i k j).2 (mcrL (flS l ms ts bs y z w d e f g hh i k j).1.1 (flS l ms ts bs y z w d e f g hh i k j).1.2.1 (flS l ms ts bs y z w d e f g hh i k j).1.2.2 y z w d e f))
theorem fl_ok {r : Int} {l : List Id3} {ms ts bs : List Int} {y z w d e f g hh i k : Int} (e1 : okB r l ms ts bs = true) (hp : planB y z w d e f g hh i = true) : ∀ j, okB r (flS l ms ts bs y z w d e f g hh i k j).1.1 (flS l ms ts bs y z w d e f g hh i k j).1.2.1 (flS l ms ts bs y z w d e f g hh i k j).1.2.2 bs = true
  | 0 => e1
  | j + 1 => by rw [flS]; exact mcr_ok (fl_ok e1 hp j) hp
def flB (r : Int) (l : List Id3) (ms ts bs : List Int) (y z w d e f g hh i k m : Int) : Bool := okB r l ms ts bs && (planB y z w d e f g hh i && (inB k 0 100000 && inB m 0 200))
def flR (r : Int) (l : List Id3) (ms ts bs : List Int) (y z w d e f g hh i k m : Int) : List Id3 × List Int × List Int := if flB r l ms ts bs y z w d e f g hh i k m = true then (flS l ms ts bs y z w d e f g hh i k m.toNat).1 else (l, ms, ts)
def flL (r : Int) (l : List Id3) (ms ts bs : List Int) (y z w d e f g hh i k m : Int) : Int × Int × Int × Int := if flB r l ms ts bs y z w d e f g hh i k m = true then (flS l ms ts bs y z w d e f g hh i k m.toNat).2 else (0, 0, 0, 0)
def SRunF : List AV → List Blk → (AV → List Blk → Prop) → Prop
  | [.agg [.int .i64 r, v, a, b, c], .agg [.int .i64 y, .int .i64 z, .int .i64 w, .int .i64 d, .int .i64 e, .int .i64 f, .int .i64 g, .int .i64 hh, .int .i64 i], .int .i64 k, .int .i64 m], η, K => (ok3 69 η v ∧ okI η a ∧ okI η b ∧ okI η c) ∧ ∀ H b0 b1 b2 b3 v0 v1 v2 v3, New4 η.length H b0 b1 b2 b3 v0 v1 v2 v3 (flR r (dec3 69 η v) (decI η a) (decI η b) (decI η c) y z w d e f g hh i k m).1 (flR r (dec3 69 η v) (decI η a) (decI η b) (decI η c) y z w d e f g hh i k m).2.1 (flR r (dec3 69 η v) (decI η a) (decI η b) (decI η c) y z w d e f g hh i k m).2.2 (decI η c) → Ext η H →
      K (.tup [.agg [.int .i64 r, .sl b0 v0 0 (flR r (dec3 69 η v) (decI η a) (decI η b) (decI η c) y z w d e f g hh i k m).1.length, .sl b1 v1 0 (flR r (dec3 69 η v) (decI η a) (decI η b) (decI η c) y z w d e f g hh i k m).2.1.length, .sl b2 v2 0 (flR r (dec3 69 η v) (decI η a) (decI η b) (decI η c) y z w d e f g hh i k m).2.2.length, .sl b3 v3 0 (decI η c).length], .agg [.int .i64 (flL r (dec3 69 η v) (decI η a) (decI η b) (decI η c) y z w d e f g hh i k m).1, .int .i64 (flL r (dec3 69 η v) (decI η a) (decI η b) (decI η c) y z w d e f g hh i k m).2.1, .int .i64 (flL r (dec3 69 η v) (decI η a) (decI η b) (decI η c) y z w d e f g hh i k m).2.2.1, .int .i64 (flL r (dec3 69 η v) (decI η a) (decI η b) (decI η c) y z w d e f g hh i k m).2.2.2]]) H
  | _, _, _ => False
theorem flR_le {r : Int} {l : List Id3} {ms ts bs : List Int} {y z w d e f g hh i k m : Int} (h : len4 1048576 l ms ts bs) : len4 1048576 (flR r l ms ts bs y z w d e f g hh i k m).1 (flR r l ms ts bs y z w d e f g hh i k m).2.1 (flR r l ms ts bs y z w d e f g hh i k m).2.2 bs := by
  unfold flR
  by_cases hb : flB r l ms ts bs y z w d e f g hh i k m = true
  · rw [if_pos hb]
    simp only [flB, Bool.and_eq_true] at hb
    have hk := fl_ok (k := k) hb.1 hb.2.1 m.toNat
    obtain ⟨h1, h2, h3, h4, _⟩ := okT hk
    have := mesh_len h1
    obtain ⟨_, _, _, h4'⟩ := h
    exact ⟨by omega, by omega, by omega, h4'⟩
  · rw [if_neg hb]
    exact h

def invFlI (η : List Blk) (p : Nat) (r : Int) (b3 v3 : Nat) (l0 : List Id3) (ms0 ts0 bs : List Int) (y z w d e f g hh evy k : Int) (q : Nat) (st : St) : Prop := ∃ i : Nat, ∃ H : List Blk, ∃ c0 : Nat, ∃ c1 : Nat, ∃ c2 : Nat, ∃ u0 : Nat, ∃ u1 : Nat, ∃ u2 : Nat, ∃ L : List Id3, ∃ M : List Int, ∃ T : List Int, ∃ X0 : Int, ∃ X1 : Int, ∃ X2 : Int, ∃ X3 : Int, (i ≤ q) ∧ (PtrS η.length p H r c0 c1 c2 b3 u0 u1 u2 v3 L M T bs) ∧ (Keep η.length η H) ∧ (flS l0 ms0 ts0 bs y z w d e f g hh evy k i = ((L, M, T), (X0, X1, X2, X3))) ∧ st.n = 50 ∧ st.τ 2 = .int .i64 k ∧ st.τ 5 = .loc 5 1 0 ∧ st.τ 8 = .loc 8 1 0 ∧ st.τ 9 = .loc 9 1 0 ∧ st.τ 10 = .ptr p 0 0 ∧ st.τ 11 = .loc 11 1 0 ∧ st.τ 36 = .int .i64 q ∧ st.τ 37 = .int .i64 i ∧ st.lam 5 = ⟨1, [.int .i64 y, .int .i64 z, .int .i64 w, .int .i64 d, .int .i64 e, .int .i64 f, .int .i64 g, .int .i64 hh, .int .i64 evy]⟩ ∧ st.lam 8 = ⟨1, [.int .i64 0, .nils, .nils, .nils, .nils]⟩ ∧ st.lam 9 = ⟨1, [.int .i64 0, .int .i64 0, .int .i64 0, .int .i64 0]⟩ ∧ st.lam 11 = ⟨1, [.int .i64 X0, .int .i64 X1, .int .i64 X2, .int .i64 X3]⟩ ∧ st.η = H

/- impl.RunFlow -/
def Sp25 (lo : Nat) : Spec := fun g args η K => match g with | 39 => SOk args η K | 41 => SCopyS args η K | 58 => SPlan args η K | 59 => SIn args η K | 60 => SMcP lo args η K | 62 => SCnt args η K | 63 => SAdd args η K | _ => False
theorem Sp25_ok {lo : Nat} : Sound Tryz.prog lo (Sp25 lo) := by
  intro g args η K h
  unfold Sp25 at h
  split at h
  · exact .inl (f39_ok h)
  · exact .inl (f41_ok h)
  · exact .inl (f58_ok h)
  · exact .inl (f59_ok h)
  · exact .inl (f60_ok h)
  · exact .inl (f62_ok h)
  · exact .inl (f63_ok h)
  · exact h.elim
def Dr25 : Draws := fun id => match id with | 4 => ([0, 0, 1, 7], [], [], (.one 0 (.two 1 2 (.one 2 (.one 3 .nil)) (.one 1 (.one 3 .nil))))) | 8 => ([0, 0, 0, 0, 12, 30, 63, 127], [3005], [(3000, 0)], (.one 0 (.one 1 (.one 2 (.one 3 (.one 4 (.one 5 (.one 6 (.one 7 .nil))))))))) | 10 => ([0, 0, 1, 7], [], [], (.one 0 (.two 1 2 (.one 2 (.one 3 .nil)) (.one 1 (.one 3 .nil))))) | _ => ([], [], [], .nil)
theorem f25_ok {lo : Nat} {args : List AV} {η : List Blk} {K : AV → List Blk → Prop} (h : SRunF args η K) : AF Tryz.prog lo 25 args η K := by
  unfold SRunF at h
  split at h
  · obtain ⟨⟨⟨l, hr, hl⟩, ⟨ms, ha, hla⟩, ⟨ts, hb, hlb⟩, ⟨bs, hc, hlc⟩⟩, hK⟩ := h
    rename_i r _ _ _ _ y z w d e f g hh i k m
    have d1 := hr.dec3
    have d2 := ha.dec
    have d3 := hb.dec
    have d4 := hc.dec
    have o1 : ok3 69 _ _ := ⟨l, hr, hl⟩
    have o2 : okI _ _ := ⟨ms, ha, hla⟩
    have o3 : okI _ _ := ⟨ts, hb, hlb⟩
    have o4 : okI _ _ := ⟨bs, hc, hlc⟩
    simp only [d1, d2, d3, d4] at hK
    have hr' := hr
    have ha' := ha
    have hb' := hb
    have hc' := hc
    obtain ⟨b0, v0, rfl, hb0⟩ := hr'
    obtain ⟨b1, v1, rfl, hb1⟩ := ha'
    obtain ⟨b2, v2, rfl, hb2⟩ := hb'
    obtain ⟨b3, v3, rfl, hb3⟩ := hc'
    refine AF_run Sp25_ok Dr25 [10] [.cell 8 34, .cell 9 51] hm Tryz.func25 rfl (by decide) Tryz.ntmps25 rfl (by kernel_rfl) (Nat.le_of_ble_eq_true rfl) ?_; intro hlo
    repeat' (first | with_reducible refine iteI (fun _ => ?_) (fun _ => ?_) | ((first | unfold AOpsC | unfold AOpsD | skip); simp (maxSteps := 1000000) (disch := (first | omega | assumption | (simp only [List.length_append, List.length_cons, List.length_nil, List.length_set]; omega))) only [go_sem, Sp25, SOk, SPlan, SIn, SCnt, SAdd, Dr25, hb0, hb1, hb2, hb3, d1, d2, d3, d4, o1, o2, o3, o4]))
    refine copyN ⟨l, ms, ts, bs, ⟨hr, ha, hb, hc⟩, ⟨hl, hla, hlb, hlc⟩, fun H q0 q1 q2 q3 hN x => ?_⟩
    have w0 := x.blk hb0
    have w1 := x.blk hb1
    have w2 := x.blk hb2
    have w3 := x.blk hb3
    have D1 : dec3 69 H (.sl b0 v0 0 l.length) = l := IsR.dec3 ⟨b0, v0, rfl, w0⟩
    have D2 : decI H (.sl b1 v1 0 ms.length) = ms := IsI.dec ⟨b1, v1, rfl, w1⟩
    have D3 : decI H (.sl b2 v2 0 ts.length) = ts := IsI.dec ⟨b2, v2, rfl, w2⟩
    have D4 : decI H (.sl b3 v3 0 bs.length) = bs := IsI.dec ⟨b3, v3, rfl, w3⟩
    have O1 : ok3 69 H (.sl b0 v0 0 l.length) := ⟨l, ⟨b0, v0, rfl, w0⟩, hl⟩
    have O2 : okI H (.sl b1 v1 0 ms.length) := ⟨ms, ⟨b1, v1, rfl, w1⟩, hla⟩
    have O3 : okI H (.sl b2 v2 0 ts.length) := ⟨ts, ⟨b2, v2, rfl, w2⟩, hlb⟩
    have O4 : okI H (.sl b3 v3 0 bs.length) := ⟨bs, ⟨b3, v3, rfl, w3⟩, hlc⟩
    have hHl := x.len
    have nlt := fun c => hN.lt (c := c)
    have l0 := nlt q0 (.inl rfl)
    have l1 := nlt q1 (.inr (.inl rfl))
    have l2 := nlt q2 (.inr (.inr (.inl rfl)))
    have l3 := nlt q3 (.inr (.inr (.inr rfl)))
    generalize hH2 : H ++ [(⟨0, 34, 5, [.int .i64 r, .sl q0 0 0 l.length, .sl q1 0 0 ms.length, .sl q2 0 0 ts.length, .sl q3 0 0 bs.length]⟩ : Blk)] = H2
    have x2 : Ext H H2 := ⟨_, hH2.symm⟩
    have hP : PtrS η.length H.length H2 r q0 q1 q2 q3 0 0 0 0 l ms ts bs := ⟨by rw [← hH2]; exact app_last _ _, hN.ext x2, hHl, by omega, by omega, by omega, by omega⟩
    have xx := x.trans x2
    have w0k := xx.blk hb0
    have w1k := xx.blk hb1
    have w2k := xx.blk hb2
    have w3k := xx.blk hb3
    have D1k : dec3 69 H2 (.sl b0 v0 0 l.length) = l := IsR.dec3 ⟨b0, v0, rfl, w0k⟩
    have D2k : decI H2 (.sl b1 v1 0 ms.length) = ms := IsI.dec ⟨b1, v1, rfl, w1k⟩
    have D3k : decI H2 (.sl b2 v2 0 ts.length) = ts := IsI.dec ⟨b2, v2, rfl, w2k⟩
    have D4k : decI H2 (.sl b3 v3 0 bs.length) = bs := IsI.dec ⟨b3, v3, rfl, w3k⟩
    have O1k : ok3 69 H2 (.sl b0 v0 0 l.length) := ⟨l, ⟨b0, v0, rfl, w0k⟩, hl⟩
    have O2k : okI H2 (.sl b1 v1 0 ms.length) := ⟨ms, ⟨b1, v1, rfl, w1k⟩, hla⟩
    have O3k : okI H2 (.sl b2 v2 0 ts.length) := ⟨ts, ⟨b2, v2, rfl, w2k⟩, hlb⟩
    have O4k : okI H2 (.sl b3 v3 0 bs.length) := ⟨bs, ⟨b3, v3, rfl, w3k⟩, hlc⟩
    have hp := hP.pb
    cases e1 : okB r l ms ts bs
    · have hB : flB r l ms ts bs y z w d e f g hh i k m = false := by simp [flB, e1]
      have z0 : flR r l ms ts bs y z w d e f g hh i k m = (l, ms, ts) := by rw [flR, hB]; rfl
      have z1 : flL r l ms ts bs y z w d e f g hh i k m = (0, 0, 0, 0) := by rw [flL, hB]; rfl
      rw [z0, z1] at hK
      repeat' (first | with_reducible refine iteI (fun _ => ?_) (fun _ => ?_) | ((first | unfold AOpsC | unfold AOpsD | skip); simp (maxSteps := 1000000) (disch := (first | omega | assumption | (simp only [List.length_append, List.length_cons, List.length_nil, List.length_set]; omega))) only [go_sem, Sp25, SOk, SPlan, SIn, SCnt, SAdd, Dr25, w0, w1, w2, w3, D1, D2, D3, D4, O1, O2, O3, O4, hH2, hp, w0k, w1k, w2k, w3k, D1k, D2k, D3k, D4k, O1k, O2k, O3k, O4k, e1]))
      exact hK _ _ _ _ _ _ _ _ _ hP.n4 xx
    cases e2 : planB y z w d e f g hh i
    · have hB : flB r l ms ts bs y z w d e f g hh i k m = false := by simp [flB, e2]
      have z0 : flR r l ms ts bs y z w d e f g hh i k m = (l, ms, ts) := by rw [flR, hB]; rfl
      have z1 : flL r l ms ts bs y z w d e f g hh i k m = (0, 0, 0, 0) := by rw [flL, hB]; rfl
      rw [z0, z1] at hK
      repeat' (first | with_reducible refine iteI (fun _ => ?_) (fun _ => ?_) | ((first | unfold AOpsC | unfold AOpsD | skip); simp (maxSteps := 1000000) (disch := (first | omega | assumption | (simp only [List.length_append, List.length_cons, List.length_nil, List.length_set]; omega))) only [go_sem, Sp25, SOk, SPlan, SIn, SCnt, SAdd, Dr25, w0, w1, w2, w3, D1, D2, D3, D4, O1, O2, O3, O4, hH2, hp, w0k, w1k, w2k, w3k, D1k, D2k, D3k, D4k, O1k, O2k, O3k, O4k, e1, e2]))
      exact hK _ _ _ _ _ _ _ _ _ hP.n4 xx
    cases e3 : inB k 0 100000
    · have hB : flB r l ms ts bs y z w d e f g hh i k m = false := by simp [flB, e3]
      have z0 : flR r l ms ts bs y z w d e f g hh i k m = (l, ms, ts) := by rw [flR, hB]; rfl
      have z1 : flL r l ms ts bs y z w d e f g hh i k m = (0, 0, 0, 0) := by rw [flL, hB]; rfl
      rw [z0, z1] at hK
      repeat' (first | with_reducible refine iteI (fun _ => ?_) (fun _ => ?_) | ((first | unfold AOpsC | unfold AOpsD | skip); simp (maxSteps := 1000000) (disch := (first | omega | assumption | (simp only [List.length_append, List.length_cons, List.length_nil, List.length_set]; omega))) only [go_sem, Sp25, SOk, SPlan, SIn, SCnt, SAdd, Dr25, w0, w1, w2, w3, D1, D2, D3, D4, O1, O2, O3, O4, hH2, hp, w0k, w1k, w2k, w3k, D1k, D2k, D3k, D4k, O1k, O2k, O3k, O4k, e1, e2, e3]))
      exact hK _ _ _ _ _ _ _ _ _ hP.n4 xx
    cases e4 : inB m 0 200
    · have hB : flB r l ms ts bs y z w d e f g hh i k m = false := by simp [flB, e4]
      have z0 : flR r l ms ts bs y z w d e f g hh i k m = (l, ms, ts) := by rw [flR, hB]; rfl
      have z1 : flL r l ms ts bs y z w d e f g hh i k m = (0, 0, 0, 0) := by rw [flL, hB]; rfl
      rw [z0, z1] at hK
      repeat' (first | with_reducible refine iteI (fun _ => ?_) (fun _ => ?_) | ((first | unfold AOpsC | unfold AOpsD | skip); simp (maxSteps := 1000000) (disch := (first | omega | assumption | (simp only [List.length_append, List.length_cons, List.length_nil, List.length_set]; omega))) only [go_sem, Sp25, SOk, SPlan, SIn, SCnt, SAdd, Dr25, w0, w1, w2, w3, D1, D2, D3, D4, O1, O2, O3, O4, hH2, hp, w0k, w1k, w2k, w3k, D1k, D2k, D3k, D4k, O1k, O2k, O3k, O4k, e1, e2, e3, e4]))
      exact hK _ _ _ _ _ _ _ _ _ hP.n4 xx
    have hB : flB r l ms ts bs y z w d e f g hh i k m = true := by simp [flB, e1, e2, e3, e4]
    have z0 : flR r l ms ts bs y z w d e f g hh i k m = (flS l ms ts bs y z w d e f g hh i k m.toNat).1 := by rw [flR, if_pos hB]
    have z1 : flL r l ms ts bs y z w d e f g hh i k m = (flS l ms ts bs y z w d e f g hh i k m.toNat).2 := by rw [flL, if_pos hB]
    rw [z0, z1] at hK
    have hk := inT e3
    have hm := inT e4
    clear z0 z1 hB
    obtain ⟨q, rfl⟩ : ∃ q : Nat, m = q := ⟨m.toNat, by omega⟩
    rw [Int.toNat_natCast] at hK
    obtain ⟨evy, rfl⟩ : ∃ evy, evy = i := ⟨_, rfl⟩
    repeat' (first | with_reducible refine iteI (fun _ => ?_) (fun _ => ?_) | ((first | unfold AOpsC | unfold AOpsD | skip); simp (maxSteps := 1000000) (disch := (first | omega | assumption | (simp only [List.length_append, List.length_cons, List.length_nil, List.length_set]; omega))) only [go_sem, Sp25, SOk, SPlan, SIn, SCnt, SAdd, Dr25, w0, w1, w2, w3, D1, D2, D3, D4, O1, O2, O3, O4, hH2, hp, w0k, w1k, w2k, w3k, D1k, D2k, D3k, D4k, O1k, O2k, O3k, O4k, e1, e2, e3, e4]))
    refine ⟨invFlI η H.length r q3 0 l ms ts bs y z w d e f g hh evy k q, fun st => ctr q st 37, .inl ⟨0, H2, q0, q1, q2, 0, 0, 0, l, ms, ts, 0, 0, 0, 0, Nat.zero_le _, hP, xx.keep, rfl, rfl, by simp [upd], by simp [upd], by simp [upd], by simp [upd], by simp [upd], by simp [upd], by simp [upd], by simp [upd], by simp [upd], by simp [upd], by simp [upd], by simp [upd], by first | rfl | exact hH2⟩, ?_⟩
    clear hP hp xx x2 hH2 hN x nlt l0 l1 l2 l3 hHl w0 w1 w2 w3 D1 D2 D3 D4 O1 O2 O3 O4 w0k w1k w2k w3k D1k D2k D3k D4k O1k O2k O3k O4k
    rintro ⟨n, τ, lam, η'⟩ ⟨i, H, c0, c1, c2, u0, u1, u2, L, M, T, X0, X1, X2, X3, g0, g1, g2, g3, hn, t2, t5, t8, t9, t10, t11, t36, t37, l5, l8, l9, l11, hη⟩; simp only at hn t2 t5 t8 t9 t10 t11 t36 t37 l5 l8 l9 l11 hη; subst hn hη
    have pp := g1.pb
    have ok := fl_ok (k := k) e1 e2 i
    rw [g3] at ok
    by_cases hlt : i < q
    · repeat' (first | with_reducible refine iteI (fun _ => ?_) (fun _ => ?_) | ((first | unfold AOpsC | unfold AOpsD | skip); simp (maxSteps := 1000000) (disch := (first | omega | assumption | (simp only [List.length_append, List.length_cons, List.length_nil, List.length_set]; omega))) only [go_sem, Sp25, SOk, SPlan, SIn, SCnt, SAdd, Dr25, pp, t2, t5, t8, t9, t10, t11, t36, t37, l5, l8, l9, l11]))
      unfold SMcP
      refine ⟨η.length, r, c0, c1, c2, q3, u0, u1, u2, 0, L, M, T, bs, hlo, g1, ⟨ok, e2, by omega, by omega⟩, fun G2 d0 d1 d2 y0 y1 y2 hG2 kG2 => ?_⟩
      repeat' (first | with_reducible refine iteI (fun _ => ?_) (fun _ => ?_) | ((first | unfold AOpsC | unfold AOpsD | skip); simp (maxSteps := 1000000) (disch := (first | omega | assumption | (simp only [List.length_append, List.length_cons, List.length_nil, List.length_set]; omega))) only [go_sem, Sp25, SOk, SPlan, SIn, SCnt, SAdd, Dr25, t2, t5, t8, t9, t10, t11, t36, t37, l5, l8, l9, l11]))
      refine ⟨⟨i + 1, G2, d0, d1, d2, y0, y1, y2, _, _, _, _, _, _, _, hlt, hG2, g2.trans kG2, (by rw [flS, g3]), rfl, by simp [upd, t2, t5, t8, t9, t10, t11, t36, t37], by simp [upd, t2, t5, t8, t9, t10, t11, t36, t37], by simp [upd, t2, t5, t8, t9, t10, t11, t36, t37], by simp [upd, t2, t5, t8, t9, t10, t11, t36, t37], by simp [upd, t2, t5, t8, t9, t10, t11, t36, t37], by simp [upd, t2, t5, t8, t9, t10, t11, t36, t37], by simp [upd, t2, t5, t8, t9, t10, t11, t36, t37], by simp [upd, t2, t5, t8, t9, t10, t11, t36, t37], by simp [upd, l5], by simp [upd, l8], by simp [upd, l9], by simp [upd, ldA], rfl⟩, by simp [ctr, upd, t37]; omega⟩
    · obtain rfl : i = q := by omega
      rw [g3] at hK
      repeat' (first | with_reducible refine iteI (fun _ => ?_) (fun _ => ?_) | ((first | unfold AOpsC | unfold AOpsD | skip); simp (maxSteps := 1000000) (disch := (first | omega | assumption | (simp only [List.length_append, List.length_cons, List.length_nil, List.length_set]; omega))) only [go_sem, Sp25, SOk, SPlan, SIn, SCnt, SAdd, Dr25, pp, t2, t5, t8, t9, t10, t11, t36, t37, l5, l8, l9, l11]))
      exact hK _ _ _ _ _ _ _ _ _ g1.n4 g2.toExt
  · exact h.elim

def invFlS (η : List Blk) (r : Int) (l0 : List Id3) (ms0 ts0 bs : List Int) (y z w d e f g hh evy k : Int) (q : Nat) (st : St) : Prop := ∃ i : Nat, ∃ H : List Blk, ∃ c0 : Nat, ∃ c1 : Nat, ∃ c2 : Nat, ∃ c3 : Nat, ∃ u0 : Nat, ∃ u1 : Nat, ∃ u2 : Nat, ∃ u3 : Nat, ∃ L : List Id3, ∃ M : List Int, ∃ T : List Int, ∃ X0 : Int, ∃ X1 : Int, ∃ X2 : Int, ∃ X3 : Int, (i ≤ q) ∧ (New4 η.length H c0 c1 c2 c3 u0 u1 u2 u3 L M T bs) ∧ (Ext η H) ∧ (flS l0 ms0 ts0 bs y z w d e f g hh evy k i = ((L, M, T), (X0, X1, X2, X3))) ∧ st.n = 59 ∧ st.τ 2 = .int .i64 k ∧ st.τ 3 = .int .i64 q ∧ st.τ 5 = .loc 5 1 0 ∧ st.τ 8 = .loc 8 1 0 ∧ st.τ 9 = .loc 9 1 0 ∧ st.τ 10 = .loc 10 1 0 ∧ st.τ 11 = .loc 11 1 0 ∧ st.τ 12 = .int .i64 (k + i) ∧ st.lam 5 = ⟨1, [.int .i64 y, .int .i64 z, .int .i64 w, .int .i64 d, .int .i64 e, .int .i64 f, .int .i64 g, .int .i64 hh, .int .i64 evy]⟩ ∧ st.lam 8 = ⟨1, [.int .i64 0, .nils, .nils, .nils, .nils]⟩ ∧ st.lam 9 = ⟨1, [.int .i64 0, .int .i64 0, .int .i64 0, .int .i64 0]⟩ ∧ st.lam 10 = ⟨1, [.int .i64 r, .sl c0 u0 0 L.length, .sl c1 u1 0 M.length, .sl c2 u2 0 T.length, .sl c3 u3 0 bs.length]⟩ ∧ st.lam 11 = ⟨1, [.int .i64 X0, .int .i64 X1, .int .i64 X2, .int .i64 X3]⟩ ∧ st.η = H

/- spec.RunFlow -/
def Sp24 (lo : Nat) : Spec := fun g args η K => match g with | 28 => SOk args η K | 30 => SCopyS args η K | 54 => SPlan args η K | 55 => SIn args η K | 56 => SMcQ args η K | 61 => SAdd args η K | _ => False
theorem Sp24_ok {lo : Nat} : Sound Tryz.prog lo (Sp24 lo) := by
  intro g args η K h
  unfold Sp24 at h
  split at h
  · exact .inl (f28_ok h)
  · exact .inl (f30_ok h)
  · exact .inl (f54_ok h)
  · exact .inl (f55_ok h)
  · exact .inl (f56_ok h)
  · exact .inl (f61_ok h)
  · exact h.elim
def Dr24 : Draws := fun id => match id with | 4 => ([0, 0, 1, 7], [], [], (.one 0 (.two 1 2 (.one 2 (.one 3 .nil)) (.one 1 (.one 3 .nil))))) | 11 => ([0, 0, 1, 7], [], [], (.one 0 (.two 1 2 (.one 2 (.one 3 .nil)) (.one 1 (.one 3 .nil))))) | _ => ([], [], [], .nil)
theorem f24_ok {lo : Nat} {args : List AV} {η : List Blk} {K : AV → List Blk → Prop} (h : SRunF args η K) : AF Tryz.prog lo 24 args η K := by
  unfold SRunF at h
  split at h
  · obtain ⟨⟨⟨l, hr, hl⟩, ⟨ms, ha, hla⟩, ⟨ts, hb, hlb⟩, ⟨bs, hc, hlc⟩⟩, hK⟩ := h
    rename_i r _ _ _ _ y z w d e f g hh i k m
    have d1 := hr.dec3
    have d2 := ha.dec
    have d3 := hb.dec
    have d4 := hc.dec
    have o1 : ok3 69 _ _ := ⟨l, hr, hl⟩
    have o2 : okI _ _ := ⟨ms, ha, hla⟩
    have o3 : okI _ _ := ⟨ts, hb, hlb⟩
    have o4 : okI _ _ := ⟨bs, hc, hlc⟩
    simp only [d1, d2, d3, d4] at hK
    have hr' := hr
    have ha' := ha
    have hb' := hb
    have hc' := hc
    obtain ⟨b0, v0, rfl, hb0⟩ := hr'
    obtain ⟨b1, v1, rfl, hb1⟩ := ha'
    obtain ⟨b2, v2, rfl, hb2⟩ := hb'
    obtain ⟨b3, v3, rfl, hb3⟩ := hc'
    refine AF_run Sp24_ok Dr24 [] [.cell 8 34, .cell 9 51] hm Tryz.func24 rfl (by decide) Tryz.ntmps24 rfl (by kernel_rfl) (Nat.le_of_ble_eq_true rfl) ?_; intro hlo
    repeat' (first | with_reducible refine iteI (fun _ => ?_) (fun _ => ?_) | ((first | unfold AOpsC | unfold AOpsD | skip); simp (maxSteps := 1000000) (disch := (first | omega | assumption | (simp only [List.length_append, List.length_cons, List.length_nil, List.length_set]; omega))) only [go_sem, Sp24, SOk, SPlan, SIn, SAdd, Dr24, hb0, hb1, hb2, hb3, d1, d2, d3, d4, o1, o2, o3, o4]))
    refine copyN ⟨l, ms, ts, bs, ⟨hr, ha, hb, hc⟩, ⟨hl, hla, hlb, hlc⟩, fun H q0 q1 q2 q3 hN x => ?_⟩
    have w0 := x.blk hb0
    have w1 := x.blk hb1
    have w2 := x.blk hb2
    have w3 := x.blk hb3
    have D1 : dec3 69 H (.sl b0 v0 0 l.length) = l := IsR.dec3 ⟨b0, v0, rfl, w0⟩
    have D2 : decI H (.sl b1 v1 0 ms.length) = ms := IsI.dec ⟨b1, v1, rfl, w1⟩
    have D3 : decI H (.sl b2 v2 0 ts.length) = ts := IsI.dec ⟨b2, v2, rfl, w2⟩
    have D4 : decI H (.sl b3 v3 0 bs.length) = bs := IsI.dec ⟨b3, v3, rfl, w3⟩
    have O1 : ok3 69 H (.sl b0 v0 0 l.length) := ⟨l, ⟨b0, v0, rfl, w0⟩, hl⟩
    have O2 : okI H (.sl b1 v1 0 ms.length) := ⟨ms, ⟨b1, v1, rfl, w1⟩, hla⟩
    have O3 : okI H (.sl b2 v2 0 ts.length) := ⟨ts, ⟨b2, v2, rfl, w2⟩, hlb⟩
    have O4 : okI H (.sl b3 v3 0 bs.length) := ⟨bs, ⟨b3, v3, rfl, w3⟩, hlc⟩
    cases e1 : okB r l ms ts bs
    · have hB : flB r l ms ts bs y z w d e f g hh i k m = false := by simp [flB, e1]
      have z0 : flR r l ms ts bs y z w d e f g hh i k m = (l, ms, ts) := by rw [flR, hB]; rfl
      have z1 : flL r l ms ts bs y z w d e f g hh i k m = (0, 0, 0, 0) := by rw [flL, hB]; rfl
      rw [z0, z1] at hK
      repeat' (first | with_reducible refine iteI (fun _ => ?_) (fun _ => ?_) | ((first | unfold AOpsC | unfold AOpsD | skip); simp (maxSteps := 1000000) (disch := (first | omega | assumption | (simp only [List.length_append, List.length_cons, List.length_nil, List.length_set]; omega))) only [go_sem, Sp24, SOk, SPlan, SIn, SAdd, Dr24, w0, w1, w2, w3, D1, D2, D3, D4, O1, O2, O3, O4, e1]))
      exact hK _ _ _ _ _ _ _ _ _ hN x
    cases e2 : planB y z w d e f g hh i
    · have hB : flB r l ms ts bs y z w d e f g hh i k m = false := by simp [flB, e2]
      have z0 : flR r l ms ts bs y z w d e f g hh i k m = (l, ms, ts) := by rw [flR, hB]; rfl
      have z1 : flL r l ms ts bs y z w d e f g hh i k m = (0, 0, 0, 0) := by rw [flL, hB]; rfl
      rw [z0, z1] at hK
      repeat' (first | with_reducible refine iteI (fun _ => ?_) (fun _ => ?_) | ((first | unfold AOpsC | unfold AOpsD | skip); simp (maxSteps := 1000000) (disch := (first | omega | assumption | (simp only [List.length_append, List.length_cons, List.length_nil, List.length_set]; omega))) only [go_sem, Sp24, SOk, SPlan, SIn, SAdd, Dr24, w0, w1, w2, w3, D1, D2, D3, D4, O1, O2, O3, O4, e1, e2]))
      exact hK _ _ _ _ _ _ _ _ _ hN x
    cases e3 : inB k 0 100000
    · have hB : flB r l ms ts bs y z w d e f g hh i k m = false := by simp [flB, e3]
      have z0 : flR r l ms ts bs y z w d e f g hh i k m = (l, ms, ts) := by rw [flR, hB]; rfl
      have z1 : flL r l ms ts bs y z w d e f g hh i k m = (0, 0, 0, 0) := by rw [flL, hB]; rfl
      rw [z0, z1] at hK
      repeat' (first | with_reducible refine iteI (fun _ => ?_) (fun _ => ?_) | ((first | unfold AOpsC | unfold AOpsD | skip); simp (maxSteps := 1000000) (disch := (first | omega | assumption | (simp only [List.length_append, List.length_cons, List.length_nil, List.length_set]; omega))) only [go_sem, Sp24, SOk, SPlan, SIn, SAdd, Dr24, w0, w1, w2, w3, D1, D2, D3, D4, O1, O2, O3, O4, e1, e2, e3]))
      exact hK _ _ _ _ _ _ _ _ _ hN x
    cases e4 : inB m 0 200
    · have hB : flB r l ms ts bs y z w d e f g hh i k m = false := by simp [flB, e4]
      have z0 : flR r l ms ts bs y z w d e f g hh i k m = (l, ms, ts) := by rw [flR, hB]; rfl
      have z1 : flL r l ms ts bs y z w d e f g hh i k m = (0, 0, 0, 0) := by rw [flL, hB]; rfl
      rw [z0, z1] at hK
      repeat' (first | with_reducible refine iteI (fun _ => ?_) (fun _ => ?_) | ((first | unfold AOpsC | unfold AOpsD | skip); simp (maxSteps := 1000000) (disch := (first | omega | assumption | (simp only [List.length_append, List.length_cons, List.length_nil, List.length_set]; omega))) only [go_sem, Sp24, SOk, SPlan, SIn, SAdd, Dr24, w0, w1, w2, w3, D1, D2, D3, D4, O1, O2, O3, O4, e1, e2, e3, e4]))
      exact hK _ _ _ _ _ _ _ _ _ hN x
    have hB : flB r l ms ts bs y z w d e f g hh i k m = true := by simp [flB, e1, e2, e3, e4]
    have z0 : flR r l ms ts bs y z w d e f g hh i k m = (flS l ms ts bs y z w d e f g hh i k m.toNat).1 := by rw [flR, if_pos hB]
    have z1 : flL r l ms ts bs y z w d e f g hh i k m = (flS l ms ts bs y z w d e f g hh i k m.toNat).2 := by rw [flL, if_pos hB]
    rw [z0, z1] at hK
    have hk := inT e3
    have hm := inT e4
    clear z0 z1 hB
    obtain ⟨q, rfl⟩ : ∃ q : Nat, m = q := ⟨m.toNat, by omega⟩
    rw [Int.toNat_natCast] at hK
    obtain ⟨evy, rfl⟩ : ∃ evy, evy = i := ⟨_, rfl⟩
    repeat' (first | with_reducible refine iteI (fun _ => ?_) (fun _ => ?_) | ((first | unfold AOpsC | unfold AOpsD | skip); simp (maxSteps := 1000000) (disch := (first | omega | assumption | (simp only [List.length_append, List.length_cons, List.length_nil, List.length_set]; omega))) only [go_sem, Sp24, SOk, SPlan, SIn, SAdd, Dr24, w0, w1, w2, w3, D1, D2, D3, D4, O1, O2, O3, O4, e1, e2, e3, e4]))
    refine ⟨invFlS η r l ms ts bs y z w d e f g hh evy k q, fun st => ctr (k + q).toNat st 12, .inl ⟨0, H, q0, q1, q2, q3, 0, 0, 0, 0, l, ms, ts, 0, 0, 0, 0, Nat.zero_le _, hN, x, rfl, rfl, by simp [upd], by simp [upd], by simp [upd], by simp [upd], by simp [upd], by simp [upd], by simp [upd], by simp [upd], by simp [upd], by simp [upd], by simp [upd], by simp [upd], by simp [upd], rfl⟩, ?_⟩
    clear hN x w0 w1 w2 w3 D1 D2 D3 D4 O1 O2 O3 O4
    rintro ⟨n, τ, lam, η'⟩ ⟨i, H, c0, c1, c2, c3, u0, u1, u2, u3, L, M, T, X0, X1, X2, X3, g0, g1, g2, g3, hn, t2, t3, t5, t8, t9, t10, t11, t12, l5, l8, l9, l10, l11, hη⟩; simp only at hn t2 t3 t5 t8 t9 t10 t11 t12 l5 l8 l9 l10 l11 hη; subst hn hη
    have ok := fl_ok (k := k) e1 e2 i
    rw [g3] at ok
    by_cases hlt : i < q
    · repeat' (first | with_reducible refine iteI (fun _ => ?_) (fun _ => ?_) | ((first | unfold AOpsC | unfold AOpsD | skip); simp (maxSteps := 1000000) (disch := (first | omega | assumption | (simp only [List.length_append, List.length_cons, List.length_nil, List.length_set]; omega))) only [go_sem, Sp24, SOk, SPlan, SIn, SAdd, Dr24, t2, t3, t5, t8, t9, t10, t11, t12, l5, l8, l9, l10, l11]))
      unfold SMcQ
      refine ⟨L, M, T, bs, ⟨⟨⟨c0, u0, rfl, g1.g0⟩, ⟨c1, u1, rfl, g1.g1⟩, ⟨c2, u2, rfl, g1.g2⟩, ⟨c3, u3, rfl, g1.g3⟩⟩, ok, e2, by omega, by omega⟩, fun G2 d0 d1 d2 d3 y0 y1 y2 y3 hG2 xG2 => ?_⟩
      repeat' (first | with_reducible refine iteI (fun _ => ?_) (fun _ => ?_) | ((first | unfold AOpsC | unfold AOpsD | skip); simp (maxSteps := 1000000) (disch := (first | omega | assumption | (simp only [List.length_append, List.length_cons, List.length_nil, List.length_set]; omega))) only [go_sem, Sp24, SOk, SPlan, SIn, SAdd, Dr24, t2, t3, t5, t8, t9, t10, t11, t12, l5, l8, l9, l10, l11]))
      refine ⟨⟨i + 1, G2, d0, d1, d2, d3, y0, y1, y2, y3, _, _, _, _, _, _, _, hlt, hG2.mono g2.len, g2.trans xG2, (by rw [flS, g3]), rfl, by simp [upd, t2, t3, t5, t8, t9, t10, t11, t12], by simp [upd, t2, t3, t5, t8, t9, t10, t11, t12], by simp [upd, t2, t3, t5, t8, t9, t10, t11, t12], by simp [upd, t2, t3, t5, t8, t9, t10, t11, t12], by simp [upd, t2, t3, t5, t8, t9, t10, t11, t12], by simp [upd, t2, t3, t5, t8, t9, t10, t11, t12], by simp [upd, t2, t3, t5, t8, t9, t10, t11, t12], by simp [upd]; omega, by simp [upd, l5], by simp [upd, l8], by simp [upd, l9], by simp [upd], by simp [upd, ldA], rfl⟩, by simp [ctr, upd, t12]; omega⟩
    · obtain rfl : i = q := by omega
      rw [g3] at hK
      repeat' (first | with_reducible refine iteI (fun _ => ?_) (fun _ => ?_) | ((first | unfold AOpsC | unfold AOpsD | skip); simp (maxSteps := 1000000) (disch := (first | omega | assumption | (simp only [List.length_append, List.length_cons, List.length_nil, List.length_set]; omega))) only [go_sem, Sp24, SOk, SPlan, SIn, SAdd, Dr24, t2, t3, t5, t8, t9, t10, t11, t12, l5, l8, l9, l10, l11]))
      exact hK _ _ _ _ _ _ _ _ _ g1 g2
  · exact h.elim

end Go.Proofs.YtaalpmbopkbdiaaGreat
