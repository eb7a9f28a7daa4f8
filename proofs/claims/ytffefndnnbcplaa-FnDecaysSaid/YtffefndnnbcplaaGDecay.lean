/- What functions of the program compute, said in the abstract logic; no conditions. -/
import Derived.Test.YtffefndnnbcplaaGOwn

namespace Go.Proofs.Ytffefndnnbcplaa
open Go
set_option linter.unusedSimpArgs false
set_option linter.unusedVariables false
set_option maxRecDepth 100000
set_option maxHeartbeats 8000000
attribute [local go_sem] st0 AC thenA andC locLoadB KsSW_same KsSW_grow pv ev put upd dstOk cv cvc binI setB Value.oneCell' EndA resA resA1 List.mapM_cons List.mapM_nil Option.pure_def Option.bind_eq_bind noLocV noLoc1 noLoc noLocs plainV cellsA newVarA putCells condA lam0 inBlockA cur lenA rowA avoidsB avoidB clearB Array.toList_append Op.operands Call.operands newSlot Nat.zero_add Nat.add_zero Nat.succ_ne_self Nat.lt_add_one Nat.zero_lt_succ true_and and_true true_or or_true false_or or_false and_self true_implies forall_const Bool.false_eq_true Bool.true_eq_false false_implies implies_true imp_self ne_eq not_false_eq_true not_true_eq_false false_and and_false List.getElem?_toArray List.getElem?_cons_succ List.getElem?_cons_zero Option.bind_some Option.map_some Bool.not_true Bool.not_false List.getD_cons_zero List.getD_cons_succ Option.some.injEq exists_eq_left' AV.bool.injEq List.map_cons List.map_nil List.all_cons List.all_nil Bool.and_self Bool.and_true Bool.true_and List.append_nil List.cons_append List.nil_append List.length_cons List.length_nil List.drop_zero List.take_zero List.drop_succ_cons List.take_succ_cons List.take_nil List.drop_nil List.not_mem_nil List.mem_cons List.contains_nil List.contains_cons Bool.or_self Bool.or_true Bool.true_or Bool.false_or Bool.or_false Bool.and_false Bool.false_and KsS_same KsS_grow skipV KsS_ext KsSW_ext rep1 rep2 rep3 rep4 rep5 List.flatten_cons List.flatten_nil partsA isPtr fillA List.size_toArray ltT ltF leT leF ltTn ltFn leTn leFn eqTi eqFi wrapId toNat1 intGet boolGet memD app_get app_last app_lst app_set app_setL app_setF set_ne set_eq gt_iff_lt ge_iff_le decide_eq_true_eq len2 len3 get20 get21 drop2 put2 get30 get31 get32 drop3 put3 putI pairEta bneTi bneFi beqTi beqFi bne_eq_false_iff_eq beq_eq_false_iff_ne beq_iff_eq bne_iff_ne Int.toNat_natCast Nat.mul_one List.length_map Bool.not_eq_true Bool.not_eq_false Bool.decide_eq_true decide_true decide_false Bool.not_eq_true' Bool.not_eq_false' decide_eq_false_iff_not eq_self Decidable.not_not

def goneF (ts : List Int) (y : Int) (i : Nat) : Int := (ts.getD i 0 * y).tdiv 1000
def decF (ts : List Int) (y : Int) (i : Nat) : Int := ts.getD i 0 - goneF ts y i
def decB (r : Int) (l : List Id3) (ms ts bs : List Int) (y : Int) : Bool := okB r l ms ts bs && inB y 0 1000
def decM (r : Int) (l : List Id3) (ms ts bs : List Int) (y : Int) : List Int := ms
def decT (r : Int) (l : List Id3) (ms ts bs : List Int) (y : Int) : List Int := if decB r l ms ts bs y = true then (List.range ts.length).map (decF ts y) else ts
def decL (r : Int) (l : List Id3) (ms ts bs : List Int) (y : Int) : Int × Int × Int × Int := if decB r l ms ts bs y = true then (0, 0, 0, sumN (goneF ts y) ts.length) else (0, 0, 0, 0)
theorem gone_bd {ts : List Int} {y : Int} {i : Nat} (ht : 0 ≤ ts.getD i 0 ∧ ts.getD i 0 ≤ 10000000000) (hy : 0 ≤ y ∧ y ≤ 1000) : 0 ≤ ts.getD i 0 * y ∧ ts.getD i 0 * y ≤ 10000000000000 ∧ 0 ≤ goneF ts y i ∧ goneF ts y i ≤ 10000000000000 := by
  have h1 : 0 ≤ ts.getD i 0 * y := Int.mul_nonneg ht.1 hy.1
  have h2 : ts.getD i 0 * y ≤ ts.getD i 0 * 1000 := Int.mul_le_mul_of_nonneg_left hy.2 ht.1
  have h3 : 0 ≤ (ts.getD i 0 * y).tdiv 1000 := Int.tdiv_nonneg h1 (by omega)
  have h4 : (ts.getD i 0 * y).tdiv 1000 ≤ ts.getD i 0 * y := Int.tdiv_le_self _ h1
  unfold goneF
  omega
def SRate : List AV → List Blk → (AV → List Blk → Prop) → Prop
  | [.int .i64 y], η, K => K (.bool (inB y 0 1000)) η
  | _, _, _ => False
def SDecP (lo : Nat) : List AV → List Blk → (AV → List Blk → Prop) → Prop
  | [.ptr p 0 0, .int .i64 y], η, K => ∃ (n : Nat) (r : Int) (b0 b1 b2 b3 v0 v1 v2 v3 : Nat) (l : List Id3) (ms ts bs : List Int), lo ≤ n ∧ PtrS n p η r b0 b1 b2 b3 v0 v1 v2 v3 l ms ts bs ∧ okB r l ms ts bs = true ∧ (0 ≤ y ∧ y ≤ 1000) ∧
      ∀ H, PtrS n p H r b0 b1 b2 b3 v0 v1 v2 v3 l ms ((List.range ts.length).map (decF ts y)) bs → Touch (hit5 p b0 b1 b2 b3) η H → K (.agg [.int .i64 0, .int .i64 0, .int .i64 0, .int .i64 (sumN (goneF ts y) ts.length)]) H
  | _, _, _ => False

def SDecS : List AV → List Blk → (AV → List Blk → Prop) → Prop
  | [.agg [.int .i64 r, v, a, b, c], .int .i64 y], η, K => (ok3 45 η v ∧ okI η a ∧ okI η b ∧ okI η c) ∧ ∀ H b0 b1 b2 b3 v0 v1 v2 v3, New4 η.length H b0 b1 b2 b3 v0 v1 v2 v3 (dec3 45 η v) (decM r (dec3 45 η v) (decI η a) (decI η b) (decI η c) y) (decT r (dec3 45 η v) (decI η a) (decI η b) (decI η c) y) (decI η c) → Ext η H →
      K (.tup [.agg [.int .i64 r, .sl b0 v0 0 (dec3 45 η v).length, .sl b1 v1 0 (decM r (dec3 45 η v) (decI η a) (decI η b) (decI η c) y).length, .sl b2 v2 0 (decT r (dec3 45 η v) (decI η a) (decI η b) (decI η c) y).length, .sl b3 v3 0 (decI η c).length], .agg [.int .i64 (decL r (dec3 45 η v) (decI η a) (decI η b) (decI η c) y).1, .int .i64 (decL r (dec3 45 η v) (decI η a) (decI η b) (decI η c) y).2.1, .int .i64 (decL r (dec3 45 η v) (decI η a) (decI η b) (decI η c) y).2.2.1, .int .i64 (decL r (dec3 45 η v) (decI η a) (decI η b) (decI η c) y).2.2.2]]) H
  | _, _, _ => False

/- impl.isRate -/
def Sp121 (lo : Nat) : Spec := fun g args η K => match g with | 118 => SIn args η K | _ => False
theorem Sp121_ok {lo : Nat} : Sound Try.prog lo (Sp121 lo) := by
  intro g args η K h
  unfold Sp121 at h
  split at h
  · exact f118_ok h
  · exact h.elim
theorem f121_ok {lo : Nat} {args : List AV} {η : List Blk} {K : AV → List Blk → Prop} (h : SRate args η K) : AF Try.prog lo 121 args η K := by
  unfold SRate at h
  split at h
  · refine AF_run Sp121_ok D0 [] [.tmp 2] hm Try.func121 rfl (by decide) Try.ntmps121 rfl (by kernel_rfl) (Nat.le_of_ble_eq_true rfl) ?_; intro hlo
    repeat' (first | with_reducible refine iteI (fun _ => ?_) (fun _ => ?_) | ((first | unfold AOpsC | unfold AOpsD | skip); simp (maxSteps := 1000000) (disch := (first | omega | assumption | (simp only [List.length_append, List.length_cons, List.length_nil, List.length_set]; omega))) only [go_sem, ↓skipC, ↓exitC, ↓retC, ↓seqC, ↓blockC, ↓condC, ↓regC, ↓drawC, ↓drawStep, ↓AOpC, ↓AOpF, ↓AOpE, ↓AEff, ↓contE_at, ↓contC_at, ↓keepC_at, ↓keepW_at, ↓map_parts, ↓reduceIte, reduceCtorEq, Nat.reduceLT, Nat.reduceEqDiff, Nat.reduceAdd, Nat.reduceMul, Nat.reduceLeDiff, Nat.reduceSub, Nat.reduceBEq, Nat.reduceBNe, Nat.reduceBneDiff, Nat.reduceBeqDiff, Sp121, SIn]))
    exact h
  · exact h.elim

def invDec (η : List Blk) (p : Nat) (y : Int) (b2 v2 : Nat) (ts : List Int) (st : St) : Prop := ∃ i : Nat, (i ≤ ts.length) ∧ st.n = 41 ∧ st.τ 0 = .ptr p 0 0 ∧ st.τ 1 = .int .i64 y ∧ st.τ 4 = .loc 4 1 0 ∧ st.τ 5 = .loc 5 1 0 ∧ st.τ 13 = .sl b2 v2 0 ts.length ∧ st.τ 14 = .int .i64 ts.length ∧ st.τ 15 = .int .i64 i ∧ st.lam 4 = ⟨1, [.int .i64 0, .int .i64 0, .int .i64 0, .int .i64 0]⟩ ∧ st.lam 5 = ⟨1, [.int .i64 0, .int .i64 0, .int .i64 0, .int .i64 (sumN (goneF ts y) i)]⟩ ∧ st.η = η.set b2 ⟨v2, 3, 1, (mixed (decF ts y) ts i).map (.int .i64)⟩

/- (*impl.State).decay -/
theorem f122_ok {lo : Nat} {args : List AV} {η : List Blk} {K : AV → List Blk → Prop} (h : SDecP lo args η K) : AF Try.prog lo 122 args η K := by
  unfold SDecP at h
  split at h
  · obtain ⟨n, r, b0, b1, b2, b3, v0, v1, v2, v3, l, ms, ts, bs, hn, hP, e1, hy, hK⟩ := h
    rename_i p y
    obtain ⟨k1, k2, k3, k4, k5, k6, k7, k8⟩ := okT e1
    have hl8 : l.length ≤ 128 := by have := mesh_len k1; omega
    have hp := hP.pb
    have hg2 := hP.n4.g2
    have hp2 := hP.p2
    have hlb2 : lo ≤ b2 := Nat.le_trans hn hP.n4.n2
    have hb2l := blt hg2
    have hpl := blt hp
    have gb : ∀ i, i < ts.length → 0 ≤ goneF ts y i ∧ goneF ts y i ≤ 10000000000000 := fun i hi => by
      have := cells_at k7 (i := i) (by omega)
      exact (gone_bd (by omega) hy).2.2
    refine AF_run noSp_ok D0 [] [.cell 4 48] hm Try.func122 rfl (by decide) Try.ntmps122 rfl (by kernel_rfl) (Nat.le_of_ble_eq_true rfl) ?_; intro hlo
    repeat' (first | with_reducible refine iteI (fun _ => ?_) (fun _ => ?_) | ((first | unfold AOpsC | unfold AOpsD | skip); simp (maxSteps := 1000000) (disch := (first | omega | assumption | (simp only [List.length_append, List.length_cons, List.length_nil, List.length_set]; omega))) only [go_sem, ↓skipC, ↓exitC, ↓retC, ↓seqC, ↓blockC, ↓condC, ↓regC, ↓drawC, ↓drawStep, ↓AOpC, ↓AOpF, ↓AOpE, ↓AEff, ↓contE_at, ↓contC_at, ↓keepC_at, ↓keepW_at, ↓map_parts, ↓reduceIte, reduceCtorEq, Nat.reduceLT, Nat.reduceEqDiff, Nat.reduceAdd, Nat.reduceMul, Nat.reduceLeDiff, Nat.reduceSub, Nat.reduceBEq, Nat.reduceBNe, Nat.reduceBneDiff, Nat.reduceBeqDiff, ag_28, ag_3, ag_48, by_28, by_3, by_48, el_28, fi_39_2, fi_48_3, in_3, nf_48, pl_48, ps_48, sz_28, sz_3, sz_48, ze_28, ze_3, ze_48, hp, hg2]))
    refine ⟨invDec η p y b2 v2 ts, fun st => ctr ts.length st 15, .inl ⟨0, Nat.zero_le _, rfl, by simp [upd], by simp [upd], by simp [upd], by simp [upd], by simp [upd], by simp [upd], by simp [upd], by simp [upd], by simp [upd, sumN], by rw [mixed_0]; exact (set_same hg2).symm⟩, ?_⟩
    rintro ⟨n, τ, lam, η'⟩ ⟨i, g0, hn, t0, t1, t4, t5, t13, t14, t15, l4, l5, hη⟩; simp only at hn t0 t1 t4 t5 t13 t14 t15 l4 l5 hη; subst hn hη
    have hml := mixed_len (decF ts y) ts g0
    have hsl : b2 < (η.set b2 ⟨v2, 3, 1, (mixed (decF ts y) ts i).map (.int .i64)⟩).length := by simpa using hb2l
    have sb := sumN_bd gb i g0
    by_cases hlt : i < ts.length
    · have m1 := cells_at k7 (i := i) (by omega)
      have gi := gone_bd (ts := ts) (y := y) (i := i) (by omega) hy
      have hms : (mixed (decF ts y) ts i).set i (decF ts y i) = mixed (decF ts y) ts (i + 1) := mixed_set (decF ts y) ts hlt
      have hmg := mixed_get (decF ts y) ts 0 hlt
      have hgd : (ts.getD i 0 * y).tdiv 1000 = goneF ts y i := rfl
      have hdd : ts.getD i 0 - goneF ts y i = decF ts y i := rfl
      have hss : sumN (goneF ts y) i + goneF ts y i = sumN (goneF ts y) (i + 1) := rfl
      have hdb : 0 ≤ 1 ∧ -10000000000000 ≤ ts.getD i 0 - goneF ts y i ∧ ts.getD i 0 - goneF ts y i ≤ 10000000000 := by omega
      repeat' (first | with_reducible refine iteI (fun _ => ?_) (fun _ => ?_) | ((first | unfold AOpsC | unfold AOpsD | skip); simp (maxSteps := 1000000) (disch := (first | omega | assumption | (simp only [List.length_append, List.length_cons, List.length_nil, List.length_set]; omega))) only [go_sem, ↓skipC, ↓exitC, ↓retC, ↓seqC, ↓blockC, ↓condC, ↓regC, ↓drawC, ↓drawStep, ↓AOpC, ↓AOpF, ↓AOpE, ↓AEff, ↓contE_at, ↓contC_at, ↓keepC_at, ↓keepW_at, ↓map_parts, ↓reduceIte, reduceCtorEq, Nat.reduceLT, Nat.reduceEqDiff, Nat.reduceAdd, Nat.reduceMul, Nat.reduceLeDiff, Nat.reduceSub, Nat.reduceBEq, Nat.reduceBNe, Nat.reduceBneDiff, Nat.reduceBeqDiff, ag_28, ag_3, ag_48, by_28, by_3, by_48, el_28, fi_39_2, fi_48_3, in_3, nf_48, pl_48, ps_48, sz_28, sz_3, sz_48, ze_28, ze_3, ze_48, hp, hg2, t0, t1, t4, t5, t13, t14, t15, l4, l5, List.set_set, List.length_set, hml, hmg, hgd, setGet]))
      refine ⟨⟨i + 1, hlt, rfl, by simp [upd, t0, t1, t4, t5, t13, t14, t15], by simp [upd, t0, t1, t4, t5, t13, t14, t15], by simp [upd, t0, t1, t4, t5, t13, t14, t15], by simp [upd, t0, t1, t4, t5, t13, t14, t15], by simp [upd, t0, t1, t4, t5, t13, t14, t15], by simp [upd, t0, t1, t4, t5, t13, t14, t15], by simp [upd, t0, t1, t4, t5, t13, t14, t15], by simp [upd, l4], by simp [upd, l5, hss], ?_⟩, by simp [ctr, upd, t15]; omega⟩
      try dsimp only
      rw [hdd, hms]
    · obtain rfl : i = ts.length := by omega
      repeat' (first | with_reducible refine iteI (fun _ => ?_) (fun _ => ?_) | ((first | unfold AOpsC | unfold AOpsD | skip); simp (maxSteps := 1000000) (disch := (first | omega | assumption | (simp only [List.length_append, List.length_cons, List.length_nil, List.length_set]; omega))) only [go_sem, ↓skipC, ↓exitC, ↓retC, ↓seqC, ↓blockC, ↓condC, ↓regC, ↓drawC, ↓drawStep, ↓AOpC, ↓AOpF, ↓AOpE, ↓AEff, ↓contE_at, ↓contC_at, ↓keepC_at, ↓keepW_at, ↓map_parts, ↓reduceIte, reduceCtorEq, Nat.reduceLT, Nat.reduceEqDiff, Nat.reduceAdd, Nat.reduceMul, Nat.reduceLeDiff, Nat.reduceSub, Nat.reduceBEq, Nat.reduceBNe, Nat.reduceBneDiff, Nat.reduceBeqDiff, ag_28, ag_3, ag_48, by_28, by_3, by_48, el_28, fi_39_2, fi_48_3, in_3, nf_48, pl_48, ps_48, sz_28, sz_3, sz_48, ze_28, ze_3, ze_48, hp, hg2, t0, t1, t4, t5, t13, t14, t15, l4, l5, List.set_set]))
      rw [mixed_end]
      exact hK _ (hP.put2 (by simp)) (Touch.set (.inr (.inr (.inr (.inl rfl)))))
  · exact h.elim

/- impl.DecayAll -/
def Sp48 (lo : Nat) : Spec := fun g args η K => match g with | 103 => SOk args η K | 109 => SCopyS args η K | 121 => SRate args η K | 122 => SDecP lo args η K | _ => False
theorem Sp48_ok {lo : Nat} : Sound Try.prog lo (Sp48 lo) := by
  intro g args η K h
  unfold Sp48 at h
  split at h
  · exact f103_ok h
  · exact f109_ok h
  · exact f121_ok h
  · exact f122_ok h
  · exact h.elim
def D48 : Draws := fun id => match id with | 5 => ([0, 0, 1, 7], [], [], (.one 0 (.two 1 2 (.one 2 (.one 3 .nil)) (.one 1 (.one 3 .nil))))) | _ => ([], [], [], .nil)
theorem f48_ok {lo : Nat} {args : List AV} {η : List Blk} {K : AV → List Blk → Prop} (h : SDecS args η K) : AF Try.prog lo 48 args η K := by
  unfold SDecS at h
  split at h
  · obtain ⟨⟨⟨l, hr, hl⟩, ⟨ms, ha, hla⟩, ⟨ts, hb, hlb⟩, ⟨bs, hc, hlc⟩⟩, hK⟩ := h
    rename_i r _ _ _ _ y
    have d1 := hr.dec3
    have d2 := ha.dec
    have d3 := hb.dec
    have d4 := hc.dec
    have o1 : ok3 45 _ _ := ⟨l, hr, hl⟩
    have o2 : okI _ _ := ⟨ms, ha, hla⟩
    have o3 : okI _ _ := ⟨ts, hb, hlb⟩
    have o4 : okI _ _ := ⟨bs, hc, hlc⟩
    simp only [d1, d2, d3, d4] at hK
    have hr' := hr
    have ha' := ha
    have hb' := hb
    have hc' := hc
    obtain ⟨b0, v0, rfl, hb0⟩ := hr'
    obtain ⟨b1, v1, rfl, hb1⟩ := ha'
    obtain ⟨b2, v2, rfl, hb2⟩ := hb'
    obtain ⟨b3, v3, rfl, hb3⟩ := hc'
    unfold decM at hK
    refine AF_run Sp48_ok D48 [6] [.cell 4 39, .cell 5 48] hm Try.func48 rfl (by decide) Try.ntmps48 rfl (by kernel_rfl) (Nat.le_of_ble_eq_true rfl) ?_; intro hlo
    repeat' (first | with_reducible refine iteI (fun _ => ?_) (fun _ => ?_) | ((first | unfold AOpsC | unfold AOpsD | skip); simp (maxSteps := 1000000) (disch := (first | omega | assumption | (simp only [List.length_append, List.length_cons, List.length_nil, List.length_set]; omega))) only [go_sem, ↓skipC, ↓exitC, ↓retC, ↓seqC, ↓blockC, ↓condC, ↓regC, ↓drawC, ↓drawStep, ↓AOpC, ↓AOpF, ↓AOpE, ↓AEff, ↓contE_at, ↓contC_at, ↓keepC_at, ↓keepW_at, ↓map_parts, ↓reduceIte, reduceCtorEq, Nat.reduceLT, Nat.reduceEqDiff, Nat.reduceAdd, Nat.reduceMul, Nat.reduceLeDiff, Nat.reduceSub, Nat.reduceBEq, Nat.reduceBNe, Nat.reduceBneDiff, Nat.reduceBeqDiff, ag_39, ag_48, by_39, by_48, nf_39, nf_48, pl_39, pl_48, ps_39, ps_48, sz_39, sz_48, ze_39, ze_48, Sp48, SOk, SRate, D48, hb0, hb1, hb2, hb3, d1, d2, d3, d4, o1, o2, o3, o4]))
    refine copyN ⟨l, ms, ts, bs, ⟨hr, ha, hb, hc⟩, ⟨hl, hla, hlb, hlc⟩, fun H q0 q1 q2 q3 hN x => ?_⟩
    have w0 := x.blk hb0
    have w1 := x.blk hb1
    have w2 := x.blk hb2
    have w3 := x.blk hb3
    have D1 : dec3 45 H (.sl b0 v0 0 l.length) = l := IsR.dec3 ⟨b0, v0, rfl, w0⟩
    have D2 : decI H (.sl b1 v1 0 ms.length) = ms := IsI.dec ⟨b1, v1, rfl, w1⟩
    have D3 : decI H (.sl b2 v2 0 ts.length) = ts := IsI.dec ⟨b2, v2, rfl, w2⟩
    have D4 : decI H (.sl b3 v3 0 bs.length) = bs := IsI.dec ⟨b3, v3, rfl, w3⟩
    have O1 : ok3 45 H (.sl b0 v0 0 l.length) := ⟨l, ⟨b0, v0, rfl, w0⟩, hl⟩
    have O2 : okI H (.sl b1 v1 0 ms.length) := ⟨ms, ⟨b1, v1, rfl, w1⟩, hla⟩
    have O3 : okI H (.sl b2 v2 0 ts.length) := ⟨ts, ⟨b2, v2, rfl, w2⟩, hlb⟩
    have O4 : okI H (.sl b3 v3 0 bs.length) := ⟨bs, ⟨b3, v3, rfl, w3⟩, hlc⟩
    have hHl := x.len
    have nlt := fun c => hN.lt (c := c)
    have l0 := nlt q0 (.inl rfl)
    have l1 := nlt q1 (.inr (.inl rfl))
    have l2 := nlt q2 (.inr (.inr (.inl rfl)))
    have l3 := nlt q3 (.inr (.inr (.inr rfl)))
    have u0 := blt w0
    have u1 := blt w1
    have u2 := blt w2
    have u3 := blt w3
    generalize hH2 : H ++ [(⟨0, 39, 5, [.int .i64 r, .sl q0 0 0 l.length, .sl q1 0 0 ms.length, .sl q2 0 0 ts.length, .sl q3 0 0 bs.length]⟩ : Blk)] = H2
    have x2 : Ext H H2 := ⟨_, hH2.symm⟩
    have hP : PtrS η.length H.length H2 r q0 q1 q2 q3 0 0 0 0 l ms ts bs := ⟨by rw [← hH2]; exact app_last _ _, hN.ext x2, hHl, by omega, by omega, by omega, by omega⟩
    have xx := x.trans x2
    have w0k := xx.blk hb0
    have w1k := xx.blk hb1
    have w2k := xx.blk hb2
    have w3k := xx.blk hb3
    have D1k : dec3 45 H2 (.sl b0 v0 0 l.length) = l := IsR.dec3 ⟨b0, v0, rfl, w0k⟩
    have D2k : decI H2 (.sl b1 v1 0 ms.length) = ms := IsI.dec ⟨b1, v1, rfl, w1k⟩
    have D3k : decI H2 (.sl b2 v2 0 ts.length) = ts := IsI.dec ⟨b2, v2, rfl, w2k⟩
    have D4k : decI H2 (.sl b3 v3 0 bs.length) = bs := IsI.dec ⟨b3, v3, rfl, w3k⟩
    have O1k : ok3 45 H2 (.sl b0 v0 0 l.length) := ⟨l, ⟨b0, v0, rfl, w0k⟩, hl⟩
    have O2k : okI H2 (.sl b1 v1 0 ms.length) := ⟨ms, ⟨b1, v1, rfl, w1k⟩, hla⟩
    have O3k : okI H2 (.sl b2 v2 0 ts.length) := ⟨ts, ⟨b2, v2, rfl, w2k⟩, hlb⟩
    have O4k : okI H2 (.sl b3 v3 0 bs.length) := ⟨bs, ⟨b3, v3, rfl, w3k⟩, hlc⟩
    have hp := hP.pb
    cases e1 : okB r l ms ts bs
    · repeat' (first | with_reducible refine iteI (fun _ => ?_) (fun _ => ?_) | ((first | unfold AOpsC | unfold AOpsD | skip); simp (maxSteps := 1000000) (disch := (first | omega | assumption | (simp only [List.length_append, List.length_cons, List.length_nil, List.length_set]; omega))) only [go_sem, ↓skipC, ↓exitC, ↓retC, ↓seqC, ↓blockC, ↓condC, ↓regC, ↓drawC, ↓drawStep, ↓AOpC, ↓AOpF, ↓AOpE, ↓AEff, ↓contE_at, ↓contC_at, ↓keepC_at, ↓keepW_at, ↓map_parts, ↓reduceIte, reduceCtorEq, Nat.reduceLT, Nat.reduceEqDiff, Nat.reduceAdd, Nat.reduceMul, Nat.reduceLeDiff, Nat.reduceSub, Nat.reduceBEq, Nat.reduceBNe, Nat.reduceBneDiff, Nat.reduceBeqDiff, ag_39, ag_48, by_39, by_48, nf_39, nf_48, pl_39, pl_48, ps_39, ps_48, sz_39, sz_48, ze_39, ze_48, Sp48, SOk, SRate, D48, w0, w1, w2, w3, D1, D2, D3, D4, O1, O2, O3, O4, hH2, hp, w0k, w1k, w2k, w3k, D1k, D2k, D3k, D4k, O1k, O2k, O3k, O4k, e1]))
      have z1 : decT r l ms ts bs y = ts := by simp [decT, decB, e1]
      have z2 : decL r l ms ts bs y = (0, 0, 0, 0) := by simp [decL, decB, e1]
      rw [z1, z2] at hK
      repeat' (first | with_reducible refine iteI (fun _ => ?_) (fun _ => ?_) | ((first | unfold AOpsC | unfold AOpsD | skip); simp (maxSteps := 1000000) (disch := (first | omega | assumption | (simp only [List.length_append, List.length_cons, List.length_nil, List.length_set]; omega))) only [go_sem, ↓skipC, ↓exitC, ↓retC, ↓seqC, ↓blockC, ↓condC, ↓regC, ↓drawC, ↓drawStep, ↓AOpC, ↓AOpF, ↓AOpE, ↓AEff, ↓contE_at, ↓contC_at, ↓keepC_at, ↓keepW_at, ↓map_parts, ↓reduceIte, reduceCtorEq, Nat.reduceLT, Nat.reduceEqDiff, Nat.reduceAdd, Nat.reduceMul, Nat.reduceLeDiff, Nat.reduceSub, Nat.reduceBEq, Nat.reduceBNe, Nat.reduceBneDiff, Nat.reduceBeqDiff, ag_39, ag_48, by_39, by_48, nf_39, nf_48, pl_39, pl_48, ps_39, ps_48, sz_39, sz_48, ze_39, ze_48, Sp48, SOk, SRate, D48]))
      exact hK _ _ _ _ _ _ _ _ _ hP.n4 xx
    cases e2 : inB y 0 1000
    · repeat' (first | with_reducible refine iteI (fun _ => ?_) (fun _ => ?_) | ((first | unfold AOpsC | unfold AOpsD | skip); simp (maxSteps := 1000000) (disch := (first | omega | assumption | (simp only [List.length_append, List.length_cons, List.length_nil, List.length_set]; omega))) only [go_sem, ↓skipC, ↓exitC, ↓retC, ↓seqC, ↓blockC, ↓condC, ↓regC, ↓drawC, ↓drawStep, ↓AOpC, ↓AOpF, ↓AOpE, ↓AEff, ↓contE_at, ↓contC_at, ↓keepC_at, ↓keepW_at, ↓map_parts, ↓reduceIte, reduceCtorEq, Nat.reduceLT, Nat.reduceEqDiff, Nat.reduceAdd, Nat.reduceMul, Nat.reduceLeDiff, Nat.reduceSub, Nat.reduceBEq, Nat.reduceBNe, Nat.reduceBneDiff, Nat.reduceBeqDiff, ag_39, ag_48, by_39, by_48, nf_39, nf_48, pl_39, pl_48, ps_39, ps_48, sz_39, sz_48, ze_39, ze_48, Sp48, SOk, SRate, D48, w0, w1, w2, w3, D1, D2, D3, D4, O1, O2, O3, O4, hH2, hp, w0k, w1k, w2k, w3k, D1k, D2k, D3k, D4k, O1k, O2k, O3k, O4k, e1, e2]))
      have z1 : decT r l ms ts bs y = ts := by simp [decT, decB, e2]
      have z2 : decL r l ms ts bs y = (0, 0, 0, 0) := by simp [decL, decB, e2]
      rw [z1, z2] at hK
      repeat' (first | with_reducible refine iteI (fun _ => ?_) (fun _ => ?_) | ((first | unfold AOpsC | unfold AOpsD | skip); simp (maxSteps := 1000000) (disch := (first | omega | assumption | (simp only [List.length_append, List.length_cons, List.length_nil, List.length_set]; omega))) only [go_sem, ↓skipC, ↓exitC, ↓retC, ↓seqC, ↓blockC, ↓condC, ↓regC, ↓drawC, ↓drawStep, ↓AOpC, ↓AOpF, ↓AOpE, ↓AEff, ↓contE_at, ↓contC_at, ↓keepC_at, ↓keepW_at, ↓map_parts, ↓reduceIte, reduceCtorEq, Nat.reduceLT, Nat.reduceEqDiff, Nat.reduceAdd, Nat.reduceMul, Nat.reduceLeDiff, Nat.reduceSub, Nat.reduceBEq, Nat.reduceBNe, Nat.reduceBneDiff, Nat.reduceBeqDiff, ag_39, ag_48, by_39, by_48, nf_39, nf_48, pl_39, pl_48, ps_39, ps_48, sz_39, sz_48, ze_39, ze_48, Sp48, SOk, SRate, D48]))
      exact hK _ _ _ _ _ _ _ _ _ hP.n4 xx
    have hy := inT e2
    have hB : decB r l ms ts bs y = true := by simp [decB, e1, e2]
    have z1 : decT r l ms ts bs y = (List.range ts.length).map (decF ts y) := if_pos hB
    have z2 : decL r l ms ts bs y = (0, 0, 0, sumN (goneF ts y) ts.length) := if_pos hB
    rw [z1, z2] at hK
    repeat' (first | with_reducible refine iteI (fun _ => ?_) (fun _ => ?_) | ((first | unfold AOpsC | unfold AOpsD | skip); simp (maxSteps := 1000000) (disch := (first | omega | assumption | (simp only [List.length_append, List.length_cons, List.length_nil, List.length_set]; omega))) only [go_sem, ↓skipC, ↓exitC, ↓retC, ↓seqC, ↓blockC, ↓condC, ↓regC, ↓drawC, ↓drawStep, ↓AOpC, ↓AOpF, ↓AOpE, ↓AEff, ↓contE_at, ↓contC_at, ↓keepC_at, ↓keepW_at, ↓map_parts, ↓reduceIte, reduceCtorEq, Nat.reduceLT, Nat.reduceEqDiff, Nat.reduceAdd, Nat.reduceMul, Nat.reduceLeDiff, Nat.reduceSub, Nat.reduceBEq, Nat.reduceBNe, Nat.reduceBneDiff, Nat.reduceBeqDiff, ag_39, ag_48, by_39, by_48, nf_39, nf_48, pl_39, pl_48, ps_39, ps_48, sz_39, sz_48, ze_39, ze_48, Sp48, SOk, SRate, D48, w0, w1, w2, w3, D1, D2, D3, D4, O1, O2, O3, O4, hH2, hp, w0k, w1k, w2k, w3k, D1k, D2k, D3k, D4k, O1k, O2k, O3k, O4k, e1, e2]))
    unfold SDecP
    refine ⟨η.length, r, q0, q1, q2, q3, 0, 0, 0, 0, l, ms, ts, bs, hlo, hP, e1, hy, fun H3 hP3 t3 => ?_⟩
    have hp3 := hP3.pb
    have x3 := xx.after t3 (fun c hc => hP.low hc)
    rw [mapR_len] at hp3
    repeat' (first | with_reducible refine iteI (fun _ => ?_) (fun _ => ?_) | ((first | unfold AOpsC | unfold AOpsD | skip); simp (maxSteps := 1000000) (disch := (first | omega | assumption | (simp only [List.length_append, List.length_cons, List.length_nil, List.length_set]; omega))) only [go_sem, ↓skipC, ↓exitC, ↓retC, ↓seqC, ↓blockC, ↓condC, ↓regC, ↓drawC, ↓drawStep, ↓AOpC, ↓AOpF, ↓AOpE, ↓AEff, ↓contE_at, ↓contC_at, ↓keepC_at, ↓keepW_at, ↓map_parts, ↓reduceIte, reduceCtorEq, Nat.reduceLT, Nat.reduceEqDiff, Nat.reduceAdd, Nat.reduceMul, Nat.reduceLeDiff, Nat.reduceSub, Nat.reduceBEq, Nat.reduceBNe, Nat.reduceBneDiff, Nat.reduceBeqDiff, ag_39, ag_48, by_39, by_48, nf_39, nf_48, pl_39, pl_48, ps_39, ps_48, sz_39, sz_48, ze_39, ze_48, Sp48, SOk, SRate, D48, hp3]))
    have hk := hK _ _ _ _ _ _ _ _ _ hP3.n4 x3
    rw [mapR_len] at hk
    exact hk
  · exact h.elim

end Go.Proofs.Ytffefndnnbcplaa
