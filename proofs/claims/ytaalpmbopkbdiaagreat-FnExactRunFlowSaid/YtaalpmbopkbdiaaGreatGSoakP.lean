/- What functions of the program compute, said in the abstract logic; no conditions. -/
import Derived.Test.YtaalpmbopkbdiaaGreatGFlux2
import Derived.Test.YtaalpmbopkbdiaaGreatGRem
import Derived.Test.YtaalpmbopkbdiaaGreatGDry

namespace Go.Proofs.YtaalpmbopkbdiaaGreat
open Go
set_option linter.unusedSimpArgs false
set_option linter.unusedVariables false
set_option maxRecDepth 100000
set_option maxHeartbeats 8000000
attribute [local go_sem] st0 AC thenA andC locLoadB KsSW_same KsSW_grow oldLoadB noBlkB KsSL_same KsOS_same KsOS_grow pv ev put upd dstOk cv cvc binI setB Value.oneCell' EndA resA resA1 List.mapM_cons List.mapM_nil Option.pure_def Option.bind_eq_bind noLocV noLoc1 noLoc noLocs plainV cellsA newVarA putCells condA lam0 inBlockA cur lenA rowA writeA dstA appendC appendZ mapPut mapGet avoidsB avoidB clearB Array.toList_append Op.operands Call.operands newSlot Nat.zero_add Nat.add_zero Nat.succ_ne_self Nat.lt_add_one Nat.zero_lt_succ true_and and_true true_or or_true false_or or_false and_self true_implies forall_const Bool.false_eq_true Bool.true_eq_false false_implies implies_true imp_self ne_eq not_false_eq_true not_true_eq_false false_and and_false List.getElem?_toArray List.getElem?_cons_succ List.getElem?_cons_zero Option.bind_some Option.map_some Bool.not_true Bool.not_false List.getD_cons_zero List.getD_cons_succ Option.some.injEq exists_eq_left' AV.bool.injEq List.map_cons List.map_nil List.all_cons List.all_nil Bool.and_self Bool.and_true Bool.true_and List.append_nil List.cons_append List.nil_append List.length_cons List.length_nil List.drop_zero List.take_zero List.drop_succ_cons List.take_succ_cons List.take_nil List.drop_nil List.not_mem_nil List.mem_cons List.contains_nil List.contains_cons Bool.or_self Bool.or_true Bool.true_or Bool.false_or Bool.or_false Bool.and_false Bool.false_and KsS_same KsS_grow skipV KsS_ext KsSW_ext KsOS_ext rep1 rep2 rep3 rep4 rep5 List.flatten_cons List.flatten_nil partsA isPtr fillA List.size_toArray ltT ltF leT leF ltTn ltFn leTn leFn eqTi eqFi wrapId toNat1 intGet boolGet memD app_get app_last app_lst app_set app_setL app_setF set_ne set_eq gt_iff_lt ge_iff_le decide_eq_true_eq len2 len3 get20 get21 drop2 put2 get30 get31 get32 drop3 put3 putI pairEta bneTi bneFi beqTi beqFi bne_eq_false_iff_eq beq_eq_false_iff_ne beq_iff_eq bne_iff_ne Int.toNat_natCast Nat.mul_one List.length_map Bool.not_eq_true Bool.not_eq_false Bool.decide_eq_true decide_true decide_false Bool.not_eq_true' Bool.not_eq_false' decide_eq_false_iff_not eq_self Decidable.not_not
attribute [local go_sem ↓] skipC exitC retC seqC blockC condC regC drawC drawStep AOpC AOpF AOpE AEff contE_at contC_at keepC_at keepW_at keepO_at keepL_at map_parts
attribute [local go_sem] reduceCtorEq Nat.reduceLT Nat.reduceEqDiff Nat.reduceAdd Nat.reduceMul Nat.reduceLeDiff Nat.reduceSub Nat.reduceBEq Nat.reduceBNe Nat.reduceBneDiff Nat.reduceBeqDiff
attribute [local go_sem ↓] reduceIte
attribute [local go_sem] ag_25 ag_3 ag_30 ag_34 ag_51 ag_69 by_25 by_3 by_30 by_34 by_51 by_69 el_25 el_30 en_3 fi_32_1 fi_34_0 fi_34_1 fi_34_2 fi_51_1 fi_51_3 fi_69_1 in_3 nf_34 nf_51 nf_69 pl_34 pl_51 pl_69 ps_34 ps_51 ps_69 sz_25 sz_3 sz_30 sz_34 sz_51 sz_69 ze_25 ze_3 ze_30 ze_34 ze_51 ze_69

def prtF (l : List Id3) (y : Int) (i : Nat) : Int := (y * wdI (l.getD i (0, 0, 0)).2.1).tdiv 16
def skF (l : List Id3) (ms : List Int) (y : Int) (i : Nat) : Int := if ms.getD i 0 < prtF l y i then ms.getD i 0 else prtF l y i
def skT (l : List Id3) (ms ts : List Int) (y : Int) (i : Nat) : Int := shareO (ts.getD i 0) (skF l ms y i) (ms.getD i 0)
def skM' (l : List Id3) (ms : List Int) (y : Int) (i : Nat) : Int := ms.getD i 0 - skF l ms y i
def skT' (l : List Id3) (ms ts : List Int) (y : Int) (i : Nat) : Int := ts.getD i 0 - skT l ms ts y i
def nSkM (l : List Id3) (ms ts : List Int) (y : Int) : List Int := (List.range ms.length).map (skM' l ms y)
def nSkT (l : List Id3) (ms ts : List Int) (y : Int) : List Int := (List.range ts.length).map (skT' l ms ts y)
def nSkL (l : List Id3) (ms ts : List Int) (y : Int) : Int × Int × Int × Int := (0, sumN (skF l ms y) ms.length, 0, sumN (skT l ms ts y) ms.length)
theorem nSkM_len (l : List Id3) (ms ts : List Int) (y : Int) : (nSkM l ms ts y).length = ms.length := mapR_len _ _
theorem nSkT_len (l : List Id3) (ms ts : List Int) (y : Int) : (nSkT l ms ts y).length = ts.length := mapR_len _ _
theorem sk_bd {l : List Id3} {ms ts : List Int} {y : Int} {i : Nat} (hy : 0 ≤ y ∧ y ≤ 10000) (hm : 0 ≤ ms.getD i 0 ∧ ms.getD i 0 ≤ 10000000) (ht : 0 ≤ ts.getD i 0 ∧ ts.getD i 0 ≤ 10000000000) :
    (0 ≤ prtF l y i ∧ prtF l y i ≤ 160000) ∧ (0 ≤ skF l ms y i ∧ skF l ms y i ≤ 160000 ∧ skF l ms y i ≤ ms.getD i 0) ∧ (0 ≤ skT l ms ts y i ∧ skT l ms ts y i ≤ 10000000000 ∧ skT l ms ts y i ≤ ts.getD i 0) := by
  have h1 : 0 ≤ prtF l y i ∧ prtF l y i ≤ 160000 := (part_bd hy (l.getD i (0, 0, 0)).2.1).2.2
  have h2 := shareO_le (p := skF l ms y i) (w := ms.getD i 0) ht.1
  refine ⟨h1, ?_, ?_⟩
  · unfold skF
    split <;> omega
  · unfold skT
    omega

def SSkP (lo : Nat) : List AV → List Blk → (AV → List Blk → Prop) → Prop
  | [.ptr p 0 0, .int .i64 y], η, K => ∃ (n : Nat) (r : Int) (b0 b1 b2 b3 v0 v1 v2 v3 : Nat) (l : List Id3) (ms ts bs : List Int), lo ≤ n ∧ PtrS n p η r b0 b1 b2 b3 v0 v1 v2 v3 l ms ts bs ∧ okB r l ms ts bs = true ∧ (0 ≤ y ∧ y ≤ 10000) ∧
      ∀ H, PtrS n p H r b0 b1 b2 b3 v0 v1 v2 v3 l (nSkM l ms ts y) (nSkT l ms ts y) bs → Touch (hit5 p b0 b1 b2 b3) η H → K (.agg [.int .i64 (nSkL l ms ts y).1, .int .i64 (nSkL l ms ts y).2.1, .int .i64 (nSkL l ms ts y).2.2.1, .int .i64 (nSkL l ms ts y).2.2.2]) H
  | _, _, _ => False
def SSkQ : List AV → List Blk → (AV → List Blk → Prop) → Prop
  | [.agg [.int .i64 r, v, a, b, c], .int .i64 y], η, K => ∃ (l : List Id3) (ms ts bs : List Int), ((IsR 69 3 enc3 η v l ∧ IsI η a ms ∧ IsI η b ts ∧ IsI η c bs) ∧ okB r l ms ts bs = true ∧ 0 ≤ y ∧ y ≤ 10000) ∧ ∀ H b0 b1 b2 b3 v0 v1 v2 v3, New4 η.length H b0 b1 b2 b3 v0 v1 v2 v3 l (nSkM l ms ts y) (nSkT l ms ts y) bs → Ext η H →
      K (.tup [.agg [.int .i64 r, .sl b0 v0 0 l.length, .sl b1 v1 0 ms.length, .sl b2 v2 0 ts.length, .sl b3 v3 0 bs.length], .agg [.int .i64 (nSkL l ms ts y).1, .int .i64 (nSkL l ms ts y).2.1, .int .i64 (nSkL l ms ts y).2.2.1, .int .i64 (nSkL l ms ts y).2.2.2]]) H
  | _, _, _ => False
def invSk (lo : Nat) (η : List Blk) (n p q : Nat) (y : Int) (r : Int) (b0 b1 b2 b3 v0 v1 v2 v3 : Nat) (l : List Id3) (ms ts bs : List Int) (st : St) : Prop := ∃ i : Nat, ∃ H : List Blk, (i ≤ ms.length) ∧ (PtrS n p H r b0 b1 b2 b3 v0 v1 v2 v3 l (mixed (skM' l ms y) ms i) (mixed (skT' l ms ts y) ts i) bs) ∧ (H[q]? = some (ledB 0 (sumN (skF l ms y) i) 0 (sumN (skT l ms ts y) i))) ∧ (Touch (hit5 p b0 b1 b2 b3) η H) ∧ st.n = 32 ∧ st.τ 0 = .ptr p 0 0 ∧ st.τ 1 = .int .i64 y ∧ st.τ 4 = .loc 4 1 0 ∧ st.τ 5 = .ptr q 0 0 ∧ st.τ 12 = .sl b1 v1 0 ms.length ∧ st.τ 13 = .int .i64 ms.length ∧ st.τ 14 = .int .i64 i ∧ st.lam 4 = ⟨1, [.int .i64 0, .int .i64 0, .int .i64 0, .int .i64 0]⟩ ∧ st.η = H

/- (*impl.State).soak -/
def Sp104 (lo : Nat) : Spec := fun g args η K => match g with | 138 => SRem lo args η K | 139 => SPartOf args η K | _ => False
theorem Sp104_ok {lo : Nat} : Sound Tryz.prog lo (Sp104 lo) := by
  intro g args η K h
  unfold Sp104 at h
  split at h
  · exact .inl (f138_ok h)
  · exact .inl (f139_ok h)
  · exact h.elim
theorem f104_ok {lo : Nat} {args : List AV} {η : List Blk} {K : AV → List Blk → Prop} (h : SSkP lo args η K) : AF Tryz.prog lo 104 args η K := by
  unfold SSkP at h
  split at h
  · obtain ⟨n, r, b0, b1, b2, b3, v0, v1, v2, v3, l, ms, ts, bs, hn, hP, e1, hy, hK⟩ := h
    rename_i p y
    obtain ⟨k1, k2, k3, k4, k5, k6, k7, k8⟩ := okT e1
    have hl8 : l.length ≤ 128 := by have := mesh_len k1; omega
    have hb8 : bs.length ≤ 8 := by have := mesh_len k1; omega
    have hp := hP.pb
    have hg1 := hP.n4.g1
    have hpl := blt hp
    have hg1l := blt hg1
    have hnp := hP.np
    have h5 : ∀ c, hit5 p b0 b1 b2 b3 c → c < η.length := fun c hc => by
      rcases hc with rfl | hc
      · exact hpl
      · exact hP.n4.lt hc
    have bd : ∀ i, i < ms.length → (0 ≤ prtF l y i ∧ prtF l y i ≤ 160000) ∧ (0 ≤ skF l ms y i ∧ skF l ms y i ≤ 160000 ∧ skF l ms y i ≤ ms.getD i 0) ∧ (0 ≤ skT l ms ts y i ∧ skT l ms ts y i ≤ 10000000000 ∧ skT l ms ts y i ≤ ts.getD i 0) := fun i hi => by
      have := cells_at k7 hi
      exact sk_bd hy (by omega) (by omega)
    have gb1 : ∀ i, i < ms.length → 0 ≤ skF l ms y i ∧ skF l ms y i ≤ 160000 := fun i hi => by have := bd i hi; omega
    have gb2 : ∀ i, i < ms.length → 0 ≤ skT l ms ts y i ∧ skT l ms ts y i ≤ 10000000000 := fun i hi => by have := bd i hi; omega
    have kL : nSkL l ms ts y = (0, sumN (skF l ms y) ms.length, 0, sumN (skT l ms ts y) ms.length) := rfl
    refine AF_run Sp104_ok D0 [5] [.cell 4 51] hm Tryz.func104 rfl (by decide) Tryz.ntmps104 rfl (by kernel_rfl) (Nat.le_of_ble_eq_true rfl) ?_; intro hlo
    repeat' (first | with_reducible refine iteI (fun _ => ?_) (fun _ => ?_) | ((first | unfold AOpsC | unfold AOpsD | skip); simp (maxSteps := 1000000) (disch := (first | omega | assumption | (simp only [List.length_append, List.length_cons, List.length_nil, List.length_set]; omega))) only [go_sem, Sp104, SPartOf, hp, hg1]))
    generalize hH0 : η ++ [(⟨0, 51, 4, [.int .i64 0, .int .i64 0, .int .i64 0, .int .i64 0]⟩ : Blk)] = H0
    have x0 : Ext η H0 := ⟨_, hH0.symm⟩
    have hq0 : H0[η.length]? = some (ledB 0 0 0 0) := by rw [← hH0]; exact app_last _ _
    refine ⟨invSk lo η n p η.length y r b0 b1 b2 b3 v0 v1 v2 v3 l ms ts bs, fun st => ctr ms.length st 14, .inl ⟨0, H0, Nat.zero_le _, ?_, ?_, x0.touch _, rfl, by simp [upd], by simp [upd], by simp [upd], by simp [upd], by simp [upd], by simp [upd], by simp [upd], by simp [upd], by first | rfl | exact hH0⟩, ?_⟩
    · rw [mixed_0, mixed_0]
      exact ⟨x0.blk hP.pb, hP.n4.ext x0, hP.np, hP.p0, hP.p1, hP.p2, hP.p3⟩
    · simpa [sumN] using hq0
    rintro ⟨n, τ, lam, η'⟩ ⟨i, H, g0, g1, g2, g3, hn, t0, t1, t4, t5, t12, t13, t14, l4, hη⟩; simp only at hn t0 t1 t4 t5 t12 t13 t14 l4 hη; subst hn hη
    have hm1 := mixed_len (skM' l ms y) ms g0
    have hm2 := mixed_len (skT' l ms ts y) ts (i := i) (by omega)
    have pp := g1.pb
    have pg0 := g1.n4.g0
    have pg1 := g1.n4.g1
    have pg2 := g1.n4.g2
    have pg3 := g1.n4.g3
    rw [hm1, hm2] at pp
    have sb1 := sumN_bd gb1 i g0
    have sb2 := sumN_bd gb2 i g0
    have hqH := blt g2
    have hlen : η.length ≤ η'.length := g3.1
    have D1 : dec3 69 η' (.sl b0 v0 0 l.length) = l := IsR.dec3 ⟨b0, v0, rfl, pg0⟩
    have O1 : ok3 69 η' (.sl b0 v0 0 l.length) := ⟨l, ⟨b0, v0, rfl, pg0⟩, by omega⟩
    have O2 : okI η' (.sl b1 v1 0 ms.length) := ⟨_, ⟨b1, v1, by rw [hm1], pg1⟩, by rw [hm1]; omega⟩
    have O3 : okI η' (.sl b2 v2 0 ts.length) := ⟨_, ⟨b2, v2, by rw [hm2], pg2⟩, by rw [hm2]; omega⟩
    have O4 : okI η' (.sl b3 v3 0 bs.length) := ⟨bs, ⟨b3, v3, rfl, pg3⟩, by omega⟩
    by_cases hlt : i < ms.length
    · have m1 := cells_at k7 hlt
      have bi := bd i hlt
      have hmg1 := mixed_get (skM' l ms y) ms 0 hlt
      have hmg2 := mixed_get (skT' l ms ts y) ts 0 (i := i) (by omega)
      have hs1 : (mixed (skM' l ms y) ms i).set i (ms.getD i 0 - skF l ms y i) = mixed (skM' l ms y) ms (i + 1) := mixed_set (skM' l ms y) ms hlt
      have hs2 : (mixed (skT' l ms ts y) ts i).set i (ts.getD i 0 - skT l ms ts y i) = mixed (skT' l ms ts y) ts (i + 1) := mixed_set (skT' l ms ts y) ts (by omega)
      have hpf : (y * wdI (l.getD i (0, 0, 0)).2.1).tdiv 16 = prtF l y i := rfl
      have hsT : shareO (ts.getD i 0) (skF l ms y i) (ms.getD i 0) = skT l ms ts y i := rfl
      have fin : ∀ (x : Int), x = skF l ms y i → ∀ K' : AV → List Blk → Prop, (∀ H, PtrS n p H r b0 b1 b2 b3 v0 v1 v2 v3 l (mixed (skM' l ms y) ms (i + 1)) (mixed (skT' l ms ts y) ts (i + 1)) bs → H[η.length]? = some (ledB 0 (sumN (skF l ms y) (i + 1)) 0 (sumN (skT l ms ts y) (i + 1))) → Touch (hit5 p b0 b1 b2 b3) η H → η.length ≤ H.length → K' (.tup []) H) →
          SRem lo [.ptr p 0 0, .int .i64 i, .int .i64 x, .ptr η.length 0 0] η' K' := by
        intro x hx K' hk
        subst hx
        refine ⟨n, r, b0, b1, b2, b3, v0, v1, v2, v3, l, _, _, bs, 0, _, 0, _, hn, g1, g2, by omega, ⟨fun e => by omega, fun e => by have := h5 η.length (.inr e); omega⟩, ?_, ?_, ?_, by omega, ?_⟩
        · rw [hm1, hm2]; omega
        · rw [Int.toNat_natCast, hmg1]; omega
        · rw [Int.toNat_natCast, hmg2]; omega
        · rw [Int.toNat_natCast, hmg1, hmg2, hsT, hs1, hs2]
          intro H a1 a2 a3
          refine hk H a1 a2 ⟨Nat.le_trans hlen a3.1, fun c hc hs => ?_⟩ (Nat.le_trans hlen a3.1)
          rw [a3.2 c (by omega) (fun e => e.elim (fun e => by omega) hs)]
          exact g3.2 c hc hs
      have mins : (if prtF l y i < ms.getD i 0 then prtF l y i else ms.getD i 0) = skF l ms y i := by
        unfold skF
        split <;> split <;> omega
      by_cases hc : prtF l y i < ms.getD i 0
      · rw [if_pos hc] at mins
        repeat' (first | with_reducible refine iteI (fun _ => ?_) (fun _ => ?_) | ((first | unfold AOpsC | unfold AOpsD | skip); simp (maxSteps := 1000000) (disch := (first | omega | assumption | (simp only [List.length_append, List.length_cons, List.length_nil, List.length_set]; omega))) only [go_sem, Sp104, SPartOf, pp, pg1, D1, O1, O2, O3, O4, t0, t1, t4, t5, t12, t13, t14, l4, hm1, hm2, hmg1, hpf, minStep, List.foldl_cons, List.foldl_nil]))
        refine fin _ mins _ fun H a1 a2 a3 a4 => ?_
        repeat' (first | with_reducible refine iteI (fun _ => ?_) (fun _ => ?_) | ((first | unfold AOpsC | unfold AOpsD | skip); simp (maxSteps := 1000000) (disch := (first | omega | assumption | (simp only [List.length_append, List.length_cons, List.length_nil, List.length_set]; omega))) only [go_sem, Sp104, SPartOf, t0, t1, t4, t5, t12, t13, t14, l4]))
        refine ⟨⟨i + 1, _, hlt, a1, a2, a3, rfl, by simp [upd, t0, t1, t4, t5, t12, t13, t14], by simp [upd, t0, t1, t4, t5, t12, t13, t14], by simp [upd, t0, t1, t4, t5, t12, t13, t14], by simp [upd, t0, t1, t4, t5, t12, t13, t14], by simp [upd, t0, t1, t4, t5, t12, t13, t14], by simp [upd, t0, t1, t4, t5, t12, t13, t14], by simp [upd, t0, t1, t4, t5, t12, t13, t14], by simp [upd, l4], rfl⟩, by simp [ctr, upd, t14]; omega⟩
      · rw [if_neg hc] at mins
        repeat' (first | with_reducible refine iteI (fun _ => ?_) (fun _ => ?_) | ((first | unfold AOpsC | unfold AOpsD | skip); simp (maxSteps := 1000000) (disch := (first | omega | assumption | (simp only [List.length_append, List.length_cons, List.length_nil, List.length_set]; omega))) only [go_sem, Sp104, SPartOf, pp, pg1, D1, O1, O2, O3, O4, t0, t1, t4, t5, t12, t13, t14, l4, hm1, hm2, hmg1, hpf, minStep, List.foldl_cons, List.foldl_nil]))
        refine fin _ mins _ fun H a1 a2 a3 a4 => ?_
        repeat' (first | with_reducible refine iteI (fun _ => ?_) (fun _ => ?_) | ((first | unfold AOpsC | unfold AOpsD | skip); simp (maxSteps := 1000000) (disch := (first | omega | assumption | (simp only [List.length_append, List.length_cons, List.length_nil, List.length_set]; omega))) only [go_sem, Sp104, SPartOf, t0, t1, t4, t5, t12, t13, t14, l4]))
        refine ⟨⟨i + 1, _, hlt, a1, a2, a3, rfl, by simp [upd, t0, t1, t4, t5, t12, t13, t14], by simp [upd, t0, t1, t4, t5, t12, t13, t14], by simp [upd, t0, t1, t4, t5, t12, t13, t14], by simp [upd, t0, t1, t4, t5, t12, t13, t14], by simp [upd, t0, t1, t4, t5, t12, t13, t14], by simp [upd, t0, t1, t4, t5, t12, t13, t14], by simp [upd, t0, t1, t4, t5, t12, t13, t14], by simp [upd, l4], rfl⟩, by simp [ctr, upd, t14]; omega⟩
    · obtain rfl : i = ms.length := by omega
      have hts : ms.length = ts.length := by omega
      have f2 : mixed (skT' l ms ts y) ts ms.length = nSkT l ms ts y := by rw [hts]; exact mixed_end _ _
      rw [mixed_end, f2] at g1
      have f3 := g2
      unfold ledB at f3
      repeat' (first | with_reducible refine iteI (fun _ => ?_) (fun _ => ?_) | ((first | unfold AOpsC | unfold AOpsD | skip); simp (maxSteps := 1000000) (disch := (first | omega | assumption | (simp only [List.length_append, List.length_cons, List.length_nil, List.length_set]; omega))) only [go_sem, Sp104, SPartOf, f3, t0, t1, t4, t5, t12, t13, t14, l4]))
      exact hK _ g1 g3
  · exact h.elim

def invSkQ (η0 : List Blk) (r : Int) (v a b c : AV) (y : Int) (q0 q1 q2 q3 : Nat) (l : List Id3) (ms ts bs : List Int) (st : St) : Prop := ∃ i : Nat, ∃ H : List Blk, (i ≤ ms.length) ∧ (New4 η0.length H q0 q1 q2 q3 0 0 0 0 l (mixed (skM' l ms y) ms i) (mixed (skT' l ms ts y) ts i) bs) ∧ (Ext η0 H) ∧ st.n = 82 ∧ st.τ 1 = .int .i64 y ∧ st.τ 2 = .loc 2 1 0 ∧ st.τ 4 = .loc 4 1 0 ∧ st.τ 5 = .loc 5 1 0 ∧ st.τ 6 = .loc 6 1 0 ∧ st.τ 7 = .loc 7 1 0 ∧ st.τ 8 = .int .i64 i ∧ st.lam 2 = ⟨1, [.int .i64 r, v, a, b, c]⟩ ∧ st.lam 4 = ⟨1, [.int .i64 0, .nils, .nils, .nils, .nils]⟩ ∧ st.lam 5 = ⟨1, [.int .i64 0, .int .i64 0, .int .i64 0, .int .i64 0]⟩ ∧ st.lam 6 = ⟨1, [.int .i64 r, .sl q0 0 0 l.length, .sl q1 0 0 ms.length, .sl q2 0 0 ts.length, .sl q3 0 0 bs.length]⟩ ∧ st.lam 7 = ⟨1, [.int .i64 0, .int .i64 (sumN (skF l ms y) i), .int .i64 0, .int .i64 (sumN (skT l ms ts y) i)]⟩ ∧ st.η = H

/- spec.l14Soak -/
def Sp96 (lo : Nat) : Spec := fun g args η K => match g with | 30 => SCopyS args η K | 71 => SShare args η K | 133 => SPart args η K | _ => False
theorem Sp96_ok {lo : Nat} : Sound Tryz.prog lo (Sp96 lo) := by
  intro g args η K h
  unfold Sp96 at h
  split at h
  · exact .inl (f30_ok h)
  · exact .inl (f71_ok h)
  · exact .inl (f133_ok h)
  · exact h.elim
def Dr96 : Draws := fun id => match id with | 6 => ([0, 0, 2, 6, 0, 30, 62, 126, 255, 0, 512, 0, 3584, 7680, 16383, 32767], [8], [], (.one 0 (.one 1 (.one 2 (.one 3 (.one 4 (.one 5 (.one 6 (.one 7 (.one 9 (.one 10 (.one 11 (.one 12 (.one 13 (.one 8 (.one 14 (.one 15 .nil))))))))))))))))) | 7 => ([0, 1, 0, 7, 15, 0, 0, 64, 0, 448, 960, 2047, 4095], [], [], (.one 0 (.one 1 (.one 2 (.one 3 (.one 4 (.one 5 (.one 6 (.one 7 (.one 8 (.one 9 (.one 10 (.one 11 (.one 12 .nil)))))))))))))) | 8 => ([0, 1, 0, 0, 8, 0, 56, 120, 0, 504, 1023, 2047], [], [], (.one 0 (.one 1 (.one 2 (.one 3 (.one 4 (.one 5 (.one 6 (.one 7 (.one 8 (.one 9 (.one 10 (.one 11 .nil))))))))))))) | 9 => ([0, 1, 0, 0, 8, 0, 56, 120, 0, 504, 1023, 2047], [], [], (.one 0 (.one 1 (.one 2 (.one 3 (.one 4 (.one 5 (.one 6 (.one 7 (.one 8 (.one 9 (.one 10 (.one 11 .nil))))))))))))) | 12 => ([0, 0, 1, 7], [], [], (.one 0 (.two 1 2 (.one 2 (.one 3 .nil)) (.one 1 (.one 3 .nil))))) | _ => ([], [], [], .nil)
theorem f96_ok {lo : Nat} {args : List AV} {η : List Blk} {K : AV → List Blk → Prop} (h : SSkQ args η K) : AF Tryz.prog lo 96 args η K := by
  unfold SSkQ at h
  split at h
  · obtain ⟨l, ms, ts, bs, ⟨⟨hr, ha, hb, hc⟩, e1, hy⟩, hK⟩ := h
    rename_i r _ _ _ _ y
    obtain ⟨k1, k2, k3, k4, k5, k6, k7, k8⟩ := okT e1
    have hl8 : l.length ≤ 128 := by have := mesh_len k1; omega
    have hb8 : bs.length ≤ 8 := by have := mesh_len k1; omega
    have hl : l.length ≤ 1048576 := by omega
    have hla : ms.length ≤ 1048576 := by omega
    have hlb : ts.length ≤ 1048576 := by omega
    have hlc : bs.length ≤ 1048576 := by omega
    have d1 := hr.dec3
    have d2 := ha.dec
    have d3 := hb.dec
    have d4 := hc.dec
    have o1 : ok3 69 _ _ := ⟨l, hr, hl⟩
    have o2 : okI _ _ := ⟨ms, ha, hla⟩
    have o3 : okI _ _ := ⟨ts, hb, hlb⟩
    have o4 : okI _ _ := ⟨bs, hc, hlc⟩
    have hr' := hr
    have ha' := ha
    have hb' := hb
    have hc' := hc
    obtain ⟨b0, v0, rfl, hb0⟩ := hr'
    obtain ⟨b1, v1, rfl, hb1⟩ := ha'
    obtain ⟨b2, v2, rfl, hb2⟩ := hb'
    obtain ⟨b3, v3, rfl, hb3⟩ := hc'
    have bd : ∀ i, i < ms.length → (0 ≤ prtF l y i ∧ prtF l y i ≤ 160000) ∧ (0 ≤ skF l ms y i ∧ skF l ms y i ≤ 160000 ∧ skF l ms y i ≤ ms.getD i 0) ∧ (0 ≤ skT l ms ts y i ∧ skT l ms ts y i ≤ 10000000000 ∧ skT l ms ts y i ≤ ts.getD i 0) := fun i hi => by
      have := cells_at k7 hi
      exact sk_bd hy (by omega) (by omega)
    have gb1 : ∀ i, i < ms.length → 0 ≤ skF l ms y i ∧ skF l ms y i ≤ 160000 := fun i hi => by have := bd i hi; omega
    have gb2 : ∀ i, i < ms.length → 0 ≤ skT l ms ts y i ∧ skT l ms ts y i ≤ 10000000000 := fun i hi => by have := bd i hi; omega
    refine AF_run Sp96_ok Dr96 [] [.cell 4 34, .cell 5 51] hm Tryz.func96 rfl (by decide) Tryz.ntmps96 rfl (by kernel_rfl) (Nat.le_of_ble_eq_true rfl) ?_; intro hlo
    repeat' (first | with_reducible refine iteI (fun _ => ?_) (fun _ => ?_) | ((first | unfold AOpsC | unfold AOpsD | skip); simp (maxSteps := 1000000) (disch := (first | omega | assumption | (simp only [List.length_append, List.length_cons, List.length_nil, List.length_set]; omega))) only [go_sem, Sp96, SShare, SPart, Dr96, hb0, hb1, hb2, hb3, d1, d2, d3, d4, o1, o2, o3, o4]))
    refine copyN ⟨l, ms, ts, bs, ⟨hr, ha, hb, hc⟩, ⟨hl, hla, hlb, hlc⟩, fun H q0 q1 q2 q3 hN x => ?_⟩
    have w0 := x.blk hb0
    have w1 := x.blk hb1
    have w2 := x.blk hb2
    have w3 := x.blk hb3
    have D1 : dec3 69 H (.sl b0 v0 0 l.length) = l := IsR.dec3 ⟨b0, v0, rfl, w0⟩
    have D2 : decI H (.sl b1 v1 0 ms.length) = ms := IsI.dec ⟨b1, v1, rfl, w1⟩
    have D3 : decI H (.sl b2 v2 0 ts.length) = ts := IsI.dec ⟨b2, v2, rfl, w2⟩
    have D4 : decI H (.sl b3 v3 0 bs.length) = bs := IsI.dec ⟨b3, v3, rfl, w3⟩
    have O1 : ok3 69 H (.sl b0 v0 0 l.length) := ⟨l, ⟨b0, v0, rfl, w0⟩, hl⟩
    have O2 : okI H (.sl b1 v1 0 ms.length) := ⟨ms, ⟨b1, v1, rfl, w1⟩, hla⟩
    have O3 : okI H (.sl b2 v2 0 ts.length) := ⟨ts, ⟨b2, v2, rfl, w2⟩, hlb⟩
    have O4 : okI H (.sl b3 v3 0 bs.length) := ⟨bs, ⟨b3, v3, rfl, w3⟩, hlc⟩
    repeat' (first | with_reducible refine iteI (fun _ => ?_) (fun _ => ?_) | ((first | unfold AOpsC | unfold AOpsD | skip); simp (maxSteps := 1000000) (disch := (first | omega | assumption | (simp only [List.length_append, List.length_cons, List.length_nil, List.length_set]; omega))) only [go_sem, Sp96, SShare, SPart, Dr96, w0, w1, w2, w3, D1, D2, D3, D4, O1, O2, O3, O4]))
    refine ⟨invSkQ η r (.sl b0 v0 0 l.length) (.sl b1 v1 0 ms.length) (.sl b2 v2 0 ts.length) (.sl b3 v3 0 bs.length) y q0 q1 q2 q3 l ms ts bs, fun st => ctr ms.length st 8, .inl ⟨0, H, Nat.zero_le _, by rw [mixed_0, mixed_0]; exact hN, x, rfl, by simp [upd], by simp [upd], by simp [upd], by simp [upd], by simp [upd], by simp [upd], by simp [upd], by simp [upd], by simp [upd], by simp [upd], by simp [upd], by simp [upd, sumN], rfl⟩, ?_⟩
    rintro ⟨n, τ, lam, η'⟩ ⟨i, H, g0, g1, g2, hn, t1, t2, t4, t5, t6, t7, t8, l2, l4, l5, l6, l7, hη⟩; simp only at hn t1 t2 t4 t5 t6 t7 t8 l2 l4 l5 l6 l7 hη; subst hn hη
    have w0e := g2.blk hb0
    have w1e := g2.blk hb1
    have w2e := g2.blk hb2
    have w3e := g2.blk hb3
    have D1e : dec3 69 η' (.sl b0 v0 0 l.length) = l := IsR.dec3 ⟨b0, v0, rfl, w0e⟩
    have D2e : decI η' (.sl b1 v1 0 ms.length) = ms := IsI.dec ⟨b1, v1, rfl, w1e⟩
    have D3e : decI η' (.sl b2 v2 0 ts.length) = ts := IsI.dec ⟨b2, v2, rfl, w2e⟩
    have D4e : decI η' (.sl b3 v3 0 bs.length) = bs := IsI.dec ⟨b3, v3, rfl, w3e⟩
    have O1e : ok3 69 η' (.sl b0 v0 0 l.length) := ⟨l, ⟨b0, v0, rfl, w0e⟩, hl⟩
    have O2e : okI η' (.sl b1 v1 0 ms.length) := ⟨ms, ⟨b1, v1, rfl, w1e⟩, hla⟩
    have O3e : okI η' (.sl b2 v2 0 ts.length) := ⟨ts, ⟨b2, v2, rfl, w2e⟩, hlb⟩
    have O4e : okI η' (.sl b3 v3 0 bs.length) := ⟨bs, ⟨b3, v3, rfl, w3e⟩, hlc⟩
    have hm1 := mixed_len (skM' l ms y) ms g0
    have hm2 := mixed_len (skT' l ms ts y) ts (i := i) (by omega)
    have pg1 := g1.g1
    have pg2 := g1.g2
    have d12 := g1.d12
    have n1 := g1.n1
    have n2 := g1.n2
    have lq1 := blt pg1
    have lq2 := blt pg2
    have bt0 := blt hb0
    have bt1 := blt hb1
    have bt2 := blt hb2
    have sb1 := sumN_bd gb1 i g0
    have sb2 := sumN_bd gb2 i g0
    by_cases hlt : i < ms.length
    · have m1 := cells_at k7 hlt
      have bi := bd i hlt
      have hmg1 := mixed_get (skM' l ms y) ms 0 hlt
      have hmg2 := mixed_get (skT' l ms ts y) ts 0 (i := i) (by omega)
      have hs1 : (mixed (skM' l ms y) ms i).set i (ms.getD i 0 - skF l ms y i) = mixed (skM' l ms y) ms (i + 1) := mixed_set (skM' l ms y) ms hlt
      have hs2 : (mixed (skT' l ms ts y) ts i).set i (ts.getD i 0 - skT l ms ts y i) = mixed (skT' l ms ts y) ts (i + 1) := mixed_set (skT' l ms ts y) ts (by omega)
      have hpf : (y * wdI (l.getD i (0, 0, 0)).2.1).tdiv 16 = prtF l y i := rfl
      have hss1 : sumN (skF l ms y) i + skF l ms y i = sumN (skF l ms y) (i + 1) := rfl
      have hss2 : sumN (skT l ms ts y) i + skT l ms ts y i = sumN (skT l ms ts y) (i + 1) := rfl
      have k1' := (g1.put1 (mixed (skM' l ms y) ms (i + 1))).put2 (mixed (skT' l ms ts y) ts (i + 1))
      have x1' : Ext η ((η'.set q1 ⟨0, 3, 1, (mixed (skM' l ms y) ms (i + 1)).map (.int .i64)⟩).set q2 ⟨0, 3, 1, (mixed (skT' l ms ts y) ts (i + 1)).map (.int .i64)⟩) := (g2.set n1 _).set n2 _
      by_cases hc : ms.getD i 0 < prtF l y i
      · have mins : ms.getD i 0 = skF l ms y i := by rw [skF, if_pos hc]
        have hsT : shareO (ts.getD i 0) (ms.getD i 0) (ms.getD i 0) = skT l ms ts y i := by rw [skT, ← mins]
        have hz : ms.getD i 0 - ms.getD i 0 = ms.getD i 0 - skF l ms y i := by omega
        repeat' (first | with_reducible refine iteI (fun _ => ?_) (fun _ => ?_) | ((first | unfold AOpsC | unfold AOpsD | skip); simp (maxSteps := 1000000) (disch := (first | omega | assumption | (simp only [List.length_append, List.length_cons, List.length_nil, List.length_set]; omega))) only [go_sem, Sp96, SShare, SPart, Dr96, w0e, w1e, w2e, w3e, D1e, D2e, D3e, D4e, O1e, O2e, O3e, O4e, pg1, pg2, t1, t2, t4, t5, t6, t7, t8, l2, l4, l5, l6, l7, hm1, hm2, hmg1, hmg2, hpf, hsT, setGet, List.length_set, List.set_set, minStep, List.foldl_cons, List.foldl_nil]))
        refine ⟨⟨i + 1, _, hlt, k1', x1', rfl, by simp [upd, t1, t2, t4, t5, t6, t7, t8], by simp [upd, t1, t2, t4, t5, t6, t7, t8], by simp [upd, t1, t2, t4, t5, t6, t7, t8], by simp [upd, t1, t2, t4, t5, t6, t7, t8], by simp [upd, t1, t2, t4, t5, t6, t7, t8], by simp [upd, t1, t2, t4, t5, t6, t7, t8], by simp [upd, t1, t2, t4, t5, t6, t7, t8], by simp [upd, l2], by simp [upd, l4], by simp [upd, l5], by simp [upd, l6], by simp [upd, l7, hss2, ← hss1]; exact mins, ?_⟩, by simp [ctr, upd, t8]; omega⟩
        try dsimp only
        rw [hz, hs1, hs2]
      · have mins : prtF l y i = skF l ms y i := by rw [skF, if_neg hc]
        have hsT : shareO (ts.getD i 0) (prtF l y i) (ms.getD i 0) = skT l ms ts y i := by rw [skT, ← mins]
        repeat' (first | with_reducible refine iteI (fun _ => ?_) (fun _ => ?_) | ((first | unfold AOpsC | unfold AOpsD | skip); simp (maxSteps := 1000000) (disch := (first | omega | assumption | (simp only [List.length_append, List.length_cons, List.length_nil, List.length_set]; omega))) only [go_sem, Sp96, SShare, SPart, Dr96, w0e, w1e, w2e, w3e, D1e, D2e, D3e, D4e, O1e, O2e, O3e, O4e, pg1, pg2, t1, t2, t4, t5, t6, t7, t8, l2, l4, l5, l6, l7, hm1, hm2, hmg1, hmg2, hpf, hsT, setGet, List.length_set, List.set_set, minStep, List.foldl_cons, List.foldl_nil]))
        refine ⟨⟨i + 1, _, hlt, k1', x1', rfl, by simp [upd, t1, t2, t4, t5, t6, t7, t8], by simp [upd, t1, t2, t4, t5, t6, t7, t8], by simp [upd, t1, t2, t4, t5, t6, t7, t8], by simp [upd, t1, t2, t4, t5, t6, t7, t8], by simp [upd, t1, t2, t4, t5, t6, t7, t8], by simp [upd, t1, t2, t4, t5, t6, t7, t8], by simp [upd, t1, t2, t4, t5, t6, t7, t8], by simp [upd, l2], by simp [upd, l4], by simp [upd, l5], by simp [upd, l6], by simp [upd, l7, hss2, ← hss1]; exact mins, ?_⟩, by simp [ctr, upd, t8]; omega⟩
        try dsimp only
        rw [mins, hs1, hs2]
    · obtain rfl : i = ms.length := by omega
      have hts : ms.length = ts.length := by omega
      have f2 : mixed (skT' l ms ts y) ts ms.length = nSkT l ms ts y := by rw [hts]; exact mixed_end _ _
      rw [mixed_end, f2] at g1
      repeat' (first | with_reducible refine iteI (fun _ => ?_) (fun _ => ?_) | ((first | unfold AOpsC | unfold AOpsD | skip); simp (maxSteps := 1000000) (disch := (first | omega | assumption | (simp only [List.length_append, List.length_cons, List.length_nil, List.length_set]; omega))) only [go_sem, Sp96, SShare, SPart, Dr96, w0e, w1e, w2e, w3e, D1e, D2e, D3e, D4e, O1e, O2e, O3e, O4e, t1, t2, t4, t5, t6, t7, t8, l2, l4, l5, l6, l7]))
      exact hK _ _ _ _ _ _ _ _ _ g1 g2
  · exact h.elim

end Go.Proofs.YtaalpmbopkbdiaaGreat
