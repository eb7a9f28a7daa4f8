/- What functions of the program compute, said in the abstract logic; no conditions. -/
import Derived.Test.YtaalpmbopkbdiaaGreatGFlux2
import Derived.Test.YtaalpmbopkbdiaaGreatGOwn
import Derived.Test.YtaalpmbopkbdiaaGreatGDry

namespace Go.Proofs.YtaalpmbopkbdiaaGreat
open Go
set_option linter.unusedSimpArgs false
set_option linter.unusedVariables false
set_option maxRecDepth 100000
set_option maxHeartbeats 8000000
attribute [local go_sem] st0 AC thenA andC locLoadB KsSW_same KsSW_grow oldLoadB noBlkB KsSL_same KsOS_same KsOS_grow pv ev put upd dstOk cv cvc binI setB Value.oneCell' EndA resA resA1 List.mapM_cons List.mapM_nil Option.pure_def Option.bind_eq_bind noLocV noLoc1 noLoc noLocs plainV cellsA newVarA putCells condA lam0 inBlockA cur lenA rowA writeA dstA appendC appendZ mapPut mapGet avoidsB avoidB clearB Array.toList_append Op.operands Call.operands newSlot Nat.zero_add Nat.add_zero Nat.succ_ne_self Nat.lt_add_one Nat.zero_lt_succ true_and and_true true_or or_true false_or or_false and_self true_implies forall_const Bool.false_eq_true Bool.true_eq_false false_implies implies_true imp_self ne_eq not_false_eq_true not_true_eq_false false_and and_false List.getElem?_toArray List.getElem?_cons_succ List.getElem?_cons_zero Option.bind_some Option.map_some Bool.not_true Bool.not_false List.getD_cons_zero List.getD_cons_succ Option.some.injEq exists_eq_left' AV.bool.injEq List.map_cons List.map_nil List.all_cons List.all_nil Bool.and_self Bool.and_true Bool.true_and List.append_nil List.cons_append List.nil_append List.length_cons List.length_nil List.drop_zero List.take_zero List.drop_succ_cons List.take_succ_cons List.take_nil List.drop_nil List.not_mem_nil List.mem_cons List.contains_nil List.contains_cons Bool.or_self Bool.or_true Bool.true_or Bool.false_or Bool.or_false Bool.and_false Bool.false_and KsS_same KsS_grow skipV KsS_ext KsSW_ext KsOS_ext rep1 rep2 rep3 rep4 rep5 List.flatten_cons List.flatten_nil partsA isPtr fillA List.size_toArray ltT ltF leT leF ltTn ltFn leTn leFn eqTi eqFi wrapId toNat1 intGet boolGet memD app_get app_last app_lst app_set app_setL app_setF set_ne set_eq gt_iff_lt ge_iff_le decide_eq_true_eq len2 len3 get20 get21 drop2 put2 get30 get31 get32 drop3 put3 putI pairEta bneTi bneFi beqTi beqFi bne_eq_false_iff_eq beq_eq_false_iff_ne beq_iff_eq bne_iff_ne Int.toNat_natCast Nat.mul_one List.length_map Bool.not_eq_true Bool.not_eq_false Bool.decide_eq_true decide_true decide_false Bool.not_eq_true' Bool.not_eq_false' decide_eq_false_iff_not eq_self Decidable.not_not
attribute [local go_sem ↓] skipC exitC retC seqC blockC condC regC drawC drawStep AOpC AOpF AOpE AEff contE_at contC_at keepC_at keepW_at keepO_at keepL_at map_parts
attribute [local go_sem] reduceCtorEq Nat.reduceLT Nat.reduceEqDiff Nat.reduceAdd Nat.reduceMul Nat.reduceLeDiff Nat.reduceSub Nat.reduceBEq Nat.reduceBNe Nat.reduceBneDiff Nat.reduceBeqDiff
attribute [local go_sem ↓] reduceIte
attribute [local go_sem] ag_25 ag_3 ag_30 ag_34 ag_51 ag_69 by_25 by_3 by_30 by_34 by_51 by_69 el_25 el_30 en_3 fi_32_1 fi_34_0 fi_34_1 fi_69_1 in_3 nf_34 nf_51 nf_69 pl_34 pl_51 pl_69 ps_34 ps_51 ps_69 sz_25 sz_3 sz_30 sz_34 sz_51 sz_69 ze_25 ze_3 ze_30 ze_34 ze_51 ze_69

def partF (l : List Id3) (y : Int) (i : Nat) : Int := (y * wdI (l.getD i (0, 0, 0)).2.1).tdiv 16
def addF (l : List Id3) (ms : List Int) (y : Int) (i : Nat) : Int := ms.getD i 0 + partF l y i
def rnOK (l : List Id3) (ms : List Int) (y : Int) : Bool := decide (ms.sum + sumN (partF l y) ms.length ≤ 10000000)
def nRnM (l : List Id3) (ms ts : List Int) (y : Int) : List Int := if rnOK l ms y = true then (List.range ms.length).map (addF l ms y) else ms
def nRnT (l : List Id3) (ms ts : List Int) (y : Int) : List Int := ts
def nRnL (l : List Id3) (ms ts : List Int) (y : Int) : Int × Int × Int × Int := if rnOK l ms y = true then (sumN (partF l y) ms.length, 0, 0, 0) else (0, 0, 0, 0)
theorem partF_bd {l : List Id3} {y : Int} (hy : 0 ≤ y ∧ y ≤ 10000) (i : Nat) : 0 ≤ partF l y i ∧ partF l y i ≤ 160000 := (part_bd hy _).2.2
theorem addF_sum (l : List Id3) (ms : List Int) (y : Int) : ∀ n, n ≤ ms.length → ((List.range n).map (addF l ms y)).sum = (ms.take n).sum + sumN (partF l y) n
  | 0, _ => by simp [sumN]
  | n + 1, h => by
    rw [List.range_succ, List.map_append, List.sum_append, addF_sum l ms y n (by omega), sum1 (by omega), sumN]
    simp only [List.map_cons, List.map_nil, List.sum_cons, List.sum_nil, addF]
    omega
theorem addF_all (l : List Id3) (ms : List Int) (y : Int) : ((List.range ms.length).map (addF l ms y)).sum = ms.sum + sumN (partF l y) ms.length := by
  rw [addF_sum l ms y _ (Nat.le_refl _), List.take_length]

def SRnP (lo : Nat) : List AV → List Blk → (AV → List Blk → Prop) → Prop
  | [.ptr p 0 0, .int .i64 y], η, K => ∃ (n : Nat) (r : Int) (b0 b1 b2 b3 v0 v1 v2 v3 : Nat) (l : List Id3) (ms ts bs : List Int), lo ≤ n ∧ PtrS n p η r b0 b1 b2 b3 v0 v1 v2 v3 l ms ts bs ∧ okB r l ms ts bs = true ∧ (0 ≤ y ∧ y ≤ 10000) ∧
      ∀ H, PtrS n p H r b0 b1 b2 b3 v0 v1 v2 v3 l (nRnM l ms ts y) (nRnT l ms ts y) bs → Touch (hit5 p b0 b1 b2 b3) η H → K (.agg [.int .i64 (nRnL l ms ts y).1, .int .i64 (nRnL l ms ts y).2.1, .int .i64 (nRnL l ms ts y).2.2.1, .int .i64 (nRnL l ms ts y).2.2.2]) H
  | _, _, _ => False
def SRnQ : List AV → List Blk → (AV → List Blk → Prop) → Prop
  | [.agg [.int .i64 r, v, a, b, c], .int .i64 y], η, K => ∃ (l : List Id3) (ms ts bs : List Int), ((IsR 69 3 enc3 η v l ∧ IsI η a ms ∧ IsI η b ts ∧ IsI η c bs) ∧ okB r l ms ts bs = true ∧ 0 ≤ y ∧ y ≤ 10000) ∧ ∀ H b0 b1 b2 b3 v0 v1 v2 v3, New4 η.length H b0 b1 b2 b3 v0 v1 v2 v3 l (nRnM l ms ts y) (nRnT l ms ts y) bs → Ext η H →
      K (.tup [.agg [.int .i64 r, .sl b0 v0 0 l.length, .sl b1 v1 0 ms.length, .sl b2 v2 0 ts.length, .sl b3 v3 0 bs.length], .agg [.int .i64 (nRnL l ms ts y).1, .int .i64 (nRnL l ms ts y).2.1, .int .i64 (nRnL l ms ts y).2.2.1, .int .i64 (nRnL l ms ts y).2.2.2]]) H
  | _, _, _ => False
def invRn1 (η : List Blk) (p : Nat) (y : Int) (r : Int) (b1 v1 : Nat) (l : List Id3) (ms : List Int) (st : St) : Prop := ∃ i : Nat, (i ≤ ms.length) ∧ st.n = 60 ∧ st.τ 0 = .ptr p 0 0 ∧ st.τ 1 = .int .i64 y ∧ st.τ 4 = .loc 4 1 0 ∧ st.τ 5 = .int .i64 (sumN (partF l y) i) ∧ st.τ 12 = .int .i64 ms.length ∧ st.τ 13 = .int .i64 i ∧ st.lam 4 = ⟨1, [.int .i64 0, .int .i64 0, .int .i64 0, .int .i64 0]⟩ ∧ st.η = η

def invRn2 (η : List Blk) (p : Nat) (y : Int) (r : Int) (b1 v1 : Nat) (l : List Id3) (ms : List Int) (st : St) : Prop := ∃ i : Nat, (i ≤ ms.length) ∧ st.n = 60 ∧ st.τ 0 = .ptr p 0 0 ∧ st.τ 1 = .int .i64 y ∧ st.τ 4 = .loc 4 1 0 ∧ st.τ 5 = .int .i64 (sumN (partF l y) ms.length) ∧ st.τ 38 = .int .i64 ms.length ∧ st.τ 39 = .int .i64 i ∧ st.lam 4 = ⟨1, [.int .i64 0, .int .i64 0, .int .i64 0, .int .i64 0]⟩ ∧ st.η = η.set b1 ⟨v1, 3, 1, (mixed (addF l ms y) ms i).map (.int .i64)⟩

/- (*impl.State).rain -/
def Sp103 (lo : Nat) : Spec := fun g args η K => match g with | 115 => SSum args η K | 139 => SPartOf args η K | _ => False
theorem Sp103_ok {lo : Nat} : Sound Tryz.prog lo (Sp103 lo) := by
  intro g args η K h
  unfold Sp103 at h
  split at h
  · exact .inl (f115_ok h)
  · exact .inl (f139_ok h)
  · exact h.elim
def Dr103 : Draws := fun id => match id with | 12 => ([0, 1, 3, 7, 0, 31, 63, 0, 128, 384, 0, 0, 3968, 8191, 16383, 32767], [12], [], (.one 0 (.one 1 (.one 2 (.one 3 (.one 4 (.one 5 (.one 6 (.one 7 (.one 8 (.one 9 (.one 10 (.one 11 (.one 12 (.one 13 (.one 14 (.one 15 .nil))))))))))))))))) | _ => ([], [], [], .nil)
theorem f103_ok {lo : Nat} {args : List AV} {η : List Blk} {K : AV → List Blk → Prop} (h : SRnP lo args η K) : AF Tryz.prog lo 103 args η K := by
  unfold SRnP at h
  split at h
  · obtain ⟨n, r, b0, b1, b2, b3, v0, v1, v2, v3, l, ms, ts, bs, hn, hP, e1, hy, hK⟩ := h
    rename_i p y
    obtain ⟨k1, k2, k3, k4, k5, k6, k7, k8⟩ := okT e1
    have hl8 : l.length ≤ 128 := by have := mesh_len k1; omega
    have hb8 : bs.length ≤ 8 := by have := mesh_len k1; omega
    have hp := hP.pb
    have hg0 := hP.n4.g0
    have hg1 := hP.n4.g1
    have hg2 := hP.n4.g2
    have hg3 := hP.n4.g3
    have hp1 := hP.p1
    have d01 := hP.n4.d01
    have d12 := hP.n4.d12
    have d13 := hP.n4.d13
    have hlb1 : lo ≤ b1 := Nat.le_trans hn hP.n4.n1
    have hb1l := blt hg1
    have hpl := blt hp
    have d1 : dec3 69 η (.sl b0 v0 0 l.length) = l := IsR.dec3 ⟨b0, v0, rfl, hg0⟩
    have o1 : ok3 69 η (.sl b0 v0 0 l.length) := ⟨l, ⟨b0, v0, rfl, hg0⟩, by omega⟩
    have o2 : okI η (.sl b1 v1 0 ms.length) := ⟨ms, ⟨b1, v1, rfl, hg1⟩, by omega⟩
    have o3 : okI η (.sl b2 v2 0 ts.length) := ⟨ts, ⟨b2, v2, rfl, hg2⟩, by omega⟩
    have o4 : okI η (.sl b3 v3 0 bs.length) := ⟨bs, ⟨b3, v3, rfl, hg3⟩, by omega⟩
    have dm : decI η (.sl b1 v1 0 ms.length) = ms := IsI.dec ⟨b1, v1, rfl, hg1⟩
    have hpos := cells_posM k7
    have sm := sum_bd hpos
    have gb : ∀ i, i < ms.length → 0 ≤ partF l y i ∧ partF l y i ≤ 160000 := fun i _ => partF_bd hy i
    have sbA := sumN_bd gb ms.length (Nat.le_refl _)
    refine AF_run Sp103_ok Dr103 [] [.cell 4 51] hm Tryz.func103 rfl (by decide) Tryz.ntmps103 rfl (by kernel_rfl) (Nat.le_of_ble_eq_true rfl) ?_; intro hlo
    repeat' (first | with_reducible refine iteI (fun _ => ?_) (fun _ => ?_) | ((first | unfold AOpsC | unfold AOpsD | skip); simp (maxSteps := 1000000) (disch := (first | omega | assumption | (simp only [List.length_append, List.length_cons, List.length_nil, List.length_set]; omega))) only [go_sem, Sp103, SSum, SPartOf, Dr103, hp, hg1]))
    refine ⟨invRn1 η p y r b1 v1 l ms, fun st => ctr ms.length st 13, .inl ⟨0, Nat.zero_le _, rfl, by simp [upd, sumN], by simp [upd, sumN], by simp [upd, sumN], by simp [upd, sumN], by simp [upd, sumN], by simp [upd, sumN], by simp [upd], rfl⟩, ?_⟩
    rintro ⟨n, τ, lam, η'⟩ ⟨i, g0, hn, t0, t1, t4, t5, t12, t13, l4, hη⟩; simp only at hn t0 t1 t4 t5 t12 t13 l4 hη; subst hn hη
    have sb := sumN_bd gb i g0
    by_cases hlt : i < ms.length
    · have hss : sumN (partF l y) i + partF l y i = sumN (partF l y) (i + 1) := rfl
      have hpf : (y * wdI (l.getD i (0, 0, 0)).2.1).tdiv 16 = partF l y i := rfl
      have gi := gb i hlt
      repeat' (first | with_reducible refine iteI (fun _ => ?_) (fun _ => ?_) | ((first | unfold AOpsC | unfold AOpsD | skip); simp (maxSteps := 1000000) (disch := (first | omega | assumption | (simp only [List.length_append, List.length_cons, List.length_nil, List.length_set]; omega))) only [go_sem, Sp103, SSum, SPartOf, Dr103, hp, hg1, d1, o1, o2, o3, o4, t0, t1, t4, t5, t12, t13, l4, hpf]))
      refine ⟨⟨i + 1, hlt, rfl, by simp [upd, hss, t0, t1, t4, t5, t12, t13], by simp [upd, hss, t0, t1, t4, t5, t12, t13], by simp [upd, hss, t0, t1, t4, t5, t12, t13], by simp [upd, hss, t0, t1, t4, t5, t12, t13], by simp [upd, hss, t0, t1, t4, t5, t12, t13], by simp [upd, hss, t0, t1, t4, t5, t12, t13], by simp [upd, l4], rfl⟩, by simp [ctr, upd, t13]; omega⟩
    · obtain rfl : i = ms.length := by omega
      clear sb
      by_cases hle : ms.sum + sumN (partF l y) ms.length ≤ 10000000
      case neg =>
        have hz : rnOK l ms y = false := by simpa [rnOK] using hle
        have hM : nRnM l ms ts y = ms := by rw [nRnM, hz]; rfl
        have hL : nRnL l ms ts y = (0, 0, 0, 0) := by rw [nRnL, hz]; rfl
        rw [hM, hL] at hK
        repeat' (first | with_reducible refine iteI (fun _ => ?_) (fun _ => ?_) | ((first | unfold AOpsC | unfold AOpsD | skip); simp (maxSteps := 1000000) (disch := (first | omega | assumption | (simp only [List.length_append, List.length_cons, List.length_nil, List.length_set]; omega))) only [go_sem, Sp103, SSum, SPartOf, Dr103, hp, hg1, d1, dm, o1, o2, o3, o4, hpos, t0, t1, t4, t5, t12, t13, l4]))
        exact hK _ hP ((Ext.refl _).touch _)
      have hz : rnOK l ms y = true := by simpa [rnOK] using hle
      have hM : nRnM l ms ts y = (List.range ms.length).map (addF l ms y) := by rw [nRnM, hz]; rfl
      have hL : nRnL l ms ts y = (sumN (partF l y) ms.length, 0, 0, 0) := by rw [nRnL, hz]; rfl
      rw [hM, hL] at hK
      repeat' (first | with_reducible refine iteI (fun _ => ?_) (fun _ => ?_) | ((first | unfold AOpsC | unfold AOpsD | skip); simp (maxSteps := 1000000) (disch := (first | omega | assumption | (simp only [List.length_append, List.length_cons, List.length_nil, List.length_set]; omega))) only [go_sem, Sp103, SSum, SPartOf, Dr103, hp, hg1, d1, dm, o1, o2, o3, o4, hpos, t0, t1, t4, t5, t12, t13, l4]))
      refine ⟨invRn2 η' p y r b1 v1 l ms, fun st => ctr ms.length st 39, .inl ⟨0, Nat.zero_le _, rfl, by simp [upd, t0, t1, t4, t5], by simp [upd, t0, t1, t4, t5], by simp [upd, t0, t1, t4, t5], by simp [upd, t0, t1, t4, t5], by simp [upd, t0, t1, t4, t5], by simp [upd, t0, t1, t4, t5], by simp [upd, l4], by rw [mixed_0]; exact (set_same hg1).symm⟩, ?_⟩
      rintro ⟨n, τ, lam, η'⟩ ⟨i, g0, hn, t0, t1, t4, t5, t38, t39, l4, hη⟩; simp only at hn t0 t1 t4 t5 t38 t39 l4 hη; subst hn hη
      have hml := mixed_len (addF l ms y) ms g0
      generalize hH : η'.set b1 ⟨v1, 3, 1, (mixed (addF l ms y) ms i).map (.int .i64)⟩ = H
      have q1 : H[b1]? = some ⟨v1, 3, 1, (mixed (addF l ms y) ms i).map (.int .i64)⟩ := by rw [← hH]; exact set_eq hb1l
      have qp : H[p]? = η'[p]? := by rw [← hH]; exact set_ne hp1.symm
      have q0 : H[b0]? = η'[b0]? := by rw [← hH]; exact set_ne d01.symm
      have q2 : H[b2]? = η'[b2]? := by rw [← hH]; exact set_ne d12
      have q3 : H[b3]? = η'[b3]? := by rw [← hH]; exact set_ne d13
      rw [hp] at qp
      rw [hg0] at q0
      rw [hg2] at q2
      rw [hg3] at q3
      have D1 : dec3 69 H (.sl b0 v0 0 l.length) = l := IsR.dec3 ⟨b0, v0, rfl, q0⟩
      have O1 : ok3 69 H (.sl b0 v0 0 l.length) := ⟨l, ⟨b0, v0, rfl, q0⟩, by omega⟩
      have O2 : okI H (.sl b1 v1 0 ms.length) := ⟨mixed (addF l ms y) ms i, ⟨b1, v1, by rw [hml], q1⟩, by omega⟩
      have O3 : okI H (.sl b2 v2 0 ts.length) := ⟨ts, ⟨b2, v2, rfl, q2⟩, by omega⟩
      have O4 : okI H (.sl b3 v3 0 bs.length) := ⟨bs, ⟨b3, v3, rfl, q3⟩, by omega⟩
      have hHl : b1 < H.length := blt q1
      by_cases hlt : i < ms.length
      · have m1 := cells_at k7 (i := i) (by omega)
        have hpf : (y * wdI (l.getD i (0, 0, 0)).2.1).tdiv 16 = partF l y i := rfl
        have gi := gb i hlt
        have hms : (mixed (addF l ms y) ms i).set i (addF l ms y i) = mixed (addF l ms y) ms (i + 1) := mixed_set (addF l ms y) ms hlt
        have hmg := mixed_get (addF l ms y) ms 0 hlt
        have had : ms.getD i 0 + partF l y i = addF l ms y i := rfl
        repeat' (first | with_reducible refine iteI (fun _ => ?_) (fun _ => ?_) | ((first | unfold AOpsC | unfold AOpsD | skip); simp (maxSteps := 1000000) (disch := (first | omega | assumption | (simp only [List.length_append, List.length_cons, List.length_nil, List.length_set]; omega))) only [go_sem, Sp103, SSum, SPartOf, Dr103, qp, q1, D1, O1, O2, O3, O4, t0, t1, t4, t5, t38, t39, l4, hml, hmg, hpf]))
        refine ⟨⟨i + 1, hlt, rfl, by simp [upd, t0, t1, t4, t5, t38, t39], by simp [upd, t0, t1, t4, t5, t38, t39], by simp [upd, t0, t1, t4, t5, t38, t39], by simp [upd, t0, t1, t4, t5, t38, t39], by simp [upd, t0, t1, t4, t5, t38, t39], by simp [upd, t0, t1, t4, t5, t38, t39], by simp [upd, l4], ?_⟩, by simp [ctr, upd, t39]; omega⟩
        try dsimp only
        rw [← hH, List.set_set, had, hms]
      · obtain rfl : i = ms.length := by omega
        repeat' (first | with_reducible refine iteI (fun _ => ?_) (fun _ => ?_) | ((first | unfold AOpsC | unfold AOpsD | skip); simp (maxSteps := 1000000) (disch := (first | omega | assumption | (simp only [List.length_append, List.length_cons, List.length_nil, List.length_set]; omega))) only [go_sem, Sp103, SSum, SPartOf, Dr103, qp, q1, t0, t1, t4, t5, t38, t39, l4]))
        rw [← hH, mixed_end]
        exact hK _ (hP.put1 (by simp)) (Touch.set (.inr (.inr (.inl rfl))))
  · exact h.elim

def invRnQ (H : List Blk) (r : Int) (v a b c : AV) (y : Int) (q0 q1 q2 q3 : Nat) (l : List Id3) (ms ts bs : List Int) (st : St) : Prop := ∃ i : Nat, (i ≤ ms.length) ∧ st.n = 52 ∧ st.τ 1 = .int .i64 y ∧ st.τ 2 = .loc 2 1 0 ∧ st.τ 4 = .loc 4 1 0 ∧ st.τ 5 = .loc 5 1 0 ∧ st.τ 6 = .loc 6 1 0 ∧ st.τ 7 = .int .i64 (sumN (partF l y) i) ∧ st.τ 8 = .int .i64 i ∧ st.lam 2 = ⟨1, [.int .i64 r, v, a, b, c]⟩ ∧ st.lam 4 = ⟨1, [.int .i64 0, .nils, .nils, .nils, .nils]⟩ ∧ st.lam 5 = ⟨1, [.int .i64 0, .int .i64 0, .int .i64 0, .int .i64 0]⟩ ∧ st.lam 6 = ⟨1, [.int .i64 r, .sl q0 0 0 l.length, .sl q1 0 0 ms.length, .sl q2 0 0 ts.length, .sl q3 0 0 bs.length]⟩ ∧ st.η = H.set q1 ⟨0, 3, 1, (mixed (addF l ms y) ms i).map (.int .i64)⟩

/- spec.l14Rain -/
def Sp95 (lo : Nat) : Spec := fun g args η K => match g with | 30 => SCopyS args η K | 64 => SSum args η K | 133 => SPart args η K | _ => False
theorem Sp95_ok {lo : Nat} : Sound Tryz.prog lo (Sp95 lo) := by
  intro g args η K h
  unfold Sp95 at h
  split at h
  · exact .inl (f30_ok h)
  · exact .inl (f64_ok h)
  · exact .inl (f133_ok h)
  · exact h.elim
def Dr95 : Draws := fun id => match id with | 7 => ([0, 1, 0, 0, 8, 0, 56, 120, 0, 504, 1023, 2047], [], [], (.one 0 (.one 1 (.one 2 (.one 3 (.one 4 (.one 5 (.one 6 (.one 7 (.one 8 (.one 9 (.one 10 (.one 11 .nil))))))))))))) | _ => ([], [], [], .nil)
theorem f95_ok {lo : Nat} {args : List AV} {η : List Blk} {K : AV → List Blk → Prop} (h : SRnQ args η K) : AF Tryz.prog lo 95 args η K := by
  unfold SRnQ at h
  split at h
  · obtain ⟨l, ms, ts, bs, ⟨⟨hr, ha, hb, hc⟩, e1, hy⟩, hK⟩ := h
    rename_i r _ _ _ _ y
    obtain ⟨k1, k2, k3, k4, k5, k6, k7, k8⟩ := okT e1
    have hl8 : l.length ≤ 128 := by have := mesh_len k1; omega
    have hb8 : bs.length ≤ 8 := by have := mesh_len k1; omega
    have hl : l.length ≤ 1048576 := by omega
    have hla : ms.length ≤ 1048576 := by omega
    have hlb : ts.length ≤ 1048576 := by omega
    have hlc : bs.length ≤ 1048576 := by omega
    have d1 := hr.dec3
    have d2 := ha.dec
    have d3 := hb.dec
    have d4 := hc.dec
    have o1 : ok3 69 _ _ := ⟨l, hr, hl⟩
    have o2 : okI _ _ := ⟨ms, ha, hla⟩
    have o3 : okI _ _ := ⟨ts, hb, hlb⟩
    have o4 : okI _ _ := ⟨bs, hc, hlc⟩
    have hr' := hr
    have ha' := ha
    have hb' := hb
    have hc' := hc
    obtain ⟨b0, v0, rfl, hb0⟩ := hr'
    obtain ⟨b1, v1, rfl, hb1⟩ := ha'
    obtain ⟨b2, v2, rfl, hb2⟩ := hb'
    obtain ⟨b3, v3, rfl, hb3⟩ := hc'
    have hpos := cells_posM k7
    have gb : ∀ i, i < ms.length → 0 ≤ partF l y i ∧ partF l y i ≤ 160000 := fun i _ => partF_bd hy i
    have sbA := sumN_bd gb ms.length (Nat.le_refl _)
    have sm := sum_bd hpos
    refine AF_run Sp95_ok Dr95 [] [.cell 4 34, .cell 5 51] hm Tryz.func95 rfl (by decide) Tryz.ntmps95 rfl (by kernel_rfl) (Nat.le_of_ble_eq_true rfl) ?_; intro hlo
    repeat' (first | with_reducible refine iteI (fun _ => ?_) (fun _ => ?_) | ((first | unfold AOpsC | unfold AOpsD | skip); simp (maxSteps := 1000000) (disch := (first | omega | assumption | (simp only [List.length_append, List.length_cons, List.length_nil, List.length_set]; omega))) only [go_sem, Sp95, SSum, SPart, Dr95, hb0, hb1, hb2, hb3, d1, d2, d3, d4, o1, o2, o3, o4]))
    refine copyN ⟨l, ms, ts, bs, ⟨hr, ha, hb, hc⟩, ⟨hl, hla, hlb, hlc⟩, fun H q0 q1 q2 q3 hN x => ?_⟩
    have w0 := x.blk hb0
    have w1 := x.blk hb1
    have w2 := x.blk hb2
    have w3 := x.blk hb3
    have D1 : dec3 69 H (.sl b0 v0 0 l.length) = l := IsR.dec3 ⟨b0, v0, rfl, w0⟩
    have D2 : decI H (.sl b1 v1 0 ms.length) = ms := IsI.dec ⟨b1, v1, rfl, w1⟩
    have D3 : decI H (.sl b2 v2 0 ts.length) = ts := IsI.dec ⟨b2, v2, rfl, w2⟩
    have D4 : decI H (.sl b3 v3 0 bs.length) = bs := IsI.dec ⟨b3, v3, rfl, w3⟩
    have O1 : ok3 69 H (.sl b0 v0 0 l.length) := ⟨l, ⟨b0, v0, rfl, w0⟩, hl⟩
    have O2 : okI H (.sl b1 v1 0 ms.length) := ⟨ms, ⟨b1, v1, rfl, w1⟩, hla⟩
    have O3 : okI H (.sl b2 v2 0 ts.length) := ⟨ts, ⟨b2, v2, rfl, w2⟩, hlb⟩
    have O4 : okI H (.sl b3 v3 0 bs.length) := ⟨bs, ⟨b3, v3, rfl, w3⟩, hlc⟩
    have hg1 := hN.g1
    have hq1 := hN.n1
    have hb1l := blt hg1
    have hbt0 := blt hb0
    have hbt1 := blt hb1
    have hbt2 := blt hb2
    have hbt3 := blt hb3
    repeat' (first | with_reducible refine iteI (fun _ => ?_) (fun _ => ?_) | ((first | unfold AOpsC | unfold AOpsD | skip); simp (maxSteps := 1000000) (disch := (first | omega | assumption | (simp only [List.length_append, List.length_cons, List.length_nil, List.length_set]; omega))) only [go_sem, Sp95, SSum, SPart, Dr95, w0, w1, w2, w3, D1, D2, D3, D4, O1, O2, O3, O4, hg1]))
    refine ⟨invRnQ H r (.sl b0 v0 0 l.length) (.sl b1 v1 0 ms.length) (.sl b2 v2 0 ts.length) (.sl b3 v3 0 bs.length) y q0 q1 q2 q3 l ms ts bs, fun st => ctr ms.length st 8, .inl ⟨0, Nat.zero_le _, rfl, by simp [upd, sumN], by simp [upd, sumN], by simp [upd, sumN], by simp [upd, sumN], by simp [upd, sumN], by simp [upd, sumN], by simp [upd, sumN], by simp [upd], by simp [upd], by simp [upd], by simp [upd], by rw [mixed_0]; exact (set_same hg1).symm⟩, ?_⟩
    rintro ⟨n, τ, lam, η'⟩ ⟨i, g0, hn, t1, t2, t4, t5, t6, t7, t8, l2, l4, l5, l6, hη⟩; simp only at hn t1 t2 t4 t5 t6 t7 t8 l2 l4 l5 l6 hη; subst hn hη
    have hml := mixed_len (addF l ms y) ms g0
    have hsl : q1 < (H.set q1 ⟨0, 3, 1, (mixed (addF l ms y) ms i).map (.int .i64)⟩).length := by simpa using hb1l
    have sb := sumN_bd gb i g0
    by_cases hlt : i < ms.length
    · have m1 := cells_at k7 (i := i) (by omega)
      have hpf : (y * wdI (l.getD i (0, 0, 0)).2.1).tdiv 16 = partF l y i := rfl
      have gi := gb i hlt
      have hms : (mixed (addF l ms y) ms i).set i (addF l ms y i) = mixed (addF l ms y) ms (i + 1) := mixed_set (addF l ms y) ms hlt
      have hmg := mixed_get (addF l ms y) ms 0 hlt
      have had : ms.getD i 0 + partF l y i = addF l ms y i := rfl
      have hss : sumN (partF l y) i + partF l y i = sumN (partF l y) (i + 1) := rfl
      repeat' (first | with_reducible refine iteI (fun _ => ?_) (fun _ => ?_) | ((first | unfold AOpsC | unfold AOpsD | skip); simp (maxSteps := 1000000) (disch := (first | omega | assumption | (simp only [List.length_append, List.length_cons, List.length_nil, List.length_set]; omega))) only [go_sem, Sp95, SSum, SPart, Dr95, w0, w1, w2, w3, D1, D2, D3, D4, O1, O2, O3, O4, hg1, t1, t2, t4, t5, t6, t7, t8, l2, l4, l5, l6, List.set_set, List.length_set, hml, hmg, hpf, setGet]))
      refine ⟨⟨i + 1, hlt, rfl, by simp [upd, hss, t1, t2, t4, t5, t6, t7, t8], by simp [upd, hss, t1, t2, t4, t5, t6, t7, t8], by simp [upd, hss, t1, t2, t4, t5, t6, t7, t8], by simp [upd, hss, t1, t2, t4, t5, t6, t7, t8], by simp [upd, hss, t1, t2, t4, t5, t6, t7, t8], by simp [upd, hss, t1, t2, t4, t5, t6, t7, t8], by simp [upd, hss, t1, t2, t4, t5, t6, t7, t8], by simp [upd, l2], by simp [upd, l4], by simp [upd, l5], by simp [upd, l6], ?_⟩, by simp [ctr, upd, t8]; omega⟩
      try dsimp only
      rw [had, hms]
    · obtain rfl : i = ms.length := by omega
      rw [mixed_end] at hsl
      simp only [mixed_end]
      have hsum := addF_all l ms y
      generalize hH : H.set q1 ⟨0, 3, 1, ((List.range ms.length).map (addF l ms y)).map (.int .i64)⟩ = H2
      have hw1 : H2[q1]? = some ⟨0, 3, 1, ((List.range ms.length).map (addF l ms y)).map (.int .i64)⟩ := by rw [← hH]; exact set_eq hb1l
      have hisI : IsI H2 (.sl q1 0 0 ms.length) ((List.range ms.length).map (addF l ms y)) := ⟨q1, 0, by rw [mapR_len], hw1⟩
      have hdm := hisI.dec
      have hom : okI H2 (.sl q1 0 0 ms.length) := ⟨_, hisI, by rw [mapR_len]; omega⟩
      have hposA : posB ((List.range ms.length).map (addF l ms y)) := by
        intro z hz
        obtain ⟨k, hk, rfl⟩ := List.mem_map.1 hz
        rw [List.mem_range] at hk
        have := cells_at k7 hk
        have := gb k hk
        unfold addF
        omega
      have x3 : Ext η H2 := by rw [← hH]; exact x.after (Touch.set (S := fun c => c = q1) rfl) (fun c hc => by rw [hc]; exact hq1)
      have hN2 : New4 η.length H2 q0 q1 q2 q3 0 0 0 0 l ((List.range ms.length).map (addF l ms y)) ts bs := by rw [← hH]; exact hN.put1 _
      have y0 := x3.blk hb0
      have y1 := x3.blk hb1
      have y2 := x3.blk hb2
      have y3 := x3.blk hb3
      have hr2 := hr.ext x3
      have ha2 := ha.ext x3
      have hb2' := hb.ext x3
      have hc2 := hc.ext x3
      by_cases hle : ms.sum + sumN (partF l y) ms.length ≤ 10000000
      · have hz : rnOK l ms y = true := by simpa [rnOK] using hle
        have hM : nRnM l ms ts y = (List.range ms.length).map (addF l ms y) := by rw [nRnM, hz]; rfl
        have hL : nRnL l ms ts y = (sumN (partF l y) ms.length, 0, 0, 0) := by rw [nRnL, hz]; rfl
        rw [hM, hL] at hK
        repeat' (first | with_reducible refine iteI (fun _ => ?_) (fun _ => ?_) | ((first | unfold AOpsC | unfold AOpsD | skip); simp (maxSteps := 1000000) (disch := (first | omega | assumption | (simp only [List.length_append, List.length_cons, List.length_nil, List.length_set]; omega))) only [go_sem, Sp95, SSum, SPart, Dr95, y0, y1, y2, y3, hdm, hom, hposA, hsum, t1, t2, t4, t5, t6, t7, t8, l2, l4, l5, l6]))
        exact hK _ _ _ _ _ _ _ _ _ hN2 x3
      · have hz : rnOK l ms y = false := by simpa [rnOK] using hle
        have hM : nRnM l ms ts y = ms := by rw [nRnM, hz]; rfl
        have hL : nRnL l ms ts y = (0, 0, 0, 0) := by rw [nRnL, hz]; rfl
        rw [hM, hL] at hK
        repeat' (first | with_reducible refine iteI (fun _ => ?_) (fun _ => ?_) | ((first | unfold AOpsC | unfold AOpsD | skip); simp (maxSteps := 1000000) (disch := (first | omega | assumption | (simp only [List.length_append, List.length_cons, List.length_nil, List.length_set]; omega))) only [go_sem, Sp95, SSum, SPart, Dr95, y0, y1, y2, y3, hdm, hom, hposA, hsum, t1, t2, t4, t5, t6, t7, t8, l2, l4, l5, l6]))
        refine copyN ⟨l, ms, ts, bs, ⟨hr2, ha2, hb2', hc2⟩, ⟨hl, hla, hlb, hlc⟩, fun H3 c0 c1 c2 c3 hN3 x4 => ?_⟩
        repeat' (first | with_reducible refine iteI (fun _ => ?_) (fun _ => ?_) | ((first | unfold AOpsC | unfold AOpsD | skip); simp (maxSteps := 1000000) (disch := (first | omega | assumption | (simp only [List.length_append, List.length_cons, List.length_nil, List.length_set]; omega))) only [go_sem, Sp95, SSum, SPart, Dr95, t1, t2, t4, t5, t6, t7, t8, l2, l4, l5, l6]))
        exact hK _ _ _ _ _ _ _ _ _ (hN3.mono x3.len) (x3.trans x4)
  · exact h.elim

end Go.Proofs.YtaalpmbopkbdiaaGreat
