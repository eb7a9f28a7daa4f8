/- What functions of the program compute, said in the abstract logic; no conditions. -/
import Derived.Test.YtaalpmbopkbdiaaGreatGIdx
import Derived.Test.YtaalpmbopkbdiaaGreatGBal

namespace Go.Proofs.YtaalpmbopkbdiaaGreat
open Go
set_option linter.unusedSimpArgs false
set_option linter.unusedVariables false
set_option maxRecDepth 100000
set_option maxHeartbeats 8000000
attribute [local go_sem] st0 AC thenA andC locLoadB KsSW_same KsSW_grow oldLoadB noBlkB KsSL_same KsOS_same KsOS_grow pv ev put upd dstOk cv cvc binI setB Value.oneCell' EndA resA resA1 List.mapM_cons List.mapM_nil Option.pure_def Option.bind_eq_bind noLocV noLoc1 noLoc noLocs plainV cellsA newVarA putCells condA lam0 inBlockA cur lenA rowA writeA dstA appendC appendZ mapPut mapGet avoidsB avoidB clearB Array.toList_append Op.operands Call.operands newSlot Nat.zero_add Nat.add_zero Nat.succ_ne_self Nat.lt_add_one Nat.zero_lt_succ true_and and_true true_or or_true false_or or_false and_self true_implies forall_const Bool.false_eq_true Bool.true_eq_false false_implies implies_true imp_self ne_eq not_false_eq_true not_true_eq_false false_and and_false List.getElem?_toArray List.getElem?_cons_succ List.getElem?_cons_zero Option.bind_some Option.map_some Bool.not_true Bool.not_false List.getD_cons_zero List.getD_cons_succ Option.some.injEq exists_eq_left' AV.bool.injEq List.map_cons List.map_nil List.all_cons List.all_nil Bool.and_self Bool.and_true Bool.true_and List.append_nil List.cons_append List.nil_append List.length_cons List.length_nil List.drop_zero List.take_zero List.drop_succ_cons List.take_succ_cons List.take_nil List.drop_nil List.not_mem_nil List.mem_cons List.contains_nil List.contains_cons Bool.or_self Bool.or_true Bool.true_or Bool.false_or Bool.or_false Bool.and_false Bool.false_and KsS_same KsS_grow skipV KsS_ext KsSW_ext KsOS_ext rep1 rep2 rep3 rep4 rep5 List.flatten_cons List.flatten_nil partsA isPtr fillA List.size_toArray ltT ltF leT leF ltTn ltFn leTn leFn eqTi eqFi wrapId toNat1 intGet boolGet memD app_get app_last app_lst app_set app_setL app_setF set_ne set_eq gt_iff_lt ge_iff_le decide_eq_true_eq len2 len3 get20 get21 drop2 put2 get30 get31 get32 drop3 put3 putI pairEta bneTi bneFi beqTi beqFi bne_eq_false_iff_eq beq_eq_false_iff_ne beq_iff_eq bne_iff_ne Int.toNat_natCast Nat.mul_one List.length_map Bool.not_eq_true Bool.not_eq_false Bool.decide_eq_true decide_true decide_false Bool.not_eq_true' Bool.not_eq_false' decide_eq_false_iff_not eq_self Decidable.not_not
attribute [local go_sem ↓] skipC exitC retC seqC blockC condC regC drawC drawStep AOpC AOpF AOpE AEff contE_at contC_at keepC_at keepW_at keepO_at keepL_at map_parts
attribute [local go_sem] reduceCtorEq Nat.reduceLT Nat.reduceEqDiff Nat.reduceAdd Nat.reduceMul Nat.reduceLeDiff Nat.reduceSub Nat.reduceBEq Nat.reduceBNe Nat.reduceBneDiff Nat.reduceBeqDiff
attribute [local go_sem ↓] reduceIte
attribute [local go_sem] ag_25 ag_3 ag_30 ag_32 ag_34 ag_69 by_25 by_3 by_30 by_32 by_34 by_69 el_25 el_30 en_3 fi_32_0 fi_32_1 fi_34_0 fi_34_1 fi_34_2 fi_34_3 in_3 nf_32 nf_34 nf_69 pl_32 pl_34 pl_69 ps_32 ps_34 ps_69 sz_25 sz_3 sz_30 sz_32 sz_34 sz_69 ze_25 ze_3 ze_30 ze_32 ze_34 ze_69

def bedB (x : Int) : Bool := inB x 0 1000000
def cellB (ms ts : List Int) (i : Nat) : Bool := inB (ms.getD i 0) 0 10000000 && inB (ts.getD i 0) 0 (1000 * ms.getD i 0)
def cellsB (ms ts : List Int) : Bool := (List.range ms.length).all (cellB ms ts)
def celB (r : Int) (l : List Id3) (ms ts bs : List Int) : Bool := decide (ms.length = l.length) && (decide (ts.length = l.length) && (decide ((bs.length : Int) = r) && (bs.all bedB && (cellsB ms ts && decide (ms.sum ≤ 10000000)))))
def okB (r : Int) (l : List Id3) (ms ts bs : List Int) : Bool := balB r l && celB r l ms ts bs
def posB (l : List Int) : Prop := ∀ x ∈ l, 0 ≤ x ∧ x ≤ 10000000000
theorem cells_at {ms ts : List Int} (h : cellsB ms ts = true) {i : Nat} (hi : i < ms.length) : 0 ≤ ms.getD i 0 ∧ ms.getD i 0 ≤ 10000000 ∧ 0 ≤ ts.getD i 0 ∧ ts.getD i 0 ≤ 1000 * ms.getD i 0 := by
  have h1 := List.all_eq_true.1 h i (List.mem_range.2 hi)
  simp only [cellB, Bool.and_eq_true] at h1
  have h2 := inT h1.1
  have h3 := inT h1.2
  omega
theorem cells_posM {ms ts : List Int} (h : cellsB ms ts = true) : posB ms := by
  intro x hx
  obtain ⟨i, hi, rfl⟩ := List.mem_iff_getElem.1 hx
  have := cells_at h hi
  rw [List.getD_eq_getElem?_getD, List.getElem?_eq_getElem hi, Option.getD_some] at this
  omega
theorem okT {r : Int} {l : List Id3} {ms ts bs : List Int} (h : okB r l ms ts bs = true) : meshB r l = true ∧ unbI l < 0 ∧ ms.length = l.length ∧ ts.length = l.length ∧ (bs.length : Int) = r ∧ bs.all bedB = true ∧ cellsB ms ts = true ∧ ms.sum ≤ 10000000 := by
  simp only [okB, celB, balB, Bool.and_eq_true, decide_eq_true_eq] at h
  obtain ⟨⟨h1, h2⟩, h3, h4, h5, h6, h7, h8⟩ := h
  exact ⟨h1, h2, h3, h4, h5, h6, h7, h8⟩
theorem bed_at {bs : List Int} (h : bs.all bedB = true) {i : Nat} (hi : i < bs.length) : 0 ≤ bs.getD i 0 ∧ bs.getD i 0 ≤ 1000000 := by
  have := List.all_eq_true.1 h _ (getD_mem (d := 0) hi)
  exact inT this
theorem meshAt_root : ∀ (l : List Id3) (a b : Int), meshAt a l = some b → ∀ x ∈ l, 0 ≤ x.1 ∧ x.1 * 16 < b
  | [], _, _, _, x, hx => by simp at hx
  | y :: l, a, b, h, x, hx => by
    simp only [meshAt] at h
    split at h
    · rename_i hc
      rcases List.mem_cons.1 hx with rfl | hx
      · have h1 := meshAt_len l _ _ h
        have h2 := id_bd hc.1
        have h3 : enI x.1 x.2.1 x.2.2 = x.1 * 16 + x.2.2 * wdI x.2.1 + wdI x.2.1 := by
          rw [enI, stI, if_pos (show idB x.1 x.2.1 x.2.2 = true from hc.1)]
        omega
      · exact meshAt_root l _ _ h x hx
    · cases h
theorem mesh_root {r : Int} {l : List Id3} (h : meshB r l = true) {i : Nat} (hi : i < l.length) : 0 ≤ (l.getD i (0, 0, 0)).1 ∧ (l.getD i (0, 0, 0)).1 < r := by
  unfold meshB at h
  split at h
  · rename_i a ha
    simp only [Bool.and_eq_true, decide_eq_true_eq] at h
    have := meshAt_root l 0 a ha _ (getD_mem (d := (0, 0, 0)) hi)
    omega
  · cases h
def SSum : List AV → List Blk → (AV → List Blk → Prop) → Prop
  | [v], η, K => (okI η v ∧ posB (decI η v)) ∧ K (.int .i64 (decI η v).sum) η
  | _, _, _ => False
def SBed : List AV → List Blk → (AV → List Blk → Prop) → Prop
  | [.int .i64 x], η, K => K (.bool (bedB x)) η
  | _, _, _ => False
def SNBed : List AV → List Blk → (AV → List Blk → Prop) → Prop
  | [.int .i64 x], η, K => K (.bool (!bedB x)) η
  | _, _, _ => False
def SHas : List AV → List Blk → (AV → List Blk → Prop) → Prop
  | [.agg [.int .i64 r, v, a, b, c]], η, K => (ok3 69 η v ∧ okI η a ∧ okI η b ∧ okI η c) ∧ K (.bool (celB r (dec3 69 η v) (decI η a) (decI η b) (decI η c))) η
  | _, _, _ => False
def SOk : List AV → List Blk → (AV → List Blk → Prop) → Prop
  | [.agg [.int .i64 r, v, a, b, c]], η, K => (ok3 69 η v ∧ okI η a ∧ okI η b ∧ okI η c) ∧ K (.bool (okB r (dec3 69 η v) (decI η a) (decI η b) (decI η c))) η
  | _, _, _ => False

def invSumS (η : List Blk) (l : List Int) (v : AV) (st : St) : Prop := ∃ i : Nat, (i ≤ l.length) ∧ st.n = 18 ∧ st.τ 0 = v ∧ st.τ 3 = .int .i64 (l.take i).sum ∧ st.τ 4 = .int .i64 i ∧ st.lam = lam0 ∧ st.η = η

/- spec.l07Sum -/
theorem f64_ok {lo : Nat} {args : List AV} {η : List Blk} {K : AV → List Blk → Prop} (h : SSum args η K) : AF Tryz.prog lo 64 args η K := by
  unfold SSum at h
  split at h
  · obtain ⟨⟨⟨l, hr, hl⟩, hp⟩, hK⟩ := h
    rw [hr.dec] at hK hp
    obtain ⟨b, ver, rfl, hb⟩ := hr
    refine AF_run noSp_ok D0 [] [.tmp 2] hm Tryz.func64 rfl (by decide) Tryz.ntmps64 rfl (by kernel_rfl) (Nat.le_of_ble_eq_true rfl) ?_; intro hlo
    repeat' (first | with_reducible refine iteI (fun _ => ?_) (fun _ => ?_) | ((first | unfold AOpsC | unfold AOpsD | skip); simp (maxSteps := 1000000) (disch := (first | omega | assumption | (simp only [List.length_append, List.length_cons, List.length_nil, List.length_set]; omega))) only [go_sem, AOpsD, hb]))
    refine ⟨invSumS η l (.sl b ver 0 l.length), fun st => ctr l.length st 4, .inl ⟨0, Nat.zero_le _, rfl, (by first | (simp [upd]; done) | (simp [upd, *]; done) | rfl), (by first | (simp [upd]; done) | (simp [upd, *]; done) | rfl), (by first | (simp [upd]; done) | (simp [upd, *]; done) | rfl), rfl, rfl⟩, ?_⟩
    rintro ⟨n, τ, lam, η'⟩ ⟨i, g0, hn, t0, t3, t4, hlam, hη⟩; simp only at hn t0 t3 t4 hlam hη; subst hn hlam hη
    by_cases hlt : i < l.length
    · have h1 := sum1 hlt
      have h2 := sum_bd (l := l.take i) fun x hx => hp x (List.mem_of_mem_take hx)
      have h3 := hp _ (getD_mem (d := 0) hlt)
      rw [List.length_take] at h2
      repeat' (first | with_reducible refine iteI (fun _ => ?_) (fun _ => ?_) | ((first | unfold AOpsC | unfold AOpsD | skip); simp (maxSteps := 1000000) (disch := (first | omega | assumption | (simp only [List.length_append, List.length_cons, List.length_nil, List.length_set]; omega))) only [go_sem, AOpsD, hb, t0, t3, t4]))
      rw [← h1]
      refine ⟨⟨i + 1, hlt, rfl, (by simp [upd, t0, t3, t4]), (by simp [upd, t0, t3, t4]), (by simp [upd, t0, t3, t4]), rfl, rfl⟩, (by simp [ctr, upd, t0, t3, t4]; omega)⟩
    · obtain rfl : i = l.length := by omega
      rw [List.take_length] at t3
      repeat' (first | with_reducible refine iteI (fun _ => ?_) (fun _ => ?_) | ((first | unfold AOpsC | unfold AOpsD | skip); simp (maxSteps := 1000000) (disch := (first | omega | assumption | (simp only [List.length_append, List.length_cons, List.length_nil, List.length_set]; omega))) only [go_sem, AOpsD, hb, t0, t3, t4]))
      exact hK
  · exact h.elim

def invSumI (η : List Blk) (l : List Int) (v : AV) (st : St) : Prop := ∃ i : Nat, (i ≤ l.length) ∧ st.n = 17 ∧ st.τ 3 = .int .i64 (l.take i).sum ∧ st.τ 6 = v ∧ st.τ 7 = .int .i64 l.length ∧ st.τ 8 = .int .i64 i ∧ st.lam = lam0 ∧ st.η = η

/- impl.sum -/
theorem f115_ok {lo : Nat} {args : List AV} {η : List Blk} {K : AV → List Blk → Prop} (h : SSum args η K) : AF Tryz.prog lo 115 args η K := by
  unfold SSum at h
  split at h
  · obtain ⟨⟨⟨l, hr, hl⟩, hp⟩, hK⟩ := h
    rw [hr.dec] at hK hp
    obtain ⟨b, ver, rfl, hb⟩ := hr
    refine AF_run noSp_ok D0 [] [.tmp 2] hm Tryz.func115 rfl (by decide) Tryz.ntmps115 rfl (by kernel_rfl) (Nat.le_of_ble_eq_true rfl) ?_; intro hlo
    repeat' (first | with_reducible refine iteI (fun _ => ?_) (fun _ => ?_) | ((first | unfold AOpsC | unfold AOpsD | skip); simp (maxSteps := 1000000) (disch := (first | omega | assumption | (simp only [List.length_append, List.length_cons, List.length_nil, List.length_set]; omega))) only [go_sem, AOpsD, hb]))
    refine ⟨invSumI η l (.sl b ver 0 l.length), fun st => ctr l.length st 8, .inl ⟨0, Nat.zero_le _, rfl, (by first | (simp [upd]; done) | (simp [upd, *]; done) | rfl), (by first | (simp [upd]; done) | (simp [upd, *]; done) | rfl), (by first | (simp [upd]; done) | (simp [upd, *]; done) | rfl), (by first | (simp [upd]; done) | (simp [upd, *]; done) | rfl), rfl, rfl⟩, ?_⟩
    rintro ⟨n, τ, lam, η'⟩ ⟨i, g0, hn, t3, t6, t7, t8, hlam, hη⟩; simp only at hn t3 t6 t7 t8 hlam hη; subst hn hlam hη
    by_cases hlt : i < l.length
    · have h1 := sum1 hlt
      have h2 := sum_bd (l := l.take i) fun x hx => hp x (List.mem_of_mem_take hx)
      have h3 := hp _ (getD_mem (d := 0) hlt)
      rw [List.length_take] at h2
      repeat' (first | with_reducible refine iteI (fun _ => ?_) (fun _ => ?_) | ((first | unfold AOpsC | unfold AOpsD | skip); simp (maxSteps := 1000000) (disch := (first | omega | assumption | (simp only [List.length_append, List.length_cons, List.length_nil, List.length_set]; omega))) only [go_sem, AOpsD, hb, t3, t6, t7, t8]))
      rw [← h1]
      refine ⟨⟨i + 1, hlt, rfl, (by simp [upd, t3, t6, t7, t8]), (by simp [upd, t3, t6, t7, t8]), (by simp [upd, t3, t6, t7, t8]), (by simp [upd, t3, t6, t7, t8]), rfl, rfl⟩, (by simp [ctr, upd, t3, t6, t7, t8]; omega)⟩
    · obtain rfl : i = l.length := by omega
      rw [List.take_length] at t3
      repeat' (first | with_reducible refine iteI (fun _ => ?_) (fun _ => ?_) | ((first | unfold AOpsC | unfold AOpsD | skip); simp (maxSteps := 1000000) (disch := (first | omega | assumption | (simp only [List.length_append, List.length_cons, List.length_nil, List.length_set]; omega))) only [go_sem, AOpsD, hb, t3, t6, t7, t8]))
      exact hK
  · exact h.elim

/- impl.isBed -/
def Sp114 (lo : Nat) : Spec := fun g args η K => match g with | 59 => SIn args η K | _ => False
theorem Sp114_ok {lo : Nat} : Sound Tryz.prog lo (Sp114 lo) := by
  intro g args η K h
  unfold Sp114 at h
  split at h
  · exact .inl (f59_ok h)
  · exact h.elim
theorem f114_ok {lo : Nat} {args : List AV} {η : List Blk} {K : AV → List Blk → Prop} (h : SBed args η K) : AF Tryz.prog lo 114 args η K := by
  unfold SBed at h
  split at h
  · refine AF_run Sp114_ok D0 [] [.tmp 2] hm Tryz.func114 rfl (by decide) Tryz.ntmps114 rfl (by kernel_rfl) (Nat.le_of_ble_eq_true rfl) ?_; intro hlo
    repeat' (first | with_reducible refine iteI (fun _ => ?_) (fun _ => ?_) | ((first | unfold AOpsC | unfold AOpsD | skip); simp (maxSteps := 1000000) (disch := (first | omega | assumption | (simp only [List.length_append, List.length_cons, List.length_nil, List.length_set]; omega))) only [go_sem, Sp114, SIn]))
    exact h
  · exact h.elim

/- (impl.State).hasCells$1 -/
def Sp113 (lo : Nat) : Spec := fun g args η K => match g with | 114 => SBed args η K | _ => False
theorem Sp113_ok {lo : Nat} : Sound Tryz.prog lo (Sp113 lo) := by
  intro g args η K h
  unfold Sp113 at h
  split at h
  · exact .inl (f114_ok h)
  · exact h.elim
theorem f113_ok {lo : Nat} {args : List AV} {η : List Blk} {K : AV → List Blk → Prop} (h : SNBed args η K) : AF Tryz.prog lo 113 args η K := by
  unfold SNBed at h
  split at h
  · refine AF_run Sp113_ok D0 [] [.tmp 2] hm Tryz.func113 rfl (by decide) Tryz.ntmps113 rfl (by kernel_rfl) (Nat.le_of_ble_eq_true rfl) ?_; intro hlo
    repeat' (first | with_reducible refine iteI (fun _ => ?_) (fun _ => ?_) | ((first | unfold AOpsC | unfold AOpsD | skip); simp (maxSteps := 1000000) (disch := (first | omega | assumption | (simp only [List.length_append, List.length_cons, List.length_nil, List.length_set]; omega))) only [go_sem, Sp113, SBed]))
    exact h
  · exact h.elim

def invHas (η : List Blk) (r : Int) (v a b c : AV) (ms ts bs : List Int) (st : St) : Prop := ∃ i : Nat, (i ≤ ms.length) ∧ ((List.range i).all (cellB ms ts) = true) ∧ st.n = 63 ∧ st.τ 1 = .loc 1 1 0 ∧ st.τ 37 = a ∧ st.τ 38 = .int .i64 ms.length ∧ st.τ 39 = .int .i64 i ∧ st.lam 1 = ⟨1, [.int .i64 r, v, a, b, c]⟩ ∧ st.η = η

/- (impl.State).hasCells -/
def Sp75 (lo : Nat) : Spec := fun g args η K => match g with | 59 => SIn args η K | 112 => SCon args η K | 115 => SSum args η K | _ => False
theorem Sp75_ok {lo : Nat} : Sound Tryz.prog lo (Sp75 lo) := by
  intro g args η K h
  unfold Sp75 at h
  split at h
  · exact .inl (f59_ok h)
  · exact .inl (f112_ok h)
  · exact .inl (f115_ok h)
  · exact h.elim
theorem f75_ok {lo : Nat} {args : List AV} {η : List Blk} {K : AV → List Blk → Prop} (h : SHas args η K) : AF Tryz.prog lo 75 args η K := by
  unfold SHas at h
  split at h
  · obtain ⟨⟨⟨l, hr, hl⟩, ⟨ms, ha, hla⟩, ⟨ts, hb, hlb⟩, ⟨bs, hc, hlc⟩⟩, hK⟩ := h
    rename_i r _ _ _ _
    have d1 := hr.dec3
    have d2 := ha.dec
    have d3 := hb.dec
    have d4 := hc.dec
    have o1 : ok3 69 _ _ := ⟨l, hr, hl⟩
    have o2 : okI _ _ := ⟨ms, ha, hla⟩
    have o3 : okI _ _ := ⟨ts, hb, hlb⟩
    have o4 : okI _ _ := ⟨bs, hc, hlc⟩
    simp only [d1, d2, d3, d4] at hK
    have hr' := hr
    have ha' := ha
    have hb' := hb
    have hc' := hc
    obtain ⟨b0, v0, rfl, hb0⟩ := hr'
    obtain ⟨b1, v1, rfl, hb1⟩ := ha'
    obtain ⟨b2, v2, rfl, hb2⟩ := hb'
    obtain ⟨b3, v3, rfl, hb3⟩ := hc'
    refine AF_run Sp75_ok D0 [] [.tmp 2] hm Tryz.func75 rfl (by decide) Tryz.ntmps75 rfl (by kernel_rfl) (Nat.le_of_ble_eq_true rfl) ?_; intro hlo
    by_cases e2 : ms.length = l.length
    case neg =>
      repeat' (first | with_reducible refine iteI (fun _ => ?_) (fun _ => ?_) | ((first | unfold AOpsC | unfold AOpsD | skip); simp (maxSteps := 1000000) (disch := (first | omega | assumption | (simp only [List.length_append, List.length_cons, List.length_nil, List.length_set]; omega))) only [go_sem, Sp75, SIn, SSum, hb0, hb1, hb2, hb3, d1, d2, d3, d4, o1, o2, o3, o4]))
      exact KB hK (by simp [celB, e2])
    by_cases e3 : ts.length = l.length
    case neg =>
      repeat' (first | with_reducible refine iteI (fun _ => ?_) (fun _ => ?_) | ((first | unfold AOpsC | unfold AOpsD | skip); simp (maxSteps := 1000000) (disch := (first | omega | assumption | (simp only [List.length_append, List.length_cons, List.length_nil, List.length_set]; omega))) only [go_sem, Sp75, SIn, SSum, hb0, hb1, hb2, hb3, d1, d2, d3, d4, o1, o2, o3, o4]))
      exact KB hK (by simp [celB, e3])
    by_cases e4 : (bs.length : Int) = r
    case neg =>
      repeat' (first | with_reducible refine iteI (fun _ => ?_) (fun _ => ?_) | ((first | unfold AOpsC | unfold AOpsD | skip); simp (maxSteps := 1000000) (disch := (first | omega | assumption | (simp only [List.length_append, List.length_cons, List.length_nil, List.length_set]; omega))) only [go_sem, Sp75, SIn, SSum, hb0, hb1, hb2, hb3, d1, d2, d3, d4, o1, o2, o3, o4]))
      exact KB hK (by simp [celB, e4])
    repeat' (first | with_reducible refine iteI (fun _ => ?_) (fun _ => ?_) | ((first | unfold AOpsC | unfold AOpsD | skip); simp (maxSteps := 1000000) (disch := (first | omega | assumption | (simp only [List.length_append, List.length_cons, List.length_nil, List.length_set]; omega))) only [go_sem, Sp75, SIn, SSum, hb0, hb1, hb2, hb3, d1, d2, d3, d4, o1, o2, o3, o4]))
    unfold SCon
    refine ⟨bs, fun x => !bedB x, hc, hlc, fun lo' x hx K' hK' => f113_ok hK', ?_⟩
    cases e5 : bs.any fun x => !bedB x
    case true =>
      repeat' (first | with_reducible refine iteI (fun _ => ?_) (fun _ => ?_) | ((first | unfold AOpsC | unfold AOpsD | skip); simp (maxSteps := 1000000) (disch := (first | omega | assumption | (simp only [List.length_append, List.length_cons, List.length_nil, List.length_set]; omega))) only [go_sem, Sp75, SIn, SSum, hb0, hb1, hb2, hb3, d1, d2, d3, d4, o1, o2, o3, o4, e5]))
      have e5' : bs.all bedB = false := by
        rw [List.any_eq_true] at e5
        obtain ⟨x, hx, h1⟩ := e5
        rw [List.all_eq_false]
        exact ⟨x, hx, by simpa using h1⟩
      exact KB hK (by simp [celB, e5'])
    have e5' : bs.all bedB = true := by
      rw [List.all_eq_true]
      intro x hx
      have := List.any_eq_false.1 e5 x hx
      simpa using this
    repeat' (first | with_reducible refine iteI (fun _ => ?_) (fun _ => ?_) | ((first | unfold AOpsC | unfold AOpsD | skip); simp (maxSteps := 1000000) (disch := (first | omega | assumption | (simp only [List.length_append, List.length_cons, List.length_nil, List.length_set]; omega))) only [go_sem, Sp75, SIn, SSum, hb0, hb1, hb2, hb3, d1, d2, d3, d4, o1, o2, o3, o4, e5]))
    refine ⟨invHas η r (.sl b0 v0 0 l.length) (.sl b1 v1 0 ms.length) (.sl b2 v2 0 ts.length) (.sl b3 v3 0 bs.length) ms ts bs, fun st => ctr ms.length st 39, .inl ⟨0, Nat.zero_le _, rfl, rfl, (by first | (simp [upd]; done) | (simp [upd, *]; done) | rfl), (by first | (simp [upd]; done) | (simp [upd, *]; done) | rfl), (by first | (simp [upd]; done) | (simp [upd, *]; done) | rfl), (by first | (simp [upd]; done) | (simp [upd, *]; done) | rfl), (by first | (simp [upd]; done) | (simp [upd, *]; done) | rfl), rfl⟩, ?_⟩
    rintro ⟨n, τ, lam, η'⟩ ⟨i, g0, g1, hn, t1, t37, t38, t39, l1, hη⟩; simp only at hn t1 t37 t38 t39 l1 hη; subst hn hη
    by_cases hlt : i < ms.length
    · skip
      cases e6 : inB (ms.getD i 0) 0 10000000
      · have hbad : cellsB ms ts = false := rall_bad hlt (by simp only [cellB, e6, Bool.false_and])
        repeat' (first | with_reducible refine iteI (fun _ => ?_) (fun _ => ?_) | ((first | unfold AOpsC | unfold AOpsD | skip); simp (maxSteps := 1000000) (disch := (first | omega | assumption | (simp only [List.length_append, List.length_cons, List.length_nil, List.length_set]; omega))) only [go_sem, Sp75, SIn, SSum, hb0, hb1, hb2, hb3, d1, d2, d3, d4, o1, o2, o3, o4, t1, t37, t38, t39, l1, e6]))
        exact KB hK (by simp [celB, hbad])
      · have e6' := inT e6
        cases e7 : inB (ts.getD i 0) 0 (1000 * ms.getD i 0)
        · have hbad : cellsB ms ts = false := rall_bad hlt (by simp only [cellB, e6, e7, Bool.and_false])
          repeat' (first | with_reducible refine iteI (fun _ => ?_) (fun _ => ?_) | ((first | unfold AOpsC | unfold AOpsD | skip); simp (maxSteps := 1000000) (disch := (first | omega | assumption | (simp only [List.length_append, List.length_cons, List.length_nil, List.length_set]; omega))) only [go_sem, Sp75, SIn, SSum, hb0, hb1, hb2, hb3, d1, d2, d3, d4, o1, o2, o3, o4, t1, t37, t38, t39, l1, e6, e7]))
          exact KB hK (by simp [celB, hbad])
        · have hnx := rall_succ g1 (show cellB ms ts i = true by simp only [cellB, e6, e7, Bool.and_self])
          repeat' (first | with_reducible refine iteI (fun _ => ?_) (fun _ => ?_) | ((first | unfold AOpsC | unfold AOpsD | skip); simp (maxSteps := 1000000) (disch := (first | omega | assumption | (simp only [List.length_append, List.length_cons, List.length_nil, List.length_set]; omega))) only [go_sem, Sp75, SIn, SSum, hb0, hb1, hb2, hb3, d1, d2, d3, d4, o1, o2, o3, o4, t1, t37, t38, t39, l1, e6, e7]))
          refine ⟨⟨i + 1, hlt, hnx, rfl, (by simp [upd, t1, t37, t38, t39]), (by simp [upd, t1, t37, t38, t39]), (by simp [upd, t1, t37, t38, t39]), (by simp [upd, t1, t37, t38, t39]), (by simp [upd, l1]), rfl⟩, (by simp [ctr, upd, t1, t37, t38, t39]; omega)⟩
    · obtain rfl : i = ms.length := by omega
      have hpos : posB ms := cells_posM g1
      have g1' : cellsB ms ts = true := g1
      repeat' (first | with_reducible refine iteI (fun _ => ?_) (fun _ => ?_) | ((first | unfold AOpsC | unfold AOpsD | skip); simp (maxSteps := 1000000) (disch := (first | omega | assumption | (simp only [List.length_append, List.length_cons, List.length_nil, List.length_set]; omega))) only [go_sem, Sp75, SIn, SSum, hb0, hb1, hb2, hb3, d1, d2, d3, d4, o1, o2, o3, o4, t1, t37, t38, t39, l1, hpos]))
      exact KB hK (by simp [celB, e2, e3, e4, e5', g1'])
  · exact h.elim

/- impl.StateOk -/
def Sp39 (lo : Nat) : Spec := fun g args η K => match g with | 40 => SBal args η K | 75 => SHas args η K | _ => False
theorem Sp39_ok {lo : Nat} : Sound Tryz.prog lo (Sp39 lo) := by
  intro g args η K h
  unfold Sp39 at h
  split at h
  · exact .inl (f40_ok h)
  · exact .inl (f75_ok h)
  · exact h.elim
theorem f39_ok {lo : Nat} {args : List AV} {η : List Blk} {K : AV → List Blk → Prop} (h : SOk args η K) : AF Tryz.prog lo 39 args η K := by
  unfold SOk at h
  split at h
  · obtain ⟨⟨⟨l, hr, hl⟩, ⟨ms, ha, hla⟩, ⟨ts, hb, hlb⟩, ⟨bs, hc, hlc⟩⟩, hK⟩ := h
    rename_i r _ _ _ _
    have d1 := hr.dec3
    have d2 := ha.dec
    have d3 := hb.dec
    have d4 := hc.dec
    have o1 : ok3 69 _ _ := ⟨l, hr, hl⟩
    have o2 : okI _ _ := ⟨ms, ha, hla⟩
    have o3 : okI _ _ := ⟨ts, hb, hlb⟩
    have o4 : okI _ _ := ⟨bs, hc, hlc⟩
    simp only [d1, d2, d3, d4] at hK
    have hr' := hr
    have ha' := ha
    have hb' := hb
    have hc' := hc
    obtain ⟨b0, v0, rfl, hb0⟩ := hr'
    obtain ⟨b1, v1, rfl, hb1⟩ := ha'
    obtain ⟨b2, v2, rfl, hb2⟩ := hb'
    obtain ⟨b3, v3, rfl, hb3⟩ := hc'
    refine AF_run Sp39_ok D0 [] [.tmp 2] hm Tryz.func39 rfl (by decide) Tryz.ntmps39 rfl (by kernel_rfl) (Nat.le_of_ble_eq_true rfl) ?_; intro hlo
    cases e1 : balB r l
    · repeat' (first | with_reducible refine iteI (fun _ => ?_) (fun _ => ?_) | ((first | unfold AOpsC | unfold AOpsD | skip); simp (maxSteps := 1000000) (disch := (first | omega | assumption | (simp only [List.length_append, List.length_cons, List.length_nil, List.length_set]; omega))) only [go_sem, Sp39, SBal, SHas, hb0, hb1, hb2, hb3, d1, d2, d3, d4, o1, o2, o3, o4, e1]))
      exact KB hK (by simp [okB, e1])
    · repeat' (first | with_reducible refine iteI (fun _ => ?_) (fun _ => ?_) | ((first | unfold AOpsC | unfold AOpsD | skip); simp (maxSteps := 1000000) (disch := (first | omega | assumption | (simp only [List.length_append, List.length_cons, List.length_nil, List.length_set]; omega))) only [go_sem, Sp39, SBal, SHas, hb0, hb1, hb2, hb3, d1, d2, d3, d4, o1, o2, o3, o4, e1]))
      exact KB hK (by simp [okB, e1])
  · exact h.elim

def invOk1 (η : List Blk) (r : Int) (v a b c : AV) (ms ts bs : List Int) (st : St) : Prop := ∃ i : Nat, (i ≤ ms.length) ∧ ((List.range i).all (cellB ms ts) = true) ∧ st.n = 84 ∧ st.τ 1 = .loc 1 1 0 ∧ st.τ 3 = .int .i64 i ∧ st.lam 1 = ⟨1, [.int .i64 r, v, a, b, c]⟩ ∧ st.η = η

def invOk2 (η : List Blk) (r : Int) (v a b c : AV) (ms ts bs : List Int) (st : St) : Prop := ∃ i : Nat, (i ≤ bs.length) ∧ ((bs.take i).all bedB = true) ∧ st.n = 84 ∧ st.τ 1 = .loc 1 1 0 ∧ st.τ 4 = .int .i64 i ∧ st.lam 1 = ⟨1, [.int .i64 r, v, a, b, c]⟩ ∧ st.η = η

/- spec.StateOk -/
def Sp28 (lo : Nat) : Spec := fun g args η K => match g with | 29 => SBal args η K | 55 => SIn args η K | 64 => SSum args η K | _ => False
theorem Sp28_ok {lo : Nat} : Sound Tryz.prog lo (Sp28 lo) := by
  intro g args η K h
  unfold Sp28 at h
  split at h
  · exact .inl (f29_ok h)
  · exact .inl (f55_ok h)
  · exact .inl (f64_ok h)
  · exact h.elim
def Dr28 : Draws := fun id => match id with | 6 => ([0, 1, 0, 7, 15, 31, 63, 127, 255, 511, 255, 2047, 4095, 255, 8447, 255, 57599, 123135, 254207, 524287, 1048575, 2097151], [], [], (.one 0 (.one 1 (.one 2 (.one 3 (.one 4 (.one 5 (.one 6 (.one 7 (.one 8 (.one 9 (.one 10 (.one 11 (.one 12 (.one 13 (.one 14 (.one 15 (.one 16 (.one 17 (.one 18 (.one 19 (.one 20 (.one 21 .nil))))))))))))))))))))))) | _ => ([], [], [], .nil)
theorem f28_ok {lo : Nat} {args : List AV} {η : List Blk} {K : AV → List Blk → Prop} (h : SOk args η K) : AF Tryz.prog lo 28 args η K := by
  unfold SOk at h
  split at h
  · obtain ⟨⟨⟨l, hr, hl⟩, ⟨ms, ha, hla⟩, ⟨ts, hb, hlb⟩, ⟨bs, hc, hlc⟩⟩, hK⟩ := h
    rename_i r _ _ _ _
    have d1 := hr.dec3
    have d2 := ha.dec
    have d3 := hb.dec
    have d4 := hc.dec
    have o1 : ok3 69 _ _ := ⟨l, hr, hl⟩
    have o2 : okI _ _ := ⟨ms, ha, hla⟩
    have o3 : okI _ _ := ⟨ts, hb, hlb⟩
    have o4 : okI _ _ := ⟨bs, hc, hlc⟩
    simp only [d1, d2, d3, d4] at hK
    have hr' := hr
    have ha' := ha
    have hb' := hb
    have hc' := hc
    obtain ⟨b0, v0, rfl, hb0⟩ := hr'
    obtain ⟨b1, v1, rfl, hb1⟩ := ha'
    obtain ⟨b2, v2, rfl, hb2⟩ := hb'
    obtain ⟨b3, v3, rfl, hb3⟩ := hc'
    refine AF_run Sp28_ok Dr28 [] [.tmp 2] hm Tryz.func28 rfl (by decide) Tryz.ntmps28 rfl (by kernel_rfl) (Nat.le_of_ble_eq_true rfl) ?_; intro hlo
    cases e1 : balB r l
    · repeat' (first | with_reducible refine iteI (fun _ => ?_) (fun _ => ?_) | ((first | unfold AOpsC | unfold AOpsD | skip); simp (maxSteps := 1000000) (disch := (first | omega | assumption | (simp only [List.length_append, List.length_cons, List.length_nil, List.length_set]; omega))) only [go_sem, Sp28, SBal, SIn, SSum, Dr28, hb0, hb1, hb2, hb3, d1, d2, d3, d4, o1, o2, o3, o4, e1]))
      exact KB hK (by simp [okB, e1])
    by_cases e2 : ms.length = l.length
    case neg =>
      repeat' (first | with_reducible refine iteI (fun _ => ?_) (fun _ => ?_) | ((first | unfold AOpsC | unfold AOpsD | skip); simp (maxSteps := 1000000) (disch := (first | omega | assumption | (simp only [List.length_append, List.length_cons, List.length_nil, List.length_set]; omega))) only [go_sem, Sp28, SBal, SIn, SSum, Dr28, hb0, hb1, hb2, hb3, d1, d2, d3, d4, o1, o2, o3, o4, e1]))
      exact KB hK (by simp [okB, celB, e2])
    by_cases e3 : ts.length = l.length
    case neg =>
      repeat' (first | with_reducible refine iteI (fun _ => ?_) (fun _ => ?_) | ((first | unfold AOpsC | unfold AOpsD | skip); simp (maxSteps := 1000000) (disch := (first | omega | assumption | (simp only [List.length_append, List.length_cons, List.length_nil, List.length_set]; omega))) only [go_sem, Sp28, SBal, SIn, SSum, Dr28, hb0, hb1, hb2, hb3, d1, d2, d3, d4, o1, o2, o3, o4, e1]))
      exact KB hK (by simp [okB, celB, e3])
    by_cases e4 : (bs.length : Int) = r
    case neg =>
      repeat' (first | with_reducible refine iteI (fun _ => ?_) (fun _ => ?_) | ((first | unfold AOpsC | unfold AOpsD | skip); simp (maxSteps := 1000000) (disch := (first | omega | assumption | (simp only [List.length_append, List.length_cons, List.length_nil, List.length_set]; omega))) only [go_sem, Sp28, SBal, SIn, SSum, Dr28, hb0, hb1, hb2, hb3, d1, d2, d3, d4, o1, o2, o3, o4, e1]))
      exact KB hK (by simp [okB, celB, e4])
    repeat' (first | with_reducible refine iteI (fun _ => ?_) (fun _ => ?_) | ((first | unfold AOpsC | unfold AOpsD | skip); simp (maxSteps := 1000000) (disch := (first | omega | assumption | (simp only [List.length_append, List.length_cons, List.length_nil, List.length_set]; omega))) only [go_sem, Sp28, SBal, SIn, SSum, Dr28, hb0, hb1, hb2, hb3, d1, d2, d3, d4, o1, o2, o3, o4, e1]))
    refine ⟨invOk1 η r (.sl b0 v0 0 l.length) (.sl b1 v1 0 ms.length) (.sl b2 v2 0 ts.length) (.sl b3 v3 0 bs.length) ms ts bs, fun st => ctr ms.length st 3, .inl ⟨0, Nat.zero_le _, rfl, rfl, (by first | (simp [upd]; done) | (simp [upd, *]; done) | rfl), (by first | (simp [upd]; done) | (simp [upd, *]; done) | rfl), (by first | (simp [upd]; done) | (simp [upd, *]; done) | rfl), rfl⟩, ?_⟩
    rintro ⟨n, τ, lam, η'⟩ ⟨i, g0, g1, hn, t1, t3, l1, hη⟩; simp only at hn t1 t3 l1 hη; subst hn hη
    by_cases hlt : i < ms.length
    · skip
      cases e6 : inB (ms.getD i 0) 0 10000000
      · have hbad : cellsB ms ts = false := rall_bad hlt (by simp only [cellB, e6, Bool.false_and])
        repeat' (first | with_reducible refine iteI (fun _ => ?_) (fun _ => ?_) | ((first | unfold AOpsC | unfold AOpsD | skip); simp (maxSteps := 1000000) (disch := (first | omega | assumption | (simp only [List.length_append, List.length_cons, List.length_nil, List.length_set]; omega))) only [go_sem, Sp28, SBal, SIn, SSum, Dr28, hb0, hb1, hb2, hb3, d1, d2, d3, d4, o1, o2, o3, o4, t1, t3, l1, e6]))
        exact KB hK (by simp [okB, celB, hbad])
      · have e6' := inT e6
        cases e7 : inB (ts.getD i 0) 0 (1000 * ms.getD i 0)
        · have hbad : cellsB ms ts = false := rall_bad hlt (by simp only [cellB, e6, e7, Bool.and_false])
          repeat' (first | with_reducible refine iteI (fun _ => ?_) (fun _ => ?_) | ((first | unfold AOpsC | unfold AOpsD | skip); simp (maxSteps := 1000000) (disch := (first | omega | assumption | (simp only [List.length_append, List.length_cons, List.length_nil, List.length_set]; omega))) only [go_sem, Sp28, SBal, SIn, SSum, Dr28, hb0, hb1, hb2, hb3, d1, d2, d3, d4, o1, o2, o3, o4, t1, t3, l1, e6, e7]))
          exact KB hK (by simp [okB, celB, hbad])
        · have hnx := rall_succ g1 (show cellB ms ts i = true by simp only [cellB, e6, e7, Bool.and_self])
          repeat' (first | with_reducible refine iteI (fun _ => ?_) (fun _ => ?_) | ((first | unfold AOpsC | unfold AOpsD | skip); simp (maxSteps := 1000000) (disch := (first | omega | assumption | (simp only [List.length_append, List.length_cons, List.length_nil, List.length_set]; omega))) only [go_sem, Sp28, SBal, SIn, SSum, Dr28, hb0, hb1, hb2, hb3, d1, d2, d3, d4, o1, o2, o3, o4, t1, t3, l1, e6, e7]))
          refine ⟨⟨i + 1, hlt, hnx, rfl, (by simp [upd, t1, t3]), (by simp [upd, t1, t3]), (by simp [upd, l1]), rfl⟩, (by simp [ctr, upd, t1, t3]; omega)⟩
    · obtain rfl : i = ms.length := by omega
      have hpos : posB ms := cells_posM g1
      have g1' : cellsB ms ts = true := g1
      repeat' (first | with_reducible refine iteI (fun _ => ?_) (fun _ => ?_) | ((first | unfold AOpsC | unfold AOpsD | skip); simp (maxSteps := 1000000) (disch := (first | omega | assumption | (simp only [List.length_append, List.length_cons, List.length_nil, List.length_set]; omega))) only [go_sem, Sp28, SBal, SIn, SSum, Dr28, hb0, hb1, hb2, hb3, d1, d2, d3, d4, o1, o2, o3, o4, t1, t3, l1]))
      refine ⟨invOk2 _ r (.sl b0 v0 0 l.length) (.sl b1 v1 0 ms.length) (.sl b2 v2 0 ts.length) (.sl b3 v3 0 bs.length) ms ts bs, fun st => ctr bs.length st 4, .inl ⟨0, Nat.zero_le _, rfl, rfl, (by first | (simp [upd]; done) | (simp [upd, *]; done) | rfl), (by first | (simp [upd]; done) | (simp [upd, *]; done) | rfl), (by first | (simp [upd]; done) | (simp [upd, *]; done) | rfl), rfl⟩, ?_⟩
      rintro ⟨n, τ, lam, η'⟩ ⟨i, g0, g1, hn, t1, t4, l1, hη⟩; simp only at hn t1 t4 l1 hη; subst hn hη
      by_cases hlt : i < bs.length
      · cases e6 : inB (bs.getD i 0) 0 1000000
        · have hbad : bs.all bedB = false := all_bad (d := 0) hlt e6
          repeat' (first | with_reducible refine iteI (fun _ => ?_) (fun _ => ?_) | ((first | unfold AOpsC | unfold AOpsD | skip); simp (maxSteps := 1000000) (disch := (first | omega | assumption | (simp only [List.length_append, List.length_cons, List.length_nil, List.length_set]; omega))) only [go_sem, Sp28, SBal, SIn, SSum, Dr28, hb0, hb1, hb2, hb3, d1, d2, d3, d4, o1, o2, o3, o4, t1, t4, l1, e6]))
          exact KB hK (by simp [okB, celB, hbad])
        · repeat' (first | with_reducible refine iteI (fun _ => ?_) (fun _ => ?_) | ((first | unfold AOpsC | unfold AOpsD | skip); simp (maxSteps := 1000000) (disch := (first | omega | assumption | (simp only [List.length_append, List.length_cons, List.length_nil, List.length_set]; omega))) only [go_sem, Sp28, SBal, SIn, SSum, Dr28, hb0, hb1, hb2, hb3, d1, d2, d3, d4, o1, o2, o3, o4, t1, t4, l1, e6]))
          refine ⟨⟨i + 1, hlt, all1 (d := 0) hlt g1 e6, rfl, (by simp [upd, t1, t4]), (by simp [upd, t1, t4]), (by simp [upd, l1]), rfl⟩, (by simp [ctr, upd, t1, t4]; omega)⟩
      · obtain rfl : i = bs.length := by omega
        rw [List.take_length] at g1
        repeat' (first | with_reducible refine iteI (fun _ => ?_) (fun _ => ?_) | ((first | unfold AOpsC | unfold AOpsD | skip); simp (maxSteps := 1000000) (disch := (first | omega | assumption | (simp only [List.length_append, List.length_cons, List.length_nil, List.length_set]; omega))) only [go_sem, Sp28, SBal, SIn, SSum, Dr28, hb0, hb1, hb2, hb3, d1, d2, d3, d4, o1, o2, o3, o4, t1, t4, l1, hpos]))
        exact KB hK (by simp [okB, celB, e1, e2, e3, e4, g1, g1'])
  · exact h.elim

end Go.Proofs.YtaalpmbopkbdiaaGreat
