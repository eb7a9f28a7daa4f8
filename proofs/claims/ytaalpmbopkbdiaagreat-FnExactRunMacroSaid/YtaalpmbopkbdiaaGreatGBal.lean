/- What functions of the program compute, said in the abstract logic; no conditions. -/
import Derived.Test.YtaalpmbopkbdiaaGreatGMesh

namespace Go.Proofs.YtaalpmbopkbdiaaGreat
open Go
set_option linter.unusedSimpArgs false
set_option linter.unusedVariables false
set_option maxRecDepth 100000
set_option maxHeartbeats 8000000
attribute [local go_sem] st0 AC thenA andC locLoadB KsSW_same KsSW_grow oldLoadB noBlkB KsSL_same KsOS_same KsOS_grow pv ev put upd dstOk cv cvc binI setB Value.oneCell' EndA resA resA1 List.mapM_cons List.mapM_nil Option.pure_def Option.bind_eq_bind noLocV noLoc1 noLoc noLocs plainV cellsA newVarA putCells condA lam0 inBlockA cur lenA rowA writeA dstA appendC appendZ mapPut mapGet avoidsB avoidB clearB Array.toList_append Op.operands Call.operands newSlot Nat.zero_add Nat.add_zero Nat.succ_ne_self Nat.lt_add_one Nat.zero_lt_succ true_and and_true true_or or_true false_or or_false and_self true_implies forall_const Bool.false_eq_true Bool.true_eq_false false_implies implies_true imp_self ne_eq not_false_eq_true not_true_eq_false false_and and_false List.getElem?_toArray List.getElem?_cons_succ List.getElem?_cons_zero Option.bind_some Option.map_some Bool.not_true Bool.not_false List.getD_cons_zero List.getD_cons_succ Option.some.injEq exists_eq_left' AV.bool.injEq List.map_cons List.map_nil List.all_cons List.all_nil Bool.and_self Bool.and_true Bool.true_and List.append_nil List.cons_append List.nil_append List.length_cons List.length_nil List.drop_zero List.take_zero List.drop_succ_cons List.take_succ_cons List.take_nil List.drop_nil List.not_mem_nil List.mem_cons List.contains_nil List.contains_cons Bool.or_self Bool.or_true Bool.true_or Bool.false_or Bool.or_false Bool.and_false Bool.false_and KsS_same KsS_grow skipV KsS_ext KsSW_ext KsOS_ext rep1 rep2 rep3 rep4 rep5 List.flatten_cons List.flatten_nil partsA isPtr fillA List.size_toArray ltT ltF leT leF ltTn ltFn leTn leFn eqTi eqFi wrapId toNat1 intGet boolGet memD app_get app_last app_lst app_set app_setL app_setF set_ne set_eq gt_iff_lt ge_iff_le decide_eq_true_eq len2 len3 get20 get21 drop2 put2 get30 get31 get32 drop3 put3 putI pairEta bneTi bneFi beqTi beqFi bne_eq_false_iff_eq beq_eq_false_iff_ne beq_iff_eq bne_iff_ne Int.toNat_natCast Nat.mul_one List.length_map Bool.not_eq_true Bool.not_eq_false Bool.decide_eq_true decide_true decide_false Bool.not_eq_true' Bool.not_eq_false' decide_eq_false_iff_not eq_self Decidable.not_not
attribute [local go_sem ↓] skipC exitC retC seqC blockC condC regC drawC drawStep AOpC AOpF AOpE AEff contE_at contC_at keepC_at keepW_at keepO_at keepL_at map_parts
attribute [local go_sem] reduceCtorEq Nat.reduceLT Nat.reduceEqDiff Nat.reduceAdd Nat.reduceMul Nat.reduceLeDiff Nat.reduceSub Nat.reduceBEq Nat.reduceBNe Nat.reduceBneDiff Nat.reduceBeqDiff
attribute [local go_sem ↓] reduceIte
attribute [local go_sem] ag_3 ag_30 ag_32 ag_69 by_3 by_30 by_32 by_69 el_30 en_3 fi_32_1 fi_69_1 in_3 nf_32 nf_69 pl_32 pl_69 ps_32 ps_69 sz_3 sz_30 sz_32 sz_69 ze_3 ze_30 ze_32 ze_69

def lvD (l : List Id3) (i : Nat) : Int := (l.getD i (0, 0, 0)).2.1
def gapB (l : List Id3) (i : Nat) : Bool := decide (1 < lvD l i - lvD l (i + 1)) || decide (lvD l i - lvD l (i + 1) < -1)
def unbI (l : List Id3) : Int := firstI (l.length - 1) (gapB l)
def balB (r : Int) (l : List Id3) : Bool := meshB r l && decide (unbI l < 0)
def levs (l : List Id3) : Prop := ∀ x ∈ l, 0 ≤ x.2.1 ∧ x.2.1 ≤ 4
theorem levs_at {l : List Id3} (h : levs l) {i : Nat} (hi : i < l.length) : 0 ≤ (l.getD i (0, 0, 0)).2.1 ∧ (l.getD i (0, 0, 0)).2.1 ≤ 4 := h _ (getD_mem hi)
theorem meshAt_ids : ∀ (l : List Id3) (a b : Int), meshAt a l = some b → ∀ x ∈ l, idT x = true
  | [], _, _, _, x, hx => by simp at hx
  | y :: l, a, b, h, x, hx => by
    simp only [meshAt] at h
    split at h
    · rename_i hc
      rcases List.mem_cons.1 hx with rfl | hx
      · exact hc.1
      · exact meshAt_ids l _ _ h x hx
    · cases h
theorem mesh_ids {r : Int} {l : List Id3} (h : meshB r l = true) : ∀ x ∈ l, idT x = true := by
  unfold meshB at h
  split at h
  · exact meshAt_ids l _ _ ‹_›
  · cases h
theorem mesh_levs {r : Int} {l : List Id3} (h : meshB r l = true) : levs l := fun x hx => by
  have := id_bd (mesh_ids h x hx)
  exact ⟨this.2.2.1, this.2.2.2.1⟩
theorem meshAt_len : ∀ (l : List Id3) (a b : Int), meshAt a l = some b → a + l.length ≤ b
  | [], a, b, h => by simp only [meshAt, Option.some.injEq] at h; subst h; simp
  | y :: l, a, b, h => by
    simp only [meshAt] at h
    split at h
    · rename_i hc
      have h1 := meshAt_len l _ _ h
      have h2 := id_bd hc.1
      have h3 : enI y.1 y.2.1 y.2.2 = a + wdI y.2.1 := by rw [enI, hc.2]
      rw [h3] at h1
      simp only [List.length_cons]
      omega
    · cases h
theorem mesh_len {r : Int} {l : List Id3} (h : meshB r l = true) : (l.length : Int) ≤ r * 16 ∧ 1 ≤ r ∧ r ≤ 8 := by
  unfold meshB at h
  split at h
  · rename_i a ha
    simp only [Bool.and_eq_true, decide_eq_true_eq] at h
    have := meshAt_len l 0 a ha
    have := inT h.1
    omega
  · cases h
theorem mesh_ne {r : Int} {l : List Id3} (h : meshB r l = true) : 0 < l.length := by
  cases l with
  | nil =>
    have := mesh_len h
    simp only [meshB, meshAt, Bool.and_eq_true, decide_eq_true_eq] at h
    omega
  | cons x l => simp
def SAbs : List AV → List Blk → (AV → List Blk → Prop) → Prop
  | [.int .i64 n], η, K => (-4611686018427387904 ≤ n ∧ n ≤ 4611686018427387904) ∧ K (.int .i64 (if n < 0 then -n else n)) η
  | _, _, _ => False
def SUnb : List AV → List Blk → (AV → List Blk → Prop) → Prop
  | [.agg [.int .i64 r, v]], η, K => (ok3 69 η v ∧ levs (dec3 69 η v)) ∧ K (.int .i64 (unbI (dec3 69 η v))) η
  | _, _, _ => False
def SBal : List AV → List Blk → (AV → List Blk → Prop) → Prop
  | [.agg [.int .i64 r, v]], η, K => ok3 69 η v ∧ K (.bool (balB r (dec3 69 η v))) η
  | _, _, _ => False

/- impl.absolute -/
theorem f119_ok {lo : Nat} {args : List AV} {η : List Blk} {K : AV → List Blk → Prop} (h : SAbs args η K) : AF Tryz.prog lo 119 args η K := by
  unfold SAbs at h
  split at h
  · obtain ⟨hb, hK⟩ := h
    rename_i n
    refine AF_run noSp_ok D0 [] [.tmp 2] hm Tryz.func119 rfl (by decide) Tryz.ntmps119 rfl (by kernel_rfl) (Nat.le_of_ble_eq_true rfl) ?_; intro hlo
    repeat' (first | with_reducible refine iteI (fun _ => ?_) (fun _ => ?_) | ((first | unfold AOpsC | unfold AOpsD | skip); simp (maxSteps := 1000000) (disch := (first | omega | assumption | (simp only [List.length_append, List.length_cons, List.length_nil, List.length_set]; omega))) only [go_sem, AOpsD, maxStep, List.foldl_cons, List.foldl_nil, Int.zero_sub]))
    refine KI hK ?_
    split <;> split <;> omega
  · exact h.elim

def invUnbS (η : List Blk) (r : Int) (l : List Id3) (v : AV) (st : St) : Prop := ∃ i : Nat, (i ≤ l.length - 1) ∧ ((List.range i).all (fun j => !gapB l j) = true) ∧ st.n = 34 ∧ st.τ 1 = .loc 1 1 0 ∧ st.τ 3 = .int .i64 i ∧ st.lam 1 = ⟨1, [.int .i64 r, v]⟩ ∧ st.η = η

/- spec.l05First -/
def Dr66 : Draws := fun id => match id with | 4 => ([0, 1, 0, 7, 15, 31, 0, 64, 0, 256, 960, 1984, 4032, 8191, 16383], [], [], (.one 0 (.one 1 (.one 2 (.one 3 (.one 4 (.one 5 (.one 6 (.one 7 (.one 8 (.one 9 (.one 10 (.one 11 (.one 12 (.one 13 (.one 14 .nil)))))))))))))))) | _ => ([], [], [], .nil)
theorem f66_ok {lo : Nat} {args : List AV} {η : List Blk} {K : AV → List Blk → Prop} (h : SUnb args η K) : AF Tryz.prog lo 66 args η K := by
  unfold SUnb at h
  split at h
  · obtain ⟨⟨⟨l, hr, hl⟩, hlv⟩, hK⟩ := h
    rw [hr.dec3] at hK hlv
    obtain ⟨b, ver, rfl, hb⟩ := hr
    rename_i r
    refine AF_run noSp_ok Dr66 [] [.tmp 2] hm Tryz.func66 rfl (by decide) Tryz.ntmps66 rfl (by kernel_rfl) (Nat.le_of_ble_eq_true rfl) ?_; intro hlo
    repeat' (first | with_reducible refine iteI (fun _ => ?_) (fun _ => ?_) | ((first | unfold AOpsC | unfold AOpsD | skip); simp (maxSteps := 1000000) (disch := (first | omega | assumption | (simp only [List.length_append, List.length_cons, List.length_nil, List.length_set]; omega))) only [go_sem, Dr66, hb]))
    refine ⟨invUnbS η r l (.sl b ver 0 l.length), fun st => ctr l.length st 3, .inl ⟨0, Nat.zero_le _, rfl, rfl, (by first | (simp [upd]; done) | (simp [upd, *]; done) | rfl), (by first | (simp [upd]; done) | (simp [upd, *]; done) | rfl), (by first | (simp [upd]; done) | (simp [upd, *]; done) | rfl), rfl⟩, ?_⟩
    rintro ⟨n, τ, lam, η'⟩ ⟨i, g0, g1, hn, t1, t3, l1, hη⟩; simp only at hn t1 t3 l1 hη; subst hn hη
    by_cases hlt : i + 1 < l.length
    · have b1 := levs_at hlv (i := i) (by omega)
      have b2 := levs_at hlv (i := i + 1) (by omega)
      by_cases hg : gapB l i = true
      · have hres := first_here (n := l.length - 1) (by omega) g1 hg
        rw [← unbI] at hres
        rw [hres] at hK
        unfold gapB lvD at hg
        simp only [Bool.or_eq_true, decide_eq_true_eq] at hg
        rcases hg with hg | hg
        · have hn : ¬ (l.getD i (0, 0, 0)).2.1 - (l.getD (i + 1) (0, 0, 0)).2.1 < 0 := by omega
          repeat' (first | with_reducible refine iteI (fun _ => ?_) (fun _ => ?_) | ((first | unfold AOpsC | unfold AOpsD | skip); simp (maxSteps := 1000000) (disch := (first | omega | assumption | (simp only [List.length_append, List.length_cons, List.length_nil, List.length_set]; omega))) only [go_sem, Dr66, hb, t1, t3, l1]))
          exact hK
        · have hn : (l.getD i (0, 0, 0)).2.1 - (l.getD (i + 1) (0, 0, 0)).2.1 < 0 := by omega
          repeat' (first | with_reducible refine iteI (fun _ => ?_) (fun _ => ?_) | ((first | unfold AOpsC | unfold AOpsD | skip); simp (maxSteps := 1000000) (disch := (first | omega | assumption | (simp only [List.length_append, List.length_cons, List.length_nil, List.length_set]; omega))) only [go_sem, Dr66, hb, t1, t3, l1]))
          exact hK
      · have hg' : gapB l i = false := by simpa using hg
        have hnx := rall_succ g1 (show (!gapB l i) = true by rw [hg']; rfl)
        unfold gapB lvD at hg
        simp only [Bool.or_eq_true, decide_eq_true_eq, not_or] at hg
        by_cases hn : (l.getD i (0, 0, 0)).2.1 - (l.getD (i + 1) (0, 0, 0)).2.1 < 0
        · repeat' (first | with_reducible refine iteI (fun _ => ?_) (fun _ => ?_) | ((first | unfold AOpsC | unfold AOpsD | skip); simp (maxSteps := 1000000) (disch := (first | omega | assumption | (simp only [List.length_append, List.length_cons, List.length_nil, List.length_set]; omega))) only [go_sem, Dr66, hb, t1, t3, l1]))
          refine ⟨⟨i + 1, by omega, hnx, rfl, (by simp [upd, t1, t3]), (by simp [upd, t1, t3]), (by simp [upd, l1]), rfl⟩, (by simp [ctr, upd, t1, t3]; omega)⟩
        · repeat' (first | with_reducible refine iteI (fun _ => ?_) (fun _ => ?_) | ((first | unfold AOpsC | unfold AOpsD | skip); simp (maxSteps := 1000000) (disch := (first | omega | assumption | (simp only [List.length_append, List.length_cons, List.length_nil, List.length_set]; omega))) only [go_sem, Dr66, hb, t1, t3, l1]))
          refine ⟨⟨i + 1, by omega, hnx, rfl, (by simp [upd, t1, t3]), (by simp [upd, t1, t3]), (by simp [upd, l1]), rfl⟩, (by simp [ctr, upd, t1, t3]; omega)⟩
    · have hi : i = l.length - 1 := by omega
      rw [hi] at g1
      rw [unbI, first_none g1] at hK
      repeat' (first | with_reducible refine iteI (fun _ => ?_) (fun _ => ?_) | ((first | unfold AOpsC | unfold AOpsD | skip); simp (maxSteps := 1000000) (disch := (first | omega | assumption | (simp only [List.length_append, List.length_cons, List.length_nil, List.length_set]; omega))) only [go_sem, Dr66, hb, t1, t3, l1]))
      exact hK
  · exact h.elim

def invUnbI (η : List Blk) (r : Int) (l : List Id3) (v : AV) (st : St) : Prop := ∃ i : Nat, (i ≤ l.length - 1) ∧ ((List.range i).all (fun j => !gapB l j) = true) ∧ st.n = 29 ∧ st.τ 1 = .loc 1 1 0 ∧ st.τ 7 = .int .i64 ((l.length : Int) - 1) ∧ st.τ 8 = .int .i64 i ∧ st.lam 1 = ⟨1, [.int .i64 r, v]⟩ ∧ st.η = η

/- (impl.Mesh).unbalanced -/
def Sp77 (lo : Nat) : Spec := fun g args η K => match g with | 119 => SAbs args η K | _ => False
theorem Sp77_ok {lo : Nat} : Sound Tryz.prog lo (Sp77 lo) := by
  intro g args η K h
  unfold Sp77 at h
  split at h
  · exact .inl (f119_ok h)
  · exact h.elim
def Dr77 : Draws := fun id => match id with | 4 => ([0, 1, 0, 7, 15, 31, 0, 64, 0, 256, 960, 1984, 4032, 8191, 16383, 32767], [], [], (.one 0 (.one 1 (.one 2 (.one 3 (.one 4 (.one 5 (.one 6 (.one 7 (.one 8 (.one 9 (.one 10 (.one 11 (.one 12 (.one 13 (.one 14 (.one 15 .nil))))))))))))))))) | _ => ([], [], [], .nil)
theorem f77_ok {lo : Nat} {args : List AV} {η : List Blk} {K : AV → List Blk → Prop} (h : SUnb args η K) : AF Tryz.prog lo 77 args η K := by
  unfold SUnb at h
  split at h
  · obtain ⟨⟨⟨l, hr, hl⟩, hlv⟩, hK⟩ := h
    rw [hr.dec3] at hK hlv
    obtain ⟨b, ver, rfl, hb⟩ := hr
    rename_i r
    refine AF_run Sp77_ok Dr77 [] [.tmp 2] hm Tryz.func77 rfl (by decide) Tryz.ntmps77 rfl (by kernel_rfl) (Nat.le_of_ble_eq_true rfl) ?_; intro hlo
    repeat' (first | with_reducible refine iteI (fun _ => ?_) (fun _ => ?_) | ((first | unfold AOpsC | unfold AOpsD | skip); simp (maxSteps := 1000000) (disch := (first | omega | assumption | (simp only [List.length_append, List.length_cons, List.length_nil, List.length_set]; omega))) only [go_sem, Sp77, SAbs, Dr77, hb]))
    refine ⟨invUnbI η r l (.sl b ver 0 l.length), fun st => ctr l.length st 8, .inl ⟨0, Nat.zero_le _, rfl, rfl, (by first | (simp [upd]; done) | (simp [upd, *]; done) | rfl), (by first | (simp [upd]; done) | (simp [upd, *]; done) | rfl), (by first | (simp [upd]; done) | (simp [upd, *]; done) | rfl), (by first | (simp [upd]; done) | (simp [upd, *]; done) | rfl), rfl⟩, ?_⟩
    rintro ⟨n, τ, lam, η'⟩ ⟨i, g0, g1, hn, t1, t7, t8, l1, hη⟩; simp only at hn t1 t7 t8 l1 hη; subst hn hη
    by_cases hlt : i + 1 < l.length
    · have b1 := levs_at hlv (i := i) (by omega)
      have b2 := levs_at hlv (i := i + 1) (by omega)
      by_cases hg : gapB l i = true
      · have hres := first_here (n := l.length - 1) (by omega) g1 hg
        rw [← unbI] at hres
        rw [hres] at hK
        unfold gapB lvD at hg
        simp only [Bool.or_eq_true, decide_eq_true_eq] at hg
        rcases hg with hg | hg
        · have hn : ¬ (l.getD i (0, 0, 0)).2.1 - (l.getD (i + 1) (0, 0, 0)).2.1 < 0 := by omega
          repeat' (first | with_reducible refine iteI (fun _ => ?_) (fun _ => ?_) | ((first | unfold AOpsC | unfold AOpsD | skip); simp (maxSteps := 1000000) (disch := (first | omega | assumption | (simp only [List.length_append, List.length_cons, List.length_nil, List.length_set]; omega))) only [go_sem, Sp77, SAbs, Dr77, hb, t1, t7, t8, l1]))
          exact hK
        · have hn : (l.getD i (0, 0, 0)).2.1 - (l.getD (i + 1) (0, 0, 0)).2.1 < 0 := by omega
          repeat' (first | with_reducible refine iteI (fun _ => ?_) (fun _ => ?_) | ((first | unfold AOpsC | unfold AOpsD | skip); simp (maxSteps := 1000000) (disch := (first | omega | assumption | (simp only [List.length_append, List.length_cons, List.length_nil, List.length_set]; omega))) only [go_sem, Sp77, SAbs, Dr77, hb, t1, t7, t8, l1]))
          exact hK
      · have hg' : gapB l i = false := by simpa using hg
        have hnx := rall_succ g1 (show (!gapB l i) = true by rw [hg']; rfl)
        unfold gapB lvD at hg
        simp only [Bool.or_eq_true, decide_eq_true_eq, not_or] at hg
        by_cases hn : (l.getD i (0, 0, 0)).2.1 - (l.getD (i + 1) (0, 0, 0)).2.1 < 0
        · repeat' (first | with_reducible refine iteI (fun _ => ?_) (fun _ => ?_) | ((first | unfold AOpsC | unfold AOpsD | skip); simp (maxSteps := 1000000) (disch := (first | omega | assumption | (simp only [List.length_append, List.length_cons, List.length_nil, List.length_set]; omega))) only [go_sem, Sp77, SAbs, Dr77, hb, t1, t7, t8, l1]))
          refine ⟨⟨i + 1, by omega, hnx, rfl, (by simp [upd, t1, t7, t8]), (by simp [upd, t1, t7, t8]), (by simp [upd, t1, t7, t8]), (by simp [upd, l1]), rfl⟩, (by simp [ctr, upd, t1, t7, t8]; omega)⟩
        · repeat' (first | with_reducible refine iteI (fun _ => ?_) (fun _ => ?_) | ((first | unfold AOpsC | unfold AOpsD | skip); simp (maxSteps := 1000000) (disch := (first | omega | assumption | (simp only [List.length_append, List.length_cons, List.length_nil, List.length_set]; omega))) only [go_sem, Sp77, SAbs, Dr77, hb, t1, t7, t8, l1]))
          refine ⟨⟨i + 1, by omega, hnx, rfl, (by simp [upd, t1, t7, t8]), (by simp [upd, t1, t7, t8]), (by simp [upd, t1, t7, t8]), (by simp [upd, l1]), rfl⟩, (by simp [ctr, upd, t1, t7, t8]; omega)⟩
    · have hi : i = l.length - 1 := by omega
      rw [hi] at g1
      rw [unbI, first_none g1] at hK
      repeat' (first | with_reducible refine iteI (fun _ => ?_) (fun _ => ?_) | ((first | unfold AOpsC | unfold AOpsD | skip); simp (maxSteps := 1000000) (disch := (first | omega | assumption | (simp only [List.length_append, List.length_cons, List.length_nil, List.length_set]; omega))) only [go_sem, Sp77, SAbs, Dr77, hb, t1, t7, t8, l1]))
      exact hK
  · exact h.elim

/- spec.IsBalanced -/
def Sp29 (lo : Nat) : Spec := fun g args η K => match g with | 65 => SMesh args η K | 66 => SUnb args η K | _ => False
theorem Sp29_ok {lo : Nat} : Sound Tryz.prog lo (Sp29 lo) := by
  intro g args η K h
  unfold Sp29 at h
  split at h
  · exact .inl (f65_ok h)
  · exact .inl (f66_ok h)
  · exact h.elim
theorem f29_ok {lo : Nat} {args : List AV} {η : List Blk} {K : AV → List Blk → Prop} (h : SBal args η K) : AF Tryz.prog lo 29 args η K := by
  unfold SBal at h
  split at h
  · obtain ⟨⟨l, hr, hl⟩, hK⟩ := h
    have d1 := hr.dec3
    have o1 : ok3 69 _ _ := ⟨l, hr, hl⟩
    rw [d1] at hK
    obtain ⟨b, ver, rfl, hb⟩ := hr
    rename_i r
    refine AF_run Sp29_ok D0 [] [.tmp 2] hm Tryz.func29 rfl (by decide) Tryz.ntmps29 rfl (by kernel_rfl) (Nat.le_of_ble_eq_true rfl) ?_; intro hlo
    cases hm' : meshB r l
    · repeat' (first | with_reducible refine iteI (fun _ => ?_) (fun _ => ?_) | ((first | unfold AOpsC | unfold AOpsD | skip); simp (maxSteps := 1000000) (disch := (first | omega | assumption | (simp only [List.length_append, List.length_cons, List.length_nil, List.length_set]; omega))) only [go_sem, Sp29, SMesh, SUnb, hb, d1, o1, hm']))
      exact KB hK (by simp [balB, hm'])
    · have hlv := mesh_levs hm'
      repeat' (first | with_reducible refine iteI (fun _ => ?_) (fun _ => ?_) | ((first | unfold AOpsC | unfold AOpsD | skip); simp (maxSteps := 1000000) (disch := (first | omega | assumption | (simp only [List.length_append, List.length_cons, List.length_nil, List.length_set]; omega))) only [go_sem, Sp29, SMesh, SUnb, hb, d1, o1, hm', hlv]))
      exact KB hK (by simp [balB, hm'])
  · exact h.elim

/- impl.IsBalanced -/
def Sp40 (lo : Nat) : Spec := fun g args η K => match g with | 76 => SMesh args η K | 77 => SUnb args η K | _ => False
theorem Sp40_ok {lo : Nat} : Sound Tryz.prog lo (Sp40 lo) := by
  intro g args η K h
  unfold Sp40 at h
  split at h
  · exact .inl (f76_ok h)
  · exact .inl (f77_ok h)
  · exact h.elim
theorem f40_ok {lo : Nat} {args : List AV} {η : List Blk} {K : AV → List Blk → Prop} (h : SBal args η K) : AF Tryz.prog lo 40 args η K := by
  unfold SBal at h
  split at h
  · obtain ⟨⟨l, hr, hl⟩, hK⟩ := h
    have d1 := hr.dec3
    have o1 : ok3 69 _ _ := ⟨l, hr, hl⟩
    rw [d1] at hK
    obtain ⟨b, ver, rfl, hb⟩ := hr
    rename_i r
    refine AF_run Sp40_ok D0 [] [.tmp 2] hm Tryz.func40 rfl (by decide) Tryz.ntmps40 rfl (by kernel_rfl) (Nat.le_of_ble_eq_true rfl) ?_; intro hlo
    cases hm' : meshB r l
    · repeat' (first | with_reducible refine iteI (fun _ => ?_) (fun _ => ?_) | ((first | unfold AOpsC | unfold AOpsD | skip); simp (maxSteps := 1000000) (disch := (first | omega | assumption | (simp only [List.length_append, List.length_cons, List.length_nil, List.length_set]; omega))) only [go_sem, Sp40, SMesh, SUnb, hb, d1, o1, hm']))
      exact KB hK (by simp [balB, hm'])
    · have hlv := mesh_levs hm'
      repeat' (first | with_reducible refine iteI (fun _ => ?_) (fun _ => ?_) | ((first | unfold AOpsC | unfold AOpsD | skip); simp (maxSteps := 1000000) (disch := (first | omega | assumption | (simp only [List.length_append, List.length_cons, List.length_nil, List.length_set]; omega))) only [go_sem, Sp40, SMesh, SUnb, hb, d1, o1, hm', hlv]))
      exact KB hK (by simp [balB, hm'])
  · exact h.elim

end Go.Proofs.YtaalpmbopkbdiaaGreat
