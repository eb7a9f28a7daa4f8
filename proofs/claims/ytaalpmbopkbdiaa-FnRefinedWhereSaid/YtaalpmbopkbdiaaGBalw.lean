/- What functions of the program compute, said in the abstract logic; no conditions. -/
import Derived.Test.YtaalpmbopkbdiaaGBalc

namespace Go.Proofs.Ytaalpmbopkbdiaa
open Go
set_option linter.unusedSimpArgs false
set_option linter.unusedVariables false
set_option maxRecDepth 100000
set_option maxHeartbeats 8000000
attribute [local go_sem] st0 AC thenA andC locLoadB KsSW_same KsSW_grow oldLoadB noBlkB KsSL_same KsOS_same KsOS_grow pv ev put upd dstOk cv cvc binI setB Value.oneCell' EndA resA resA1 List.mapM_cons List.mapM_nil Option.pure_def Option.bind_eq_bind noLocV noLoc1 noLoc noLocs plainV cellsA newVarA putCells condA lam0 inBlockA cur lenA rowA writeA dstA appendC appendZ mapPut mapGet avoidsB avoidB clearB Array.toList_append Op.operands Call.operands newSlot Nat.zero_add Nat.add_zero Nat.succ_ne_self Nat.lt_add_one Nat.zero_lt_succ true_and and_true true_or or_true false_or or_false and_self true_implies forall_const Bool.false_eq_true Bool.true_eq_false false_implies implies_true imp_self ne_eq not_false_eq_true not_true_eq_false false_and and_false List.getElem?_toArray List.getElem?_cons_succ List.getElem?_cons_zero Option.bind_some Option.map_some Bool.not_true Bool.not_false List.getD_cons_zero List.getD_cons_succ Option.some.injEq exists_eq_left' AV.bool.injEq List.map_cons List.map_nil List.all_cons List.all_nil Bool.and_self Bool.and_true Bool.true_and List.append_nil List.cons_append List.nil_append List.length_cons List.length_nil List.drop_zero List.take_zero List.drop_succ_cons List.take_succ_cons List.take_nil List.drop_nil List.not_mem_nil List.mem_cons List.contains_nil List.contains_cons Bool.or_self Bool.or_true Bool.true_or Bool.false_or Bool.or_false Bool.and_false Bool.false_and KsS_same KsS_grow skipV KsS_ext KsSW_ext KsOS_ext rep1 rep2 rep3 rep4 rep5 List.flatten_cons List.flatten_nil partsA isPtr fillA List.size_toArray ltT ltF leT leF ltTn ltFn leTn leFn eqTi eqFi wrapId toNat1 intGet boolGet memD app_get app_last app_lst app_set app_setL app_setF set_ne set_eq gt_iff_lt ge_iff_le decide_eq_true_eq len2 len3 get20 get21 drop2 put2 get30 get31 get32 drop3 put3 putI pairEta bneTi bneFi beqTi beqFi bne_eq_false_iff_eq beq_eq_false_iff_ne beq_iff_eq bne_iff_ne Int.toNat_natCast Nat.mul_one List.length_map Bool.not_eq_true Bool.not_eq_false Bool.decide_eq_true decide_true decide_false Bool.not_eq_true' Bool.not_eq_false' decide_eq_false_iff_not eq_self Decidable.not_not
attribute [local go_sem ↓] skipC exitC retC seqC blockC condC regC drawC drawStep AOpC AOpF AOpE AEff contE_at contC_at keepC_at keepW_at keepO_at keepL_at map_parts
attribute [local go_sem] reduceCtorEq Nat.reduceLT Nat.reduceEqDiff Nat.reduceAdd Nat.reduceMul Nat.reduceLeDiff Nat.reduceSub Nat.reduceBEq Nat.reduceBNe Nat.reduceBneDiff Nat.reduceBeqDiff
attribute [local go_sem ↓] reduceIte
attribute [local go_sem] ag_26 by_26 nf_26 pl_26 ps_26 sz_26 ze_26

def SBalc : List AV → List Blk → (AV → List Blk → Prop) → Prop
  | [.agg [.int .i64 r, v]], η, K => ∃ l : List Id3, (IsR 63 3 enc3 η v l ∧ l.length ≤ 1048576 ∧ meshB r l = true) ∧
      ∀ H (l' : List Id3) b w, balB r l' = true → η.length ≤ b → H[b]? = some ⟨w, 63, 3, (l'.map enc3).flatten⟩ → Ext η H → K (.agg [.int .i64 r, .sl b w 0 l'.length]) H
  | _, _, _ => False
def invBw (η : List Blk) (r : Int) (v : AV) (st : St) : Prop := ∃ (H : List Blk) (l : List Id3) (b w : Nat), Ext η H ∧ η.length ≤ b ∧ H[b]? = some ⟨w, 63, 3, (l.map enc3).flatten⟩ ∧ meshB r l = true ∧ st.n = 23 ∧ st.τ 1 = .loc 1 1 0 ∧ st.τ 2 = .loc 2 1 0 ∧ st.τ 3 = .loc 3 1 0 ∧ st.τ 4 = .int .i64 (unbI l) ∧
  st.lam 1 = ⟨1, [.int .i64 r, v]⟩ ∧ st.lam 2 = ⟨1, [.int .i64 0, .nils]⟩ ∧ st.lam 3 = ⟨1, [.int .i64 r, .sl b w 0 l.length]⟩ ∧ st.η = H
theorem unb_pos {l : List Id3} (h : 0 ≤ unbI l) : ∃ i : Nat, unbI l = i ∧ i + 1 < l.length ∧ gapB l i = true := by
  unfold unbI firstI at h ⊢
  cases hf : (List.range (l.length - 1)).find? (gapB l) with
  | none => rw [hf] at h; simp at h
  | some i =>
    have h1 := List.mem_of_find?_eq_some hf
    rw [List.mem_range] at h1
    exact ⟨i, rfl, by omega, List.find?_some hf⟩
theorem coar_ok {l : List Id3} (hlv : levs l) {i : Nat} (hi : i + 1 < l.length) (hg : gapB l i = true) : coarI l i < l.length ∧ (l.getD (coarI l i) z3).2.1 ≠ 4 := by
  have b1 := levs_at hlv (i := i) (by omega)
  have b2 := levs_at hlv (i := i + 1) hi
  simp only [gapB, Bool.or_eq_true, decide_eq_true_eq] at hg
  unfold lvD at hg
  by_cases hc : lvD l (i + 1) < lvD l i
  · have e : coarI l i = i + 1 := if_pos hc
    rw [e]
    unfold lvD at hc
    refine ⟨hi, fun h4 => ?_⟩
    unfold z3 at h4
    omega
  · have e : coarI l i = i := if_neg hc
    rw [e]
    unfold lvD at hc
    refine ⟨by omega, fun h4 => ?_⟩
    replace h4 : (l.getD i (0, 0, 0)).2.1 = 4 := h4
    rcases hg with hg | hg <;> omega
theorem split_len {l : List Id3} {i : Nat} (h : i < l.length) : (splitL l i).length = l.length + 1 := by simp [splitL]; omega
def muB (st : St) : Nat := match (st.lam 3).cells with | [_, .sl _ _ _ n] => 129 - n | _ => 0

/- spec.Balance -/
def Sp125 (lo : Nat) : Spec := fun g args η K => match g with | 61 => SMesh args η K | 86 => SCopyM args η K | 87 => SUnb args η K | 88 => SCoar args η K | 91 => SSplit args η K | _ => False
theorem Sp125_ok {lo : Nat} : Sound Try.prog lo (Sp125 lo) := by
  intro g args η K h
  unfold Sp125 at h
  split at h
  · exact .inl (f61_ok h)
  · exact .inl (f86_ok h)
  · exact .inl (f87_ok h)
  · exact .inl (f88_ok h)
  · exact .inl (f91_ok h)
  · exact h.elim
def Dr125 : Draws := fun id => match id with | 7 => ([0, 0, 0, 6, 15, 31], [3], [], (.one 0 (.one 1 (.one 2 (.one 3 (.one 4 (.one 5 .nil))))))) | _ => ([], [], [], .nil)
theorem f125_ok {lo : Nat} {args : List AV} {η : List Blk} {K : AV → List Blk → Prop} (h : SBalc args η K) : AF Try.prog lo 125 args η K := by
  unfold SBalc at h
  split at h
  · obtain ⟨l, ⟨hr, hl, hM⟩, hK⟩ := h
    rename_i r v
    have d1 := hr.dec3
    have o1 : ok3 63 _ _ := ⟨l, hr, hl⟩
    have hlv := mesh_levs hM
    have hr' := hr
    obtain ⟨b, ver, rfl, hb⟩ := hr'
    refine AF_run Sp125_ok Dr125 [] [.cell 2 26] hm Try.func125 rfl (by decide) Try.ntmps125 rfl (by kernel_rfl) (Nat.le_of_ble_eq_true rfl) ?_; intro hlo
    repeat' (first | with_reducible refine iteI (fun _ => ?_) (fun _ => ?_) | ((first | unfold AOpsC | unfold AOpsD | skip); simp (maxSteps := 1000000) (disch := (first | omega | assumption | (simp only [List.length_append, List.length_cons, List.length_nil, List.length_set]; omega))) only [go_sem, Sp125, SMesh, SUnb, Dr125, d1, o1, hM]))
    refine ⟨l, hr, hl, ?_⟩
    have hr1 := hr.app [⟨0, 63, 3, (l.map enc3).flatten⟩]
    have hr2 : IsR 63 3 enc3 (η ++ [⟨0, 63, 3, (l.map enc3).flatten⟩]) (.sl η.length 0 0 l.length) l := ⟨_, 0, rfl, by simp⟩
    have d2 := hr1.dec3
    have o2 : ok3 63 _ _ := ⟨l, hr1, hl⟩
    have d3 := hr2.dec3
    have o3 : ok3 63 _ _ := ⟨l, hr2, hl⟩
    repeat' (first | with_reducible refine iteI (fun _ => ?_) (fun _ => ?_) | ((first | unfold AOpsC | unfold AOpsD | skip); simp (maxSteps := 1000000) (disch := (first | omega | assumption | (simp only [List.length_append, List.length_cons, List.length_nil, List.length_set]; omega))) only [go_sem, Sp125, SMesh, SUnb, Dr125, d2, o2, d3, o3, hM, hlv, hb]))
    refine ⟨invBw η r (.sl b ver 0 l.length), muB, .inl ⟨_, l, η.length, 0, (Ext.refl η).app _, Nat.le_refl _, by simp, hM, rfl, by simp [upd], by simp [upd], by simp [upd], by simp [upd], by simp [upd], by simp [upd], by simp [upd], rfl⟩, ?_⟩
    rintro ⟨n, τ, lam, H⟩ ⟨H', l', b', w', g0, g1, g2, g3, hn, t1, t2, t3, t4, l1, l2, l3, hη⟩; simp only at hn t1 t2 t3 t4 l1 l2 l3 hη; subst hn hη
    by_cases hu : 0 ≤ unbI l'
    · repeat' (first | with_reducible refine iteI (fun _ => ?_) (fun _ => ?_) | ((first | unfold AOpsC | unfold AOpsD | skip); simp (maxSteps := 1000000) (disch := (first | omega | assumption | (simp only [List.length_append, List.length_cons, List.length_nil, List.length_set]; omega))) only [go_sem, Sp125, SMesh, SUnb, Dr125, t1, t2, t3, t4, l1, l2, l3, g2]))
      have hlv' := mesh_levs g3
      have hln := mesh_len g3
      have hr3 : IsR 63 3 enc3 H (.sl b' w' 0 l'.length) l' := ⟨b', w', rfl, g2⟩
      obtain ⟨i, u1, u2, u3⟩ := unb_pos hu
      obtain ⟨q1, q2⟩ := coar_ok hlv' u2 u3
      have hid := mesh_ids g3 _ (getD_mem (d := z3) q1)
      have q3 := split_mesh g3 q1 q2
      have q4 := split_len q1
      rw [u1]
      refine ⟨l', ⟨hr3, by omega, hlv', by omega, by omega⟩, ?_⟩
      rw [Int.toNat_natCast]
      repeat' (first | with_reducible refine iteI (fun _ => ?_) (fun _ => ?_) | ((first | unfold AOpsC | unfold AOpsD | skip); simp (maxSteps := 1000000) (disch := (first | omega | assumption | (simp only [List.length_append, List.length_cons, List.length_nil, List.length_set]; omega))) only [go_sem, Sp125, SMesh, SUnb, Dr125, t1, t2, t3, t4, l1, l2, l3, g2]))
      refine ⟨l', ⟨hr3, by omega, by omega, by omega, hid, q2⟩, fun G b3 w3 p1 p2 p3 => ?_⟩
      have hr4 : IsR 63 3 enc3 G (.sl b3 w3 0 (splitL l' (coarI l' i)).length) (splitL l' (coarI l' i)) := ⟨b3, w3, rfl, p2⟩
      have d4 := hr4.dec3
      have o4 : ok3 63 _ _ := ⟨_, hr4, by omega⟩
      have hlv4 := mesh_levs q3
      repeat' (first | with_reducible refine iteI (fun _ => ?_) (fun _ => ?_) | ((first | unfold AOpsC | unfold AOpsD | skip); simp (maxSteps := 1000000) (disch := (first | omega | assumption | (simp only [List.length_append, List.length_cons, List.length_nil, List.length_set]; omega))) only [go_sem, Sp125, SMesh, SUnb, Dr125, t1, t2, t3, t4, l1, l2, l3, p2, d4, o4, hlv4]))
      refine ⟨⟨G, _, b3, w3, g0.trans p3, by have := g0.len; omega, p2, q3, rfl, by simp [upd, t1], by simp [upd, t2], by simp [upd, t3], by simp [upd], by simp [upd, l1], by simp [upd, l2], by simp [upd], rfl⟩, ?_⟩
      simp [muB, upd, l3, q4]
      omega
    · have hbal : balB r l' = true := by simp [balB, g3]; omega
      repeat' (first | with_reducible refine iteI (fun _ => ?_) (fun _ => ?_) | ((first | unfold AOpsC | unfold AOpsD | skip); simp (maxSteps := 1000000) (disch := (first | omega | assumption | (simp only [List.length_append, List.length_cons, List.length_nil, List.length_set]; omega))) only [go_sem, Sp125, SMesh, SUnb, Dr125, t1, t2, t3, t4, l1, l2, l3, g2]))
      exact hK _ l' b' w' hbal g1 g2 g0
  · exact h.elim

theorem CurAt.ext {lo : Nat} {η H : List Blk} {c : Nat} {v : AV} (h : CurAt lo η c v) (e : Ext η H) : CurAt lo H c v := by
  obtain ⟨h1, l, i, k, hr, h2, h3, h4, h5⟩ := h
  obtain ⟨x, rfl⟩ := e
  refine ⟨h1, l, i, k, ?_, h2, h3, h4, by rw [List.getElem?_append_left (blt h5)]; exact h5⟩
  rcases hr with hr | ⟨d, w, rfl, hd⟩
  · exact .inl hr
  · exact .inr ⟨d, w, rfl, by rw [List.getElem?_append_left (blt hd)]; exact hd⟩
theorem FrN.ex {n : Nat} {η H G : List Blk} (h : FrN n η H) (hn : n ≤ H.length) (e : Ext H G) : FrN n η G := by
  obtain ⟨x, rfl⟩ := e
  exact ⟨by have := h.1; simp; omega, fun i hi => by rw [List.getElem?_append_left (by omega)]; exact h.2 i hi⟩
def SRootB (lo : Nat) : List AV → List Blk → (AV → List Blk → Prop) → Prop
  | [.ptr c 0 0], η, K => ∃ (nb : Nat) (v : AV), lo ≤ nb ∧ nb ≤ c ∧ CurAt lo η c v ∧ ∀ H (r : Int) (l : List Id3) (b w : Nat), balB r l = true → r ≤ 3 → CurAt lo H c v → nb ≤ b → H[b]? = some ⟨w, 63, 3, (l.map enc3).flatten⟩ → FrN nb η H → K (.agg [.int .i64 r, .sl b w 0 l.length]) H
  | _, _, _ => False

/- spec.l05Mesh -/
def Sp83 (lo : Nat) : Spec := fun g args η K => match g with | 125 => SBalc args η K | 126 => SRootM lo args η K | _ => False
theorem Sp83_ok {lo : Nat} : Sound Try.prog lo (Sp83 lo) := by
  intro g args η K h
  unfold Sp83 at h
  split at h
  · exact .inl (f125_ok h)
  · exact .inl (f126_ok h)
  · exact h.elim
theorem f83_ok {lo : Nat} {args : List AV} {η : List Blk} {K : AV → List Blk → Prop} (h : SRootB lo args η K) : AF Try.prog lo 83 args η K := by
  unfold SRootB at h
  split at h
  · obtain ⟨nb, v, k1, k2, k3, hK⟩ := h
    rename_i c
    refine AF_run Sp83_ok D0 [] [.cell 2 26] hm Try.func83 rfl (by decide) Try.ntmps83 rfl (by kernel_rfl) (Nat.le_of_ble_eq_true rfl) ?_; intro hlo
    repeat' (first | with_reducible refine iteI (fun _ => ?_) (fun _ => ?_) | ((first | unfold AOpsC | unfold AOpsD | skip); simp (maxSteps := 1000000) (disch := (first | omega | assumption | (simp only [List.length_append, List.length_cons, List.length_nil, List.length_set]; omega))) only [go_sem, Sp83, SRootM]))
    refine ⟨nb, v, k1, k2, k3, fun H r l b w p1 p0 p2 p3 p4 p5 => ?_⟩
    have hl := mesh_len p1
    have hbH := blt p4
    repeat' (first | with_reducible refine iteI (fun _ => ?_) (fun _ => ?_) | ((first | unfold AOpsC | unfold AOpsD | skip); simp (maxSteps := 1000000) (disch := (first | omega | assumption | (simp only [List.length_append, List.length_cons, List.length_nil, List.length_set]; omega))) only [go_sem, Sp83, SRootM]))
    refine ⟨l, ⟨⟨b, w, rfl, p4⟩, by omega, p1⟩, fun G l' b' w' q1 q2 q3 q4 => ?_⟩
    repeat' (first | with_reducible refine iteI (fun _ => ?_) (fun _ => ?_) | ((first | unfold AOpsC | unfold AOpsD | skip); simp (maxSteps := 1000000) (disch := (first | omega | assumption | (simp only [List.length_append, List.length_cons, List.length_nil, List.length_set]; omega))) only [go_sem, Sp83, SRootM]))
    exact hK G r l' b' w' q1 p0 (p2.ext q4) (by omega) q3 (p5.ex (by omega) q4)
  · exact h.elim

end Go.Proofs.Ytaalpmbopkbdiaa
