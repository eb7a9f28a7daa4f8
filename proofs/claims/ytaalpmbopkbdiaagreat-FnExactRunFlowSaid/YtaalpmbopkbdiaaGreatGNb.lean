/- What functions of the program compute, said in the abstract logic; no conditions. -/
import Derived.Test.YtaalpmbopkbdiaaGreatGLedP

namespace Go.Proofs.YtaalpmbopkbdiaaGreat
open Go
set_option linter.unusedSimpArgs false
set_option linter.unusedVariables false
set_option maxRecDepth 100000
set_option maxHeartbeats 8000000
attribute [local go_sem] st0 AC thenA andC locLoadB KsSW_same KsSW_grow oldLoadB noBlkB KsSL_same KsOS_same KsOS_grow pv ev put upd dstOk cv cvc binI setB Value.oneCell' EndA resA resA1 List.mapM_cons List.mapM_nil Option.pure_def Option.bind_eq_bind noLocV noLoc1 noLoc noLocs plainV cellsA newVarA putCells condA lam0 inBlockA cur lenA rowA writeA dstA appendC appendZ mapPut mapGet avoidsB avoidB clearB Array.toList_append Op.operands Call.operands newSlot Nat.zero_add Nat.add_zero Nat.succ_ne_self Nat.lt_add_one Nat.zero_lt_succ true_and and_true true_or or_true false_or or_false and_self true_implies forall_const Bool.false_eq_true Bool.true_eq_false false_implies implies_true imp_self ne_eq not_false_eq_true not_true_eq_false false_and and_false List.getElem?_toArray List.getElem?_cons_succ List.getElem?_cons_zero Option.bind_some Option.map_some Bool.not_true Bool.not_false List.getD_cons_zero List.getD_cons_succ Option.some.injEq exists_eq_left' AV.bool.injEq List.map_cons List.map_nil List.all_cons List.all_nil Bool.and_self Bool.and_true Bool.true_and List.append_nil List.cons_append List.nil_append List.length_cons List.length_nil List.drop_zero List.take_zero List.drop_succ_cons List.take_succ_cons List.take_nil List.drop_nil List.not_mem_nil List.mem_cons List.contains_nil List.contains_cons Bool.or_self Bool.or_true Bool.true_or Bool.false_or Bool.or_false Bool.and_false Bool.false_and KsS_same KsS_grow skipV KsS_ext KsSW_ext KsOS_ext rep1 rep2 rep3 rep4 rep5 List.flatten_cons List.flatten_nil partsA isPtr fillA List.size_toArray ltT ltF leT leF ltTn ltFn leTn leFn eqTi eqFi wrapId toNat1 intGet boolGet memD app_get app_last app_lst app_set app_setL app_setF set_ne set_eq gt_iff_lt ge_iff_le decide_eq_true_eq len2 len3 get20 get21 drop2 put2 get30 get31 get32 drop3 put3 putI pairEta bneTi bneFi beqTi beqFi bne_eq_false_iff_eq beq_eq_false_iff_ne beq_iff_eq bne_iff_ne Int.toNat_natCast Nat.mul_one List.length_map Bool.not_eq_true Bool.not_eq_false Bool.decide_eq_true decide_true decide_false Bool.not_eq_true' Bool.not_eq_false' decide_eq_false_iff_not eq_self Decidable.not_not
attribute [local go_sem ↓] skipC exitC retC seqC blockC condC regC drawC drawStep AOpC AOpF AOpE AEff contE_at contC_at keepC_at keepW_at keepO_at keepL_at map_parts
attribute [local go_sem] reduceCtorEq Nat.reduceLT Nat.reduceEqDiff Nat.reduceAdd Nat.reduceMul Nat.reduceLeDiff Nat.reduceSub Nat.reduceBEq Nat.reduceBNe Nat.reduceBneDiff Nat.reduceBeqDiff
attribute [local go_sem ↓] reduceIte
attribute [local go_sem] ag_25 ag_3 ag_32 ag_34 by_25 by_3 by_32 by_34 el_25 en_3 fi_34_0 fi_34_1 in_3 nf_32 nf_34 pl_32 pl_34 ps_32 ps_34 sz_25 sz_3 sz_32 sz_34 ze_25 ze_3 ze_32 ze_34

def hasB (n x : Int) : Bool := inB x 0 (n - 1)
def nbK (n i : Int) (k : Nat) : List Int := ([i - 1, i + 1].take k).filter (hasB n)
def nbI (n i : Int) : List Int := nbK n i 2
theorem nb_len (n i : Int) (k : Nat) : (nbK n i k).length ≤ 2 := by
  unfold nbK
  have := List.length_filter_le (hasB n) ([i - 1, i + 1].take k)
  simp only [List.length_take, List.length_cons, List.length_nil] at this
  omega
theorem nb_mem {n i x : Int} (h : x ∈ nbI n i) : 0 ≤ x ∧ x ≤ n - 1 ∧ (x = i - 1 ∨ x = i + 1) := by
  simp only [nbI, nbK, List.mem_filter, List.take_succ_cons, List.take_zero, List.mem_cons, List.not_mem_nil, or_false] at h
  have := inT h.2
  omega
def jN (f : Int → Int) (L : List Int) : Nat → Int
  | 0 => 0
  | k + 1 => if jN f L k < f (L.getD k 0) then f (L.getD k 0) else jN f L k
def jF (l : List Id3) (ms bs : List Int) (i : Nat) (k : Int) : Int := gapI (surfI l ms bs i) (surfI l ms bs k.toNat)
def jumpI (l : List Id3) (ms bs : List Int) (i : Nat) : Int := jN (jF l ms bs i) (nbI l.length i) (nbI l.length i).length
theorem gap_nn (a b : Int) : 0 ≤ gapI a b := by unfold gapI; split <;> omega
def maxG (a b : Int) : Int := if a < b then b else a
def jS (l : List Id3) (ms bs : List Int) (i : Nat) : Int :=
  if i + 1 < l.length then maxG (if 0 < i then gapI (surfI l ms bs i) (surfI l ms bs (i - 1)) else 0) (gapI (surfI l ms bs i) (surfI l ms bs (i + 1))) else (if 0 < i then gapI (surfI l ms bs i) (surfI l ms bs (i - 1)) else 0)
theorem jS_eq (l : List Id3) (ms bs : List Int) {i : Nat} (hi : i < l.length) : jS l ms bs i = jumpI l ms bs i := by
  have g1 := gap_nn (surfI l ms bs i) (surfI l ms bs (i - 1))
  have g2 := gap_nn (surfI l ms bs i) (surfI l ms bs (i + 1))
  have e1 : ((i : Int) - 1).toNat = i - 1 := by omega
  have e2 : ((i : Int) + 1).toNat = i + 1 := by omega
  unfold jS jumpI nbI nbK
  by_cases h1 : 0 < i
  · have a1 : hasB (l.length : Int) ((i : Int) - 1) = true := by simp [hasB, inB]; omega
    by_cases h2 : i + 1 < l.length
    · have a2 : hasB (l.length : Int) ((i : Int) + 1) = true := by simp [hasB, inB]; omega
      simp only [h1, h2, if_true, List.take_succ_cons, List.take_zero, List.filter_cons, a1, a2, List.filter_nil, List.length_cons, List.length_nil, jN, List.getD_cons_zero, List.getD_cons_succ, jF, e1, e2, maxG]
      repeat' split
      all_goals omega
    · have a2 : hasB (l.length : Int) ((i : Int) + 1) = false := by simp [hasB, inB]; omega
      simp only [h1, h2, if_true, if_false, List.take_succ_cons, List.take_zero, List.filter_cons, a1, a2, Bool.false_eq_true, List.filter_nil, List.length_cons, List.length_nil, jN, List.getD_cons_zero, jF, e1]
      split <;> omega
  · have a1 : hasB (l.length : Int) ((i : Int) - 1) = false := by simp [hasB, inB]; omega
    by_cases h2 : i + 1 < l.length
    · have a2 : hasB (l.length : Int) ((i : Int) + 1) = true := by simp [hasB, inB]; omega
      simp only [h1, h2, if_true, if_false, List.take_succ_cons, List.take_zero, List.filter_cons, a1, a2, Bool.false_eq_true, List.filter_nil, List.length_cons, List.length_nil, jN, List.getD_cons_zero, jF, e2, maxG]
    · have a2 : hasB (l.length : Int) ((i : Int) + 1) = false := by simp [hasB, inB]; omega
      simp only [h1, h2, if_false, List.take_succ_cons, List.take_zero, List.filter_cons, a1, a2, Bool.false_eq_true, List.filter_nil, List.length_nil, jN]
def SNb : List AV → List Blk → (AV → List Blk → Prop) → Prop
  | [.agg [.int .i64 r, v], .int .i64 i], η, K => (ok3 69 η v ∧ -4294967296 ≤ i ∧ i ≤ 4294967296) ∧ ∀ H u, NewI η.length H u (nbI (dec3 69 η v).length i) → Ext η H → K u H
  | _, _, _ => False
def SJump : List AV → List Blk → (AV → List Blk → Prop) → Prop
  | [.agg [.int .i64 r, v, a, b, c], .int .i64 i], η, K => ((ok3 69 η v ∧ okI η a ∧ okI η b ∧ okI η c) ∧ okB r (dec3 69 η v) (decI η a) (decI η b) (decI η c) = true ∧ 0 ≤ i ∧ i < (dec3 69 η v).length) ∧ ∀ H, Ext η H → K (.int .i64 (jumpI (dec3 69 η v) (decI η a) (decI η c) i.toNat)) H
  | _, _, _ => False
def invNb (η : List Blk) (r : Int) (l : List Id3) (v : AV) (i0 : Int) (st : St) : Prop := ∃ i : Nat, ∃ H : List Blk, ∃ bl : Nat, ∃ wer : Nat, (i ≤ 2) ∧ (Ext η H) ∧ (η.length + 1 ≤ bl) ∧ (H[bl]? = some ⟨wer, 3, 1, (nbK l.length i0 i).map (.int .i64)⟩) ∧ (H[η.length]? = some ⟨0, 3, 1, [i0 - 1, i0 + 1].map (.int .i64)⟩) ∧ st.n = 28 ∧ st.τ 1 = .int .i64 i0 ∧ st.τ 2 = .loc 2 1 0 ∧ st.τ 5 = .sl bl wer 0 (nbK l.length i0 i).length ∧ st.τ 13 = .sl η.length 0 0 2 ∧ st.τ 14 = .int .i64 2 ∧ st.τ 15 = .int .i64 i ∧ st.lam 2 = ⟨1, [.int .i64 r, v]⟩ ∧ st.η = H

/- (impl.Mesh).neighbours -/
def Sp155 (lo : Nat) : Spec := fun g args η K => match g with | 131 => SHasI args η K | _ => False
theorem Sp155_ok {lo : Nat} : Sound Tryz.prog lo (Sp155 lo) := by
  intro g args η K h
  unfold Sp155 at h
  split at h
  · exact .inl (f131_ok h)
  · exact h.elim
theorem f155_ok {lo : Nat} {args : List AV} {η : List Blk} {K : AV → List Blk → Prop} (h : SNb args η K) : AF Tryz.prog lo 155 args η K := by
  unfold SNb at h
  split at h
  · obtain ⟨⟨⟨l, hr, hl⟩, i0, i1⟩, hK⟩ := h
    rename_i r _ i0'
    have d1 := hr.dec3
    have o1 : ok3 69 _ _ := ⟨l, hr, hl⟩
    simp only [d1] at hK
    obtain ⟨b, ver, rfl, hb⟩ := hr
    have hbl := blt hb
    refine AF_run Sp155_ok D0 [] [.tmp 4] hm Tryz.func155 rfl (by decide) Tryz.ntmps155 rfl (by kernel_rfl) (Nat.le_of_ble_eq_true rfl) ?_; intro hlo
    repeat' (first | with_reducible refine iteI (fun _ => ?_) (fun _ => ?_) | ((first | unfold AOpsC | unfold AOpsD | skip); simp (maxSteps := 1000000) (disch := (first | omega | assumption | (simp only [List.length_append, List.length_cons, List.length_nil, List.length_set]; omega))) only [go_sem, Sp155, SHasI, hb, d1, o1]))
    refine ⟨invNb η r l (.sl b ver 0 l.length) i0', fun st => ctr 2 st 15, .inr ⟨5, 3, 1, Nat.le_of_ble_eq_true rfl, rfl, 0, _, η.length + 1, 0, Nat.zero_le _, ((Ext.refl η).app _).app _, Nat.le_refl _, by simp [RecE, nbK], by simp [RecE], rfl, by simp [RecE, upd, nbK], by simp [RecE, upd, nbK], by simp [RecE, upd, nbK], by simp [RecE, upd, nbK], by simp [RecE, upd, nbK], by simp [RecE, upd, nbK], rfl, rfl⟩, ?_⟩
    rintro ⟨n, τ, lam, η'⟩ ⟨i, H, bl, wer, g0, g1, g2, g3, g4, hn, t1, t2, t5, t13, t14, t15, l2, hη⟩; simp only at hn t1 t2 t5 t13 t14 t15 l2 hη; subst hn hη
    have hb' := g1.blk hb
    have d1' : dec3 69 η' (.sl b ver 0 l.length) = l := IsR.dec3 ⟨b, ver, rfl, hb'⟩
    have o1' : ok3 69 η' (.sl b ver 0 l.length) := ⟨l, ⟨b, ver, rfl, hb'⟩, hl⟩
    have hHl := blt g3
    have hHq := blt g4
    have hnl := nb_len l.length i0' i
    by_cases hlt : i < 2
    · have hq : i < [i0' - 1, i0' + 1].length := by simpa using hlt
      have htk : [i0' - 1, i0' + 1].take (i + 1) = [i0' - 1, i0' + 1].take i ++ [[i0' - 1, i0' + 1].getD i 0] := take1 (d := 0) hq
      have hcell : ([i0' - 1, i0' + 1].map (AV.int .i64))[i]? = some (.int .i64 ([i0' - 1, i0' + 1].getD i 0)) := rowGet _ _ _ hq
      have hll : ([i0' - 1, i0' + 1].map (AV.int .i64)).length = 2 := rfl
      generalize [i0' - 1, i0' + 1].getD i 0 = x at htk hcell
      generalize hQ : [i0' - 1, i0' + 1].map (AV.int .i64) = Q at hcell g4 hll
      cases e2 : inB x 0 ((l.length : Int) - 1)
      · have hac : nbK l.length i0' (i + 1) = nbK l.length i0' i := by rw [nbK, htk, List.filter_append, List.filter_cons, if_neg (by rw [hasB, e2]; exact Bool.false_ne_true), List.filter_nil, List.append_nil]; rfl
        repeat' (first | with_reducible refine iteI (fun _ => ?_) (fun _ => ?_) | ((first | unfold AOpsC | unfold AOpsD | skip); simp (maxSteps := 1000000) (disch := (first | omega | assumption | (simp only [List.length_append, List.length_cons, List.length_nil, List.length_set]; omega))) only [go_sem, Sp155, SHasI, hb', d1', o1', t1, t2, t5, t13, t14, t15, l2, e2, g4, hcell, hll]))
        refine ⟨⟨i + 1, _, bl, wer, by omega, g1, g2, by rw [hac]; exact g3, by rw [hQ]; exact g4, rfl, by simp [upd, t1, t2, t5, t13, t14, t15, hac], by simp [upd, t1, t2, t5, t13, t14, t15, hac], by simp [upd, t1, t2, t5, t13, t14, t15, hac], by simp [upd, t1, t2, t5, t13, t14, t15, hac], by simp [upd, t1, t2, t5, t13, t14, t15, hac], by simp [upd, t1, t2, t5, t13, t14, t15, hac], by simp [upd, l2], rfl⟩, by simp [ctr, upd, t15]; omega⟩
      · have hac : nbK l.length i0' (i + 1) = nbK l.length i0' i ++ [x] := by rw [nbK, htk, List.filter_append, List.filter_cons, if_pos (by rw [hasB, e2]), List.filter_nil]; rfl
        repeat' (first | with_reducible refine iteI (fun _ => ?_) (fun _ => ?_) | ((first | unfold AOpsC | unfold AOpsD | skip); simp (maxSteps := 1000000) (disch := (first | omega | assumption | (simp only [List.length_append, List.length_cons, List.length_nil, List.length_set]; omega))) only [go_sem, Sp155, SHasI, hb', d1', o1', t1, t2, t5, t13, t14, t15, l2, e2, g3, g4, hcell, hll, takeMap]))
        refine ⟨⟨i + 1, _, bl, wer + 1, by omega, (g1.set (by omega) _).app _, g2, by rw [hac, app_get (by simpa using hHl), set_eq hHl]; simp, by rw [hQ, app_get (by simpa using hHq), set_ne (by omega)]; exact g4, rfl, by simp [upd, t1, t2, t5, t13, t14, t15, hac], by simp [upd, t1, t2, t5, t13, t14, t15, hac], by simp [upd, t1, t2, t5, t13, t14, t15, hac], by simp [upd, t1, t2, t5, t13, t14, t15, hac], by simp [upd, t1, t2, t5, t13, t14, t15, hac], by simp [upd, t1, t2, t5, t13, t14, t15, hac], by simp [upd, l2], rfl⟩, by simp [ctr, upd, t15]; omega⟩
    · obtain rfl : i = 2 := by omega
      repeat' (first | with_reducible refine iteI (fun _ => ?_) (fun _ => ?_) | ((first | unfold AOpsC | unfold AOpsD | skip); simp (maxSteps := 1000000) (disch := (first | omega | assumption | (simp only [List.length_append, List.length_cons, List.length_nil, List.length_set]; omega))) only [go_sem, Sp155, SHasI, hb', d1', o1', t1, t2, t5, t13, t14, t15, l2]))
      exact hK _ _ (NewI.mk (by omega) g3) g1
  · exact h.elim

def invJmp (H : List Blk) (r : Int) (l : List Id3) (v a b c : AV) (ms bs : List Int) (j : Nat) (L : List Int) (u : AV) (st : St) : Prop := ∃ i : Nat, (i ≤ L.length) ∧ st.n = 29 ∧ st.τ 1 = .int .i64 j ∧ st.τ 2 = .loc 2 1 0 ∧ st.τ 5 = .int .i64 (jN (jF l ms bs j) L i) ∧ st.τ 11 = u ∧ st.τ 12 = .int .i64 L.length ∧ st.τ 13 = .int .i64 i ∧ st.lam 2 = ⟨1, [.int .i64 r, v, a, b, c]⟩ ∧ st.η = H

/- (impl.State).jump -/
def Sp129 (lo : Nat) : Spec := fun g args η K => match g with | 119 => SAbs args η K | 155 => SNb args η K | 156 => SSurf args η K | _ => False
theorem Sp129_ok {lo : Nat} : Sound Tryz.prog lo (Sp129 lo) := by
  intro g args η K h
  unfold Sp129 at h
  split at h
  · exact .inl (f119_ok h)
  · exact .inl (f155_ok h)
  · exact .inl (f156_ok h)
  · exact h.elim
def Dr129 : Draws := fun id => match id with | 5 => ([0, 0, 0, 6, 0, 0, 62, 126, 254, 511, 1023], [3, 6, 8], [], (.one 0 (.one 1 (.one 2 (.one 4 (.one 5 (.one 3 (.one 6 (.one 7 (.one 8 (.one 9 (.one 10 .nil)))))))))))) | _ => ([], [], [], .nil)
theorem f129_ok {lo : Nat} {args : List AV} {η : List Blk} {K : AV → List Blk → Prop} (h : SJump args η K) : AF Tryz.prog lo 129 args η K := by
  unfold SJump at h
  split at h
  · obtain ⟨⟨⟨⟨l, hr, hl⟩, ⟨ms, ha, hla⟩, ⟨ts, hb, hlb⟩, ⟨bs, hc, hlc⟩⟩, e1, i0, i1⟩, hK⟩ := h
    rename_i r _ _ _ _ i
    rw [hr.dec3] at i1 e1
    rw [ha.dec, hb.dec, hc.dec] at e1
    have d1 := hr.dec3
    have d2 := ha.dec
    have d3 := hb.dec
    have d4 := hc.dec
    have o1 : ok3 69 _ _ := ⟨l, hr, hl⟩
    have o2 : okI _ _ := ⟨ms, ha, hla⟩
    have o3 : okI _ _ := ⟨ts, hb, hlb⟩
    have o4 : okI _ _ := ⟨bs, hc, hlc⟩
    simp only [d1, d2, d3, d4] at hK
    have hr' := hr
    have ha' := ha
    have hb' := hb
    have hc' := hc
    obtain ⟨b0, v0, rfl, hb0⟩ := hr'
    obtain ⟨b1, v1, rfl, hb1⟩ := ha'
    obtain ⟨b2, v2, rfl, hb2⟩ := hb'
    obtain ⟨b3, v3, rfl, hb3⟩ := hc'
    obtain ⟨j, rfl⟩ : ∃ j : Nat, i = j := ⟨i.toNat, by omega⟩
    rw [Int.toNat_natCast] at hK
    obtain ⟨k1, k2, k3, k4, k5, k6, k7, k8⟩ := okT e1
    have j1 : j < l.length := by omega
    have s0 := surf_bd e1 j1
    refine AF_run Sp129_ok Dr129 [] [.tmp 4] hm Tryz.func129 rfl (by decide) Tryz.ntmps129 rfl (by kernel_rfl) (Nat.le_of_ble_eq_true rfl) ?_; intro hlo
    repeat' (first | with_reducible refine iteI (fun _ => ?_) (fun _ => ?_) | ((first | unfold AOpsC | unfold AOpsD | skip); simp (maxSteps := 1000000) (disch := (first | omega | assumption | (simp only [List.length_append, List.length_cons, List.length_nil, List.length_set]; omega))) only [go_sem, Sp129, SAbs, SSurf, Dr129, hb0, hb1, hb2, hb3, d1, d2, d3, d4, o1, o2, o3, o4]))
    unfold SNb
    simp only [hb0, hb1, hb2, hb3, d1, d2, d3, d4, o1, o2, o3, o4]
    refine ⟨⟨trivial, by omega, by omega⟩, fun H u hu x => ?_⟩
    have w0 := x.blk hb0
    have w1 := x.blk hb1
    have w2 := x.blk hb2
    have w3 := x.blk hb3
    have D1 : dec3 69 H (.sl b0 v0 0 l.length) = l := IsR.dec3 ⟨b0, v0, rfl, w0⟩
    have D2 : decI H (.sl b1 v1 0 ms.length) = ms := IsI.dec ⟨b1, v1, rfl, w1⟩
    have D3 : decI H (.sl b2 v2 0 ts.length) = ts := IsI.dec ⟨b2, v2, rfl, w2⟩
    have D4 : decI H (.sl b3 v3 0 bs.length) = bs := IsI.dec ⟨b3, v3, rfl, w3⟩
    have O1 : ok3 69 H (.sl b0 v0 0 l.length) := ⟨l, ⟨b0, v0, rfl, w0⟩, hl⟩
    have O2 : okI H (.sl b1 v1 0 ms.length) := ⟨ms, ⟨b1, v1, rfl, w1⟩, hla⟩
    have O3 : okI H (.sl b2 v2 0 ts.length) := ⟨ts, ⟨b2, v2, rfl, w2⟩, hlb⟩
    have O4 : okI H (.sl b3 v3 0 bs.length) := ⟨bs, ⟨b3, v3, rfl, w3⟩, hlc⟩
    have hnl : (nbI l.length j).length ≤ 2 := nb_len _ _ _
    obtain ⟨hu, _⟩ := hu
    rcases hu with ⟨hu, hL⟩ | ⟨bf, wf, rfl, hbf⟩
    · have hz : jumpI l ms bs j = 0 := by rw [jumpI, hL]; rfl
      rw [hz] at hK
      rcases hu with rfl | rfl
      all_goals
        repeat' (first | with_reducible refine iteI (fun _ => ?_) (fun _ => ?_) | ((first | unfold AOpsC | unfold AOpsD | skip); simp (maxSteps := 1000000) (disch := (first | omega | assumption | (simp only [List.length_append, List.length_cons, List.length_nil, List.length_set]; omega))) only [go_sem, Sp129, SAbs, SSurf, Dr129, w0, w1, w2, w3, D1, D2, D3, D4, O1, O2, O3, O4]))
        refine ⟨invJmp H r l (.sl b0 v0 0 l.length) (.sl b1 v1 0 ms.length) (.sl b2 v2 0 ts.length) (.sl b3 v3 0 bs.length) ms bs j [] _, fun st => ctr 0 st 13, .inl ⟨0, Nat.zero_le _, rfl, (by first | (simp [upd]; done) | (simp [upd, *]; done) | rfl), (by first | (simp [upd]; done) | (simp [upd, *]; done) | rfl), (by first | (simp [upd]; done) | (simp [upd, *]; done) | rfl), (by first | (simp [upd]; done) | (simp [upd, *]; done) | rfl), (by first | (simp [upd]; done) | (simp [upd, *]; done) | rfl), (by first | (simp [upd]; done) | (simp [upd, *]; done) | rfl), (by first | (simp [upd]; done) | (simp [upd, *]; done) | rfl), rfl⟩, ?_⟩
        rintro ⟨n, τ, lam, η'⟩ ⟨i, g0, hn, t1, t2, t5, t11, t12, t13, l2, hη⟩; simp only at hn t1 t2 t5 t11 t12 t13 l2 hη; subst hn hη
        obtain rfl : i = 0 := by simpa using g0
        repeat' (first | with_reducible refine iteI (fun _ => ?_) (fun _ => ?_) | ((first | unfold AOpsC | unfold AOpsD | skip); simp (maxSteps := 1000000) (disch := (first | omega | assumption | (simp only [List.length_append, List.length_cons, List.length_nil, List.length_set]; omega))) only [go_sem, Sp129, SAbs, SSurf, Dr129, w0, w1, w2, w3, D1, D2, D3, D4, O1, O2, O3, O4, t1, t2, t5, t11, t12, t13, l2]))
        exact hK _ x
    · have hmem : ∀ k, k < (nbI l.length j).length → 0 ≤ (nbI l.length j).getD k 0 ∧ (nbI l.length j).getD k 0 ≤ (l.length : Int) - 1 := fun k hk => by
        have := nb_mem (getD_mem (d := 0) hk)
        omega
      repeat' (first | with_reducible refine iteI (fun _ => ?_) (fun _ => ?_) | ((first | unfold AOpsC | unfold AOpsD | skip); simp (maxSteps := 1000000) (disch := (first | omega | assumption | (simp only [List.length_append, List.length_cons, List.length_nil, List.length_set]; omega))) only [go_sem, Sp129, SAbs, SSurf, Dr129, w0, w1, w2, w3, D1, D2, D3, D4, O1, O2, O3, O4, hbf]))
      refine ⟨invJmp H r l (.sl b0 v0 0 l.length) (.sl b1 v1 0 ms.length) (.sl b2 v2 0 ts.length) (.sl b3 v3 0 bs.length) ms bs j (nbI l.length j) (.sl bf wf 0 (nbI l.length j).length), fun st => ctr (nbI l.length j).length st 13, .inl ⟨0, Nat.zero_le _, rfl, (by first | (simp [upd]; done) | (simp [upd, *]; done) | rfl), (by first | (simp [upd]; done) | (simp [upd, *]; done) | rfl), (by first | (simp [upd]; done) | (simp [upd, *]; done) | rfl), (by first | (simp [upd]; done) | (simp [upd, *]; done) | rfl), (by first | (simp [upd]; done) | (simp [upd, *]; done) | rfl), (by first | (simp [upd]; done) | (simp [upd, *]; done) | rfl), (by first | (simp [upd]; done) | (simp [upd, *]; done) | rfl), rfl⟩, ?_⟩
      rintro ⟨n, τ, lam, η'⟩ ⟨i, g0, hn, t1, t2, t5, t11, t12, t13, l2, hη⟩; simp only at hn t1 t2 t5 t11 t12 t13 l2 hη; subst hn hη
      by_cases hlt : i < (nbI l.length j).length
      · have hx := hmem i hlt
        have hxn : ((nbI l.length j).getD i 0).toNat < l.length := by omega
        have s1 := surf_bd e1 hxn
        have hga := gap_abs (surfI l ms bs j) (surfI l ms bs ((nbI l.length j).getD i 0).toNat)
        have hjd : jF l ms bs j ((nbI l.length j).getD i 0) = gapI (surfI l ms bs j) (surfI l ms bs ((nbI l.length j).getD i 0).toNat) := rfl
        by_cases hg : jN (jF l ms bs j) (nbI l.length j) i < gapI (surfI l ms bs j) (surfI l ms bs ((nbI l.length j).getD i 0).toNat)
        · have hac : jN (jF l ms bs j) (nbI l.length j) (i + 1) = gapI (surfI l ms bs j) (surfI l ms bs ((nbI l.length j).getD i 0).toNat) := by rw [jN, hjd, if_pos hg]
          repeat' (first | with_reducible refine iteI (fun _ => ?_) (fun _ => ?_) | ((first | unfold AOpsC | unfold AOpsD | skip); simp (maxSteps := 1000000) (disch := (first | omega | assumption | (simp only [List.length_append, List.length_cons, List.length_nil, List.length_set]; omega))) only [go_sem, Sp129, SAbs, SSurf, Dr129, w0, w1, w2, w3, D1, D2, D3, D4, O1, O2, O3, O4, t1, t2, t5, t11, t12, t13, l2, hbf, e1, ↓hga, maxStep, List.foldl_cons, List.foldl_nil]))
          refine ⟨⟨i + 1, by omega, rfl, by simp [upd, t1, t2, t5, t11, t12, t13, hac], by simp [upd, t1, t2, t5, t11, t12, t13, hac], by simp [upd, t1, t2, t5, t11, t12, t13, hac], by simp [upd, t1, t2, t5, t11, t12, t13, hac], by simp [upd, t1, t2, t5, t11, t12, t13, hac], by simp [upd, t1, t2, t5, t11, t12, t13, hac], by simp [upd, l2], rfl⟩, by simp [ctr, upd, t13]; omega⟩
        · have hac : jN (jF l ms bs j) (nbI l.length j) (i + 1) = jN (jF l ms bs j) (nbI l.length j) i := by rw [jN, hjd, if_neg hg]
          repeat' (first | with_reducible refine iteI (fun _ => ?_) (fun _ => ?_) | ((first | unfold AOpsC | unfold AOpsD | skip); simp (maxSteps := 1000000) (disch := (first | omega | assumption | (simp only [List.length_append, List.length_cons, List.length_nil, List.length_set]; omega))) only [go_sem, Sp129, SAbs, SSurf, Dr129, w0, w1, w2, w3, D1, D2, D3, D4, O1, O2, O3, O4, t1, t2, t5, t11, t12, t13, l2, hbf, e1, ↓hga, maxStep, List.foldl_cons, List.foldl_nil]))
          refine ⟨⟨i + 1, by omega, rfl, by simp [upd, t1, t2, t5, t11, t12, t13, hac], by simp [upd, t1, t2, t5, t11, t12, t13, hac], by simp [upd, t1, t2, t5, t11, t12, t13, hac], by simp [upd, t1, t2, t5, t11, t12, t13, hac], by simp [upd, t1, t2, t5, t11, t12, t13, hac], by simp [upd, t1, t2, t5, t11, t12, t13, hac], by simp [upd, l2], rfl⟩, by simp [ctr, upd, t13]; omega⟩
      · obtain rfl : i = (nbI l.length j).length := by omega
        repeat' (first | with_reducible refine iteI (fun _ => ?_) (fun _ => ?_) | ((first | unfold AOpsC | unfold AOpsD | skip); simp (maxSteps := 1000000) (disch := (first | omega | assumption | (simp only [List.length_append, List.length_cons, List.length_nil, List.length_set]; omega))) only [go_sem, Sp129, SAbs, SSurf, Dr129, w0, w1, w2, w3, D1, D2, D3, D4, O1, O2, O3, O4, t1, t2, t5, t11, t12, t13, l2]))
        exact hK _ x
  · exact h.elim

/- spec.l16Jump -/
def Sp126 (lo : Nat) : Spec := fun g args η K => match g with | 153 => SGap args η K | 154 => SSurf args η K | _ => False
theorem Sp126_ok {lo : Nat} : Sound Tryz.prog lo (Sp126 lo) := by
  intro g args η K h
  unfold Sp126 at h
  split at h
  · exact .inl (f153_ok h)
  · exact .inl (f154_ok h)
  · exact h.elim
def Dr126 : Draws := fun id => match id with | 3 => ([0, 0, 3, 0, 0, 16, 63, 127, 255], [2], [], (.one 0 (.one 1 (.one 3 (.one 4 (.one 5 (.one 2 (.one 6 (.one 7 (.one 8 .nil)))))))))) | 5 => ([0, 0, 0, 6, 0, 0, 32, 126, 254, 511, 1023], [3, 7, 8], [], (.one 0 (.one 1 (.one 2 (.one 4 (.one 5 (.one 6 (.one 3 (.one 7 (.one 8 (.one 9 (.one 10 .nil)))))))))))) | _ => ([], [], [], .nil)
theorem f126_ok {lo : Nat} {args : List AV} {η : List Blk} {K : AV → List Blk → Prop} (h : SJump args η K) : AF Tryz.prog lo 126 args η K := by
  unfold SJump at h
  split at h
  · obtain ⟨⟨⟨⟨l, hr, hl⟩, ⟨ms, ha, hla⟩, ⟨ts, hb, hlb⟩, ⟨bs, hc, hlc⟩⟩, e1, i0, i1⟩, hK⟩ := h
    rename_i r _ _ _ _ i
    rw [hr.dec3] at i1 e1
    rw [ha.dec, hb.dec, hc.dec] at e1
    have d1 := hr.dec3
    have d2 := ha.dec
    have d3 := hb.dec
    have d4 := hc.dec
    have o1 : ok3 69 _ _ := ⟨l, hr, hl⟩
    have o2 : okI _ _ := ⟨ms, ha, hla⟩
    have o3 : okI _ _ := ⟨ts, hb, hlb⟩
    have o4 : okI _ _ := ⟨bs, hc, hlc⟩
    simp only [d1, d2, d3, d4] at hK
    have hr' := hr
    have ha' := ha
    have hb' := hb
    have hc' := hc
    obtain ⟨b0, v0, rfl, hb0⟩ := hr'
    obtain ⟨b1, v1, rfl, hb1⟩ := ha'
    obtain ⟨b2, v2, rfl, hb2⟩ := hb'
    obtain ⟨b3, v3, rfl, hb3⟩ := hc'
    obtain ⟨j, rfl⟩ : ∃ j : Nat, i = j := ⟨i.toNat, by omega⟩
    rw [Int.toNat_natCast] at hK
    obtain ⟨k1, k2, k3, k4, k5, k6, k7, k8⟩ := okT e1
    have j1 : j < l.length := by omega
    have s0 := surf_bd e1 j1
    refine AF_run Sp126_ok Dr126 [] [.tmp 4] hm Tryz.func126 rfl (by decide) Tryz.ntmps126 rfl (by kernel_rfl) (Nat.le_of_ble_eq_true rfl) ?_; intro hlo
    rw [← jS_eq l ms bs j1] at hK
    replace hK := hK _ (Ext.refl _)
    unfold jS maxG at hK
    by_cases h1 : 0 < j
    · have s1 := surf_bd e1 (i := j - 1) (by omega)
      have ej : ((j : Int) - 1).toNat = j - 1 := by omega
      rw [if_pos h1] at hK
      by_cases h2 : j + 1 < l.length
      · have s2 := surf_bd e1 h2
        rw [if_pos h2] at hK
        by_cases h3 : gapI (surfI l ms bs j) (surfI l ms bs (j - 1)) < gapI (surfI l ms bs j) (surfI l ms bs (j + 1))
        · rw [if_pos h3] at hK
          repeat' (first | with_reducible refine iteI (fun _ => ?_) (fun _ => ?_) | ((first | unfold AOpsC | unfold AOpsD | skip); simp (maxSteps := 1000000) (disch := (first | omega | assumption | (simp only [List.length_append, List.length_cons, List.length_nil, List.length_set]; omega))) only [go_sem, Sp126, SGap, SSurf, Dr126, hb0, hb1, hb2, hb3, d1, d2, d3, d4, o1, o2, o3, o4, e1, ej, maxStep, List.foldl_cons, List.foldl_nil]))
          exact hK
        · rw [if_neg h3] at hK
          repeat' (first | with_reducible refine iteI (fun _ => ?_) (fun _ => ?_) | ((first | unfold AOpsC | unfold AOpsD | skip); simp (maxSteps := 1000000) (disch := (first | omega | assumption | (simp only [List.length_append, List.length_cons, List.length_nil, List.length_set]; omega))) only [go_sem, Sp126, SGap, SSurf, Dr126, hb0, hb1, hb2, hb3, d1, d2, d3, d4, o1, o2, o3, o4, e1, ej, maxStep, List.foldl_cons, List.foldl_nil]))
          exact hK
      · rw [if_neg h2] at hK
        repeat' (first | with_reducible refine iteI (fun _ => ?_) (fun _ => ?_) | ((first | unfold AOpsC | unfold AOpsD | skip); simp (maxSteps := 1000000) (disch := (first | omega | assumption | (simp only [List.length_append, List.length_cons, List.length_nil, List.length_set]; omega))) only [go_sem, Sp126, SGap, SSurf, Dr126, hb0, hb1, hb2, hb3, d1, d2, d3, d4, o1, o2, o3, o4, e1, ej]))
        exact hK
    · rw [if_neg h1] at hK
      by_cases h2 : j + 1 < l.length
      · have s2 := surf_bd e1 h2
        rw [if_pos h2] at hK
        by_cases h3 : 0 < gapI (surfI l ms bs j) (surfI l ms bs (j + 1))
        · rw [if_pos h3] at hK
          repeat' (first | with_reducible refine iteI (fun _ => ?_) (fun _ => ?_) | ((first | unfold AOpsC | unfold AOpsD | skip); simp (maxSteps := 1000000) (disch := (first | omega | assumption | (simp only [List.length_append, List.length_cons, List.length_nil, List.length_set]; omega))) only [go_sem, Sp126, SGap, SSurf, Dr126, hb0, hb1, hb2, hb3, d1, d2, d3, d4, o1, o2, o3, o4, e1, maxStep, List.foldl_cons, List.foldl_nil]))
          exact hK
        · rw [if_neg h3] at hK
          repeat' (first | with_reducible refine iteI (fun _ => ?_) (fun _ => ?_) | ((first | unfold AOpsC | unfold AOpsD | skip); simp (maxSteps := 1000000) (disch := (first | omega | assumption | (simp only [List.length_append, List.length_cons, List.length_nil, List.length_set]; omega))) only [go_sem, Sp126, SGap, SSurf, Dr126, hb0, hb1, hb2, hb3, d1, d2, d3, d4, o1, o2, o3, o4, e1, maxStep, List.foldl_cons, List.foldl_nil]))
          exact hK
      · rw [if_neg h2] at hK
        repeat' (first | with_reducible refine iteI (fun _ => ?_) (fun _ => ?_) | ((first | unfold AOpsC | unfold AOpsD | skip); simp (maxSteps := 1000000) (disch := (first | omega | assumption | (simp only [List.length_append, List.length_cons, List.length_nil, List.length_set]; omega))) only [go_sem, Sp126, SGap, SSurf, Dr126, hb0, hb1, hb2, hb3, d1, d2, d3, d4, o1, o2, o3, o4, e1]))
        exact hK
  · exact h.elim

end Go.Proofs.YtaalpmbopkbdiaaGreat
