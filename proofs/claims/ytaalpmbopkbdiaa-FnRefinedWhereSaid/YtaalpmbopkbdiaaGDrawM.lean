/- What functions of the program compute, said in the abstract logic; no conditions. -/
import Derived.Test.YtaalpmbopkbdiaaGDraw
import Derived.Test.YtaalpmbopkbdiaaGMesh
import Derived.Test.YtaalpmbopkbdiaaGMeshN

namespace Go.Proofs.Ytaalpmbopkbdiaa
open Go
set_option linter.unusedSimpArgs false
set_option linter.unusedVariables false
set_option maxRecDepth 100000
set_option maxHeartbeats 8000000
attribute [local go_sem] st0 AC thenA andC locLoadB KsSW_same KsSW_grow oldLoadB noBlkB KsSL_same KsOS_same KsOS_grow pv ev put upd dstOk cv cvc binI setB Value.oneCell' EndA resA resA1 List.mapM_cons List.mapM_nil Option.pure_def Option.bind_eq_bind noLocV noLoc1 noLoc noLocs plainV cellsA newVarA putCells condA lam0 inBlockA cur lenA rowA writeA dstA appendC appendZ mapPut mapGet avoidsB avoidB clearB Array.toList_append Op.operands Call.operands newSlot Nat.zero_add Nat.add_zero Nat.succ_ne_self Nat.lt_add_one Nat.zero_lt_succ true_and and_true true_or or_true false_or or_false and_self true_implies forall_const Bool.false_eq_true Bool.true_eq_false false_implies implies_true imp_self ne_eq not_false_eq_true not_true_eq_false false_and and_false List.getElem?_toArray List.getElem?_cons_succ List.getElem?_cons_zero Option.bind_some Option.map_some Bool.not_true Bool.not_false List.getD_cons_zero List.getD_cons_succ Option.some.injEq exists_eq_left' AV.bool.injEq List.map_cons List.map_nil List.all_cons List.all_nil Bool.and_self Bool.and_true Bool.true_and List.append_nil List.cons_append List.nil_append List.length_cons List.length_nil List.drop_zero List.take_zero List.drop_succ_cons List.take_succ_cons List.take_nil List.drop_nil List.not_mem_nil List.mem_cons List.contains_nil List.contains_cons Bool.or_self Bool.or_true Bool.true_or Bool.false_or Bool.or_false Bool.and_false Bool.false_and KsS_same KsS_grow skipV KsS_ext KsSW_ext KsOS_ext rep1 rep2 rep3 rep4 rep5 List.flatten_cons List.flatten_nil partsA isPtr fillA List.size_toArray ltT ltF leT leF ltTn ltFn leTn leFn eqTi eqFi wrapId toNat1 intGet boolGet memD app_get app_last app_lst app_set app_setL app_setF set_ne set_eq gt_iff_lt ge_iff_le decide_eq_true_eq len2 len3 get20 get21 drop2 put2 get30 get31 get32 drop3 put3 putI pairEta bneTi bneFi beqTi beqFi bne_eq_false_iff_eq beq_eq_false_iff_ne beq_iff_eq bne_iff_ne Int.toNat_natCast Nat.mul_one List.length_map Bool.not_eq_true Bool.not_eq_false Bool.decide_eq_true decide_true decide_false Bool.not_eq_true' Bool.not_eq_false' decide_eq_false_iff_not eq_self Decidable.not_not
attribute [local go_sem ↓] skipC exitC retC seqC blockC condC regC drawC drawStep AOpC AOpF AOpE AEff contE_at contC_at keepC_at keepW_at keepO_at keepL_at map_parts
attribute [local go_sem] reduceCtorEq Nat.reduceLT Nat.reduceEqDiff Nat.reduceAdd Nat.reduceMul Nat.reduceLeDiff Nat.reduceSub Nat.reduceBEq Nat.reduceBNe Nat.reduceBneDiff Nat.reduceBeqDiff
attribute [local go_sem ↓] reduceIte
attribute [local go_sem] ag_24 ag_3 ag_63 by_24 by_3 by_63 el_24 en_3 fi_63_0 fi_63_1 fi_63_2 in_3 nf_63 pl_63 ps_63 sz_24 sz_3 sz_63 ze_24 ze_3 ze_63

def SOnce (lo : Nat) : List AV → List Blk → (AV → List Blk → Prop) → Prop
  | [.ptr b 0 0, .int .i64 n], η, K => ∃ v, CurAt lo η b v ∧ n ≤ 2147483648 ∧ ∀ x i h, CurAt lo (η.set b (curB v i h)) b v → K (.bool x) (η.set b (curB v i h))
  | _, _, _ => False
def SChild : List AV → List Blk → (AV → List Blk → Prop) → Prop
  | [.agg [.int .i64 r, .int .i64 lv, .int .i64 ix], .int .i64 k], η, K => (idB r lv ix = true ∧ lv ≠ 4 ∧ 0 ≤ k ∧ k ≤ 1) ∧ K (.tup [.agg [.int .i64 r, .int .i64 (lv + 1), .int .i64 (2 * ix + k)], .bool true]) η
  | _, _, _ => False

/- spec.l01Once -/
def Sp84 (lo : Nat) : Spec := fun g args η K => match g with | 41 => SBelow lo args η K | _ => False
theorem Sp84_ok {lo : Nat} : Sound Try.prog lo (Sp84 lo) := by
  intro g args η K h
  unfold Sp84 at h
  split at h
  · exact .inl (f41_ok h)
  · exact h.elim
theorem f84_ok {lo : Nat} {args : List AV} {η : List Blk} {K : AV → List Blk → Prop} (h : SOnce lo args η K) : AF Try.prog lo 84 args η K := by
  unfold SOnce at h
  split at h
  · obtain ⟨v, hc, hn, hK⟩ := h
    refine AF_run Sp84_ok D0 [] [.tmp 4] hm Try.func84 rfl (by decide) Try.ntmps84 rfl (by kernel_rfl) (Nat.le_of_ble_eq_true rfl) ?_; intro hlo
    repeat' (first | with_reducible refine iteI (fun _ => ?_) (fun _ => ?_) | ((first | unfold AOpsC | unfold AOpsD | skip); simp (maxSteps := 1000000) (disch := (first | omega | assumption | (simp only [List.length_append, List.length_cons, List.length_nil, List.length_set]; omega))) only [go_sem, Sp84, SBelow]))
    refine ⟨v, hc, fun r i h hr0 hr1 hr2 hc1 => ?_⟩
    by_cases h0 : r = 0
    · repeat' (first | with_reducible refine iteI (fun _ => ?_) (fun _ => ?_) | ((first | unfold AOpsC | unfold AOpsD | skip); simp (maxSteps := 1000000) (disch := (first | omega | assumption | (simp only [List.length_append, List.length_cons, List.length_nil, List.length_set]; omega))) only [go_sem, Sp84, SBelow, h0]))
      exact hK _ _ _ hc1
    · repeat' (first | with_reducible refine iteI (fun _ => ?_) (fun _ => ?_) | ((first | unfold AOpsC | unfold AOpsD | skip); simp (maxSteps := 1000000) (disch := (first | omega | assumption | (simp only [List.length_append, List.length_cons, List.length_nil, List.length_set]; omega))) only [go_sem, Sp84, SBelow, h0]))
      exact hK _ _ _ hc1
  · exact h.elim

/- spec.ChildOf -/
def Sp127 (lo : Nat) : Spec := fun g args η K => match g with | 62 => SIn args η K | 104 => SId args η K | _ => False
theorem Sp127_ok {lo : Nat} : Sound Try.prog lo (Sp127 lo) := by
  intro g args η K h
  unfold Sp127 at h
  split at h
  · exact .inl (f62_ok h)
  · exact .inl (f104_ok h)
  · exact h.elim
theorem f127_ok {lo : Nat} {args : List AV} {η : List Blk} {K : AV → List Blk → Prop} (h : SChild args η K) : AF Try.prog lo 127 args η K := by
  unfold SChild at h
  split at h
  · obtain ⟨⟨h1, h2, h3, h4⟩, hK⟩ := h
    rename_i r lv ix k
    have hk : inB k 0 1 = true := by simp [inB]; omega
    have hb := id_bd h1
    refine AF_run Sp127_ok D0 [] [.cell 4 63, .tmp 5] hm Try.func127 rfl (by decide) Try.ntmps127 rfl (by kernel_rfl) (Nat.le_of_ble_eq_true rfl) ?_; intro hlo
    repeat' (first | with_reducible refine iteI (fun _ => ?_) (fun _ => ?_) | ((first | unfold AOpsC | unfold AOpsD | skip); simp (maxSteps := 1000000) (disch := (first | omega | assumption | (simp only [List.length_append, List.length_cons, List.length_nil, List.length_set]; omega))) only [go_sem, Sp127, SIn, SId, h1, h2, hk]))
    exact hK
  · exact h.elim

def FrN (n : Nat) (η H : List Blk) : Prop := η.length ≤ H.length ∧ ∀ i, i < n → H[i]? = η[i]?
theorem FrN.refl (n : Nat) (η : List Blk) : FrN n η η := ⟨Nat.le_refl _, fun _ _ => rfl⟩
theorem FrN.trans {n : Nat} {η H G : List Blk} (h : FrN n η H) (g : FrN n H G) : FrN n η G := ⟨Nat.le_trans h.1 g.1, fun i hi => (g.2 i hi).trans (h.2 i hi)⟩
theorem FrN.set {n : Nat} {η H : List Blk} (h : FrN n η H) {c : Nat} (hc : n ≤ c) (B : Blk) : FrN n η (H.set c B) := ⟨by simpa using h.1, fun i hi => by rw [set_ne (by omega)]; exact h.2 i hi⟩
theorem FrN.app {n : Nat} {η H : List Blk} (h : FrN n η H) (hn : n ≤ H.length) (B : Blk) : FrN n η (H ++ [B]) := ⟨by simp; have := h.1; omega, fun i hi => by rw [List.getElem?_append_left (by omega)]; exact h.2 i hi⟩
/-- A pointer to the slice of a mesh under way: its block q, the cursor c, the leaves so far. -/
def RootI (lo n : Nat) (η : List Blk) (c q : Nat) (v : AV) (r : Int) (l : List Id3) : Prop := lo ≤ n ∧ n ≤ c ∧ n ≤ q ∧ CurAt lo η c v ∧ ∃ x, η[q]? = some ⟨0, 26, 2, [.int .i64 r, x]⟩ ∧
  ((x = .nils ∧ l = []) ∨ ∃ b w, x = .sl b w 0 l.length ∧ n ≤ b ∧ η[b]? = some ⟨w, 63, 3, (l.map enc3).flatten⟩)
theorem RootI.cur {lo n c q : Nat} {η : List Blk} {v : AV} {r : Int} {l : List Id3} (h : RootI lo n η c q v r l) {i k : Int} (hc : CurAt lo (η.set c (curB v i k)) c v) : RootI lo n (η.set c (curB v i k)) c q v r l := by
  obtain ⟨h1, h2, h3, h4, x, h5, h6⟩ := h
  obtain ⟨_, _, _, _, _, _, _, _, hb⟩ := h4
  have e1 : c ≠ q := by rintro rfl; rw [hb] at h5; simp [curB] at h5
  refine ⟨h1, h2, h3, hc, x, by rw [set_ne e1]; exact h5, ?_⟩
  rcases h6 with h6 | ⟨b, w, rfl, h7, h8⟩
  · exact .inl h6
  · have e2 : c ≠ b := by rintro rfl; rw [hb] at h8; simp [curB] at h8
    exact .inr ⟨b, w, rfl, h7, by rw [set_ne e2]; exact h8⟩
def SRootD (lo d : Nat) : List AV → List Blk → (AV → List Blk → Prop) → Prop
  | [.ptr c 0 0, .agg [.int .i64 r0, .int .i64 lv, .int .i64 ix], .int .i64 ch, .ptr q 0 1], η, K => (4 ≤ lv + d ∧ idB r0 lv ix = true ∧ 0 ≤ ch ∧ ch ≤ 10 + lv) ∧ ∃ (n : Nat) (v : AV) (r : Int) (l : List Id3), RootI lo n η c q v r l ∧ meshAt 0 l = some (stI r0 lv ix) ∧
      ∀ H l', RootI lo n H c q v r l' → meshAt 0 l' = some (enI r0 lv ix) → FrN n η H → K (.tup []) H
  | _, _, _ => False
def SRootR (lo d : Nat) (args : List AV) (η : List Blk) (K : AV → List Blk → Prop) : Prop := 0 < d ∧ SRootD lo (d - 1) args η K
theorem child_geo {r lv ix : Int} (h : idB r lv ix = true) (h4 : lv ≠ 4) : idB r (lv + 1) (2 * ix + 0) = true ∧ idB r (lv + 1) (2 * ix + 1) = true ∧ stI r (lv + 1) (2 * ix + 0) = stI r lv ix ∧ enI r (lv + 1) (2 * ix + 0) = stI r (lv + 1) (2 * ix + 1) ∧ enI r (lv + 1) (2 * ix + 1) = enI r lv ix := by
  have h' := h
  simp only [idB, inB, Bool.and_eq_true, decide_eq_true_eq] at h'
  obtain ⟨⟨h1, h2⟩, ⟨h3, h5⟩, h6, h7⟩ := h'
  have hh : lv = 0 ∨ lv = 1 ∨ lv = 2 ∨ lv = 3 := by omega
  have k0 : idB r (lv + 1) (2 * ix + 0) = true := by
    rcases hh with rfl | rfl | rfl | rfl <;> simp [idB, inB] at h7 ⊢ <;> omega
  have k1 : idB r (lv + 1) (2 * ix + 1) = true := by
    rcases hh with rfl | rfl | rfl | rfl <;> simp [idB, inB] at h7 ⊢ <;> omega
  refine ⟨k0, k1, ?_, ?_, ?_⟩ <;> simp only [enI, stI, h, k0, k1, if_true] <;> rcases hh with rfl | rfl | rfl | rfl <;> simp [wdI] <;> omega
theorem meshAt_leaf {l : List Id3} {r lv ix : Int} (h : meshAt 0 l = some (stI r lv ix)) (hi : idB r lv ix = true) : meshAt 0 (l ++ [(r, lv, ix)]) = some (enI r lv ix) := by
  rw [meshAt_app, h]
  simp [meshAt, idT, hi]

theorem CurAt.app {lo : Nat} {η : List Blk} {c : Nat} {v : AV} (h : CurAt lo η c v) (B : Blk) : CurAt lo (η ++ [B]) c v := by
  obtain ⟨h1, l, i, k, hr, h2, h3, h4, h5⟩ := h
  exact ⟨h1, l, i, k, hr.app _, h2, h3, h4, by rw [List.getElem?_append_left (blt h5)]; exact h5⟩
theorem CurAt.oth {lo : Nat} {η : List Blk} {c b : Nat} {v : AV} (h : CurAt lo η c v) {B0 : Blk} (hb : η[b]? = some B0) (h1 : B0.ty ≠ 5) (h2 : B0.ty ≠ 105) (B : Blk) : CurAt lo (η.set b B) c v := by
  obtain ⟨g1, l, i, k, hr, g2, g3, g4, g5⟩ := h
  refine ⟨g1, l, i, k, ?_, g2, g3, g4, ?_⟩
  · rcases hr with hr | ⟨e, ver, rfl, he⟩
    · exact .inl hr
    · refine .inr ⟨e, ver, rfl, ?_⟩
      rw [set_ne (by rintro rfl; rw [hb] at he; cases he; exact h1 rfl)]
      exact he
  · rw [set_ne (by rintro rfl; rw [hb] at g5; cases g5; exact h2 rfl)]
    exact g5

theorem RootI.leaf0 {lo nb c q : Nat} {η : List Blk} {v : AV} {r : Int} (h : RootI lo nb η c q v r []) (k5 : η[q]? = some ⟨0, 26, 2, [.int .i64 r, .nils]⟩) (r0 lv ix : Int) :
    RootI lo nb (η.set q ⟨0, 26, 2, [.int .i64 r, .sl (η ++ [(⟨0, 63, 3, [.int .i64 r0, .int .i64 lv, .int .i64 ix]⟩ : Blk)]).length 0 0 1]⟩ ++ [⟨0, 63, 3, [.int .i64 r0, .int .i64 lv, .int .i64 ix]⟩] ++ [⟨0, 63, 3, [.int .i64 r0, .int .i64 lv, .int .i64 ix]⟩]) c q v r ([] ++ [(r0, lv, ix)]) := by
  obtain ⟨h1, h2, h3, h4, x, h5, h6⟩ := h
  have hql := blt k5
  refine ⟨h1, h2, h3, ((h4.oth k5 (by simp) (by simp) _).app _).app _, .sl (η ++ [(⟨0, 63, 3, [.int .i64 r0, .int .i64 lv, .int .i64 ix]⟩ : Blk)]).length 0 0 1, by rw [List.append_assoc, List.getElem?_append_left (by simpa using hql), set_eq hql], .inr ⟨_, 0, rfl, by simp; omega, ?_⟩⟩
  simp [enc3]
theorem RootI.leafL {lo nb c q b w : Nat} {η : List Blk} {v : AV} {r : Int} {l : List Id3} (h : RootI lo nb η c q v r l) (k5 : η[q]? = some ⟨0, 26, 2, [.int .i64 r, .sl b w 0 l.length]⟩) (kb : nb ≤ b) (k7 : η[b]? = some ⟨w, 63, 3, (l.map enc3).flatten⟩) (r0 lv ix : Int) (B : Blk) :
    RootI lo nb ((η.set b ⟨w + 1, 63, 3, (l.map enc3).flatten ++ [.int .i64 r0, .int .i64 lv, .int .i64 ix]⟩).set q ⟨0, 26, 2, [.int .i64 r, .sl b (w + 1) 0 (l.length + 1)]⟩ ++ [B]) c q v r (l ++ [(r0, lv, ix)]) := by
  obtain ⟨h1, h2, h3, h4, x, h5, h6⟩ := h
  have hql := blt k5
  have hbl := blt k7
  have hqb : q ≠ b := by rintro rfl; rw [k5] at k7; simp at k7
  refine ⟨h1, h2, h3, ((h4.oth k7 (by simp) (by simp) _).oth (b := q) (by rw [set_ne (Ne.symm hqb)]; exact k5) (by simp) (by simp) _).app _, .sl b (w + 1) 0 (l.length + 1), by rw [List.getElem?_append_left (by simpa using hql), set_eq (by simpa using hql)], .inr ⟨b, w + 1, by simp, kb, ?_⟩⟩
  rw [List.getElem?_append_left (by simpa using hbl), set_ne hqb, set_eq hbl]
  simp [enc3]

def invRt (lo nb : Nat) (η : List Blk) (c q : Nat) (v : AV) (r r0 lv ix ch : Int) (st : St) : Prop := ∃ i : Nat, ∃ H : List Blk, ∃ l : List Id3, (i ≤ 2) ∧ (RootI lo nb H c q v r l) ∧ (meshAt 0 l = some (if i = 0 then stI r0 lv ix else if i = 1 then stI r0 (lv + 1) (2 * ix + 1) else enI r0 lv ix)) ∧ (FrN nb η H) ∧ st.n = 44 ∧ st.τ 0 = .ptr c 0 0 ∧ st.τ 2 = .int .i64 ch ∧ st.τ 3 = .ptr q 0 1 ∧ st.τ 5 = .loc 5 1 0 ∧ st.τ 8 = .int .i64 i ∧ st.lam 5 = ⟨1, [.int .i64 r0, .int .i64 lv, .int .i64 ix]⟩ ∧ st.η = H

/- spec.l04Root -/
def Sp152 (lo d : Nat) : Spec := fun g args η K => match g with | 84 => SOnce lo args η K | 127 => SChild args η K | 152 => SRootR lo d args η K | _ => False
theorem Sp152_ok {lo d : Nat} (ih : ∀ args η K, SRootR lo d args η K → AF Try.prog lo 152 args η K) : Sound Try.prog lo (Sp152 lo d) := by
  intro g args η K h
  unfold Sp152 at h
  split at h
  · exact .inl (f84_ok h)
  · exact .inl (f127_ok h)
  · exact .inl (ih _ _ _ h)
  · exact h.elim
def Dr152 : Draws := fun id => match id with | 2 => ([0, 0, 2, 6, 0, 16, 62, 127, 255], [5], [], (.one 1 (.one 2 (.one 3 (.one 4 (.two 0 5 (.one 5 (.one 6 (.one 7 (.one 8 .nil)))) (.two 0 6 (.one 6 (.one 7 (.one 8 .nil))) (.one 0 (.one 7 (.one 8 .nil)))))))))) | _ => ([], [], [], .nil)
theorem f152_st {lo d : Nat} (ih : ∀ args η K, SRootR lo d args η K → AF Try.prog lo 152 args η K) {args : List AV} {η : List Blk} {K : AV → List Blk → Prop} (h : SRootD lo d args η K) : AF Try.prog lo 152 args η K := by
  unfold SRootD at h
  split at h
  · obtain ⟨⟨hd, hid, hc0, hc1⟩, nb, v, r, l, hR, hm0, hK⟩ := h
    rename_i c r0 lv ix ch q
    have hb := id_bd hid
    have hR0 := hR
    obtain ⟨k1, k2, k3, k4, x, k5, k6⟩ := hR0
    have hql := blt k5
    have hll : l.length ≤ 128 := by
      have := meshAt_len l 0 _ hm0
      have := st_bd r0 lv ix
      omega
    refine AF_run (Sp152_ok ih) Dr152 [] [] hm Try.func152 rfl (by decide) Try.ntmps152 rfl (by kernel_rfl) (Nat.le_of_ble_eq_true rfl) ?_; intro hlo
    by_cases h4 : lv = 4
    · subst h4
      rcases k6 with ⟨rfl, rfl⟩ | ⟨b, w, rfl, k6, k7⟩
      · repeat' (first | with_reducible refine iteI (fun _ => ?_) (fun _ => ?_) | ((first | unfold AOpsC | unfold AOpsD | skip); simp (maxSteps := 1000000) (disch := (first | omega | assumption | (simp only [List.length_append, List.length_cons, List.length_nil, List.length_set]; omega))) only [go_sem, Sp152, SOnce, SChild, SRootR, Dr152, k5, hql]))
        exact hK _ _ (hR.leaf0 k5 r0 4 ix) (meshAt_leaf hm0 hid) ((((FrN.refl nb η).set k3 _).app (by simp; omega) _).app (by simp; omega) _)
      · have hbl := blt k7
        have hqb : q ≠ b := by rintro rfl; rw [k5] at k7; simp at k7
        repeat' (first | with_reducible refine iteI (fun _ => ?_) (fun _ => ?_) | ((first | unfold AOpsC | unfold AOpsD | skip); simp (maxSteps := 1000000) (disch := (first | omega | assumption | (simp only [List.length_append, List.length_cons, List.length_nil, List.length_set]; omega))) only [go_sem, Sp152, SOnce, SChild, SRootR, Dr152, k5, k7, hql, hbl, takeF3]))
        exact hK _ _ (hR.leafL k5 k6 k7 r0 4 ix _) (meshAt_leaf hm0 hid) ((((FrN.refl nb η).set k6 _).set k3 _).app (by simp; omega) _)
    · repeat' (first | with_reducible refine iteI (fun _ => ?_) (fun _ => ?_) | ((first | unfold AOpsC | unfold AOpsD | skip); simp (maxSteps := 1000000) (disch := (first | omega | assumption | (simp only [List.length_append, List.length_cons, List.length_nil, List.length_set]; omega))) only [go_sem, Sp152, SOnce, SChild, SRootR, Dr152, h4]))
      refine ⟨v, k4, fun y i k hcu => ?_⟩
      have hR1 := hR.cur hcu
      have hF1 : FrN nb η (η.set c (curB v i k)) := (FrN.refl nb η).set k2 _
      generalize η.set c (curB v i k) = H1 at *
      clear k1 k2 k3 k4 k5 k6 hql hcu hR x
      have hR2 := hR1
      obtain ⟨k1, k2, k3, k4, x, k5, k6⟩ := hR2
      have hql := blt k5
      cases y
      · rw [if_pos rfl]
        rcases k6 with ⟨rfl, rfl⟩ | ⟨b, w, rfl, k6, k7⟩
        · repeat' (first | with_reducible refine iteI (fun _ => ?_) (fun _ => ?_) | ((first | unfold AOpsC | unfold AOpsD | skip); simp (maxSteps := 1000000) (disch := (first | omega | assumption | (simp only [List.length_append, List.length_cons, List.length_nil, List.length_set]; omega))) only [go_sem, Sp152, SOnce, SChild, SRootR, Dr152, k5, hql]))
          exact hK _ _ (hR1.leaf0 k5 r0 lv ix) (meshAt_leaf hm0 hid) (((hF1.set k3 _).app (by simp; omega) _).app (by simp; omega) _)
        · have hbl := blt k7
          have hqb : q ≠ b := by rintro rfl; rw [k5] at k7; simp at k7
          repeat' (first | with_reducible refine iteI (fun _ => ?_) (fun _ => ?_) | ((first | unfold AOpsC | unfold AOpsD | skip); simp (maxSteps := 1000000) (disch := (first | omega | assumption | (simp only [List.length_append, List.length_cons, List.length_nil, List.length_set]; omega))) only [go_sem, Sp152, SOnce, SChild, SRootR, Dr152, k5, k7, hql, hbl, takeF3]))
          exact hK _ _ (hR1.leafL k5 k6 k7 r0 lv ix _) (meshAt_leaf hm0 hid) (((hF1.set k6 _).set k3 _).app (by simp; omega) _)
      · rw [if_neg (fun h => Bool.noConfusion h)]
        repeat' (first | with_reducible refine iteI (fun _ => ?_) (fun _ => ?_) | ((first | unfold AOpsC | unfold AOpsD | skip); simp (maxSteps := 1000000) (disch := (first | omega | assumption | (simp only [List.length_append, List.length_cons, List.length_nil, List.length_set]; omega))) only [go_sem, Sp152, SOnce, SChild, SRootR, Dr152, k5, hql]))
        obtain ⟨c1, c2, c3, c4, c5⟩ := child_geo hid h4
        refine ⟨invRt lo nb η c q v r r0 lv ix ch, fun st => ctr 2 st 8, .inl ⟨0, H1, l, Nat.zero_le _, hR1, by simpa using hm0, hF1, rfl, (by first | (simp [upd]; done) | (simp [upd, *]; done) | rfl), (by first | (simp [upd]; done) | (simp [upd, *]; done) | rfl), (by first | (simp [upd]; done) | (simp [upd, *]; done) | rfl), (by first | (simp [upd]; done) | (simp [upd, *]; done) | rfl), (by first | (simp [upd]; done) | (simp [upd, *]; done) | rfl), (by first | (simp [upd]; done) | (simp [upd, *]; done) | rfl), rfl⟩, ?_⟩
        clear k5 k6 hql x hR1 hm0 hF1 k4
        rintro ⟨n, τ, lam, η'⟩ ⟨i, H, l, g0, g1, g2, g3, hn, t0, t2, t3, t5, t8, l5, hη⟩; simp only at hn t0 t2 t3 t5 t8 l5 hη; subst hn hη
        by_cases hlt : i < 2
        · have hii : i = 0 ∨ i = 1 := by omega
          have ci : idB r0 (lv + 1) (2 * ix + (i : Int)) = true := by
            rcases hii with rfl | rfl
            · exact c1
            · exact c2
          have ms : meshAt 0 l = some (stI r0 (lv + 1) (2 * ix + (i : Int))) := by
            rcases hii with rfl | rfl
            · rw [g2]; simpa using c3.symm
            · rw [g2]; simp
          have me : enI r0 (lv + 1) (2 * ix + (i : Int)) = (if i + 1 = 0 then stI r0 lv ix else if i + 1 = 1 then stI r0 (lv + 1) (2 * ix + 1) else enI r0 lv ix) := by
            rcases hii with rfl | rfl
            · simpa using c4
            · simpa using c5
          repeat' (first | with_reducible refine iteI (fun _ => ?_) (fun _ => ?_) | ((first | unfold AOpsC | unfold AOpsD | skip); simp (maxSteps := 1000000) (disch := (first | omega | assumption | (simp only [List.length_append, List.length_cons, List.length_nil, List.length_set]; omega))) only [go_sem, Sp152, SOnce, SChild, SRootR, Dr152, t0, t2, t3, t5, t8, l5]))
          refine ⟨by omega, ⟨by omega, ci, by omega, by omega⟩, nb, v, r, l, g1, ms, fun H l' q1 q2 q3 => ?_⟩
          repeat' (first | with_reducible refine iteI (fun _ => ?_) (fun _ => ?_) | ((first | unfold AOpsC | unfold AOpsD | skip); simp (maxSteps := 1000000) (disch := (first | omega | assumption | (simp only [List.length_append, List.length_cons, List.length_nil, List.length_set]; omega))) only [go_sem, Sp152, SOnce, SChild, SRootR, Dr152, t0, t2, t3, t5, t8, l5]))
          refine ⟨⟨i + 1, H, l', hlt, q1, by rw [q2, me], g3.trans q3, rfl, by simp [upd, t0], by simp [upd, t2], by simp [upd, t3], by simp [upd, t5], by simp [upd], by simp [upd, l5], rfl⟩, by simp [ctr, upd, t8]; omega⟩
        · obtain rfl : i = 2 := by omega
          repeat' (first | with_reducible refine iteI (fun _ => ?_) (fun _ => ?_) | ((first | unfold AOpsC | unfold AOpsD | skip); simp (maxSteps := 1000000) (disch := (first | omega | assumption | (simp only [List.length_append, List.length_cons, List.length_nil, List.length_set]; omega))) only [go_sem, Sp152, SOnce, SChild, SRootR, Dr152, t0, t2, t3, t5, t8, l5]))
          exact hK _ _ g1 (by simpa using g2) g3
  · exact h.elim
theorem f152_ok {lo d : Nat} {args : List AV} {η : List Blk} {K : AV → List Blk → Prop} (h : SRootD lo d args η K) : AF Try.prog lo 152 args η K := by
  induction d generalizing args η K with
  | zero => exact f152_st (d := 0) (fun _ _ _ h => absurd h.1 (Nat.lt_irrefl _)) h
  | succ d ih => exact f152_st (d := d + 1) (fun _ _ _ h => ih h.2) h

end Go.Proofs.Ytaalpmbopkbdiaa
