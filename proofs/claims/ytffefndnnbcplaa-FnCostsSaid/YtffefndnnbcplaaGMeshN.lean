/- What functions of the program compute, said in the abstract logic; no conditions. -/
import Derived.Test.YtffefndnnbcplaaGRes
import Derived.Test.YtffefndnnbcplaaGCost

namespace Go.Proofs.Ytffefndnnbcplaa
open Go
set_option linter.unusedSimpArgs false
set_option linter.unusedVariables false
set_option maxRecDepth 100000
set_option maxHeartbeats 8000000
attribute [local go_sem] st0 AC thenA andC locLoadB KsSW_same KsSW_grow oldLoadB KsOS_same KsOS_grow pv ev put upd dstOk cv cvc binI setB Value.oneCell' EndA resA resA1 List.mapM_cons List.mapM_nil Option.pure_def Option.bind_eq_bind noLocV noLoc1 noLoc noLocs plainV cellsA newVarA putCells condA lam0 inBlockA cur lenA rowA avoidsB avoidB clearB Array.toList_append Op.operands Call.operands newSlot Nat.zero_add Nat.add_zero Nat.succ_ne_self Nat.lt_add_one Nat.zero_lt_succ true_and and_true true_or or_true false_or or_false and_self true_implies forall_const Bool.false_eq_true Bool.true_eq_false false_implies implies_true imp_self ne_eq not_false_eq_true not_true_eq_false false_and and_false List.getElem?_toArray List.getElem?_cons_succ List.getElem?_cons_zero Option.bind_some Option.map_some Bool.not_true Bool.not_false List.getD_cons_zero List.getD_cons_succ Option.some.injEq exists_eq_left' AV.bool.injEq List.map_cons List.map_nil List.all_cons List.all_nil Bool.and_self Bool.and_true Bool.true_and List.append_nil List.cons_append List.nil_append List.length_cons List.length_nil List.drop_zero List.take_zero List.drop_succ_cons List.take_succ_cons List.take_nil List.drop_nil List.not_mem_nil List.mem_cons List.contains_nil List.contains_cons Bool.or_self Bool.or_true Bool.true_or Bool.false_or Bool.or_false Bool.and_false Bool.false_and KsS_same KsS_grow skipV KsS_ext KsSW_ext KsOS_ext rep1 rep2 rep3 rep4 rep5 List.flatten_cons List.flatten_nil partsA isPtr fillA List.size_toArray ltT ltF leT leF ltTn ltFn leTn leFn eqTi eqFi wrapId toNat1 intGet boolGet memD app_get app_last app_lst app_set app_setL app_setF set_ne set_eq gt_iff_lt ge_iff_le decide_eq_true_eq len2 len3 get20 get21 drop2 put2 get30 get31 get32 drop3 put3 putI pairEta bneTi bneFi beqTi beqFi bne_eq_false_iff_eq beq_eq_false_iff_ne beq_iff_eq bne_iff_ne Int.toNat_natCast Nat.mul_one List.length_map Bool.not_eq_true Bool.not_eq_false Bool.decide_eq_true decide_true decide_false Bool.not_eq_true' Bool.not_eq_false' decide_eq_false_iff_not eq_self Decidable.not_not

def rowF (r : Nat) (lv : Int) (n : Nat) : List Id3 := (List.range n).map fun i : Nat => ((r : Int), lv, (i : Int))
def fullM (lv : Int) : Nat → List Id3
  | 0 => []
  | r + 1 => fullM lv r ++ rowF r lv (2 ^ lv.toNat)
theorem rowF_len (r : Nat) (lv : Int) (n : Nat) : (rowF r lv n).length = n := by simp [rowF]
theorem rowF_succ (r : Nat) (lv : Int) (n : Nat) : rowF r lv (n + 1) = rowF r lv n ++ [((r : Int), lv, (n : Int))] := by simp [rowF, List.range_succ]
theorem fullM_len (lv : Int) : ∀ r, (fullM lv r).length = r * 2 ^ lv.toNat
  | 0 => by simp [fullM]
  | r + 1 => by rw [fullM, List.length_append, fullM_len lv r, rowF_len, Nat.add_mul, Nat.one_mul]
def newB (r lv : Int) : Bool := inB r 1 8 && inB lv 0 4
def newM (r lv : Int) : List Id3 := if newB r lv = true then fullM lv r.toNat else []
def newR (r lv : Int) : Int := if newB r lv = true then r else 0
def SMeshN : List AV → List Blk → (AV → List Blk → Prop) → Prop
  | [.int .i64 r, .int .i64 lv], η, K => ∀ H u, NewR 45 3 enc3 η.length H u (newM r lv) → (newB r lv = true → ∃ b ver, u = .sl b ver 0 (newM r lv).length) → Ext η H → K (.tup [.agg [.int .i64 (newR r lv), u], .bool (newB r lv)]) H
  | _, _, _ => False
theorem fullM_ids {lv : Int} (h : 0 ≤ lv ∧ lv ≤ 4) : ∀ r x, x ∈ fullM lv r → x.2.1 = lv
  | 0, x, hx => by simp [fullM] at hx
  | r + 1, x, hx => by
    rw [fullM] at hx
    rcases List.mem_append.1 hx with hx | hx
    · exact fullM_ids h r x hx
    · simp only [rowF, List.mem_map] at hx
      obtain ⟨i, _, rfl⟩ := hx
      rfl
theorem newM_levs (r lv : Int) : levs (newM r lv) := by
  unfold newM
  split
  · rename_i h
    simp only [newB, Bool.and_eq_true] at h
    intro x hx
    rw [fullM_ids (inT h.2) _ x hx]
    exact inT h.2
  · intro x hx; simp at hx
theorem newM_len (r lv : Int) : (newM r lv).length ≤ 128 := by
  unfold newM
  split
  · rename_i h
    simp only [newB, Bool.and_eq_true] at h
    have h1 := inT h.1
    have h2 := inT h.2
    rw [fullM_len]
    have h3 : r.toNat ≤ 8 := by omega
    have h4 : 2 ^ lv.toNat ≤ 16 := by rcases lv5 h2 with rfl | rfl | rfl | rfl | rfl <;> decide
    exact Nat.le_trans (Nat.mul_le_mul h3 h4) (by decide)
  · simp

def invMNS (η : List Blk) (r lv : Int) (n : Nat) (st : St) : Prop := ∃ i : Nat, ∃ H : List Blk, ∃ x : AV, (i ≤ r.toNat) ∧ (Ext η H) ∧ (((x = .nils ∧ fullM lv i = []) ∨ ∃ bl wer, x = .sl bl wer 0 (fullM lv i).length ∧ η.length ≤ bl ∧ H[bl]? = some ⟨wer, 45, 3, ((fullM lv i).map enc3).flatten⟩)) ∧ st.n = 42 ∧ st.τ 0 = .int .i64 r ∧ st.τ 1 = .int .i64 lv ∧ st.τ 4 = .loc 4 1 0 ∧ st.τ 6 = .loc 6 1 0 ∧ st.τ 7 = .int .i64 i ∧ st.lam 4 = ⟨1, [.int .i64 0, .nils]⟩ ∧ st.lam 6 = ⟨1, [.int .i64 r, x]⟩ ∧ st.η = H

def invMNS2 (η : List Blk) (r lv : Int) (n : Nat) (k : Nat) (st : St) : Prop := ∃ i : Nat, ∃ H : List Blk, ∃ x : AV, (i ≤ n) ∧ (Ext η H) ∧ (((x = .nils ∧ fullM lv k ++ rowF k lv i = []) ∨ ∃ bl wer, x = .sl bl wer 0 (fullM lv k ++ rowF k lv i).length ∧ η.length ≤ bl ∧ H[bl]? = some ⟨wer, 45, 3, ((fullM lv k ++ rowF k lv i).map enc3).flatten⟩)) ∧ st.n = 42 ∧ st.τ 0 = .int .i64 r ∧ st.τ 1 = .int .i64 lv ∧ st.τ 4 = .loc 4 1 0 ∧ st.τ 6 = .loc 6 1 0 ∧ st.τ 7 = .int .i64 k ∧ st.τ 8 = .int .i64 i ∧ st.lam 4 = ⟨1, [.int .i64 0, .nils]⟩ ∧ st.lam 6 = ⟨1, [.int .i64 r, x]⟩ ∧ st.η = H

/- spec.MeshNew -/
def Sp28 (lo : Nat) : Spec := fun g args η K => match g with | 95 => SIn args η K | _ => False
theorem Sp28_ok {lo : Nat} : Sound Try.prog lo (Sp28 lo) := by
  intro g args η K h
  unfold Sp28 at h
  split at h
  · exact f95_ok h
  · exact h.elim
theorem f28_ok {lo : Nat} {args : List AV} {η : List Blk} {K : AV → List Blk → Prop} (h : SMeshN args η K) : AF Try.prog lo 28 args η K := by
  unfold SMeshN at h
  split at h
  · rename_i r lv
    refine AF_run Sp28_ok D0 [] [.cell 4 26, .tmp 5] hm Try.func28 rfl (by decide) Try.ntmps28 rfl (by kernel_rfl) (Nat.le_of_ble_eq_true rfl) ?_; intro hlo
    cases e1 : inB r 1 8
    · repeat' (first | with_reducible refine iteI (fun _ => ?_) (fun _ => ?_) | ((first | unfold AOpsC | unfold AOpsD | skip); simp (maxSteps := 1000000) (disch := (first | omega | assumption | (simp only [List.length_append, List.length_cons, List.length_nil, List.length_set]; omega))) only [go_sem, ↓skipC, ↓exitC, ↓retC, ↓seqC, ↓blockC, ↓condC, ↓regC, ↓drawC, ↓drawStep, ↓AOpC, ↓AOpF, ↓AOpE, ↓AEff, ↓contE_at, ↓contC_at, ↓keepC_at, ↓keepW_at, ↓keepO_at, ↓map_parts, ↓reduceIte, reduceCtorEq, Nat.reduceLT, Nat.reduceEqDiff, Nat.reduceAdd, Nat.reduceMul, Nat.reduceLeDiff, Nat.reduceSub, Nat.reduceBEq, Nat.reduceBNe, Nat.reduceBneDiff, Nat.reduceBeqDiff, ag_24, ag_26, ag_45, by_24, by_26, by_45, el_24, fi_26_1, in_3, in_33, nf_26, nf_45, pl_26, pl_45, ps_26, ps_45, sz_24, sz_26, sz_45, ze_24, ze_26, ze_45, Sp28, SIn, e1]))
      have := h _ _ ((NewR.nil _ _ : NewR 45 3 enc3 η.length η .nils []).eq (by simp [newM, newB, e1])) (by simp [newB, e1]) (Ext.refl _)
      simpa [newB, newR, e1] using this
    have r1 := inT e1
    by_cases hlv : 0 ≤ lv ∧ lv ≤ 4
    case neg =>
      have e2 : inB lv 0 4 = false := by simp [inB]; omega
      repeat' (first | with_reducible refine iteI (fun _ => ?_) (fun _ => ?_) | ((first | unfold AOpsC | unfold AOpsD | skip); simp (maxSteps := 1000000) (disch := (first | omega | assumption | (simp only [List.length_append, List.length_cons, List.length_nil, List.length_set]; omega))) only [go_sem, ↓skipC, ↓exitC, ↓retC, ↓seqC, ↓blockC, ↓condC, ↓regC, ↓drawC, ↓drawStep, ↓AOpC, ↓AOpF, ↓AOpE, ↓AEff, ↓contE_at, ↓contC_at, ↓keepC_at, ↓keepW_at, ↓keepO_at, ↓map_parts, ↓reduceIte, reduceCtorEq, Nat.reduceLT, Nat.reduceEqDiff, Nat.reduceAdd, Nat.reduceMul, Nat.reduceLeDiff, Nat.reduceSub, Nat.reduceBEq, Nat.reduceBNe, Nat.reduceBneDiff, Nat.reduceBeqDiff, ag_24, ag_26, ag_45, by_24, by_26, by_45, el_24, fi_26_1, in_3, in_33, nf_26, nf_45, pl_26, pl_45, ps_26, ps_45, sz_24, sz_26, sz_45, ze_24, ze_26, ze_45, Sp28, SIn, e1, e2]))
      have := h _ _ ((NewR.nil _ _ : NewR 45 3 enc3 η.length η .nils []).eq (by simp [newM, newB, e2])) (by simp [newB, e2]) (Ext.refl _)
      simpa [newB, newR, e2] using this
    have e2 : inB lv 0 4 = true := by simp [inB]; omega
    have hnB : newB r lv = true := by simp [newB, e1, e2]
    have hmin : min lv.toNat 64 = lv.toNat := by omega
    have hpw : ∃ n : Nat, (2 : Int) ^ lv.toNat = (n : Int) ∧ 2 ^ lv.toNat = n ∧ 1 ≤ n ∧ n ≤ 16 := by rcases lv5 hlv with rfl | rfl | rfl | rfl | rfl <;> exact ⟨_, rfl, rfl, by decide, by decide⟩
    obtain ⟨n, hp1, hp2, hn1, hn2⟩ := hpw
    repeat' (first | with_reducible refine iteI (fun _ => ?_) (fun _ => ?_) | ((first | unfold AOpsC | unfold AOpsD | skip); simp (maxSteps := 1000000) (disch := (first | omega | assumption | (simp only [List.length_append, List.length_cons, List.length_nil, List.length_set]; omega))) only [go_sem, ↓skipC, ↓exitC, ↓retC, ↓seqC, ↓blockC, ↓condC, ↓regC, ↓drawC, ↓drawStep, ↓AOpC, ↓AOpF, ↓AOpE, ↓AEff, ↓contE_at, ↓contC_at, ↓keepC_at, ↓keepW_at, ↓keepO_at, ↓map_parts, ↓reduceIte, reduceCtorEq, Nat.reduceLT, Nat.reduceEqDiff, Nat.reduceAdd, Nat.reduceMul, Nat.reduceLeDiff, Nat.reduceSub, Nat.reduceBEq, Nat.reduceBNe, Nat.reduceBneDiff, Nat.reduceBeqDiff, ag_24, ag_26, ag_45, by_24, by_26, by_45, el_24, fi_26_1, in_3, in_33, nf_26, nf_45, pl_26, pl_45, ps_26, ps_45, sz_24, sz_26, sz_45, ze_24, ze_26, ze_45, Sp28, SIn, e1, e2]))
    refine ⟨invMNS η r lv n, fun st => ctr r.toNat st 7, .inl ⟨0, _, _, Nat.zero_le _, Ext.refl _, .inl ⟨rfl, rfl⟩, rfl, by simp [upd], by simp [upd], by simp [upd], by simp [upd], by simp [upd], by simp [upd], by simp [upd], rfl⟩, ?_⟩
    rintro ⟨n, τ, lam, η'⟩ ⟨i, H, x, g0, g1, g2, hn, t0, t1, t4, t6, t7, l4, l6, hη⟩; simp only at hn t0 t1 t4 t6 t7 l4 l6 hη; subst hn hη
    by_cases hi : i < r.toNat
    · have hi' : (i : Int) < r := by omega
      repeat' (first | with_reducible refine iteI (fun _ => ?_) (fun _ => ?_) | ((first | unfold AOpsC | unfold AOpsD | skip); simp (maxSteps := 1000000) (disch := (first | omega | assumption | (simp only [List.length_append, List.length_cons, List.length_nil, List.length_set]; omega))) only [go_sem, ↓skipC, ↓exitC, ↓retC, ↓seqC, ↓blockC, ↓condC, ↓regC, ↓drawC, ↓drawStep, ↓AOpC, ↓AOpF, ↓AOpE, ↓AEff, ↓contE_at, ↓contC_at, ↓keepC_at, ↓keepW_at, ↓keepO_at, ↓map_parts, ↓reduceIte, reduceCtorEq, Nat.reduceLT, Nat.reduceEqDiff, Nat.reduceAdd, Nat.reduceMul, Nat.reduceLeDiff, Nat.reduceSub, Nat.reduceBEq, Nat.reduceBNe, Nat.reduceBneDiff, Nat.reduceBeqDiff, ag_24, ag_26, ag_45, by_24, by_26, by_45, el_24, fi_26_1, in_3, in_33, nf_26, nf_45, pl_26, pl_45, ps_26, ps_45, sz_24, sz_26, sz_45, ze_24, ze_26, ze_45, Sp28, SIn, t0, t1, t4, t6, t7, l4, l6, hmin, hp1, IntKind.bits, wrapU, Int.one_mul]))
      refine ⟨invMNS2 η r lv n i, fun st => ctr n st 8, .inl ⟨0, _, x, Nat.zero_le _, g1, by simpa [rowF] using g2, rfl, by simp [upd, t0, t1, t4, t6, t7], by simp [upd, t0, t1, t4, t6, t7], by simp [upd, t0, t1, t4, t6, t7], by simp [upd, t0, t1, t4, t6, t7], by simp [upd, t0, t1, t4, t6, t7], by simp [upd, t0, t1, t4, t6, t7], by simp [upd, l4], by simp [upd, l6], rfl⟩, ?_⟩
      have o7 := t7
      generalize hii : i = k at *
      rintro ⟨n, τ, lam, η'⟩ ⟨i, H, x, g0, g1, g2, hn, t0, t1, t4, t6, t7, t8, l4, l6, hη⟩; simp only at hn t0 t1 t4 t6 t7 t8 l4 l6 hη; subst hn hη
      have hkl : (fullM lv k).length ≤ 8 * 16 := by
        rw [fullM_len, hp2]
        exact Nat.mul_le_mul (by omega) hn2
      have hlen : (fullM lv k ++ rowF k lv i).length ≤ 144 := by rw [List.length_append, rowF_len]; omega
      by_cases hlt : i < n
      · have hrs := rowF_succ k lv i
        rcases g2 with ⟨rfl, g2⟩ | ⟨bl, wer, rfl, g2, g3⟩
        · repeat' (first | with_reducible refine iteI (fun _ => ?_) (fun _ => ?_) | ((first | unfold AOpsC | unfold AOpsD | skip); simp (maxSteps := 1000000) (disch := (first | omega | assumption | (simp only [List.length_append, List.length_cons, List.length_nil, List.length_set]; omega))) only [go_sem, ↓skipC, ↓exitC, ↓retC, ↓seqC, ↓blockC, ↓condC, ↓regC, ↓drawC, ↓drawStep, ↓AOpC, ↓AOpF, ↓AOpE, ↓AEff, ↓contE_at, ↓contC_at, ↓keepC_at, ↓keepW_at, ↓keepO_at, ↓map_parts, ↓reduceIte, reduceCtorEq, Nat.reduceLT, Nat.reduceEqDiff, Nat.reduceAdd, Nat.reduceMul, Nat.reduceLeDiff, Nat.reduceSub, Nat.reduceBEq, Nat.reduceBNe, Nat.reduceBneDiff, Nat.reduceBeqDiff, ag_24, ag_26, ag_45, by_24, by_26, by_45, el_24, fi_26_1, in_3, in_33, nf_26, nf_45, pl_26, pl_45, ps_26, ps_45, sz_24, sz_26, sz_45, ze_24, ze_26, ze_45, Sp28, SIn, t0, t1, t4, t6, t7, t8, l4, l6, hmin, hp1, IntKind.bits, wrapU, Int.one_mul]))
          refine ⟨⟨i + 1, _, _, by omega, (g1.app _).app _, .inr ⟨η'.length + 1, 0, by rw [hrs, ← List.append_assoc, g2], by have := g1.len; omega, by rw [hrs, ← List.append_assoc, g2]; simp [enc3]⟩, rfl, by simp [upd, Nat.add_assoc, t0, t1, t4, t6, t7, t8], by simp [upd, Nat.add_assoc, t0, t1, t4, t6, t7, t8], by simp [upd, Nat.add_assoc, t0, t1, t4, t6, t7, t8], by simp [upd, Nat.add_assoc, t0, t1, t4, t6, t7, t8], by simp [upd, Nat.add_assoc, t0, t1, t4, t6, t7, t8], by simp [upd, Nat.add_assoc, t0, t1, t4, t6, t7, t8], by simp [upd, l4], by simp [upd, l6, Nat.add_assoc], rfl⟩, by simp [ctr, upd, t8]; omega⟩
        · have hHl := blt g3
          repeat' (first | with_reducible refine iteI (fun _ => ?_) (fun _ => ?_) | ((first | unfold AOpsC | unfold AOpsD | skip); simp (maxSteps := 1000000) (disch := (first | omega | assumption | (simp only [List.length_append, List.length_cons, List.length_nil, List.length_set]; omega))) only [go_sem, ↓skipC, ↓exitC, ↓retC, ↓seqC, ↓blockC, ↓condC, ↓regC, ↓drawC, ↓drawStep, ↓AOpC, ↓AOpF, ↓AOpE, ↓AEff, ↓contE_at, ↓contC_at, ↓keepC_at, ↓keepW_at, ↓keepO_at, ↓map_parts, ↓reduceIte, reduceCtorEq, Nat.reduceLT, Nat.reduceEqDiff, Nat.reduceAdd, Nat.reduceMul, Nat.reduceLeDiff, Nat.reduceSub, Nat.reduceBEq, Nat.reduceBNe, Nat.reduceBneDiff, Nat.reduceBeqDiff, ag_24, ag_26, ag_45, by_24, by_26, by_45, el_24, fi_26_1, in_3, in_33, nf_26, nf_45, pl_26, pl_45, ps_26, ps_45, sz_24, sz_26, sz_45, ze_24, ze_26, ze_45, Sp28, SIn, t0, t1, t4, t6, t7, t8, l4, l6, g3, takeF3, hmin, hp1, IntKind.bits, wrapU, Int.one_mul]))
          refine ⟨⟨i + 1, _, _, by omega, (g1.set g2 _).app _, .inr ⟨bl, wer + 1, by rw [hrs], g2, by rw [hrs, app_get (by simpa using hHl), set_eq hHl]; simp [enc3]⟩, rfl, by simp [upd, Nat.add_assoc, t0, t1, t4, t6, t7, t8], by simp [upd, Nat.add_assoc, t0, t1, t4, t6, t7, t8], by simp [upd, Nat.add_assoc, t0, t1, t4, t6, t7, t8], by simp [upd, Nat.add_assoc, t0, t1, t4, t6, t7, t8], by simp [upd, Nat.add_assoc, t0, t1, t4, t6, t7, t8], by simp [upd, Nat.add_assoc, t0, t1, t4, t6, t7, t8], by simp [upd, l4], by simp [upd, l6, Nat.add_assoc], rfl⟩, by simp [ctr, upd, t8]; omega⟩
      · obtain rfl : i = n := by omega
        repeat' (first | with_reducible refine iteI (fun _ => ?_) (fun _ => ?_) | ((first | unfold AOpsC | unfold AOpsD | skip); simp (maxSteps := 1000000) (disch := (first | omega | assumption | (simp only [List.length_append, List.length_cons, List.length_nil, List.length_set]; omega))) only [go_sem, ↓skipC, ↓exitC, ↓retC, ↓seqC, ↓blockC, ↓condC, ↓regC, ↓drawC, ↓drawStep, ↓AOpC, ↓AOpF, ↓AOpE, ↓AEff, ↓contE_at, ↓contC_at, ↓keepC_at, ↓keepW_at, ↓keepO_at, ↓map_parts, ↓reduceIte, reduceCtorEq, Nat.reduceLT, Nat.reduceEqDiff, Nat.reduceAdd, Nat.reduceMul, Nat.reduceLeDiff, Nat.reduceSub, Nat.reduceBEq, Nat.reduceBNe, Nat.reduceBneDiff, Nat.reduceBeqDiff, ag_24, ag_26, ag_45, by_24, by_26, by_45, el_24, fi_26_1, in_3, in_33, nf_26, nf_45, pl_26, pl_45, ps_26, ps_45, sz_24, sz_26, sz_45, ze_24, ze_26, ze_45, Sp28, SIn, t0, t1, t4, t6, t7, t8, l4, l6, hmin, hp1, IntKind.bits, wrapU, Int.one_mul]))
        refine ⟨⟨k + 1, _, x, by omega, g1, by rw [fullM, hp2]; exact g2, rfl, by simp [upd, Nat.add_assoc, t0, t1, t4, t6, t7], by simp [upd, Nat.add_assoc, t0, t1, t4, t6, t7], by simp [upd, Nat.add_assoc, t0, t1, t4, t6, t7], by simp [upd, Nat.add_assoc, t0, t1, t4, t6, t7], by simp [upd, Nat.add_assoc, t0, t1, t4, t6, t7], by simp [upd, l4], by simp [upd, l6], rfl⟩, by simp [ctr, upd, t7, o7]; omega⟩
    · have hi2 : i = r.toNat := by omega
      have hlast : newM r lv = fullM lv i := by rw [newM, if_pos hnB, hi2]
      have hnr : newR r lv = r := if_pos hnB
      have hne : fullM lv i ≠ [] := by
        intro he
        have := fullM_len lv i
        rw [he, hp2] at this
        have h5 : 1 * 1 ≤ i * n := Nat.mul_le_mul (by omega) hn1
        simp only [List.length_nil] at this
        omega
      rcases g2 with ⟨rfl, g2⟩ | ⟨bl, wer, rfl, g2, g3⟩
      · exact absurd g2 hne
      · repeat' (first | with_reducible refine iteI (fun _ => ?_) (fun _ => ?_) | ((first | unfold AOpsC | unfold AOpsD | skip); simp (maxSteps := 1000000) (disch := (first | omega | assumption | (simp only [List.length_append, List.length_cons, List.length_nil, List.length_set]; omega))) only [go_sem, ↓skipC, ↓exitC, ↓retC, ↓seqC, ↓blockC, ↓condC, ↓regC, ↓drawC, ↓drawStep, ↓AOpC, ↓AOpF, ↓AOpE, ↓AEff, ↓contE_at, ↓contC_at, ↓keepC_at, ↓keepW_at, ↓keepO_at, ↓map_parts, ↓reduceIte, reduceCtorEq, Nat.reduceLT, Nat.reduceEqDiff, Nat.reduceAdd, Nat.reduceMul, Nat.reduceLeDiff, Nat.reduceSub, Nat.reduceBEq, Nat.reduceBNe, Nat.reduceBneDiff, Nat.reduceBeqDiff, ag_24, ag_26, ag_45, by_24, by_26, by_45, el_24, fi_26_1, in_3, in_33, nf_26, nf_45, pl_26, pl_45, ps_26, ps_45, sz_24, sz_26, sz_45, ze_24, ze_26, ze_45, Sp28, SIn, t0, t1, t4, t6, t7, l4, l6]))
        have := h _ _ ((NewR.mk g2 g3).eq hlast.symm) (fun _ => ⟨bl, wer, by rw [hlast]⟩) g1
        rw [hnr, hnB] at this
        exact this
  · exact h.elim

def invMNI (η : List Blk) (r lv : Int) (n : Nat) (st : St) : Prop := ∃ i : Nat, ∃ H : List Blk, ∃ x : AV, (i ≤ r.toNat) ∧ (Ext η H) ∧ (((x = .nils ∧ fullM lv i = []) ∨ ∃ bl wer, x = .sl bl wer 0 (fullM lv i).length ∧ η.length ≤ bl ∧ H[bl]? = some ⟨wer, 45, 3, ((fullM lv i).map enc3).flatten⟩)) ∧ st.n = 41 ∧ st.τ 0 = .int .i64 r ∧ st.τ 1 = .int .i64 lv ∧ st.τ 4 = .loc 4 1 0 ∧ st.τ 6 = .loc 6 1 0 ∧ st.τ 20 = .int .i64 r ∧ st.τ 21 = .int .i64 i ∧ st.lam 4 = ⟨1, [.int .i64 0, .nils]⟩ ∧ st.lam 6 = ⟨1, [.int .i64 r, x]⟩ ∧ st.η = H

def invMNI2 (η : List Blk) (r lv : Int) (n : Nat) (k : Nat) (st : St) : Prop := ∃ i : Nat, ∃ H : List Blk, ∃ x : AV, (i ≤ n) ∧ (Ext η H) ∧ (((x = .nils ∧ fullM lv k ++ rowF k lv i = []) ∨ ∃ bl wer, x = .sl bl wer 0 (fullM lv k ++ rowF k lv i).length ∧ η.length ≤ bl ∧ H[bl]? = some ⟨wer, 45, 3, ((fullM lv k ++ rowF k lv i).map enc3).flatten⟩)) ∧ st.n = 41 ∧ st.τ 0 = .int .i64 r ∧ st.τ 1 = .int .i64 lv ∧ st.τ 4 = .loc 4 1 0 ∧ st.τ 6 = .loc 6 1 0 ∧ st.τ 20 = .int .i64 r ∧ st.τ 21 = .int .i64 k ∧ st.τ 7 = .int .i64 k ∧ st.τ 25 = .int .i64 n ∧ st.τ 26 = .int .i64 i ∧ st.lam 4 = ⟨1, [.int .i64 0, .nils]⟩ ∧ st.lam 6 = ⟨1, [.int .i64 r, x]⟩ ∧ st.η = H

/- impl.MeshNew -/
def Sp101 (lo : Nat) : Spec := fun g args η K => match g with | 92 => SLev args η K | 118 => SIn args η K | _ => False
theorem Sp101_ok {lo : Nat} : Sound Try.prog lo (Sp101 lo) := by
  intro g args η K h
  unfold Sp101 at h
  split at h
  · exact f92_ok h
  · exact f118_ok h
  · exact h.elim
theorem f101_ok {lo : Nat} {args : List AV} {η : List Blk} {K : AV → List Blk → Prop} (h : SMeshN args η K) : AF Try.prog lo 101 args η K := by
  unfold SMeshN at h
  split at h
  · rename_i r lv
    refine AF_run Sp101_ok D0 [] [.cell 4 26, .tmp 5] hm Try.func101 rfl (by decide) Try.ntmps101 rfl (by kernel_rfl) (Nat.le_of_ble_eq_true rfl) ?_; intro hlo
    cases e1 : inB r 1 8
    · repeat' (first | with_reducible refine iteI (fun _ => ?_) (fun _ => ?_) | ((first | unfold AOpsC | unfold AOpsD | skip); simp (maxSteps := 1000000) (disch := (first | omega | assumption | (simp only [List.length_append, List.length_cons, List.length_nil, List.length_set]; omega))) only [go_sem, ↓skipC, ↓exitC, ↓retC, ↓seqC, ↓blockC, ↓condC, ↓regC, ↓drawC, ↓drawStep, ↓AOpC, ↓AOpF, ↓AOpE, ↓AEff, ↓contE_at, ↓contC_at, ↓keepC_at, ↓keepW_at, ↓keepO_at, ↓map_parts, ↓reduceIte, reduceCtorEq, Nat.reduceLT, Nat.reduceEqDiff, Nat.reduceAdd, Nat.reduceMul, Nat.reduceLeDiff, Nat.reduceSub, Nat.reduceBEq, Nat.reduceBNe, Nat.reduceBneDiff, Nat.reduceBeqDiff, ag_24, ag_26, ag_45, by_24, by_26, by_45, el_24, fi_26_1, nf_26, nf_45, pl_26, pl_45, ps_26, ps_45, sz_24, sz_26, sz_45, ze_24, ze_26, ze_45, Sp101, SLev, SIn, e1]))
      have := h _ _ ((NewR.nil _ _ : NewR 45 3 enc3 η.length η .nils []).eq (by simp [newM, newB, e1])) (by simp [newB, e1]) (Ext.refl _)
      simpa [newB, newR, e1] using this
    have r1 := inT e1
    by_cases hlv : 0 ≤ lv ∧ lv ≤ 4
    case neg =>
      have e2 : inB lv 0 4 = false := by simp [inB]; omega
      repeat' (first | with_reducible refine iteI (fun _ => ?_) (fun _ => ?_) | ((first | unfold AOpsC | unfold AOpsD | skip); simp (maxSteps := 1000000) (disch := (first | omega | assumption | (simp only [List.length_append, List.length_cons, List.length_nil, List.length_set]; omega))) only [go_sem, ↓skipC, ↓exitC, ↓retC, ↓seqC, ↓blockC, ↓condC, ↓regC, ↓drawC, ↓drawStep, ↓AOpC, ↓AOpF, ↓AOpE, ↓AEff, ↓contE_at, ↓contC_at, ↓keepC_at, ↓keepW_at, ↓keepO_at, ↓map_parts, ↓reduceIte, reduceCtorEq, Nat.reduceLT, Nat.reduceEqDiff, Nat.reduceAdd, Nat.reduceMul, Nat.reduceLeDiff, Nat.reduceSub, Nat.reduceBEq, Nat.reduceBNe, Nat.reduceBneDiff, Nat.reduceBeqDiff, ag_24, ag_26, ag_45, by_24, by_26, by_45, el_24, fi_26_1, nf_26, nf_45, pl_26, pl_45, ps_26, ps_45, sz_24, sz_26, sz_45, ze_24, ze_26, ze_45, Sp101, SLev, SIn, e1, e2]))
      have := h _ _ ((NewR.nil _ _ : NewR 45 3 enc3 η.length η .nils []).eq (by simp [newM, newB, e2])) (by simp [newB, e2]) (Ext.refl _)
      simpa [newB, newR, e2] using this
    have e2 : inB lv 0 4 = true := by simp [inB]; omega
    have hnB : newB r lv = true := by simp [newB, e1, e2]
    have hmin : min lv.toNat 64 = lv.toNat := by omega
    have hpw : ∃ n : Nat, (2 : Int) ^ lv.toNat = (n : Int) ∧ 2 ^ lv.toNat = n ∧ 1 ≤ n ∧ n ≤ 16 := by rcases lv5 hlv with rfl | rfl | rfl | rfl | rfl <;> exact ⟨_, rfl, rfl, by decide, by decide⟩
    obtain ⟨n, hp1, hp2, hn1, hn2⟩ := hpw
    repeat' (first | with_reducible refine iteI (fun _ => ?_) (fun _ => ?_) | ((first | unfold AOpsC | unfold AOpsD | skip); simp (maxSteps := 1000000) (disch := (first | omega | assumption | (simp only [List.length_append, List.length_cons, List.length_nil, List.length_set]; omega))) only [go_sem, ↓skipC, ↓exitC, ↓retC, ↓seqC, ↓blockC, ↓condC, ↓regC, ↓drawC, ↓drawStep, ↓AOpC, ↓AOpF, ↓AOpE, ↓AEff, ↓contE_at, ↓contC_at, ↓keepC_at, ↓keepW_at, ↓keepO_at, ↓map_parts, ↓reduceIte, reduceCtorEq, Nat.reduceLT, Nat.reduceEqDiff, Nat.reduceAdd, Nat.reduceMul, Nat.reduceLeDiff, Nat.reduceSub, Nat.reduceBEq, Nat.reduceBNe, Nat.reduceBneDiff, Nat.reduceBeqDiff, ag_24, ag_26, ag_45, by_24, by_26, by_45, el_24, fi_26_1, nf_26, nf_45, pl_26, pl_45, ps_26, ps_45, sz_24, sz_26, sz_45, ze_24, ze_26, ze_45, Sp101, SLev, SIn, e1, e2]))
    refine ⟨invMNI η r lv n, fun st => ctr r.toNat st 21, .inl ⟨0, _, _, Nat.zero_le _, Ext.refl _, .inl ⟨rfl, rfl⟩, rfl, by simp [upd], by simp [upd], by simp [upd], by simp [upd], by simp [upd], by simp [upd], by simp [upd], by simp [upd], rfl⟩, ?_⟩
    rintro ⟨n, τ, lam, η'⟩ ⟨i, H, x, g0, g1, g2, hn, t0, t1, t4, t6, t20, t21, l4, l6, hη⟩; simp only at hn t0 t1 t4 t6 t20 t21 l4 l6 hη; subst hn hη
    by_cases hi : i < r.toNat
    · have hi' : (i : Int) < r := by omega
      repeat' (first | with_reducible refine iteI (fun _ => ?_) (fun _ => ?_) | ((first | unfold AOpsC | unfold AOpsD | skip); simp (maxSteps := 1000000) (disch := (first | omega | assumption | (simp only [List.length_append, List.length_cons, List.length_nil, List.length_set]; omega))) only [go_sem, ↓skipC, ↓exitC, ↓retC, ↓seqC, ↓blockC, ↓condC, ↓regC, ↓drawC, ↓drawStep, ↓AOpC, ↓AOpF, ↓AOpE, ↓AEff, ↓contE_at, ↓contC_at, ↓keepC_at, ↓keepW_at, ↓keepO_at, ↓map_parts, ↓reduceIte, reduceCtorEq, Nat.reduceLT, Nat.reduceEqDiff, Nat.reduceAdd, Nat.reduceMul, Nat.reduceLeDiff, Nat.reduceSub, Nat.reduceBEq, Nat.reduceBNe, Nat.reduceBneDiff, Nat.reduceBeqDiff, ag_24, ag_26, ag_45, by_24, by_26, by_45, el_24, fi_26_1, nf_26, nf_45, pl_26, pl_45, ps_26, ps_45, sz_24, sz_26, sz_45, ze_24, ze_26, ze_45, Sp101, SLev, SIn, t0, t1, t4, t6, t20, t21, l4, l6, hmin, hp1, IntKind.bits, wrapU, Int.one_mul]))
      refine ⟨invMNI2 η r lv n i, fun st => ctr n st 26, .inl ⟨0, _, x, Nat.zero_le _, g1, by simpa [rowF] using g2, rfl, by simp [upd, t0, t1, t4, t6, t20, t21], by simp [upd, t0, t1, t4, t6, t20, t21], by simp [upd, t0, t1, t4, t6, t20, t21], by simp [upd, t0, t1, t4, t6, t20, t21], by simp [upd, t0, t1, t4, t6, t20, t21], by simp [upd, t0, t1, t4, t6, t20, t21], by simp [upd, t0, t1, t4, t6, t20, t21], by simp [upd, t0, t1, t4, t6, t20, t21], by simp [upd, t0, t1, t4, t6, t20, t21], by simp [upd, l4], by simp [upd, l6], rfl⟩, ?_⟩
      have o21 := t21
      generalize hii : i = k at *
      rintro ⟨n, τ, lam, η'⟩ ⟨i, H, x, g0, g1, g2, hn, t0, t1, t4, t6, t20, t21, t7, t25, t26, l4, l6, hη⟩; simp only at hn t0 t1 t4 t6 t20 t21 t7 t25 t26 l4 l6 hη; subst hn hη
      have hkl : (fullM lv k).length ≤ 8 * 16 := by
        rw [fullM_len, hp2]
        exact Nat.mul_le_mul (by omega) hn2
      have hlen : (fullM lv k ++ rowF k lv i).length ≤ 144 := by rw [List.length_append, rowF_len]; omega
      by_cases hlt : i < n
      · have hrs := rowF_succ k lv i
        rcases g2 with ⟨rfl, g2⟩ | ⟨bl, wer, rfl, g2, g3⟩
        · repeat' (first | with_reducible refine iteI (fun _ => ?_) (fun _ => ?_) | ((first | unfold AOpsC | unfold AOpsD | skip); simp (maxSteps := 1000000) (disch := (first | omega | assumption | (simp only [List.length_append, List.length_cons, List.length_nil, List.length_set]; omega))) only [go_sem, ↓skipC, ↓exitC, ↓retC, ↓seqC, ↓blockC, ↓condC, ↓regC, ↓drawC, ↓drawStep, ↓AOpC, ↓AOpF, ↓AOpE, ↓AEff, ↓contE_at, ↓contC_at, ↓keepC_at, ↓keepW_at, ↓keepO_at, ↓map_parts, ↓reduceIte, reduceCtorEq, Nat.reduceLT, Nat.reduceEqDiff, Nat.reduceAdd, Nat.reduceMul, Nat.reduceLeDiff, Nat.reduceSub, Nat.reduceBEq, Nat.reduceBNe, Nat.reduceBneDiff, Nat.reduceBeqDiff, ag_24, ag_26, ag_45, by_24, by_26, by_45, el_24, fi_26_1, nf_26, nf_45, pl_26, pl_45, ps_26, ps_45, sz_24, sz_26, sz_45, ze_24, ze_26, ze_45, Sp101, SLev, SIn, t0, t1, t4, t6, t20, t21, t7, t25, t26, l4, l6, hmin, hp1, IntKind.bits, wrapU, Int.one_mul]))
          refine ⟨⟨i + 1, _, _, by omega, (g1.app _).app _, .inr ⟨η'.length + 1, 0, by rw [hrs, ← List.append_assoc, g2], by have := g1.len; omega, by rw [hrs, ← List.append_assoc, g2]; simp [enc3]⟩, rfl, by simp [upd, Nat.add_assoc, t0, t1, t4, t6, t20, t21, t7, t25, t26], by simp [upd, Nat.add_assoc, t0, t1, t4, t6, t20, t21, t7, t25, t26], by simp [upd, Nat.add_assoc, t0, t1, t4, t6, t20, t21, t7, t25, t26], by simp [upd, Nat.add_assoc, t0, t1, t4, t6, t20, t21, t7, t25, t26], by simp [upd, Nat.add_assoc, t0, t1, t4, t6, t20, t21, t7, t25, t26], by simp [upd, Nat.add_assoc, t0, t1, t4, t6, t20, t21, t7, t25, t26], by simp [upd, Nat.add_assoc, t0, t1, t4, t6, t20, t21, t7, t25, t26], by simp [upd, Nat.add_assoc, t0, t1, t4, t6, t20, t21, t7, t25, t26], by simp [upd, Nat.add_assoc, t0, t1, t4, t6, t20, t21, t7, t25, t26], by simp [upd, l4], by simp [upd, l6, Nat.add_assoc], rfl⟩, by simp [ctr, upd, t26]; omega⟩
        · have hHl := blt g3
          repeat' (first | with_reducible refine iteI (fun _ => ?_) (fun _ => ?_) | ((first | unfold AOpsC | unfold AOpsD | skip); simp (maxSteps := 1000000) (disch := (first | omega | assumption | (simp only [List.length_append, List.length_cons, List.length_nil, List.length_set]; omega))) only [go_sem, ↓skipC, ↓exitC, ↓retC, ↓seqC, ↓blockC, ↓condC, ↓regC, ↓drawC, ↓drawStep, ↓AOpC, ↓AOpF, ↓AOpE, ↓AEff, ↓contE_at, ↓contC_at, ↓keepC_at, ↓keepW_at, ↓keepO_at, ↓map_parts, ↓reduceIte, reduceCtorEq, Nat.reduceLT, Nat.reduceEqDiff, Nat.reduceAdd, Nat.reduceMul, Nat.reduceLeDiff, Nat.reduceSub, Nat.reduceBEq, Nat.reduceBNe, Nat.reduceBneDiff, Nat.reduceBeqDiff, ag_24, ag_26, ag_45, by_24, by_26, by_45, el_24, fi_26_1, nf_26, nf_45, pl_26, pl_45, ps_26, ps_45, sz_24, sz_26, sz_45, ze_24, ze_26, ze_45, Sp101, SLev, SIn, t0, t1, t4, t6, t20, t21, t7, t25, t26, l4, l6, g3, takeF3, hmin, hp1, IntKind.bits, wrapU, Int.one_mul]))
          refine ⟨⟨i + 1, _, _, by omega, (g1.set g2 _).app _, .inr ⟨bl, wer + 1, by rw [hrs], g2, by rw [hrs, app_get (by simpa using hHl), set_eq hHl]; simp [enc3]⟩, rfl, by simp [upd, Nat.add_assoc, t0, t1, t4, t6, t20, t21, t7, t25, t26], by simp [upd, Nat.add_assoc, t0, t1, t4, t6, t20, t21, t7, t25, t26], by simp [upd, Nat.add_assoc, t0, t1, t4, t6, t20, t21, t7, t25, t26], by simp [upd, Nat.add_assoc, t0, t1, t4, t6, t20, t21, t7, t25, t26], by simp [upd, Nat.add_assoc, t0, t1, t4, t6, t20, t21, t7, t25, t26], by simp [upd, Nat.add_assoc, t0, t1, t4, t6, t20, t21, t7, t25, t26], by simp [upd, Nat.add_assoc, t0, t1, t4, t6, t20, t21, t7, t25, t26], by simp [upd, Nat.add_assoc, t0, t1, t4, t6, t20, t21, t7, t25, t26], by simp [upd, Nat.add_assoc, t0, t1, t4, t6, t20, t21, t7, t25, t26], by simp [upd, l4], by simp [upd, l6, Nat.add_assoc], rfl⟩, by simp [ctr, upd, t26]; omega⟩
      · obtain rfl : i = n := by omega
        repeat' (first | with_reducible refine iteI (fun _ => ?_) (fun _ => ?_) | ((first | unfold AOpsC | unfold AOpsD | skip); simp (maxSteps := 1000000) (disch := (first | omega | assumption | (simp only [List.length_append, List.length_cons, List.length_nil, List.length_set]; omega))) only [go_sem, ↓skipC, ↓exitC, ↓retC, ↓seqC, ↓blockC, ↓condC, ↓regC, ↓drawC, ↓drawStep, ↓AOpC, ↓AOpF, ↓AOpE, ↓AEff, ↓contE_at, ↓contC_at, ↓keepC_at, ↓keepW_at, ↓keepO_at, ↓map_parts, ↓reduceIte, reduceCtorEq, Nat.reduceLT, Nat.reduceEqDiff, Nat.reduceAdd, Nat.reduceMul, Nat.reduceLeDiff, Nat.reduceSub, Nat.reduceBEq, Nat.reduceBNe, Nat.reduceBneDiff, Nat.reduceBeqDiff, ag_24, ag_26, ag_45, by_24, by_26, by_45, el_24, fi_26_1, nf_26, nf_45, pl_26, pl_45, ps_26, ps_45, sz_24, sz_26, sz_45, ze_24, ze_26, ze_45, Sp101, SLev, SIn, t0, t1, t4, t6, t20, t21, t7, t25, t26, l4, l6, hmin, hp1, IntKind.bits, wrapU, Int.one_mul]))
        refine ⟨⟨k + 1, _, x, by omega, g1, by rw [fullM, hp2]; exact g2, rfl, by simp [upd, Nat.add_assoc, t0, t1, t4, t6, t20, t21], by simp [upd, Nat.add_assoc, t0, t1, t4, t6, t20, t21], by simp [upd, Nat.add_assoc, t0, t1, t4, t6, t20, t21], by simp [upd, Nat.add_assoc, t0, t1, t4, t6, t20, t21], by simp [upd, Nat.add_assoc, t0, t1, t4, t6, t20, t21], by simp [upd, Nat.add_assoc, t0, t1, t4, t6, t20, t21], by simp [upd, l4], by simp [upd, l6], rfl⟩, by simp [ctr, upd, t21, o21]; omega⟩
    · have hi2 : i = r.toNat := by omega
      have hlast : newM r lv = fullM lv i := by rw [newM, if_pos hnB, hi2]
      have hnr : newR r lv = r := if_pos hnB
      have hne : fullM lv i ≠ [] := by
        intro he
        have := fullM_len lv i
        rw [he, hp2] at this
        have h5 : 1 * 1 ≤ i * n := Nat.mul_le_mul (by omega) hn1
        simp only [List.length_nil] at this
        omega
      rcases g2 with ⟨rfl, g2⟩ | ⟨bl, wer, rfl, g2, g3⟩
      · exact absurd g2 hne
      · repeat' (first | with_reducible refine iteI (fun _ => ?_) (fun _ => ?_) | ((first | unfold AOpsC | unfold AOpsD | skip); simp (maxSteps := 1000000) (disch := (first | omega | assumption | (simp only [List.length_append, List.length_cons, List.length_nil, List.length_set]; omega))) only [go_sem, ↓skipC, ↓exitC, ↓retC, ↓seqC, ↓blockC, ↓condC, ↓regC, ↓drawC, ↓drawStep, ↓AOpC, ↓AOpF, ↓AOpE, ↓AEff, ↓contE_at, ↓contC_at, ↓keepC_at, ↓keepW_at, ↓keepO_at, ↓map_parts, ↓reduceIte, reduceCtorEq, Nat.reduceLT, Nat.reduceEqDiff, Nat.reduceAdd, Nat.reduceMul, Nat.reduceLeDiff, Nat.reduceSub, Nat.reduceBEq, Nat.reduceBNe, Nat.reduceBneDiff, Nat.reduceBeqDiff, ag_24, ag_26, ag_45, by_24, by_26, by_45, el_24, fi_26_1, nf_26, nf_45, pl_26, pl_45, ps_26, ps_45, sz_24, sz_26, sz_45, ze_24, ze_26, ze_45, Sp101, SLev, SIn, t0, t1, t4, t6, t20, t21, l4, l6]))
        have := h _ _ ((NewR.mk g2 g3).eq hlast.symm) (fun _ => ⟨bl, wer, by rw [hlast]⟩) g1
        rw [hnr, hnB] at this
        exact this
  · exact h.elim

theorem newM_ok {r lv : Int} (h : newB r lv = true) : meshB r (newM r lv) = true := by
  have h' := h
  simp only [newB, Bool.and_eq_true] at h'
  have h1 := inT h'.1
  have h2 := inT h'.2
  have hr : r = 1 ∨ r = 2 ∨ r = 3 ∨ r = 4 ∨ r = 5 ∨ r = 6 ∨ r = 7 ∨ r = 8 := by omega
  clear h h'
  rcases lv5 h2 with rfl | rfl | rfl | rfl | rfl <;> rcases hr with rfl | rfl | rfl | rfl | rfl | rfl | rfl | rfl <;> decide +kernel
def savedR (r : Int) (l : List Id3) : Int := if meshB r l = true then costI (newM r 4) - costI l else 0
def SSaved : List AV → List Blk → (AV → List Blk → Prop) → Prop
  | [.agg [.int .i64 r, v]], η, K => ok3 45 η v ∧ ∀ H, Ext η H → K (.int .i64 (savedR r (dec3 45 η v))) H
  | _, _, _ => False

/- impl.SavedBy -/
def Sp31 (lo : Nat) : Spec := fun g args η K => match g with | 29 => SCostR args η K | 90 => SMesh args η K | 101 => SMeshN args η K | _ => False
theorem Sp31_ok {lo : Nat} : Sound Try.prog lo (Sp31 lo) := by
  intro g args η K h
  unfold Sp31 at h
  split at h
  · exact f29_ok h
  · exact f90_ok h
  · exact f101_ok h
  · exact h.elim
def D31 : Draws := fun id => match id with | 4 => ([0, 1, 0, 7, 15, 31], [1], [], (.one 0 (.one 2 (.one 1 (.one 3 (.one 4 (.one 5 .nil))))))) | _ => ([], [], [], .nil)
theorem f31_ok {lo : Nat} {args : List AV} {η : List Blk} {K : AV → List Blk → Prop} (h : SSaved args η K) : AF Try.prog lo 31 args η K := by
  unfold SSaved at h
  split at h
  · obtain ⟨⟨l, hr, hl⟩, hK⟩ := h
    rename_i r _
    have d1 := hr.dec3
    have o1 : ok3 45 _ _ := ⟨l, hr, hl⟩
    simp only [d1] at hK
    obtain ⟨b, ver, rfl, hb⟩ := hr
    refine AF_run Sp31_ok D31 [] [.tmp 2] hm Try.func31 rfl (by decide) Try.ntmps31 rfl (by kernel_rfl) (Nat.le_of_ble_eq_true rfl) ?_; intro hlo
    repeat' (first | with_reducible refine iteI (fun _ => ?_) (fun _ => ?_) | ((first | unfold AOpsC | unfold AOpsD | skip); simp (maxSteps := 1000000) (disch := (first | omega | assumption | (simp only [List.length_append, List.length_cons, List.length_nil, List.length_set]; omega))) only [go_sem, ↓skipC, ↓exitC, ↓retC, ↓seqC, ↓blockC, ↓condC, ↓regC, ↓drawC, ↓drawStep, ↓AOpC, ↓AOpF, ↓AOpE, ↓AEff, ↓contE_at, ↓contC_at, ↓keepC_at, ↓keepW_at, ↓keepO_at, ↓map_parts, ↓reduceIte, reduceCtorEq, Nat.reduceLT, Nat.reduceEqDiff, Nat.reduceAdd, Nat.reduceMul, Nat.reduceLeDiff, Nat.reduceSub, Nat.reduceBEq, Nat.reduceBNe, Nat.reduceBneDiff, Nat.reduceBeqDiff, ag_26, ag_3, by_26, by_3, fi_26_0, in_3, nf_26, pl_26, ps_26, sz_26, sz_3, ze_26, ze_3, Sp31, SCostR, SMesh, D31, hb, d1, o1]))
    cases e1 : meshB r l
    · unfold SMeshN
      refine fun H u hu hex x => ?_
      have hb' := x.blk hb
      have d1' : dec3 45 H (.sl b ver 0 l.length) = l := IsR.dec3 ⟨b, ver, rfl, hb'⟩
      have o1' : ok3 45 H (.sl b ver 0 l.length) := ⟨l, ⟨b, ver, rfl, hb'⟩, hl⟩
      have hn1 := hu.1.noLoc.1
      have hn2 := hu.1.noLoc.2
      have hn3 := hu.1.noLocV
      have hz : savedR r l = 0 := by simp [savedR, e1]
      rw [hz] at hK
      cases hnB : newB r 4
      · obtain ⟨⟨rfl | rfl, _⟩ | ⟨_, _, rfl, _⟩, _⟩ := hu
        all_goals
          repeat' (first | with_reducible refine iteI (fun _ => ?_) (fun _ => ?_) | ((first | unfold AOpsC | unfold AOpsD | skip); simp (maxSteps := 1000000) (disch := (first | omega | assumption | (simp only [List.length_append, List.length_cons, List.length_nil, List.length_set]; omega))) only [go_sem, ↓skipC, ↓exitC, ↓retC, ↓seqC, ↓blockC, ↓condC, ↓regC, ↓drawC, ↓drawStep, ↓AOpC, ↓AOpF, ↓AOpE, ↓AEff, ↓contE_at, ↓contC_at, ↓keepC_at, ↓keepW_at, ↓keepO_at, ↓map_parts, ↓reduceIte, reduceCtorEq, Nat.reduceLT, Nat.reduceEqDiff, Nat.reduceAdd, Nat.reduceMul, Nat.reduceLeDiff, Nat.reduceSub, Nat.reduceBEq, Nat.reduceBNe, Nat.reduceBneDiff, Nat.reduceBeqDiff, ag_26, ag_3, by_26, by_3, fi_26_0, in_3, nf_26, pl_26, ps_26, sz_26, sz_3, ze_26, ze_3, Sp31, SCostR, SMesh, D31, d1', o1', e1]))
          exact hK _ x
      · obtain ⟨⟨rfl | rfl, _⟩ | ⟨_, _, rfl, _⟩, _⟩ := hu
        all_goals
          repeat' (first | with_reducible refine iteI (fun _ => ?_) (fun _ => ?_) | ((first | unfold AOpsC | unfold AOpsD | skip); simp (maxSteps := 1000000) (disch := (first | omega | assumption | (simp only [List.length_append, List.length_cons, List.length_nil, List.length_set]; omega))) only [go_sem, ↓skipC, ↓exitC, ↓retC, ↓seqC, ↓blockC, ↓condC, ↓regC, ↓drawC, ↓drawStep, ↓AOpC, ↓AOpF, ↓AOpE, ↓AEff, ↓contE_at, ↓contC_at, ↓keepC_at, ↓keepW_at, ↓keepO_at, ↓map_parts, ↓reduceIte, reduceCtorEq, Nat.reduceLT, Nat.reduceEqDiff, Nat.reduceAdd, Nat.reduceMul, Nat.reduceLeDiff, Nat.reduceSub, Nat.reduceBEq, Nat.reduceBNe, Nat.reduceBneDiff, Nat.reduceBeqDiff, ag_26, ag_3, by_26, by_3, fi_26_0, in_3, nf_26, pl_26, ps_26, sz_26, sz_3, ze_26, ze_3, Sp31, SCostR, SMesh, D31, d1', o1', e1]))
          exact hK _ x
    have hnB : newB r 4 = true := by
      have := mesh_len e1
      simp [newB, inB]; omega
    have hnr : newR r 4 = r := if_pos hnB
    unfold SMeshN
    refine fun H u hu hex x => ?_
    obtain ⟨b2, ver2, rfl⟩ := hex hnB
    rw [hnr, hnB]
    have hb' := x.blk hb
    have hu' : IsR 45 3 enc3 H (.sl b2 ver2 0 (newM r 4).length) (newM r 4) := by
      rcases hu.1 with ⟨h | h, _⟩ | h
      · cases h
      · cases h
      · exact h
    have d1' : dec3 45 H (.sl b ver 0 l.length) = l := IsR.dec3 ⟨b, ver, rfl, hb'⟩
    have o1' : ok3 45 H (.sl b ver 0 l.length) := ⟨l, ⟨b, ver, rfl, hb'⟩, hl⟩
    have d2 := hu'.dec3
    have hl2 := newM_len r 4
    have o2 : ok3 45 H (.sl b2 ver2 0 (newM r 4).length) := ⟨_, hu', by omega⟩
    have hlv2 := newM_levs r 4
    have hok2 := newM_ok hnB
    have hlv := mesh_levs e1
    have c1 := cost_bd hlv (l.length - 1) (by have := mesh_ne e1; omega)
    have c2 := cost_bd hlv2 ((newM r 4).length - 1) (by have := mesh_ne hok2; omega)
    have hl8 := (mesh_len e1).1
    have hr8 := (mesh_len e1).2.2
    have c1' : 0 ≤ costI l ∧ costI l ≤ 16 * ((l.length - 1 : Nat) : Int) := c1
    have c2' : 0 ≤ costI (newM r 4) ∧ costI (newM r 4) ≤ 16 * (((newM r 4).length - 1 : Nat) : Int) := c2
    have hcr : costR r (newM r 4) = costI (newM r 4) := if_pos hok2
    have hcl : costR r l = costI l := if_pos e1
    repeat' (first | with_reducible refine iteI (fun _ => ?_) (fun _ => ?_) | ((first | unfold AOpsC | unfold AOpsD | skip); simp (maxSteps := 1000000) (disch := (first | omega | assumption | (simp only [List.length_append, List.length_cons, List.length_nil, List.length_set]; omega))) only [go_sem, ↓skipC, ↓exitC, ↓retC, ↓seqC, ↓blockC, ↓condC, ↓regC, ↓drawC, ↓drawStep, ↓AOpC, ↓AOpF, ↓AOpE, ↓AEff, ↓contE_at, ↓contC_at, ↓keepC_at, ↓keepW_at, ↓keepO_at, ↓map_parts, ↓reduceIte, reduceCtorEq, Nat.reduceLT, Nat.reduceEqDiff, Nat.reduceAdd, Nat.reduceMul, Nat.reduceLeDiff, Nat.reduceSub, Nat.reduceBEq, Nat.reduceBNe, Nat.reduceBneDiff, Nat.reduceBeqDiff, ag_26, ag_3, by_26, by_3, fi_26_0, in_3, nf_26, pl_26, ps_26, sz_26, sz_3, ze_26, ze_3, Sp31, SCostR, SMesh, D31, d1', o1', d2, o2, hlv, hlv2, hok2, e1, hcr, hcl]))
    exact KI (hK _ x) (by rw [savedR, if_pos e1])
  · exact h.elim

end Go.Proofs.Ytffefndnnbcplaa
