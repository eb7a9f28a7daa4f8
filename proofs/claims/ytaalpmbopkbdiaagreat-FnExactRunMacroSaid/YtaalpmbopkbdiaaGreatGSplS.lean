/- What functions of the program compute, said in the abstract logic; no conditions. -/
import Derived.Test.YtaalpmbopkbdiaaGreatGBalw
import Derived.Test.YtaalpmbopkbdiaaGreatGOut
import Derived.Test.YtaalpmbopkbdiaaGreatGOwn
import Derived.Test.YtaalpmbopkbdiaaGreatGStepOk

namespace Go.Proofs.YtaalpmbopkbdiaaGreat
open Go
set_option linter.unusedSimpArgs false
set_option linter.unusedVariables false
set_option maxRecDepth 100000
set_option maxHeartbeats 8000000
attribute [local go_sem] st0 AC thenA andC locLoadB KsSW_same KsSW_grow oldLoadB noBlkB KsSL_same KsOS_same KsOS_grow pv ev put upd dstOk cv cvc binI setB Value.oneCell' EndA resA resA1 List.mapM_cons List.mapM_nil Option.pure_def Option.bind_eq_bind noLocV noLoc1 noLoc noLocs plainV cellsA newVarA putCells condA lam0 inBlockA cur lenA rowA writeA dstA appendC appendZ mapPut mapGet avoidsB avoidB clearB Array.toList_append Op.operands Call.operands newSlot Nat.zero_add Nat.add_zero Nat.succ_ne_self Nat.lt_add_one Nat.zero_lt_succ true_and and_true true_or or_true false_or or_false and_self true_implies forall_const Bool.false_eq_true Bool.true_eq_false false_implies implies_true imp_self ne_eq not_false_eq_true not_true_eq_false false_and and_false List.getElem?_toArray List.getElem?_cons_succ List.getElem?_cons_zero Option.bind_some Option.map_some Bool.not_true Bool.not_false List.getD_cons_zero List.getD_cons_succ Option.some.injEq exists_eq_left' AV.bool.injEq List.map_cons List.map_nil List.all_cons List.all_nil Bool.and_self Bool.and_true Bool.true_and List.append_nil List.cons_append List.nil_append List.length_cons List.length_nil List.drop_zero List.take_zero List.drop_succ_cons List.take_succ_cons List.take_nil List.drop_nil List.not_mem_nil List.mem_cons List.contains_nil List.contains_cons Bool.or_self Bool.or_true Bool.true_or Bool.false_or Bool.or_false Bool.and_false Bool.false_and KsS_same KsS_grow skipV KsS_ext KsSW_ext KsOS_ext rep1 rep2 rep3 rep4 rep5 List.flatten_cons List.flatten_nil partsA isPtr fillA List.size_toArray ltT ltF leT leF ltTn ltFn leTn leFn eqTi eqFi wrapId toNat1 intGet boolGet memD app_get app_last app_lst app_set app_setL app_setF set_ne set_eq gt_iff_lt ge_iff_le decide_eq_true_eq len2 len3 get20 get21 drop2 put2 get30 get31 get32 drop3 put3 putI pairEta bneTi bneFi beqTi beqFi bne_eq_false_iff_eq beq_eq_false_iff_ne beq_iff_eq bne_iff_ne Int.toNat_natCast Nat.mul_one List.length_map Bool.not_eq_true Bool.not_eq_false Bool.decide_eq_true decide_true decide_false Bool.not_eq_true' Bool.not_eq_false' decide_eq_false_iff_not eq_self Decidable.not_not
attribute [local go_sem ↓] skipC exitC retC seqC blockC condC regC drawC drawStep AOpC AOpF AOpE AEff contE_at contC_at keepC_at keepW_at keepO_at keepL_at map_parts
attribute [local go_sem] reduceCtorEq Nat.reduceLT Nat.reduceEqDiff Nat.reduceAdd Nat.reduceMul Nat.reduceLeDiff Nat.reduceSub Nat.reduceBEq Nat.reduceBNe Nat.reduceBneDiff Nat.reduceBeqDiff
attribute [local go_sem ↓] reduceIte
attribute [local go_sem] ag_25 ag_3 ag_32 ag_34 by_25 by_3 by_32 by_34 el_25 en_3 fi_34_0 fi_34_1 fi_34_2 fi_34_3 in_3 nf_32 nf_34 pl_32 pl_34 ps_32 ps_34 sz_25 sz_3 sz_32 sz_34 ze_25 ze_3 ze_32 ze_34

def hlv (n : Int) : Int := n.tdiv 2
def SSpE : List AV → List Blk → (AV → List Blk → Prop) → Prop
  | [.int .i64 n], η, K => (0 ≤ n ∧ n ≤ 10000000) ∧ K (.tup [.int .i64 (n - n.tdiv 2), .int .i64 (n.tdiv 2)]) η
  | _, _, _ => False
/-- The rows after a leaf is split. -/
def splM (ms : List Int) (i : Nat) : List Int := ms.take i ++ [ms.getD i 0 - (ms.getD i 0).tdiv 2, (ms.getD i 0).tdiv 2] ++ ms.drop (i + 1)
def splA (ms ts : List Int) (i : Nat) : Int := shareO (ts.getD i 0) (ms.getD i 0 - (ms.getD i 0).tdiv 2) (ms.getD i 0)
def splT (ms ts : List Int) (i : Nat) : List Int := ts.take i ++ [splA ms ts i, ts.getD i 0 - splA ms ts i] ++ ts.drop (i + 1)
def SSpl : List AV → List Blk → (AV → List Blk → Prop) → Prop
  | [.agg [.int .i64 r, v, a, b, c], .int .i64 i], η, K => ∃ (l : List Id3) (ms ts bs : List Int), (IsR 69 3 enc3 η v l ∧ IsI η a ms ∧ IsI η b ts ∧ IsI η c bs) ∧ (l.length ≤ 128 ∧ meshB r l = true ∧ celB r l ms ts bs = true ∧ 0 ≤ i ∧ i < l.length ∧ (l.getD i.toNat z3).2.1 ≠ 4) ∧
      ∀ H b0 b1 b2 b3 v0 v1 v2 v3, New4 η.length H b0 b1 b2 b3 v0 v1 v2 v3 (splitL l i.toNat) (splM ms i.toNat) (splT ms ts i.toNat) bs → Ext η H → K (.agg [.int .i64 r, .sl b0 v0 0 (splitL l i.toNat).length, .sl b1 v1 0 (splM ms i.toNat).length, .sl b2 v2 0 (splT ms ts i.toNat).length, .sl b3 v3 0 bs.length]) H
  | _, _, _ => False
theorem celT {r : Int} {l : List Id3} {ms ts bs : List Int} (h : celB r l ms ts bs = true) : ms.length = l.length ∧ ts.length = l.length ∧ (bs.length : Int) = r ∧ bs.all bedB = true ∧ cellsB ms ts = true ∧ ms.sum ≤ 10000000 := by
  simpa only [celB, Bool.and_eq_true, decide_eq_true_eq] using h
theorem half_bd {n : Int} (h : 0 ≤ n) : 0 ≤ n.tdiv 2 ∧ n.tdiv 2 ≤ n ∧ 2 * n.tdiv 2 ≤ n ∧ n ≤ 2 * n.tdiv 2 + 1 := by
  rw [Int.tdiv_eq_ediv_of_nonneg h]; omega
theorem spl_at {xs : List Int} {x y : Int} {i : Nat} (hi : i < xs.length) (j : Nat) : (xs.take i ++ [x, y] ++ xs.drop (i + 1)).getD j 0 = if j < i then xs.getD j 0 else if j = i then x else if j = i + 1 then y else xs.getD (j - 1) 0 := by
  have ht : (xs.take i).length = i := by rw [List.length_take]; omega
  simp only [List.getD_eq_getElem?_getD]
  by_cases h1 : j < i
  · rw [if_pos h1, List.append_assoc, List.getElem?_append_left (by omega), List.getElem?_take_of_lt h1]
  · rw [if_neg h1, List.append_assoc, List.getElem?_append_right (by omega), ht]
    by_cases h2 : j = i
    · subst h2; simp
    · rw [if_neg h2]
      by_cases h3 : j = i + 1
      · subst h3; simp
      · rw [if_neg h3, List.getElem?_append_right (by simp only [List.length_cons, List.length_nil]; omega), List.getElem?_drop]
        congr 2
        simp only [List.length_cons, List.length_nil]
        omega
theorem spl_len {xs : List Int} {x y : Int} {i : Nat} (hi : i < xs.length) : (xs.take i ++ [x, y] ++ xs.drop (i + 1)).length = xs.length + 1 := by simp; omega
theorem spl_sum {xs : List Int} {x y : Int} {i : Nat} (hi : i < xs.length) (h : x + y = xs.getD i 0) : (xs.take i ++ [x, y] ++ xs.drop (i + 1)).sum = xs.sum := by
  have e1 : xs = xs.take i ++ (xs.getD i 0 :: xs.drop (i + 1)) := by
    rw [List.getD_eq_getElem?_getD, List.getElem?_eq_getElem hi, Option.getD_some, List.getElem_cons_drop, List.take_append_drop]
  have e2 : xs.sum = (xs.take i).sum + (xs.getD i 0 + (xs.drop (i + 1)).sum) := by
    conv => lhs; rw [e1]
    rw [List.sum_append, List.sum_cons]
  rw [e2, ← h]
  simp only [List.append_assoc, List.cons_append, List.nil_append, List.sum_append, List.sum_cons]
  omega
theorem splM_len {ms : List Int} {i : Nat} (h : i < ms.length) : (splM ms i).length = ms.length + 1 := spl_len h
theorem splT_len {ms ts : List Int} {i : Nat} (h : i < ts.length) : (splT ms ts i).length = ts.length + 1 := spl_len h
/-- The two parts of a leaf that is split. -/
theorem spl_piece {t m Lo Hi : Int} (hm : 0 ≤ m ∧ m ≤ 10000000) (ht : 0 ≤ t ∧ t ≤ 1000 * m) (h1 : Lo * m ≤ t) (h2 : t ≤ Hi * m) :
    (Lo * (m - m.tdiv 2) ≤ shareO t (m - m.tdiv 2) m ∧ shareO t (m - m.tdiv 2) m ≤ Hi * (m - m.tdiv 2)) ∧ (Lo * m.tdiv 2 ≤ t - shareO t (m - m.tdiv 2) m ∧ t - shareO t (m - m.tdiv 2) m ≤ Hi * m.tdiv 2) := by
  have hh := half_bd hm.1
  obtain ⟨p1, _, p3⟩ := piece hm ht (r := m - m.tdiv 2) (l := 0) (by omega) (by omega) (by omega) h1 h2
  have eA : leafA t m (m - m.tdiv 2) 0 = shareO t (m - m.tdiv 2) m := by
    unfold leafA
    split
    · rfl
    · rename_i hn
      unfold shareO
      rw [if_neg fun hc => hn ⟨hc.1, hc.2.2, hc.2.1, by simp [inB]; omega⟩]
  have eB : leafBq t m (m - m.tdiv 2) 0 = 0 := by
    unfold leafBq
    split
    · rw [Int.add_zero, Int.sub_self]
    · rfl
  rw [eA] at p1 p3
  rw [eB] at p3
  rw [show m - (m - m.tdiv 2) - 0 = m.tdiv 2 by omega, show t - shareO t (m - m.tdiv 2) m - 0 = t - shareO t (m - m.tdiv 2) m by omega] at p3
  exact ⟨p1, p3⟩
/-- Shares that lie in a range. -/
def ShR (Lo Hi : Int) (ms ts : List Int) : Prop := ∀ j, j < ms.length → Lo * ms.getD j 0 ≤ ts.getD j 0 ∧ ts.getD j 0 ≤ Hi * ms.getD j 0
theorem spl_shares {ms ts : List Int} {i : Nat} {Lo Hi : Int} (hc : cellsB ms ts = true) (hl : ts.length = ms.length) (hi : i < ms.length) (h : ShR Lo Hi ms ts) : ShR Lo Hi (splM ms i) (splT ms ts i) := by
  intro j hj
  rw [splM_len hi] at hj
  have c := cells_at hc hi
  have p := spl_piece ⟨c.1, c.2.1⟩ ⟨c.2.2.1, c.2.2.2⟩ (h i hi).1 (h i hi).2
  rw [splM, splT, spl_at hi, spl_at (by omega), splA]
  by_cases h1 : j < i
  · simp only [if_pos h1]; exact h j (by omega)
  · simp only [if_neg h1]
    by_cases h2 : j = i
    · simp only [if_pos h2]; exact p.1
    · simp only [if_neg h2]
      by_cases h3 : j = i + 1
      · simp only [if_pos h3]; exact p.2
      · simp only [if_neg h3]; exact h (j - 1) (by omega)
theorem spl_cel {r : Int} {l : List Id3} {ms ts bs : List Int} {i : Nat} (h : celB r l ms ts bs = true) (hi : i < l.length) : celB r (splitL l i) (splM ms i) (splT ms ts i) bs = true := by
  obtain ⟨k3, k4, k5, k6, k7, k8⟩ := celT h
  have hb : ShR 0 1000 ms ts := fun j hj => by have := cells_at k7 hj; omega
  have hs := spl_shares k7 (by omega) (i := i) (by omega) hb
  have hsum : (splM ms i).sum = ms.sum := spl_sum (by omega) (by omega)
  have n1 := splM_len (ms := ms) (i := i) (by omega)
  have n2 := splT_len (ms := ms) (ts := ts) (i := i) (by omega)
  have n3 := split_len hi
  have cel : cellsB (splM ms i) (splT ms ts i) = true := by
    rw [cellsB, List.all_eq_true]
    intro j hj
    rw [List.mem_range] at hj
    have s := hs j hj
    have c := cells_at k7 (i := i) (by omega)
    have hh := half_bd c.1
    have mb : 0 ≤ (splM ms i).getD j 0 ∧ (splM ms i).getD j 0 ≤ 10000000 := by
      rw [splM, spl_at (by omega)]
      by_cases h1 : j < i
      · rw [if_pos h1]; have := cells_at k7 (i := j) (by omega); omega
      · rw [if_neg h1]
        by_cases h2 : j = i
        · rw [if_pos h2]; omega
        · rw [if_neg h2]
          by_cases h3 : j = i + 1
          · rw [if_pos h3]; omega
          · rw [if_neg h3]; have := cells_at k7 (i := j - 1) (by omega); omega
    simp only [cellB, inB, Bool.and_eq_true, decide_eq_true_eq]
    omega
  simp only [celB, Bool.and_eq_true, decide_eq_true_eq]
  exact ⟨by omega, by omega, k5, k6, cel, by omega⟩
/-- Splits until the mesh is balanced. -/
def lvl : Nat → List Id3 → List Int → List Int → List Id3 × List Int × List Int
  | 0, l, ms, ts => (l, ms, ts)
  | n + 1, l, ms, ts => if unbI l < 0 then (l, ms, ts) else lvl n (splitL l (coarI l (unbI l).toNat)) (splM ms (coarI l (unbI l).toNat)) (splT ms ts (coarI l (unbI l).toNat))
def lvlR (l : List Id3) (ms ts : List Int) : List Id3 × List Int × List Int := lvl (129 - l.length) l ms ts
theorem lvlR_0 {l : List Id3} {ms ts : List Int} (h : unbI l < 0) : lvlR l ms ts = (l, ms, ts) := by
  unfold lvlR
  cases 129 - l.length with
  | zero => rfl
  | succ n => rw [lvl, if_pos h]
/-- What a step towards balance keeps. -/
theorem lvl_step {r : Int} {l : List Id3} {ms ts bs : List Int} (hM : meshB r l = true) (hC : celB r l ms ts bs = true) (h : 0 ≤ unbI l) :
    ∃ i : Nat, unbI l = i ∧ coarI l i < l.length ∧ (l.getD (coarI l i) z3).2.1 ≠ 4 ∧ meshB r (splitL l (coarI l i)) = true ∧ celB r (splitL l (coarI l i)) (splM ms (coarI l i)) (splT ms ts (coarI l i)) bs = true ∧ lvlR l ms ts = lvlR (splitL l (coarI l i)) (splM ms (coarI l i)) (splT ms ts (coarI l i)) := by
  have hlv := mesh_levs hM
  have hln := mesh_len hM
  obtain ⟨i, u1, u2, u3⟩ := unb_pos h
  obtain ⟨q1, q2⟩ := coar_ok hlv u2 u3
  have q3 := split_mesh hM q1 q2
  have q4 := split_len q1
  have hln' := mesh_len q3
  refine ⟨i, u1, q1, q2, q3, spl_cel hC q1, ?_⟩
  unfold lvlR
  rw [show 129 - l.length = (129 - (splitL l (coarI l i)).length) + 1 by omega, lvl, if_neg (by omega), u1, Int.toNat_natCast]
/-- All that levelling keeps. -/
theorem lvlR_ok {r : Int} {bs : List Int} : ∀ (n : Nat) {l : List Id3} {ms ts : List Int}, 129 - l.length = n → meshB r l = true → celB r l ms ts bs = true →
    okB r (lvlR l ms ts).1 (lvlR l ms ts).2.1 (lvlR l ms ts).2.2 bs = true ∧ (lvlR l ms ts).2.1.sum = ms.sum ∧ ∀ Lo Hi, ShR Lo Hi ms ts → ShR Lo Hi (lvlR l ms ts).2.1 (lvlR l ms ts).2.2
  | 0, l, ms, ts, hn, hM, hC => by have := mesh_len hM; omega
  | n + 1, l, ms, ts, hn, hM, hC => by
    by_cases hu : unbI l < 0
    · rw [lvlR_0 hu]
      refine ⟨by simp only [okB, balB, hM, hC, Bool.and_eq_true, decide_eq_true_eq, Bool.true_and, Bool.and_true]; omega, rfl, fun _ _ h => h⟩
    · obtain ⟨i, u1, q1, q2, q3, q4, q5⟩ := lvl_step hM hC (by omega)
      obtain ⟨k3, k4, k5, k6, k7, k8⟩ := celT hC
      have hl := split_len q1
      rw [q5]
      obtain ⟨a, b, c⟩ := lvlR_ok n (by omega) q3 q4
      exact ⟨a, b.trans (spl_sum (by omega) (by omega)), fun Lo Hi h => c Lo Hi (spl_shares k7 (by omega) (by omega) h)⟩

/- spec.SplitEven -/
theorem f70_ok {lo : Nat} {args : List AV} {η : List Blk} {K : AV → List Blk → Prop} (h : SSpE args η K) : AF Tryz.prog lo 70 args η K := by
  unfold SSpE at h
  split at h
  · obtain ⟨h0, hK⟩ := h
    rename_i n
    have hh := half_bd h0.1
    refine AF_run noSp_ok D0 [] [.tmp 2, .tmp 3] hm Tryz.func70 rfl (by decide) Tryz.ntmps70 rfl (by kernel_rfl) (Nat.le_of_ble_eq_true rfl) ?_; intro hlo
    repeat' (first | with_reducible refine iteI (fun _ => ?_) (fun _ => ?_) | ((first | unfold AOpsC | unfold AOpsD | skip); simp (maxSteps := 1000000) (disch := (first | omega | assumption | (simp only [List.length_append, List.length_cons, List.length_nil, List.length_set]; omega))) only [go_sem, AOpsD]))
    exact hK
  · exact h.elim

/- impl.SplitEven -/
theorem f121_ok {lo : Nat} {args : List AV} {η : List Blk} {K : AV → List Blk → Prop} (h : SSpE args η K) : AF Tryz.prog lo 121 args η K := by
  unfold SSpE at h
  split at h
  · obtain ⟨h0, hK⟩ := h
    rename_i n
    have hh := half_bd h0.1
    refine AF_run noSp_ok D0 [] [.tmp 2, .tmp 3] hm Tryz.func121 rfl (by decide) Tryz.ntmps121 rfl (by kernel_rfl) (Nat.le_of_ble_eq_true rfl) ?_; intro hlo
    repeat' (first | with_reducible refine iteI (fun _ => ?_) (fun _ => ?_) | ((first | unfold AOpsC | unfold AOpsD | skip); simp (maxSteps := 1000000) (disch := (first | omega | assumption | (simp only [List.length_append, List.length_cons, List.length_nil, List.length_set]; omega))) only [go_sem, AOpsD]))
    exact hK
  · exact h.elim

/- spec.l08Split -/
def Sp33 (lo : Nat) : Spec := fun g args η K => match g with | 70 => SSpE args η K | 71 => SShare args η K | 72 => SSplit args η K | _ => False
theorem Sp33_ok {lo : Nat} : Sound Tryz.prog lo (Sp33 lo) := by
  intro g args η K h
  unfold Sp33 at h
  split at h
  · exact .inl (f70_ok h)
  · exact .inl (f71_ok h)
  · exact .inl (f72_ok h)
  · exact h.elim
def Dr33 : Draws := fun id => match id with | 2 => ([0, 1, 0, 7, 15, 0, 0, 64, 0, 448, 960, 2047, 4095], [], [], (.one 0 (.one 1 (.one 2 (.one 3 (.one 4 (.one 5 (.one 6 (.one 7 (.one 8 (.one 9 (.one 10 (.one 11 (.one 12 .nil)))))))))))))) | 7 => ([0, 1, 0, 7, 0, 0, 32, 0, 128, 480, 1023, 0, 0, 4096, 0, 16384, 61440, 131071, 0, 0, 524288, 2097151, 4194303, 8388607], [3, 3010, 3017], [(3011, 0), (3012, 0), (3013, 0), (3014, 0), (3015, 0), (3018, 0), (3019, 0), (3020, 0)], (.one 0 (.one 1 (.one 2 (.one 4 (.one 5 (.one 6 (.one 7 (.one 8 (.one 9 (.one 11 (.one 12 (.one 13 (.one 14 (.one 15 (.one 18 (.one 19 (.one 20 (.two 3 16 (.two 10 16 (.one 16 (.one 17 (.one 21 (.one 22 (.one 23 .nil))))) (.one 10 (.one 17 (.one 21 (.one 22 (.one 23 .nil)))))) (.one 3 (.one 10 (.one 17 (.one 21 (.one 22 (.one 23 .nil))))))))))))))))))))))))) | _ => ([], [], [], .nil)
theorem f33_ok {lo : Nat} {args : List AV} {η : List Blk} {K : AV → List Blk → Prop} (h : SSpl args η K) : AF Tryz.prog lo 33 args η K := by
  unfold SSpl at h
  split at h
  · obtain ⟨l, ms, ts, bs, ⟨hr, ha, hb, hc⟩, ⟨hl, hM, hC, i0, i1, h4⟩, hK⟩ := h
    rename_i r _ _ _ _ i
    obtain ⟨k3, k4, k5, k6, k7, k8⟩ := celT hC
    have hlv := mesh_levs hM
    obtain ⟨j, rfl⟩ : ∃ j : Nat, i = j := ⟨i.toNat, by omega⟩
    rw [Int.toNat_natCast] at hK h4
    have hid := mesh_ids hM _ (getD_mem (d := z3) (i := j) (by omega))
    have m1 := cells_at k7 (i := j) (by omega)
    have hb8 : bs.length ≤ 8 := by have := mesh_len hM; omega
    have eM : (splM ms j).map (AV.int .i64) = (ms.take j).map (AV.int .i64) ++ [.int .i64 (ms.getD j 0 - (ms.getD j 0).tdiv 2), .int .i64 ((ms.getD j 0).tdiv 2)] ++ (ms.drop (j + 1)).map (AV.int .i64) := by simp [splM]
    have eT : (splT ms ts j).map (AV.int .i64) = (ts.take j).map (AV.int .i64) ++ [.int .i64 (splA ms ts j), .int .i64 (ts.getD j 0 - splA ms ts j)] ++ (ts.drop (j + 1)).map (AV.int .i64) := by simp [splT]
    have nM : j + 2 + (ms.length - (j + 1)) = (splM ms j).length := by rw [splM_len (by omega)]; omega
    have nT : j + 2 + (ts.length - (j + 1)) = (splT ms ts j).length := by rw [splT_len (by omega)]; omega
    have hh := half_bd m1.1
    have sb := shareO_bd (ts.getD j 0) (ms.getD j 0 - (ms.getD j 0).tdiv 2) (ms.getD j 0)
    have w0 := hr
    obtain ⟨b0, v0, rfl, hb0⟩ := hr
    obtain ⟨b1, v1, rfl, hb1⟩ := ha
    obtain ⟨b2, v2, rfl, hb2⟩ := hb
    obtain ⟨b3, v3, rfl, hb3⟩ := hc
    have n0 := blt hb0
    have n1 := blt hb1
    have n2 := blt hb2
    have n3 := blt hb3
    refine AF_run Sp33_ok Dr33 [] [.cell 4 34] hm Tryz.func33 rfl (by decide) Tryz.ntmps33 rfl (by kernel_rfl) (Nat.le_of_ble_eq_true rfl) ?_; intro hlo
    repeat' (first | with_reducible refine iteI (fun _ => ?_) (fun _ => ?_) | ((first | unfold AOpsC | unfold AOpsD | skip); simp (maxSteps := 1000000) (disch := (first | omega | assumption | (simp only [List.length_append, List.length_cons, List.length_nil, List.length_set]; omega))) only [go_sem, Sp33, Dr33, hb0, hb1, hb2, hb3]))
    unfold SSpE
    refine ⟨⟨m1.1, m1.2.1⟩, ?_⟩
    repeat' (first | with_reducible refine iteI (fun _ => ?_) (fun _ => ?_) | ((first | unfold AOpsC | unfold AOpsD | skip); simp (maxSteps := 1000000) (disch := (first | omega | assumption | (simp only [List.length_append, List.length_cons, List.length_nil, List.length_set]; omega))) only [go_sem, Sp33, Dr33, hb0, hb1, hb2, hb3]))
    have t1 : List.take j (ms.map (AV.int .i64)) = (ms.take j).map (AV.int .i64) := List.map_take.symm
    have t2 : List.take j (ts.map (AV.int .i64)) = (ts.take j).map (AV.int .i64) := List.map_take.symm
    have t1' : List.take j ((ms.take j).map (AV.int .i64)) = (ms.take j).map (AV.int .i64) := by rw [← List.map_take, List.take_take, Nat.min_self]
    have t2' : List.take j ((ts.take j).map (AV.int .i64)) = (ts.take j).map (AV.int .i64) := by rw [← List.map_take, List.take_take, Nat.min_self]
    have u1 : (ms.take j).length = j := by rw [List.length_take]; omega
    have u2 : (ts.take j).length = j := by rw [List.length_take]; omega
    unfold SShare
    repeat' (first | with_reducible refine iteI (fun _ => ?_) (fun _ => ?_) | ((first | unfold AOpsC | unfold AOpsD | skip); simp (maxSteps := 1000000) (disch := (first | omega | assumption | (simp only [List.length_append, List.length_cons, List.length_nil, List.length_set]; omega))) only [go_sem, Sp33, Dr33, hb0, hb1, hb2, hb3, takeMap, allI, Int.toNat_zero, Nat.sub_zero, List.drop_zero, t1, t2, t1', t2', u1, u2, Nat.le_refl]))
    have eSA : shareO (ts.getD j 0) (ms.getD j 0 - (ms.getD j 0).tdiv 2) (ms.getD j 0) = splA ms ts j := rfl
    simp only [eSA]
    repeat' (with_reducible refine And.intro ?_ ?_)
    all_goals
      unfold SSplit
      refine ⟨l, ⟨w0.ext ((((Ext.refl η).app _).app _).app _ |>.app _), hl, i0, by omega, hid, h4⟩, fun G c0 z0 c0n g0 x => ?_⟩
      rw [Int.toNat_natCast] at g0 ⊢
      have G1 := x.blk (b := η.length) (x := ⟨1, 3, 1, (ms.take j).map (AV.int .i64) ++ [.int .i64 (ms.getD j 0 - (ms.getD j 0).tdiv 2), .int .i64 ((ms.getD j 0).tdiv 2)]⟩) (by simp)
      have G2 := x.blk (b := η.length + 2) (x := ⟨1, 3, 1, (ts.take j).map (AV.int .i64) ++ [.int .i64 (splA ms ts j), .int .i64 (ts.getD j 0 - splA ms ts j)]⟩) (by simp)
      generalize hE : η ++ [_] ++ [_] ++ [_] ++ [_] = E at *
      have hEl : E.length = η.length + 4 := by rw [← hE]; simp
      have xη : Ext η G := Ext.trans (by rw [← hE]; exact (((Ext.refl η).app _).app _).app _ |>.app _) x
      have F1 := xη.blk hb1
      have F2 := xη.blk hb2
      have F3 := xη.blk hb3
      have g0l := blt g0
      have G1l := blt G1
      have G2l := blt G2
      have e2 : ∀ (a b : Blk), (η ++ [a] ++ [b]).length = η.length + 2 := fun _ _ => by simp
      have f1 : List.take (ms.length - (j + 1)) (List.drop (j + 1) (ms.map (AV.int .i64))) = (ms.drop (j + 1)).map (AV.int .i64) := by rw [List.take_of_length_le (by simp), List.map_drop]
      have f2 : List.take (ts.length - (j + 1)) (List.drop (j + 1) (ts.map (AV.int .i64))) = (ts.drop (j + 1)).map (AV.int .i64) := by rw [List.take_of_length_le (by simp), List.map_drop]
      have z1 : ∀ a b, ((ms.take j).map (AV.int .i64) ++ [a, b]).length = j + 2 := fun _ _ => by rw [List.length_append, List.length_map, u1]; rfl
      have z2 : ∀ a b, ((ts.take j).map (AV.int .i64) ++ [a, b]).length = j + 2 := fun _ _ => by rw [List.length_append, List.length_map, u2]; rfl
      have p1 : ∀ a b, List.take (j + 2) ((ms.take j).map (AV.int .i64) ++ [a, b]) = (ms.take j).map (AV.int .i64) ++ [a, b] := fun a b => List.take_of_length_le (by rw [z1]; exact Nat.le_refl _)
      have p2 : ∀ a b, List.take (j + 2) ((ts.take j).map (AV.int .i64) ++ [a, b]) = (ts.take j).map (AV.int .i64) ++ [a, b] := fun a b => List.take_of_length_le (by rw [z2]; exact Nat.le_refl _)
      repeat' (first | with_reducible refine iteI (fun _ => ?_) (fun _ => ?_) | ((first | unfold AOpsC | unfold AOpsD | skip); simp (maxSteps := 1000000) (disch := (first | omega | assumption | (simp only [List.length_append, List.length_cons, List.length_nil, List.length_set]; omega))) only [go_sem, Sp33, Dr33, F1, F2, F3, G1, G2, takeMap, allI, Int.toNat_zero, Nat.sub_zero, List.drop_zero, e2, f1, f2, z1, z2, p1, p2, Nat.le_refl]))
      repeat' (with_reducible refine And.intro ?_ ?_)
    all_goals first
      | omega
      | (rw [← eM, ← eT, nM, nT]
         refine hK _ _ _ _ _ _ _ _ _ ⟨?_, ?_, ?_, app_last _ _, by omega, by omega, by omega, by simp only [List.length_set]; omega, by omega, by omega, by simp only [List.length_set]; omega, by omega, by simp only [List.length_set]; omega, by simp only [List.length_set]; omega⟩ (((xη.set (Nat.le_refl _) _).set (by omega) _).app _)
         · rw [app_get (by simp only [List.length_set]; omega), set_ne (by omega), set_ne (by omega)]; exact g0
         · rw [app_get (by simp only [List.length_set]; omega), set_ne (by omega), set_eq (by omega)]
         · rw [app_get (by simp only [List.length_set]; omega), set_eq (by simp only [List.length_set]; omega)])
  · exact h.elim

def SLvl : List AV → List Blk → (AV → List Blk → Prop) → Prop
  | [x], η, K => ∃ (nb : Nat) (r : Int) (b0 b1 b2 b3 v0 v1 v2 v3 : Nat) (l : List Id3) (ms ts bs : List Int), x = .agg [.int .i64 r, .sl b0 v0 0 l.length, .sl b1 v1 0 ms.length, .sl b2 v2 0 ts.length, .sl b3 v3 0 bs.length] ∧ nb ≤ η.length ∧ New4 nb η b0 b1 b2 b3 v0 v1 v2 v3 l ms ts bs ∧ meshB r l = true ∧ celB r l ms ts bs = true ∧
      ∀ H b0 b1 b2 b3 v0 v1 v2 v3, New4 nb H b0 b1 b2 b3 v0 v1 v2 v3 (lvlR l ms ts).1 (lvlR l ms ts).2.1 (lvlR l ms ts).2.2 bs → Ext η H → K (.agg [.int .i64 r, .sl b0 v0 0 (lvlR l ms ts).1.length, .sl b1 v1 0 (lvlR l ms ts).2.1.length, .sl b2 v2 0 (lvlR l ms ts).2.2.length, .sl b3 v3 0 bs.length]) H
  | _, _, _ => False
def invLv (η : List Blk) (nb : Nat) (r : Int) (l0 : List Id3) (ms0 ts0 bs : List Int) (st : St) : Prop := ∃ (H : List Blk) (l : List Id3) (ms ts : List Int) (b0 b1 b2 b3 v0 v1 v2 v3 : Nat), Ext η H ∧ New4 nb H b0 b1 b2 b3 v0 v1 v2 v3 l ms ts bs ∧ meshB r l = true ∧ celB r l ms ts bs = true ∧ lvlR l0 ms0 ts0 = lvlR l ms ts ∧
  st.n = 19 ∧ st.τ 1 = .loc 1 1 0 ∧ st.τ 2 = .loc 2 1 0 ∧ st.τ 3 = .int .i64 (unbI l) ∧
  st.lam 1 = ⟨1, [.int .i64 r, .sl b0 v0 0 l.length, .sl b1 v1 0 ms.length, .sl b2 v2 0 ts.length, .sl b3 v3 0 bs.length]⟩ ∧ st.lam 2 = ⟨1, [.int .i64 0, .nils, .nils, .nils, .nils]⟩ ∧ st.η = H
def muL (st : St) : Nat := match (st.lam 1).cells with | _ :: .sl _ _ _ n :: _ => 129 - n | _ => 0

/- spec.l08Level -/
def Sp88 (lo : Nat) : Spec := fun g args η K => match g with | 33 => SSpl args η K | 66 => SUnb args η K | 127 => SCoar args η K | _ => False
theorem Sp88_ok {lo : Nat} : Sound Tryz.prog lo (Sp88 lo) := by
  intro g args η K h
  unfold Sp88 at h
  split at h
  · exact .inl (f33_ok h)
  · exact .inl (f66_ok h)
  · exact .inl (f127_ok h)
  · exact h.elim
def Dr88 : Draws := fun id => match id with | 4 => ([0, 0, 2, 0, 14, 31, 63], [4], [], (.one 0 (.one 1 (.one 2 (.one 3 (.one 4 (.one 5 (.one 6 .nil)))))))) | _ => ([], [], [], .nil)
theorem f88_ok {lo : Nat} {args : List AV} {η : List Blk} {K : AV → List Blk → Prop} (h : SLvl args η K) : AF Tryz.prog lo 88 args η K := by
  unfold SLvl at h
  split at h
  · obtain ⟨nb, r, b0, b1, b2, b3, v0, v1, v2, v3, l, ms, ts, bs, rfl, hnb, hN, hM, hC, hK⟩ := h
    have w0 := hN.g0
    have hln := mesh_len hM
    have hlv := mesh_levs hM
    have D1 : dec3 69 η (.sl b0 v0 0 l.length) = l := IsR.dec3 ⟨b0, v0, rfl, w0⟩
    have O1 : ok3 69 η (.sl b0 v0 0 l.length) := ⟨l, ⟨b0, v0, rfl, w0⟩, by omega⟩
    refine AF_run Sp88_ok Dr88 [] [.cell 2 34] hm Tryz.func88 rfl (by decide) Tryz.ntmps88 rfl (by kernel_rfl) (Nat.le_of_ble_eq_true rfl) ?_; intro hlo
    repeat' (first | with_reducible refine iteI (fun _ => ?_) (fun _ => ?_) | ((first | unfold AOpsC | unfold AOpsD | skip); simp (maxSteps := 1000000) (disch := (first | omega | assumption | (simp only [List.length_append, List.length_cons, List.length_nil, List.length_set]; omega))) only [go_sem, Sp88, SUnb, Dr88, D1, O1, hlv]))
    refine ⟨invLv η nb r l ms ts bs, muL, .inl ⟨η, l, ms, ts, b0, b1, b2, b3, v0, v1, v2, v3, Ext.refl _, hN, hM, hC, rfl, rfl, by simp [upd], by simp [upd], by simp [upd], by simp [upd], by simp [upd], rfl⟩, ?_⟩
    clear w0 hln hlv D1 O1 hN hM hC
    rintro ⟨n, τ, lam, H⟩ ⟨H', l', ms', ts', c0, c1, c2, c3, u0, u1, u2, u3, g0, hN, hM, hC, hE, hn, t1, t2, t3, l1, l2, hη⟩; simp only at hn t1 t2 t3 l1 l2 hη; subst hn hη
    rw [hE] at hK
    have w0 := hN.g0
    have w1 := hN.g1
    have w2 := hN.g2
    have w3 := hN.g3
    have hln := mesh_len hM
    have hlv := mesh_levs hM
    obtain ⟨k3, k4, k5, k6, k7, k8⟩ := celT hC
    by_cases hu : 0 ≤ unbI l'
    · obtain ⟨i, u1', q1, q2, q3, q4, q5⟩ := lvl_step hM hC hu
      have p1 : unbI l' = i ∧ i + 1 < l'.length ∧ gapB l' i = true := by
        obtain ⟨i', a, b, c⟩ := unb_pos hu
        obtain rfl : i = i' := by omega
        exact ⟨a, b, c⟩
      have q6 := split_len q1
      repeat' (first | with_reducible refine iteI (fun _ => ?_) (fun _ => ?_) | ((first | unfold AOpsC | unfold AOpsD | skip); simp (maxSteps := 1000000) (disch := (first | omega | assumption | (simp only [List.length_append, List.length_cons, List.length_nil, List.length_set]; omega))) only [go_sem, Sp88, SUnb, Dr88, t1, t2, t3, l1, l2]))
      rw [u1']
      refine ⟨l', ⟨⟨c0, u0, rfl, w0⟩, by omega, hlv, by omega, by omega⟩, ?_⟩
      rw [Int.toNat_natCast]
      repeat' (first | with_reducible refine iteI (fun _ => ?_) (fun _ => ?_) | ((first | unfold AOpsC | unfold AOpsD | skip); simp (maxSteps := 1000000) (disch := (first | omega | assumption | (simp only [List.length_append, List.length_cons, List.length_nil, List.length_set]; omega))) only [go_sem, Sp88, SUnb, Dr88, t1, t2, t3, l1, l2]))
      unfold SSpl
      refine ⟨l', ms', ts', bs, ⟨⟨c0, u0, rfl, w0⟩, ⟨c1, u1, rfl, w1⟩, ⟨c2, u2, rfl, w2⟩, ⟨c3, u3, rfl, w3⟩⟩, ⟨by omega, hM, hC, by omega, by omega, by rw [Int.toNat_natCast]; exact q2⟩, fun G d0 d1 d2 d3 y0 y1 y2 y3 hG x => ?_⟩
      rw [Int.toNat_natCast] at hG ⊢
      have hG' := hG.mono (Nat.le_trans hnb g0.len)
      have z0 := hG.g0
      have hln3 := mesh_len q3
      have hlv3 := mesh_levs q3
      have D1 : dec3 69 G (.sl d0 y0 0 (splitL l' (coarI l' i)).length) = splitL l' (coarI l' i) := IsR.dec3 ⟨d0, y0, rfl, z0⟩
      have O1 : ok3 69 G (.sl d0 y0 0 (splitL l' (coarI l' i)).length) := ⟨_, ⟨d0, y0, rfl, z0⟩, by omega⟩
      repeat' (first | with_reducible refine iteI (fun _ => ?_) (fun _ => ?_) | ((first | unfold AOpsC | unfold AOpsD | skip); simp (maxSteps := 1000000) (disch := (first | omega | assumption | (simp only [List.length_append, List.length_cons, List.length_nil, List.length_set]; omega))) only [go_sem, Sp88, SUnb, Dr88, t1, t2, t3, l1, l2, D1, O1, hlv3]))
      refine ⟨⟨G, _, _, _, d0, d1, d2, d3, y0, y1, y2, y3, g0.trans x, hG', q3, q4, hE.trans q5, rfl, by simp [upd, t1], by simp [upd, t2], by simp [upd], by simp [upd], by simp [upd, l2], rfl⟩, ?_⟩
      simp [muL, upd, l1, q6]
      omega
    · rw [lvlR_0 (by omega)] at hK
      repeat' (first | with_reducible refine iteI (fun _ => ?_) (fun _ => ?_) | ((first | unfold AOpsC | unfold AOpsD | skip); simp (maxSteps := 1000000) (disch := (first | omega | assumption | (simp only [List.length_append, List.length_cons, List.length_nil, List.length_set]; omega))) only [go_sem, Sp88, SUnb, Dr88, t1, t2, t3, l1, l2]))
      exact hK _ _ _ _ _ _ _ _ _ hN g0
  · exact h.elim

end Go.Proofs.YtaalpmbopkbdiaaGreat
