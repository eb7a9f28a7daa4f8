/- What functions of the program compute, said in the abstract logic; no conditions. -/
import Derived.Test.YtaalpmbopkbdiaaGreatGOwn

namespace Go.Proofs.YtaalpmbopkbdiaaGreat
open Go
set_option linter.unusedSimpArgs false
set_option linter.unusedVariables false
set_option maxRecDepth 100000
set_option maxHeartbeats 8000000
attribute [local go_sem] st0 AC thenA andC locLoadB KsSW_same KsSW_grow oldLoadB noBlkB KsSL_same KsOS_same KsOS_grow pv ev put upd dstOk cv cvc binI setB Value.oneCell' EndA resA resA1 List.mapM_cons List.mapM_nil Option.pure_def Option.bind_eq_bind noLocV noLoc1 noLoc noLocs plainV cellsA newVarA putCells condA lam0 inBlockA cur lenA rowA writeA dstA appendC appendZ mapPut mapGet avoidsB avoidB clearB Array.toList_append Op.operands Call.operands newSlot Nat.zero_add Nat.add_zero Nat.succ_ne_self Nat.lt_add_one Nat.zero_lt_succ true_and and_true true_or or_true false_or or_false and_self true_implies forall_const Bool.false_eq_true Bool.true_eq_false false_implies implies_true imp_self ne_eq not_false_eq_true not_true_eq_false false_and and_false List.getElem?_toArray List.getElem?_cons_succ List.getElem?_cons_zero Option.bind_some Option.map_some Bool.not_true Bool.not_false List.getD_cons_zero List.getD_cons_succ Option.some.injEq exists_eq_left' AV.bool.injEq List.map_cons List.map_nil List.all_cons List.all_nil Bool.and_self Bool.and_true Bool.true_and List.append_nil List.cons_append List.nil_append List.length_cons List.length_nil List.drop_zero List.take_zero List.drop_succ_cons List.take_succ_cons List.take_nil List.drop_nil List.not_mem_nil List.mem_cons List.contains_nil List.contains_cons Bool.or_self Bool.or_true Bool.true_or Bool.false_or Bool.or_false Bool.and_false Bool.false_and KsS_same KsS_grow skipV KsS_ext KsSW_ext KsOS_ext rep1 rep2 rep3 rep4 rep5 List.flatten_cons List.flatten_nil partsA isPtr fillA List.size_toArray ltT ltF leT leF ltTn ltFn leTn leFn eqTi eqFi wrapId toNat1 intGet boolGet memD app_get app_last app_lst app_set app_setL app_setF set_ne set_eq gt_iff_lt ge_iff_le decide_eq_true_eq len2 len3 get20 get21 drop2 put2 get30 get31 get32 drop3 put3 putI pairEta bneTi bneFi beqTi beqFi bne_eq_false_iff_eq beq_eq_false_iff_ne beq_iff_eq bne_iff_ne Int.toNat_natCast Nat.mul_one List.length_map Bool.not_eq_true Bool.not_eq_false Bool.decide_eq_true decide_true decide_false Bool.not_eq_true' Bool.not_eq_false' decide_eq_false_iff_not eq_self Decidable.not_not
attribute [local go_sem ↓] skipC exitC retC seqC blockC condC regC drawC drawStep AOpC AOpF AOpE AEff contE_at contC_at keepC_at keepW_at keepO_at keepL_at map_parts
attribute [local go_sem] reduceCtorEq Nat.reduceLT Nat.reduceEqDiff Nat.reduceAdd Nat.reduceMul Nat.reduceLeDiff Nat.reduceSub Nat.reduceBEq Nat.reduceBNe Nat.reduceBneDiff Nat.reduceBeqDiff
attribute [local go_sem ↓] reduceIte
attribute [local go_sem] ag_25 ag_3 ag_30 ag_69 by_25 by_3 by_30 by_69 el_25 el_30 en_3 in_3 nf_69 pl_69 ps_69 sz_25 sz_3 sz_30 sz_69 ze_25 ze_3 ze_30 ze_69

theorem layA_end {cells row : List AV} {off : Nat} (h : cells.length ≤ off + row.length) : layA cells off row = cells.take off ++ row := by
  rw [layA, List.drop_eq_nil_of_le h, List.append_nil]
theorem layA_len {cells row : List AV} {off : Nat} (h : off + row.length ≤ cells.length) : (layA cells off row).length = cells.length := by
  simp [layA]; omega
theorem layA_take {cells row : List AV} {off k : Nat} (h : off ≤ cells.length) (hk : off + row.length = k) : (layA cells off row).take k = cells.take off ++ row := by
  rw [layA, List.take_append_of_le_length (by simp; omega), List.take_of_length_le (by simp; omega)]
theorem layA_drop {cells row : List AV} {off k : Nat} (h : off ≤ cells.length) (hk : off + row.length ≤ k) : (layA cells off row).drop k = cells.drop k := by
  rw [layA, List.append_assoc, List.drop_append, List.drop_append, List.drop_eq_nil_of_le (by simp; omega), List.drop_eq_nil_of_le (by simp; omega), List.nil_append, List.nil_append, List.drop_drop]
  congr 1
  simp only [List.length_take]
  omega
theorem layA_under {cells row : List AV} {off k : Nat} (h : off ≤ cells.length) (hk : k ≤ off) : (layA cells off row).take k = cells.take k := by
  rw [layA, List.append_assoc, List.take_append_of_le_length (by simp; omega), List.take_take, Nat.min_eq_left hk]
theorem rep_new {X V Z : List AV} {i j p q : Nat} (hi : i ≤ X.length) (hj : j ≤ X.length) (hp : p = i + V.length) (hq : q = X.length - j) (hZ : Z.length = V.length + q) : layA (layA (X.take i ++ Z) i V) p ((X.drop j).take q) = X.take i ++ V ++ X.drop j := by
  have h1 : (X.drop j).take q = X.drop j := List.take_of_length_le (by simp; omega)
  have h2 : (X.take i).length = i := by simp; omega
  rw [h1, layA_end (by rw [layA_len (by simp; omega)]; simp; omega), layA_take (by simp; omega) hp.symm, List.take_append_of_le_length (by omega), List.take_take, Nat.min_self]
theorem rep_shrink {X V Z : List AV} {i j p q t : Nat} (hj : j ≤ X.length) (hp : p = i + V.length) (hq : q = X.length - j) (ht : t = p + q) (hpj : p ≤ j) : (layA (layA (layA X i V) p ((List.drop j (layA X i V)).take q)) t Z).take t = X.take i ++ V ++ X.drop j := by
  have h1 : (List.drop j (layA X i V)).take q = X.drop j := by
    rw [layA_drop (by omega) (by omega)]
    exact List.take_of_length_le (by simp; omega)
  have h2 : (layA X i V).length = X.length := layA_len (by omega)
  have h3 : (X.drop j).length = q := by simp; omega
  rw [h1, layA_under (by rw [layA_len (by omega)]; omega) (Nat.le_refl _), layA_take (by omega) (by omega), layA_take (by omega) (by omega)]
theorem rep_grow {X V : List AV} {i j p q : Nat} (hj : j ≤ X.length) (hp : p = i + V.length) (hq : q = X.length - j) (hpj : j ≤ p) (hpX : p ≤ X.length) : layA (layA X p ((X.drop j).take q)) i V = X.take i ++ V ++ X.drop j := by
  have h1 : (X.drop j).take q = X.drop j := List.take_of_length_le (by simp; omega)
  have h3 : (X.drop j).length = q := by simp; omega
  have h4 : layA X p (X.drop j) = X.take p ++ X.drop j := layA_end (by omega)
  have h5 : (X.take p).length = p := by simp; omega
  rw [h1, h4, layA, List.take_append_of_le_length (by omega), List.take_take, Nat.min_eq_left (by omega), ← hp, List.drop_append_of_le_length (by omega), List.drop_of_length_le (by omega), List.nil_append]
theorem overlapsCall {P : Program} {g : FuncId} {fn : Func} {t r : TypeId} (hf : P.funcs[g]? = some fn) (hname : (fn.name == "runtime.NumGoroutine") = false) (hb : fn.body.isNone = true) (hn : Extern.findNext fn = none) (he : Extern.find fn = some (Extern.SlicesOverlaps.overlaps #[t, t] #[r])) (args : Array Value) (w : World) :
    (callFunc g args).run P w = ((Extern.SlicesOverlaps.overlaps #[t, t] #[r] args).run P w).andThen fun v w' => .ok (.value v) w' := run_callFunc_extern hf hname hb hn he args w

theorem cellsLen (l : List Id3) : ((l.map enc3).flatten).length = l.length * 3 := by
  induction l with
  | nil => rfl
  | cons x l ih => simp only [List.map_cons, List.flatten_cons, List.length_append, ih, List.length_cons]; simp [enc3]; omega
theorem cellsApp (a b : List Id3) : ((a ++ b).map enc3).flatten = (a.map enc3).flatten ++ (b.map enc3).flatten := by simp
theorem cellsTake (l : List Id3) : ∀ i, ((l.take i).map enc3).flatten = ((l.map enc3).flatten).take (i * 3) := by
  induction l with
  | nil => intro i; simp
  | cons x l ih =>
    intro i
    cases i with
    | zero => simp
    | succ i =>
      simp only [List.take_succ_cons, List.map_cons, List.flatten_cons, ih]
      rw [show (i + 1) * 3 = (enc3 x).length + i * 3 by simp [enc3]; omega, List.take_length_add_append]
theorem cellsDrop (l : List Id3) : ∀ i, ((l.drop i).map enc3).flatten = ((l.map enc3).flatten).drop (i * 3) := by
  induction l with
  | nil => intro i; simp
  | cons x l ih =>
    intro i
    cases i with
    | zero => simp
    | succ i =>
      simp only [List.drop_succ_cons, List.map_cons, List.flatten_cons, ih]
      rw [show (i + 1) * 3 = (enc3 x).length + i * 3 by simp [enc3]; omega, List.drop_length_add_append]

def SRepIO (lo : Nat) : List AV → List Blk → (AV → List Blk → Prop) → Prop
  | [x, y], η, K => ∃ (b ver off len b' ver' off' len' : Nat) (blk blk' : Blk), dstA lo x = some (b, ver, off, len) ∧ dstA lo y = some (b', ver', off', len') ∧ η[b]? = some blk ∧ η[b']? = some blk' ∧ ver = blk.ver ∧ ver' = blk'.ver ∧ blk.sz = 1 ∧ blk'.sz = 1 ∧ b ≠ b' ∧ K (.bool false) η
  | _, _, _ => False
theorem x149_ok {lo : Nat} {args : List AV} {η : List Blk} {K : AV → List Blk → Prop} (h : SRepIO lo args η K) : AFX Tryz.prog lo 149 args η K := by
  unfold SRepIO at h
  split at h
  · obtain ⟨b, ver, off, len, b', ver', off', len', blk, blk', h1, h2, h3, h4, h5, h6, h7, h8, h9, hK⟩ := h
    exact .inr (overlaps_AX (tR := 4) (overlapsCall Tryz.func149 (by kernel_rfl) (by kernel_rfl) (by kernel_rfl) (by kernel_rfl)) el_25 (by decide) h1 h2 h3 h4 h5 h6 h7 h8 h9 hK)
  · exact h.elim
def SRepI (lo : Nat) : List AV → List Blk → (AV → List Blk → Prop) → Prop
  | [.sl b ver 0 n, .int .i64 i, .int .i64 j, .sl c vc 0 m], η, K => ∃ (xs vs : List Int) (i' j' : Nat), (lo ≤ b ∧ lo ≤ c ∧ b ≠ c ∧ i = i' ∧ j = j') ∧ (n = xs.length ∧ η[b]? = some ⟨ver, 3, 1, xs.map (AV.int .i64)⟩) ∧ (m = vs.length ∧ η[c]? = some ⟨vc, 3, 1, vs.map (AV.int .i64)⟩) ∧ (n ≤ 100000 ∧ 0 < m ∧ m ≤ 1000 ∧ i' < j' ∧ j' ≤ n ∧ i' + m ≤ j' + 1) ∧
      ∀ H b' v', H[b']? = some ⟨v', 3, 1, (xs.take i' ++ vs ++ xs.drop j').map (AV.int .i64)⟩ → (b' = b ∧ v' = ver ∨ η.length ≤ b' ∧ v' = 0) → Touch (fun q => q = b) η H → K (.sl b' v' 0 (xs.take i' ++ vs ++ xs.drop j').length) H
  | _, _, _ => False

/- slices.Replace[[]int,int] -/
def Sp124 (lo : Nat) : Spec := fun g args η K => match g with | 149 => SRepIO lo args η K | _ => False
theorem Sp124_ok {lo : Nat} : Sound Tryz.prog lo (Sp124 lo) := by
  intro g args η K h
  unfold Sp124 at h
  split at h
  · exact x149_ok h
  · exact h.elim
def Dr124 : Draws := fun id => match id with | 9 => ([0, 0, 3, 7, 0, 16, 63, 0, 0, 384, 896, 2047, 4095], [], [], (.one 0 (.one 1 (.one 2 (.one 3 (.one 4 (.one 5 (.one 6 (.one 7 (.one 8 (.one 9 (.one 10 (.one 11 (.one 12 .nil)))))))))))))) | 13 => ([0, 0, 0, 4, 14, 31, 0, 0, 192, 511], [], [], (.one 0 (.one 1 (.one 2 (.one 3 (.one 4 (.one 5 (.one 6 (.one 7 (.one 8 (.one 9 .nil))))))))))) | 18 => ([0, 0, 0, 4, 14, 31, 0, 0, 192, 511], [], [], (.one 0 (.one 1 (.one 2 (.one 3 (.one 4 (.one 5 (.one 6 (.one 7 (.one 8 (.one 9 .nil))))))))))) | 22 => ([0, 0, 0, 4, 14, 31, 0, 0, 192, 511], [], [], (.one 0 (.one 1 (.one 2 (.one 3 (.one 4 (.one 5 (.one 6 (.one 7 (.one 8 (.one 9 .nil))))))))))) | 27 => ([0, 0, 0, 7, 0, 0, 48, 127], [], [], (.one 0 (.one 1 (.one 2 (.one 3 (.one 4 (.one 5 (.one 6 (.one 7 .nil))))))))) | 28 => ([0, 0, 2, 7, 0, 0, 48, 127], [], [], (.one 0 (.one 1 (.one 2 (.one 3 (.one 4 (.one 5 (.one 6 (.one 7 .nil))))))))) | 32 => ([0, 0, 2, 7, 0, 0, 48, 127], [], [], (.one 0 (.one 1 (.one 2 (.one 3 (.one 4 (.one 5 (.one 6 (.one 7 .nil))))))))) | 33 => ([0, 0, 0, 7, 0, 0, 48, 127], [], [], (.one 0 (.one 1 (.one 2 (.one 3 (.one 4 (.one 5 (.one 6 (.one 7 .nil))))))))) | 38 => ([0, 0, 0, 4, 14, 31, 0, 0, 0, 384, 960, 2047], [], [], (.one 0 (.one 1 (.one 2 (.one 3 (.one 4 (.one 5 (.one 6 (.one 7 (.one 8 (.one 9 (.one 10 (.one 11 .nil))))))))))))) | _ => ([], [], [], .nil)
theorem f124_ok {lo : Nat} {args : List AV} {η : List Blk} {K : AV → List Blk → Prop} (h : SRepI lo args η K) : AF Tryz.prog lo 124 args η K := by
  unfold SRepI at h
  split at h
  · obtain ⟨xs, vs, i, j, ⟨hlb, hlc, hbc, rfl, rfl⟩, ⟨rfl, hb⟩, ⟨rfl, hc⟩, ⟨hn, hm0, hmm, hij, hjn, hgr⟩, hK⟩ := h
    rename_i b ver c vc
    have lb := blt hb
    have lc := blt hc
    have ex : (xs.map (AV.int .i64)).length = xs.length := by simp
    have ev' : (vs.map (AV.int .i64)).length = vs.length := by simp
    have hfin : ∀ (H : List Blk) (b' v' len : Nat) (C : List AV), len = i + vs.length + (xs.length - j) → Touch (fun q => q = b) η H → (b' = b ∧ v' = ver ∨ η.length ≤ b' ∧ v' = 0) → H[b']? = some ⟨v', 3, 1, C⟩ → C = (xs.map (AV.int .i64)).take (i) ++ vs.map (AV.int .i64) ++ (xs.map (AV.int .i64)).drop (j) → K (.sl b' v' 0 len) H := fun H b' v' len C hl ht hbv hH hC => by
      have := hK H b' v' (by rw [hH, hC]; simp [List.map_take, List.map_drop]) hbv ht
      rw [show (xs.take i ++ vs ++ xs.drop j).length = len by simp; omega] at this
      exact this
    clear hK
    have hVn : (vs.map (AV.int .i64)).all noLoc = true := by simp [noLoc]
    generalize hX : xs.map (AV.int .i64) = X at *
    generalize hV : vs.map (AV.int .i64) = V at *
    generalize hnx : xs.length = n at *
    generalize hmx : vs.length = m at *
    clear hX hV hnx hmx
    have hVt : V.take (m) = V := List.take_of_length_le (by omega)
    refine AF_reveal hb hlb (by omega) fun cap hcap => AF_forget ?_
    refine AF_run Sp124_ok Dr124 [] [.tmp 8] hm Tryz.func124 rfl (by decide) Tryz.ntmps124 rfl (by kernel_rfl) (Nat.le_of_ble_eq_true rfl) ?_; intro hlo
    have t1 : ∀ x : Blk, Touch (fun q => q = b) η (η.set b x) := fun x => Touch.set rfl
    have t2 : ∀ x y : Blk, Touch (fun q => q = b) η ((η.set b x).set b y) := fun x y => (t1 x).trans (Touch.set rfl)
    have t3 : ∀ x y z : Blk, Touch (fun q => q = b) η (((η.set b x).set b y).set b z) := fun x y z => (t2 x y).trans (Touch.set rfl)
    have t4 : ∀ x y z u : Blk, Touch (fun q => q = b) η ((((η.set b x).set b y).set b z).set b u) := fun x y z u => (t3 x y z).trans (Touch.set rfl)
    by_cases hj : j = n
    · subst hj
      repeat' (first | with_reducible refine iteI (fun _ => ?_) (fun _ => ?_) | ((first | unfold AOpsC | unfold AOpsD | skip); simp (maxSteps := 1000000) (disch := (first | omega | assumption | (simp only [List.length_append, List.length_cons, List.length_nil, List.length_set]; omega))) only [go_sem, Sp124, Dr124, hb, hc, hVt, hVn, Int.toNat_zero, Nat.sub_zero, Nat.zero_mul]))
      refine ⟨fun h1 => ?_, fun h1 => ?_⟩
      · refine iteI (fun h2 => ?_) (fun h2 => ?_)
        · refine ⟨by rw [layA_len (by omega)]; omega, .inr (.inr ⟨b, _, (i + m), hlb, set_eq (by simpa using lb), ?_⟩)⟩
          exact hfin _ _ _ _ _ (by omega) (t3 _ _ _) (.inl ⟨rfl, rfl⟩) (set_eq (by simpa using lb)) (by rw [layA_under (by rw [layA_len (by omega)]; omega) (Nat.le_refl _), layA_take (by omega) (by omega), List.drop_eq_nil_of_le (by omega), List.append_nil])
        · exact .inl (hfin _ _ _ _ _ (by omega) (t1 _) (.inl ⟨rfl, rfl⟩) (set_eq lb) (by rw [layA_end (by omega), List.drop_eq_nil_of_le (by omega), List.append_nil]))
      · exact iteI (fun h2 => by omega) (fun h2 => .inr (.inl (hfin _ _ _ _ _ (by omega) ((Ext.refl η).app _ |>.touch _) (.inr ⟨Nat.le_refl _, rfl⟩) (app_last _ _) (by rw [List.drop_eq_nil_of_le (by omega), List.append_nil]))))
    · have et : (i : Int) + (m : Int) + ((n - j : Nat) : Int) = ((i + m + (n - j) : Nat) : Int) := by omega
      have em : ((i : Int) + (m : Int)).toNat = i + m := by omega
      have ez : (((i + m + (n - j) : Nat) : Int) - (i : Int)).toNat = m + (n - j) := by omega
      by_cases htot : cap < i + m + (n - j)
      · repeat' (first | with_reducible refine iteI (fun _ => ?_) (fun _ => ?_) | ((first | unfold AOpsC | unfold AOpsD | skip); simp (maxSteps := 1000000) (disch := (first | omega | assumption | (simp only [List.length_append, List.length_cons, List.length_nil, List.length_set]; omega))) only [go_sem, Sp124, Dr124, hb, hc, hVt, hVn, Int.toNat_zero, Nat.sub_zero, Nat.zero_mul, et, em, ez]))
        have hz : (List.replicate (m + (n - j)) [AV.int IntKind.i64 0]).flatten.length = (m + (n - j)) := by simp
        have hti : (List.take (i) X).length = i := by simp; omega
        refine ⟨by rw [List.length_append]; omega, by rw [layA_len (by rw [List.length_append]; omega), List.length_append]; omega, .inr (.inl (hfin _ _ _ _ _ (by omega) ((Ext.refl η).app _ |>.touch _) (.inr ⟨Nat.le_refl _, rfl⟩) (app_last _ _) (rep_new (by omega) (by omega) (by omega) (by omega) (by omega))))⟩
      by_cases hsh : i + m ≤ j
      · have hl1 : (layA X (i) V).length = X.length := layA_len (by omega)
        repeat' (first | with_reducible refine iteI (fun _ => ?_) (fun _ => ?_) | ((first | unfold AOpsC | unfold AOpsD | skip); simp (maxSteps := 1000000) (disch := (first | omega | assumption | (simp only [List.length_append, List.length_cons, List.length_nil, List.length_set]; omega))) only [go_sem, Sp124, Dr124, hb, hc, hVt, hVn, Int.toNat_zero, Nat.sub_zero, Nat.zero_mul, et, em, hl1]))
        refine ⟨by rw [layA_len (by simp [hl1]; omega)]; omega, .inr (.inr ⟨b, _, (i + m + (n - j)), hlb, set_eq (by simpa using lb), hfin _ _ _ _ _ (by omega) (t4 _ _ _ _) (.inl ⟨rfl, rfl⟩) (set_eq (by simpa using lb)) (rep_shrink (by omega) (by omega) (by omega) (by omega) (by omega))⟩)⟩
      · repeat' (first | with_reducible refine iteI (fun _ => ?_) (fun _ => ?_) | ((first | unfold AOpsC | unfold AOpsD | skip); simp (maxSteps := 1000000) (disch := (first | omega | assumption | (simp only [List.length_append, List.length_cons, List.length_nil, List.length_set]; omega))) only [go_sem, Sp124, Dr124, hb, hc, hVt, hVn, Int.toNat_zero, Nat.sub_zero, Nat.zero_mul, et, em]))
        unfold SRepIO
        refine ⟨b, ver, (i + m), _, c, vc, 0, m, _, _, rfl, by simp [dstA, hlc], hb, hc, rfl, rfl, rfl, rfl, hbc, ?_⟩
        repeat' (first | with_reducible refine iteI (fun _ => ?_) (fun _ => ?_) | ((first | unfold AOpsC | unfold AOpsD | skip); simp (maxSteps := 1000000) (disch := (first | omega | assumption | (simp only [List.length_append, List.length_cons, List.length_nil, List.length_set]; omega))) only [go_sem, Sp124, Dr124, hb, hc, hVt, hVn, Int.toNat_zero, Nat.sub_zero, Nat.zero_mul, et, em]))
        exact ⟨by simp [layA]; omega, .inl (hfin _ _ _ _ _ (by omega) (t2 _ _) (.inl ⟨rfl, rfl⟩) (set_eq (by simpa using lb)) (rep_grow (by omega) (by omega) (by omega) (by omega) (by omega)))⟩
  · exact h.elim

def SRepRO (lo : Nat) : List AV → List Blk → (AV → List Blk → Prop) → Prop
  | [x, y], η, K => ∃ (b ver off len b' ver' off' len' : Nat) (blk blk' : Blk), dstA lo x = some (b, ver, off, len) ∧ dstA lo y = some (b', ver', off', len') ∧ η[b]? = some blk ∧ η[b']? = some blk' ∧ ver = blk.ver ∧ ver' = blk'.ver ∧ blk.sz = 3 ∧ blk'.sz = 3 ∧ b ≠ b' ∧ K (.bool false) η
  | _, _, _ => False
theorem x164_ok {lo : Nat} {args : List AV} {η : List Blk} {K : AV → List Blk → Prop} (h : SRepRO lo args η K) : AFX Tryz.prog lo 164 args η K := by
  unfold SRepRO at h
  split at h
  · obtain ⟨b, ver, off, len, b', ver', off', len', blk, blk', h1, h2, h3, h4, h5, h6, h7, h8, h9, hK⟩ := h
    exact .inr (overlaps_AX (tR := 4) (overlapsCall Tryz.func164 (by kernel_rfl) (by kernel_rfl) (by kernel_rfl) (by kernel_rfl)) el_30 (by decide) h1 h2 h3 h4 h5 h6 h7 h8 h9 hK)
  · exact h.elim
def SRepR (lo : Nat) : List AV → List Blk → (AV → List Blk → Prop) → Prop
  | [.sl b ver 0 n, .int .i64 i, .int .i64 j, .sl c vc 0 m], η, K => ∃ (xs vs : List Id3) (i' j' : Nat), (lo ≤ b ∧ lo ≤ c ∧ b ≠ c ∧ i = i' ∧ j = j') ∧ (n = xs.length ∧ η[b]? = some ⟨ver, 69, 3, ((xs).map enc3).flatten⟩) ∧ (m = vs.length ∧ η[c]? = some ⟨vc, 69, 3, ((vs).map enc3).flatten⟩) ∧ (n ≤ 100000 ∧ 0 < m ∧ m ≤ 1000 ∧ i' < j' ∧ j' ≤ n ∧ i' + m ≤ j' + 1) ∧
      ∀ H b' v', H[b']? = some ⟨v', 69, 3, (((xs.take i' ++ vs ++ xs.drop j')).map enc3).flatten⟩ → (b' = b ∧ v' = ver ∨ η.length ≤ b' ∧ v' = 0) → Touch (fun q => q = b) η H → K (.sl b' v' 0 (xs.take i' ++ vs ++ xs.drop j').length) H
  | _, _, _ => False

/- slices.Replace[[]impl.Id,impl.Id] -/
def Sp146 (lo : Nat) : Spec := fun g args η K => match g with | 164 => SRepRO lo args η K | _ => False
theorem Sp146_ok {lo : Nat} : Sound Tryz.prog lo (Sp146 lo) := by
  intro g args η K h
  unfold Sp146 at h
  split at h
  · exact x164_ok h
  · exact h.elim
def Dr146 : Draws := fun id => match id with | 9 => ([0, 0, 3, 7, 0, 16, 63, 0, 0, 384, 896, 2047, 4095], [], [], (.one 0 (.one 1 (.one 2 (.one 3 (.one 4 (.one 5 (.one 6 (.one 7 (.one 8 (.one 9 (.one 10 (.one 11 (.one 12 .nil)))))))))))))) | 13 => ([0, 0, 0, 4, 14, 31, 0, 0, 192, 511], [], [], (.one 0 (.one 1 (.one 2 (.one 3 (.one 4 (.one 5 (.one 6 (.one 7 (.one 8 (.one 9 .nil))))))))))) | 18 => ([0, 0, 0, 4, 14, 31, 0, 0, 192, 511], [], [], (.one 0 (.one 1 (.one 2 (.one 3 (.one 4 (.one 5 (.one 6 (.one 7 (.one 8 (.one 9 .nil))))))))))) | 22 => ([0, 0, 0, 4, 14, 31, 0, 0, 192, 511], [], [], (.one 0 (.one 1 (.one 2 (.one 3 (.one 4 (.one 5 (.one 6 (.one 7 (.one 8 (.one 9 .nil))))))))))) | 27 => ([0, 0, 0, 7, 0, 0, 48, 127], [], [], (.one 0 (.one 1 (.one 2 (.one 3 (.one 4 (.one 5 (.one 6 (.one 7 .nil))))))))) | 28 => ([0, 0, 2, 7, 0, 0, 48, 127], [], [], (.one 0 (.one 1 (.one 2 (.one 3 (.one 4 (.one 5 (.one 6 (.one 7 .nil))))))))) | 32 => ([0, 0, 2, 7, 0, 0, 48, 127], [], [], (.one 0 (.one 1 (.one 2 (.one 3 (.one 4 (.one 5 (.one 6 (.one 7 .nil))))))))) | 33 => ([0, 0, 0, 7, 0, 0, 48, 127], [], [], (.one 0 (.one 1 (.one 2 (.one 3 (.one 4 (.one 5 (.one 6 (.one 7 .nil))))))))) | 38 => ([0, 0, 0, 4, 14, 31, 0, 0, 0, 384, 960, 2047], [], [], (.one 0 (.one 1 (.one 2 (.one 3 (.one 4 (.one 5 (.one 6 (.one 7 (.one 8 (.one 9 (.one 10 (.one 11 .nil))))))))))))) | _ => ([], [], [], .nil)
theorem f146_ok {lo : Nat} {args : List AV} {η : List Blk} {K : AV → List Blk → Prop} (h : SRepR lo args η K) : AF Tryz.prog lo 146 args η K := by
  unfold SRepR at h
  split at h
  · obtain ⟨xs, vs, i, j, ⟨hlb, hlc, hbc, rfl, rfl⟩, ⟨rfl, hb⟩, ⟨rfl, hc⟩, ⟨hn, hm0, hmm, hij, hjn, hgr⟩, hK⟩ := h
    rename_i b ver c vc
    have lb := blt hb
    have lc := blt hc
    have ex : (((xs).map enc3).flatten).length = xs.length * 3 := by rw [cellsLen]
    have ev' : (((vs).map enc3).flatten).length = vs.length * 3 := by rw [cellsLen]
    have hfin : ∀ (H : List Blk) (b' v' len : Nat) (C : List AV), len = i + vs.length + (xs.length - j) → Touch (fun q => q = b) η H → (b' = b ∧ v' = ver ∨ η.length ≤ b' ∧ v' = 0) → H[b']? = some ⟨v', 69, 3, C⟩ → C = (((xs).map enc3).flatten).take (i * 3) ++ ((vs).map enc3).flatten ++ (((xs).map enc3).flatten).drop (j * 3) → K (.sl b' v' 0 len) H := fun H b' v' len C hl ht hbv hH hC => by
      have := hK H b' v' (by rw [hH, hC]; rw [cellsApp, cellsApp, cellsTake, cellsDrop]) hbv ht
      rw [show (xs.take i ++ vs ++ xs.drop j).length = len by simp; omega] at this
      exact this
    clear hK
    have hVn : (((vs).map enc3).flatten).all noLoc = true := by simp [noLoc, enc3]
    generalize hX : ((xs).map enc3).flatten = X at *
    generalize hV : ((vs).map enc3).flatten = V at *
    generalize hnx : xs.length = n at *
    generalize hmx : vs.length = m at *
    clear hX hV hnx hmx
    have hVt : V.take (m * 3) = V := List.take_of_length_le (by omega)
    refine AF_reveal hb hlb (by omega) fun cap hcap => AF_forget ?_
    refine AF_run Sp146_ok Dr146 [] [.tmp 8] hm Tryz.func146 rfl (by decide) Tryz.ntmps146 rfl (by kernel_rfl) (Nat.le_of_ble_eq_true rfl) ?_; intro hlo
    have t1 : ∀ x : Blk, Touch (fun q => q = b) η (η.set b x) := fun x => Touch.set rfl
    have t2 : ∀ x y : Blk, Touch (fun q => q = b) η ((η.set b x).set b y) := fun x y => (t1 x).trans (Touch.set rfl)
    have t3 : ∀ x y z : Blk, Touch (fun q => q = b) η (((η.set b x).set b y).set b z) := fun x y z => (t2 x y).trans (Touch.set rfl)
    have t4 : ∀ x y z u : Blk, Touch (fun q => q = b) η ((((η.set b x).set b y).set b z).set b u) := fun x y z u => (t3 x y z).trans (Touch.set rfl)
    by_cases hj : j = n
    · subst hj
      repeat' (first | with_reducible refine iteI (fun _ => ?_) (fun _ => ?_) | ((first | unfold AOpsC | unfold AOpsD | skip); simp (maxSteps := 1000000) (disch := (first | omega | assumption | (simp only [List.length_append, List.length_cons, List.length_nil, List.length_set]; omega))) only [go_sem, Sp146, Dr146, hb, hc, hVt, hVn, Int.toNat_zero, Nat.sub_zero, Nat.zero_mul]))
      refine ⟨fun h1 => ?_, fun h1 => ?_⟩
      · refine iteI (fun h2 => ?_) (fun h2 => ?_)
        · refine ⟨by rw [layA_len (by omega)]; omega, .inr (.inr ⟨b, _, (i + m) * 3, hlb, set_eq (by simpa using lb), ?_⟩)⟩
          exact hfin _ _ _ _ _ (by omega) (t3 _ _ _) (.inl ⟨rfl, rfl⟩) (set_eq (by simpa using lb)) (by rw [layA_under (by rw [layA_len (by omega)]; omega) (Nat.le_refl _), layA_take (by omega) (by omega), List.drop_eq_nil_of_le (by omega), List.append_nil])
        · exact .inl (hfin _ _ _ _ _ (by omega) (t1 _) (.inl ⟨rfl, rfl⟩) (set_eq lb) (by rw [layA_end (by omega), List.drop_eq_nil_of_le (by omega), List.append_nil]))
      · exact iteI (fun h2 => by omega) (fun h2 => .inr (.inl (hfin _ _ _ _ _ (by omega) ((Ext.refl η).app _ |>.touch _) (.inr ⟨Nat.le_refl _, rfl⟩) (app_last _ _) (by rw [List.drop_eq_nil_of_le (by omega), List.append_nil]))))
    · have et : (i : Int) + (m : Int) + ((n - j : Nat) : Int) = ((i + m + (n - j) : Nat) : Int) := by omega
      have em : ((i : Int) + (m : Int)).toNat = i + m := by omega
      have ez : (((i + m + (n - j) : Nat) : Int) - (i : Int)).toNat = m + (n - j) := by omega
      by_cases htot : cap < i + m + (n - j)
      · repeat' (first | with_reducible refine iteI (fun _ => ?_) (fun _ => ?_) | ((first | unfold AOpsC | unfold AOpsD | skip); simp (maxSteps := 1000000) (disch := (first | omega | assumption | (simp only [List.length_append, List.length_cons, List.length_nil, List.length_set]; omega))) only [go_sem, Sp146, Dr146, hb, hc, hVt, hVn, Int.toNat_zero, Nat.sub_zero, Nat.zero_mul, et, em, ez]))
        have hz : (List.replicate (m + (n - j)) [AV.int IntKind.i64 0, AV.int IntKind.i64 0, AV.int IntKind.i64 0]).flatten.length = (m + (n - j)) * 3 := by simp
        have hti : (List.take (i * 3) X).length = i * 3 := by simp; omega
        refine ⟨by rw [List.length_append]; omega, by rw [layA_len (by rw [List.length_append]; omega), List.length_append]; omega, .inr (.inl (hfin _ _ _ _ _ (by omega) ((Ext.refl η).app _ |>.touch _) (.inr ⟨Nat.le_refl _, rfl⟩) (app_last _ _) (rep_new (by omega) (by omega) (by omega) (by omega) (by omega))))⟩
      by_cases hsh : i + m ≤ j
      · have hl1 : (layA X (i * 3) V).length = X.length := layA_len (by omega)
        repeat' (first | with_reducible refine iteI (fun _ => ?_) (fun _ => ?_) | ((first | unfold AOpsC | unfold AOpsD | skip); simp (maxSteps := 1000000) (disch := (first | omega | assumption | (simp only [List.length_append, List.length_cons, List.length_nil, List.length_set]; omega))) only [go_sem, Sp146, Dr146, hb, hc, hVt, hVn, Int.toNat_zero, Nat.sub_zero, Nat.zero_mul, et, em, hl1]))
        refine ⟨by rw [layA_len (by simp [hl1]; omega)]; omega, .inr (.inr ⟨b, _, (i + m + (n - j)) * 3, hlb, set_eq (by simpa using lb), hfin _ _ _ _ _ (by omega) (t4 _ _ _ _) (.inl ⟨rfl, rfl⟩) (set_eq (by simpa using lb)) (rep_shrink (by omega) (by omega) (by omega) (by omega) (by omega))⟩)⟩
      · repeat' (first | with_reducible refine iteI (fun _ => ?_) (fun _ => ?_) | ((first | unfold AOpsC | unfold AOpsD | skip); simp (maxSteps := 1000000) (disch := (first | omega | assumption | (simp only [List.length_append, List.length_cons, List.length_nil, List.length_set]; omega))) only [go_sem, Sp146, Dr146, hb, hc, hVt, hVn, Int.toNat_zero, Nat.sub_zero, Nat.zero_mul, et, em]))
        unfold SRepRO
        refine ⟨b, ver, (i + m) * 3, _, c, vc, 0, m, _, _, rfl, by simp [dstA, hlc], hb, hc, rfl, rfl, rfl, rfl, hbc, ?_⟩
        repeat' (first | with_reducible refine iteI (fun _ => ?_) (fun _ => ?_) | ((first | unfold AOpsC | unfold AOpsD | skip); simp (maxSteps := 1000000) (disch := (first | omega | assumption | (simp only [List.length_append, List.length_cons, List.length_nil, List.length_set]; omega))) only [go_sem, Sp146, Dr146, hb, hc, hVt, hVn, Int.toNat_zero, Nat.sub_zero, Nat.zero_mul, et, em]))
        exact ⟨by simp [layA]; omega, .inl (hfin _ _ _ _ _ (by omega) (t2 _ _) (.inl ⟨rfl, rfl⟩) (set_eq (by simpa using lb)) (rep_grow (by omega) (by omega) (by omega) (by omega) (by omega)))⟩
  · exact h.elim

end Go.Proofs.YtaalpmbopkbdiaaGreat
