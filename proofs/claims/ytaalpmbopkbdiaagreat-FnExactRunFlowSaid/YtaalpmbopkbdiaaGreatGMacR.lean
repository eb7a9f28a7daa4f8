/- What functions of the program compute, said in the abstract logic; no conditions. -/
import Derived.Test.YtaalpmbopkbdiaaGreatGPlan
import Derived.Test.YtaalpmbopkbdiaaGreatGRainP
import Derived.Test.YtaalpmbopkbdiaaGreatGSoakP
import Derived.Test.YtaalpmbopkbdiaaGreatGDecay
import Derived.Test.YtaalpmbopkbdiaaGreatGMacP
import Derived.Test.YtaalpmbopkbdiaaGreatGAdW
import Derived.Test.YtaalpmbopkbdiaaGreatGLed

namespace Go.Proofs.YtaalpmbopkbdiaaGreat
open Go
set_option linter.unusedSimpArgs false
set_option linter.unusedVariables false
set_option maxRecDepth 100000
set_option maxHeartbeats 8000000
attribute [local go_sem] st0 AC thenA andC locLoadB KsSW_same KsSW_grow oldLoadB noBlkB KsSL_same KsOS_same KsOS_grow pv ev put upd dstOk cv cvc binI setB Value.oneCell' EndA resA resA1 List.mapM_cons List.mapM_nil Option.pure_def Option.bind_eq_bind noLocV noLoc1 noLoc noLocs plainV cellsA newVarA putCells condA lam0 inBlockA cur lenA rowA writeA dstA appendC appendZ mapPut mapGet avoidsB avoidB clearB Array.toList_append Op.operands Call.operands newSlot Nat.zero_add Nat.add_zero Nat.succ_ne_self Nat.lt_add_one Nat.zero_lt_succ true_and and_true true_or or_true false_or or_false and_self true_implies forall_const Bool.false_eq_true Bool.true_eq_false false_implies implies_true imp_self ne_eq not_false_eq_true not_true_eq_false false_and and_false List.getElem?_toArray List.getElem?_cons_succ List.getElem?_cons_zero Option.bind_some Option.map_some Bool.not_true Bool.not_false List.getD_cons_zero List.getD_cons_succ Option.some.injEq exists_eq_left' AV.bool.injEq List.map_cons List.map_nil List.all_cons List.all_nil Bool.and_self Bool.and_true Bool.true_and List.append_nil List.cons_append List.nil_append List.length_cons List.length_nil List.drop_zero List.take_zero List.drop_succ_cons List.take_succ_cons List.take_nil List.drop_nil List.not_mem_nil List.mem_cons List.contains_nil List.contains_cons Bool.or_self Bool.or_true Bool.true_or Bool.false_or Bool.or_false Bool.and_false Bool.false_and KsS_same KsS_grow skipV KsS_ext KsSW_ext KsOS_ext rep1 rep2 rep3 rep4 rep5 List.flatten_cons List.flatten_nil partsA isPtr fillA List.size_toArray ltT ltF leT leF ltTn ltFn leTn leFn eqTi eqFi wrapId toNat1 intGet boolGet memD app_get app_last app_lst app_set app_setL app_setF set_ne set_eq gt_iff_lt ge_iff_le decide_eq_true_eq len2 len3 get20 get21 drop2 put2 get30 get31 get32 drop3 put3 putI pairEta bneTi bneFi beqTi beqFi bne_eq_false_iff_eq beq_eq_false_iff_ne beq_iff_eq bne_iff_ne Int.toNat_natCast Nat.mul_one List.length_map Bool.not_eq_true Bool.not_eq_false Bool.decide_eq_true decide_true decide_false Bool.not_eq_true' Bool.not_eq_false' decide_eq_false_iff_not eq_self Decidable.not_not
attribute [local go_sem ↓] skipC exitC retC seqC blockC condC regC drawC drawStep AOpC AOpF AOpE AEff contE_at contC_at keepC_at keepW_at keepO_at keepL_at map_parts
attribute [local go_sem] reduceCtorEq Nat.reduceLT Nat.reduceEqDiff Nat.reduceAdd Nat.reduceMul Nat.reduceLeDiff Nat.reduceSub Nat.reduceBEq Nat.reduceBNe Nat.reduceBneDiff Nat.reduceBeqDiff
attribute [local go_sem ↓] reduceIte
attribute [local go_sem] ag_3 ag_34 ag_51 ag_54 ag_56 by_3 by_34 by_51 by_54 by_56 en_3 fi_56_0 fi_56_1 fi_56_2 fi_56_3 fi_56_4 fi_56_5 fi_56_6 in_3 nf_34 nf_51 nf_54 nf_56 pl_34 pl_51 pl_54 pl_56 ps_34 ps_51 ps_54 ps_56 sz_3 sz_34 sz_51 sz_54 sz_56 ze_3 ze_34 ze_51 ze_54 ze_56
theorem share_rest {t p m : Int} (hm : 0 ≤ m ∧ m ≤ 10000000) (ht : 0 ≤ t ∧ t ≤ 1000 * m) (hp : 0 ≤ p ∧ p ≤ m) : t - shareO t p m ≤ 1000 * (m - p) := by
  by_cases h0 : m = 0
  · have : shareO t p m = 0 := by rw [shareO, if_neg (by subst h0; simp [inB])]
    omega
  · have i1 : inB m 1 10000000 = true ∧ inB p 0 m = true ∧ inB t 0 (1000 * m) = true := by simp [inB]; omega
    rw [shareO, if_pos i1, Int.tdiv_eq_ediv_of_nonneg (Int.mul_nonneg ht.1 hp.1)]
    have h1 : t - 1000 * (m - p) ≤ t * p / m := by
      rw [Int.le_ediv_iff_mul_le (by omega)]
      have h2 := Int.mul_le_mul_of_nonneg_right ht.2 (show 0 ≤ m - p by omega)
      rw [Int.mul_sub] at h2
      rw [Int.sub_mul, show 1000 * (m - p) * m = 1000 * m * (m - p) by rw [Int.mul_assoc, Int.mul_assoc, Int.mul_comm (m - p) m]]
      omega
    omega
theorem sum_set : ∀ (l : List Int) (i : Nat) (x : Int), i < l.length → (l.set i x).sum = l.sum - l.getD i 0 + x
  | [], i, x, h => by simp at h
  | a :: l, 0, x, h => by simp; omega
  | a :: l, i + 1, x, h => by
    have := sum_set l i x (by simpa using h)
    simp only [List.set_cons_succ, List.sum_cons, List.getD_cons_succ, this]
    omega
theorem set_ok {r : Int} {l : List Id3} {ms ts bs : List Int} (e1 : okB r l ms ts bs = true) {i : Nat} (hi : i < ms.length) {x t : Int} (hx : 0 ≤ x) (ht : 0 ≤ t ∧ t ≤ 1000 * x) (hs : ms.sum - ms.getD i 0 + x ≤ 10000000) : okB r l (ms.set i x) (ts.set i t) bs = true := by
  obtain ⟨k1, k2, k3, k4, k5, k6, k7, k8⟩ := okT e1
  refine okB_new e1 (by simp) (by simp) (fun j hj => ?_) (by rw [sum_set _ _ _ hi]; exact hs)
  have c := cells_at k7 hj
  rw [getSetD, getSetD]
  by_cases h : i = j
  · subst h
    rw [if_pos ⟨rfl, hj⟩, if_pos ⟨rfl, by omega⟩]
    omega
  · rw [if_neg (fun e => h e.1), if_neg (fun e => h e.1)]
    omega
theorem brd_ok {r : Int} {l : List Id3} {ms ts bs : List Int} {y z w : Int} (e1 : okB r l ms ts bs = true) (hb : brdP y z w) : okB r l (nBrM l ms ts y z w) (nBrT l ms ts y z w) bs = true := by
  obtain ⟨hy, hz, hw⟩ := hb
  obtain ⟨k1, k2, k3, k4, k5, k6, k7, k8⟩ := okT e1
  have hne := mesh_ne k1
  have hJ : ms.length - 1 < ms.length := by omega
  have c := cells_at k7 hJ
  have b := bout_bd (ms := ms) hw (by omega)
  have hb : 0 ≤ bTr ms ts w ∧ bTr ms ts w ≤ ts.getD (ms.length - 1) 0 := by
    have := shareO_le (t := ts.getD (ms.length - 1) 0) (p := bOut ms w) (w := ms.getD (ms.length - 1) 0) (by omega)
    exact this
  have g := share_rest (t := ts.getD (ms.length - 1) 0) (p := bOut ms w) (m := ms.getD (ms.length - 1) 0) (by omega) (by omega) (by omega)
  have hd : bTr ms ts w = shareO (ts.getD (ms.length - 1) 0) (bOut ms w) (ms.getD (ms.length - 1) 0) := rfl
  have e2 : okB r l (bM ms w) (bT ms ts w) bs = true := set_ok e1 hJ (by omega) (by omega) (by omega)
  have hlM : (bM ms w).length = ms.length := by simp [bM]
  have hlT : (bT ms ts w).length = ts.length := by simp [bT]
  obtain ⟨j1, j2, j3, j4, j5, j6, j7, j8⟩ := okT e2
  have c0 := cells_at j7 (i := 0) (by omega)
  have yz := mul_yz (y := y) (z := z) hy hz
  have yz2 : y * z ≤ y * 1000 := Int.mul_le_mul_of_nonneg_left hz.2 hy.1
  rw [nBrM, nBrT]
  by_cases hc : (bM ms w).sum + y ≤ 10000000
  · rw [if_pos hc, if_pos hc]
    exact set_ok e2 (by omega) (by omega) (by omega) (by omega)
  · rw [if_neg hc, if_neg hc]
    exact e2
theorem rain_ok {r : Int} {l : List Id3} {ms ts bs : List Int} {y : Int} (e1 : okB r l ms ts bs = true) (hy : 0 ≤ y ∧ y ≤ 10000) : okB r l (nRnM l ms ts y) (nRnT l ms ts y) bs = true := by
  obtain ⟨k1, k2, k3, k4, k5, k6, k7, k8⟩ := okT e1
  have s2 := addF_all l ms y
  unfold nRnM nRnT
  by_cases hc : rnOK l ms y = true
  · rw [if_pos hc]
    have hs : ms.sum + sumN (partF l y) ms.length ≤ 10000000 := of_decide_eq_true hc
    refine okB_new e1 (by simp) rfl (fun i hi => ?_) (by omega)
    have c := cells_at k7 hi
    have b := partF_bd (l := l) hy i
    rw [mapR_at _ hi]
    unfold addF
    omega
  · rw [if_neg hc]
    exact e1
theorem soak_ok {r : Int} {l : List Id3} {ms ts bs : List Int} {y : Int} (e1 : okB r l ms ts bs = true) (hy : 0 ≤ y ∧ y ≤ 10000) : okB r l (nSkM l ms ts y) (nSkT l ms ts y) bs = true := by
  obtain ⟨k1, k2, k3, k4, k5, k6, k7, k8⟩ := okT e1
  have bd : ∀ i, i < ms.length → (0 ≤ prtF l y i ∧ prtF l y i ≤ 160000) ∧ (0 ≤ skF l ms y i ∧ skF l ms y i ≤ 160000 ∧ skF l ms y i ≤ ms.getD i 0) ∧ (0 ≤ skT l ms ts y i ∧ skT l ms ts y i ≤ 10000000000 ∧ skT l ms ts y i ≤ ts.getD i 0) := fun i hi => by
    have := cells_at k7 hi
    exact sk_bd hy (by omega) (by omega)
  have s1 : (nSkM l ms ts y).sum = ms.sum - sumN (skF l ms y) ms.length := by
    unfold nSkM
    rw [sum_range, sum_getD ms]
    exact sumN_sub (fun i => ms.getD i 0) (skF l ms y) ms.length
  have s3 := sumN_nn (f := skF l ms y) (n := ms.length) fun i hi => (bd i hi).2.1.1
  refine okB_new e1 (nSkM_len _ _ _ _) (nSkT_len _ _ _ _) (fun i hi => ?_) (by omega)
  have b := bd i hi
  have c := cells_at k7 hi
  have e : (nSkM l ms ts y).getD i 0 = skM' l ms y i := mapR_at _ hi
  have f : (nSkT l ms ts y).getD i 0 = skT' l ms ts y i := mapR_at _ (by omega)
  rw [e, f]
  have g := share_rest (t := ts.getD i 0) (p := skF l ms y i) (m := ms.getD i 0) (by omega) (by omega) (by omega)
  have hd : skT l ms ts y i = shareO (ts.getD i 0) (skF l ms y i) (ms.getD i 0) := rfl
  unfold skM' skT'
  omega
theorem dec_ok {r : Int} {l : List Id3} {ms ts bs : List Int} {y : Int} (e1 : okB r l ms ts bs = true) (hy : 0 ≤ y ∧ y ≤ 1000) : okB r l ms ((List.range ts.length).map (decF ts y)) bs = true := by
  obtain ⟨k1, k2, k3, k4, k5, k6, k7, k8⟩ := okT e1
  refine okB_new e1 rfl (mapR_len _ _) (fun i hi => ?_) k8
  have c := cells_at k7 hi
  rw [mapR_at _ (by omega)]
  have h1 : 0 ≤ ts.getD i 0 * y := Int.mul_nonneg (by omega) hy.1
  have h2 : ts.getD i 0 * y ≤ ts.getD i 0 * 1000 := Int.mul_le_mul_of_nonneg_left hy.2 (by omega)
  have h3 : (ts.getD i 0 * y).tdiv 1000 = ts.getD i 0 * y / 1000 := Int.tdiv_eq_ediv_of_nonneg h1
  unfold decF goneF
  rw [h3]
  omega
/-- A macro step: border, rain, soak, decay, sixteen steps, adaptation; and its ledger. -/
def q4M (l : List Id3) (ms ts : List Int) (y z w d e : Int) : List Int := nSkM l (nRnM l (nBrM l ms ts y z w) (nBrT l ms ts y z w) d) (nBrT l ms ts y z w) e
def q4T (l : List Id3) (ms ts : List Int) (y z w d e : Int) : List Int := nSkT l (nRnM l (nBrM l ms ts y z w) (nBrT l ms ts y z w) d) (nBrT l ms ts y z w) e
def q5T (l : List Id3) (ms ts : List Int) (y z w d e f : Int) : List Int := (List.range (q4T l ms ts y z w d e).length).map (decF (q4T l ms ts y z w d e) f)
def q6 (l : List Id3) (ms ts bs : List Int) (y z w d e f : Int) : List Int × List Int := mac l (q4M l ms ts y z w d e) (q5T l ms ts y z w d e f) bs 16
def mcrR (l : List Id3) (ms ts bs : List Int) (y z w d e f g h i k : Int) : List Id3 × List Int × List Int :=
  if 0 < i ∧ (k + 1).tmod i = 0 then adR l (q6 l ms ts bs y z w d e f).1 (q6 l ms ts bs y z w d e f).2 bs g h else (l, (q6 l ms ts bs y z w d e f).1, (q6 l ms ts bs y z w d e f).2)
def ldA (a b : Int × Int × Int × Int) : Int × Int × Int × Int := (IntKind.i64.wrap (a.1 + b.1), IntKind.i64.wrap (a.2.1 + b.2.1), IntKind.i64.wrap (a.2.2.1 + b.2.2.1), IntKind.i64.wrap (a.2.2.2 + b.2.2.2))
def mcrL (l : List Id3) (ms ts : List Int) (y z w d e f : Int) : Int × Int × Int × Int :=
  ldA (ldA (ldA (nBrL l ms ts y z w) (nRnL l (nBrM l ms ts y z w) (nBrT l ms ts y z w) d)) (nSkL l (nRnM l (nBrM l ms ts y z w) (nBrT l ms ts y z w) d) (nBrT l ms ts y z w) e)) (0, 0, 0, sumN (goneF (q4T l ms ts y z w d e) f) (q4T l ms ts y z w d e).length)
theorem q4_ok {r : Int} {l : List Id3} {ms ts bs : List Int} {y z w d e : Int} (e1 : okB r l ms ts bs = true) (hb : brdP y z w) (hd : 0 ≤ d ∧ d ≤ 10000) (he : 0 ≤ e ∧ e ≤ 10000) : okB r l (q4M l ms ts y z w d e) (q4T l ms ts y z w d e) bs = true :=
  soak_ok (rain_ok (brd_ok e1 hb) hd) he
theorem q5_ok {r : Int} {l : List Id3} {ms ts bs : List Int} {y z w d e f : Int} (e1 : okB r l ms ts bs = true) (hb : brdP y z w) (hd : 0 ≤ d ∧ d ≤ 10000) (he : 0 ≤ e ∧ e ≤ 10000) (hf : 0 ≤ f ∧ f ≤ 1000) : okB r l (q4M l ms ts y z w d e) (q5T l ms ts y z w d e f) bs = true :=
  dec_ok (q4_ok e1 hb hd he) hf
theorem q6_ok {r : Int} {l : List Id3} {ms ts bs : List Int} {y z w d e f : Int} (e1 : okB r l ms ts bs = true) (hb : brdP y z w) (hd : 0 ≤ d ∧ d ≤ 10000) (he : 0 ≤ e ∧ e ≤ 10000) (hf : 0 ≤ f ∧ f ≤ 1000) : okB r l (q6 l ms ts bs y z w d e f).1 (q6 l ms ts bs y z w d e f).2 bs = true :=
  mac_ok (q5_ok e1 hb hd he hf) 16
theorem mcr_ok {r : Int} {l : List Id3} {ms ts bs : List Int} {y z w d e f g h i k : Int} (e1 : okB r l ms ts bs = true) (hp : planB y z w d e f g h i = true) : okB r (mcrR l ms ts bs y z w d e f g h i k).1 (mcrR l ms ts bs y z w d e f g h i k).2.1 (mcrR l ms ts bs y z w d e f g h i k).2.2 bs = true := by
  obtain ⟨hb, hd, he, hf, _⟩ := planT hp
  have h6 := q6_ok e1 hb hd he hf
  unfold mcrR
  generalize q6 l ms ts bs y z w d e f = x at *
  split
  · exact adR_ok h6
  · exact h6

def SMcQ : List AV → List Blk → (AV → List Blk → Prop) → Prop
  | [.agg [.int .i64 r, v, a, b, c], .agg [.int .i64 y, .int .i64 z, .int .i64 w, .int .i64 d, .int .i64 e, .int .i64 f, .int .i64 g, .int .i64 hh, .int .i64 i], .int .i64 k], η, K => ∃ (l : List Id3) (ms ts bs : List Int), ((IsR 69 3 enc3 η v l ∧ IsI η a ms ∧ IsI η b ts ∧ IsI η c bs) ∧ okB r l ms ts bs = true ∧ planB y z w d e f g hh i = true ∧ 0 ≤ k ∧ k ≤ 1000000) ∧
      ∀ H b0 b1 b2 b3 v0 v1 v2 v3, New4 η.length H b0 b1 b2 b3 v0 v1 v2 v3 (mcrR l ms ts bs y z w d e f g hh i k).1 (mcrR l ms ts bs y z w d e f g hh i k).2.1 (mcrR l ms ts bs y z w d e f g hh i k).2.2 bs → Ext η H → K (.tup [.agg [.int .i64 r, .sl b0 v0 0 (mcrR l ms ts bs y z w d e f g hh i k).1.length, .sl b1 v1 0 (mcrR l ms ts bs y z w d e f g hh i k).2.1.length, .sl b2 v2 0 (mcrR l ms ts bs y z w d e f g hh i k).2.2.length, .sl b3 v3 0 bs.length], .agg [.int .i64 (mcrL l ms ts y z w d e f).1, .int .i64 (mcrL l ms ts y z w d e f).2.1, .int .i64 (mcrL l ms ts y z w d e f).2.2.1, .int .i64 (mcrL l ms ts y z w d e f).2.2.2]]) H
  | _, _, _ => False
def SMcP (lo : Nat) : List AV → List Blk → (AV → List Blk → Prop) → Prop
  | [.ptr p 0 0, .agg [.int .i64 y, .int .i64 z, .int .i64 w, .int .i64 d, .int .i64 e, .int .i64 f, .int .i64 g, .int .i64 hh, .int .i64 i], .int .i64 k], η, K => ∃ (n : Nat) (r : Int) (b0 b1 b2 b3 v0 v1 v2 v3 : Nat) (l : List Id3) (ms ts bs : List Int), lo ≤ n ∧ PtrS n p η r b0 b1 b2 b3 v0 v1 v2 v3 l ms ts bs ∧ (okB r l ms ts bs = true ∧ planB y z w d e f g hh i = true ∧ 0 ≤ k ∧ k ≤ 1000000) ∧
      ∀ H c0 c1 c2 u0 u1 u2, PtrS n p H r c0 c1 c2 b3 u0 u1 u2 v3 (mcrR l ms ts bs y z w d e f g hh i k).1 (mcrR l ms ts bs y z w d e f g hh i k).2.1 (mcrR l ms ts bs y z w d e f g hh i k).2.2 bs → Keep n η H → K (.agg [.int .i64 (mcrL l ms ts y z w d e f).1, .int .i64 (mcrL l ms ts y z w d e f).2.1, .int .i64 (mcrL l ms ts y z w d e f).2.2.1, .int .i64 (mcrL l ms ts y z w d e f).2.2.2]) H
  | _, _, _ => False
theorem KLd {K : AV → List Blk → Prop} {H : List Blk} {s : AV} {a b c d a' b' c' d' : Int} (h : K (.tup [s, .agg [.int .i64 a, .int .i64 b, .int .i64 c, .int .i64 d]]) H) (e1 : a = a') (e2 : b = b') (e3 : c = c') (e4 : d = d') : K (.tup [s, .agg [.int .i64 a', .int .i64 b', .int .i64 c', .int .i64 d']]) H := by
  subst e1 e2 e3 e4; exact h
theorem KLe {K : AV → List Blk → Prop} {H : List Blk} {a b c d a' b' c' d' : Int} (h : K (.agg [.int .i64 a, .int .i64 b, .int .i64 c, .int .i64 d]) H) (e1 : a = a') (e2 : b = b') (e3 : c = c') (e4 : d = d') : K (.agg [.int .i64 a', .int .i64 b', .int .i64 c', .int .i64 d']) H := by
  subst e1 e2 e3 e4; exact h
theorem remB {k i : Int} (hk : 0 ≤ k) (hi : 0 < i ∧ i ≤ 100) : 0 ≤ (k + 1).tmod i ∧ (k + 1).tmod i ≤ 100 := by
  rw [Int.tmod_eq_emod_of_nonneg (by omega)]
  have h1 := Int.emod_nonneg (k + 1) (show i ≠ 0 by omega)
  have h2 := Int.emod_lt_of_pos (k + 1) hi.1
  omega

/- (*impl.State).runMacro -/
def Sp60 (lo : Nat) : Spec := fun g args η K => match g with | 53 => SAda lo args η K | 63 => SAdd args η K | 102 => SBrP lo args η K | 103 => SRnP lo args η K | 104 => SSkP lo args η K | 105 => SDecP lo args η K | 106 => SMac lo args η K | _ => False
theorem Sp60_ok {lo : Nat} : Sound Tryz.prog lo (Sp60 lo) := by
  intro g args η K h
  unfold Sp60 at h
  split at h
  · exact .inl (f53_ok h)
  · exact .inl (f63_ok h)
  · exact .inl (f102_ok h)
  · exact .inl (f103_ok h)
  · exact .inl (f104_ok h)
  · exact .inl (f105_ok h)
  · exact .inl (f106_ok h)
  · exact h.elim
def Dr60 : Draws := fun id => match id with | 2 => ([0, 0, 0, 4, 14, 31, 63], [3004], [(3000, 0)], (.one 0 (.one 1 (.one 2 (.one 3 (.one 4 (.one 5 (.one 6 .nil)))))))) | 3 => ([0, 0, 0, 4, 14, 31, 63], [3004], [(3000, 0)], (.one 0 (.one 1 (.one 2 (.one 3 (.one 4 (.one 5 (.one 6 .nil)))))))) | 4 => ([0, 0, 0, 4, 14, 31, 63], [3004], [(3000, 0)], (.one 0 (.one 1 (.one 2 (.one 3 (.one 4 (.one 5 (.one 6 .nil)))))))) | _ => ([], [], [], .nil)
theorem f60_ok {lo : Nat} {args : List AV} {η : List Blk} {K : AV → List Blk → Prop} (h : SMcP lo args η K) : AF Tryz.prog lo 60 args η K := by
  unfold SMcP at h
  split at h
  · obtain ⟨n, r, b0, b1, b2, b3, v0, v1, v2, v3, l, ms, ts, bs, hn, hP, ⟨e1, hp, hk0, hk1⟩, hK⟩ := h
    rename_i p y z w d e f g hh i k
    obtain ⟨pb, pd, pe, pf, pi⟩ := planT hp
    have o1 := brd_ok e1 pb
    have o2 := rain_ok o1 pd
    have o3 := soak_ok o2 pe
    have o4 := dec_ok o3 pf
    have hR : mcrR l ms ts bs y z w d e f g hh i k = if 0 < i ∧ (k + 1).tmod i = 0 then adR l (mac l (nSkM l (nRnM l (nBrM l ms ts y z w) (nBrT l ms ts y z w) d) (nRnT l (nBrM l ms ts y z w) (nBrT l ms ts y z w) d) e) ((List.range (nSkT l (nRnM l (nBrM l ms ts y z w) (nBrT l ms ts y z w) d) (nRnT l (nBrM l ms ts y z w) (nBrT l ms ts y z w) d) e).length).map (decF (nSkT l (nRnM l (nBrM l ms ts y z w) (nBrT l ms ts y z w) d) (nRnT l (nBrM l ms ts y z w) (nBrT l ms ts y z w) d) e) f)) bs 16).1 (mac l (nSkM l (nRnM l (nBrM l ms ts y z w) (nBrT l ms ts y z w) d) (nRnT l (nBrM l ms ts y z w) (nBrT l ms ts y z w) d) e) ((List.range (nSkT l (nRnM l (nBrM l ms ts y z w) (nBrT l ms ts y z w) d) (nRnT l (nBrM l ms ts y z w) (nBrT l ms ts y z w) d) e).length).map (decF (nSkT l (nRnM l (nBrM l ms ts y z w) (nBrT l ms ts y z w) d) (nRnT l (nBrM l ms ts y z w) (nBrT l ms ts y z w) d) e) f)) bs 16).2 bs g hh else (l, (mac l (nSkM l (nRnM l (nBrM l ms ts y z w) (nBrT l ms ts y z w) d) (nRnT l (nBrM l ms ts y z w) (nBrT l ms ts y z w) d) e) ((List.range (nSkT l (nRnM l (nBrM l ms ts y z w) (nBrT l ms ts y z w) d) (nRnT l (nBrM l ms ts y z w) (nBrT l ms ts y z w) d) e).length).map (decF (nSkT l (nRnM l (nBrM l ms ts y z w) (nBrT l ms ts y z w) d) (nRnT l (nBrM l ms ts y z w) (nBrT l ms ts y z w) d) e) f)) bs 16).1, (mac l (nSkM l (nRnM l (nBrM l ms ts y z w) (nBrT l ms ts y z w) d) (nRnT l (nBrM l ms ts y z w) (nBrT l ms ts y z w) d) e) ((List.range (nSkT l (nRnM l (nBrM l ms ts y z w) (nBrT l ms ts y z w) d) (nRnT l (nBrM l ms ts y z w) (nBrT l ms ts y z w) d) e).length).map (decF (nSkT l (nRnM l (nBrM l ms ts y z w) (nBrT l ms ts y z w) d) (nRnT l (nBrM l ms ts y z w) (nBrT l ms ts y z w) d) e) f)) bs 16).2) := rfl
    have hL : mcrL l ms ts y z w d e f = ldA (ldA (ldA (nBrL l ms ts y z w) (nRnL l (nBrM l ms ts y z w) (nBrT l ms ts y z w) d)) (nSkL l (nRnM l (nBrM l ms ts y z w) (nBrT l ms ts y z w) d) (nRnT l (nBrM l ms ts y z w) (nBrT l ms ts y z w) d) e)) (0, 0, 0, sumN (goneF (nSkT l (nRnM l (nBrM l ms ts y z w) (nBrT l ms ts y z w) d) (nRnT l (nBrM l ms ts y z w) (nBrT l ms ts y z w) d) e) f) (nSkT l (nRnM l (nBrM l ms ts y z w) (nBrT l ms ts y z w) d) (nRnT l (nBrM l ms ts y z w) (nBrT l ms ts y z w) d) e).length) := rfl
    obtain ⟨m1, hm1⟩ : ∃ m1, nBrM l ms ts y z w = m1 := ⟨_, rfl⟩
    obtain ⟨T1, ht1⟩ : ∃ T1, nBrT l ms ts y z w = T1 := ⟨_, rfl⟩
    obtain ⟨⟨a0, a1, a2, a3⟩, hla⟩ : ∃ a, nBrL l ms ts y z w = a := ⟨_, rfl⟩
    rw [hm1, ht1] at o1 o2 o3 o4 hR hL
    obtain ⟨m2, hm2⟩ : ∃ m2, nRnM l m1 T1 d = m2 := ⟨_, rfl⟩
    obtain ⟨T2, ht2⟩ : ∃ T2, nRnT l m1 T1 d = T2 := ⟨_, rfl⟩
    obtain ⟨⟨d0, d1, d2, d3⟩, hld⟩ : ∃ a, nRnL l m1 T1 d = a := ⟨_, rfl⟩
    rw [hm2, ht2] at o2 o3 o4 hR hL
    obtain ⟨m3, hm3⟩ : ∃ m3, nSkM l m2 T2 e = m3 := ⟨_, rfl⟩
    obtain ⟨T3, ht3⟩ : ∃ T3, nSkT l m2 T2 e = T3 := ⟨_, rfl⟩
    obtain ⟨⟨f0, f1, f2, f3⟩, hlf⟩ : ∃ a, nSkL l m2 T2 e = a := ⟨_, rfl⟩
    rw [hm3, ht3] at o3 o4 hR
    rw [ht3] at hL
    obtain ⟨T4, ht4⟩ : ∃ T4, (List.range T3.length).map (decF T3 f) = T4 := ⟨_, rfl⟩
    obtain ⟨Z, hZ⟩ : ∃ Z, sumN (goneF T3 f) T3.length = Z := ⟨_, rfl⟩
    rw [ht4] at o4 hR
    rw [hla, hld, hlf, hZ] at hL
    have o5 := mac_ok o4 16
    obtain ⟨⟨M, T⟩, hMT⟩ : ∃ x, mac l m3 T4 bs 16 = x := ⟨_, rfl⟩
    rw [hMT] at hR o5
    simp only [ldA] at hL
    dsimp only at hR o5
    have kN : Keep n η η := ⟨by have := hP.np; have := blt hP.pb; omega, fun _ _ => rfl⟩
    refine AF_run Sp60_ok Dr60 [] [.cell 6 51] hm Tryz.func60 rfl (by decide) Tryz.ntmps60 rfl (by kernel_rfl) (Nat.le_of_ble_eq_true rfl) ?_; intro hlo
    repeat' (first | with_reducible refine iteI (fun _ => ?_) (fun _ => ?_) | ((first | unfold AOpsC | unfold AOpsD | skip); simp (maxSteps := 1000000) (disch := (first | omega | assumption | (simp only [List.length_append, List.length_cons, List.length_nil, List.length_set]; omega))) only [go_sem, Sp60, SAdd, Dr60]))
    unfold SBrP
    refine ⟨n, r, b0, b1, b2, b3, v0, v1, v2, v3, l, ms, ts, bs, hn, hP, e1, pb, fun H1 hP1 x1 => ?_⟩
    rw [hm1, ht1] at hP1
    rw [hla]
    replace kN := kN.touch x1 fun c hc => hP.low hc
    repeat' (first | with_reducible refine iteI (fun _ => ?_) (fun _ => ?_) | ((first | unfold AOpsC | unfold AOpsD | skip); simp (maxSteps := 1000000) (disch := (first | omega | assumption | (simp only [List.length_append, List.length_cons, List.length_nil, List.length_set]; omega))) only [go_sem, Sp60, SAdd, Dr60]))
    unfold SRnP
    refine ⟨n, r, b0, b1, b2, b3, v0, v1, v2, v3, l, m1, T1, bs, hn, hP1, o1, pd, fun H2 hP2 x2 => ?_⟩
    rw [hm2, ht2] at hP2
    rw [hld]
    replace kN := kN.touch x2 fun c hc => hP1.low hc
    repeat' (first | with_reducible refine iteI (fun _ => ?_) (fun _ => ?_) | ((first | unfold AOpsC | unfold AOpsD | skip); simp (maxSteps := 1000000) (disch := (first | omega | assumption | (simp only [List.length_append, List.length_cons, List.length_nil, List.length_set]; omega))) only [go_sem, Sp60, SAdd, Dr60]))
    unfold SSkP
    refine ⟨n, r, b0, b1, b2, b3, v0, v1, v2, v3, l, m2, T2, bs, hn, hP2, o2, pe, fun H3 hP3 x3 => ?_⟩
    rw [hm3, ht3] at hP3
    rw [hlf]
    replace kN := kN.touch x3 fun c hc => hP2.low hc
    repeat' (first | with_reducible refine iteI (fun _ => ?_) (fun _ => ?_) | ((first | unfold AOpsC | unfold AOpsD | skip); simp (maxSteps := 1000000) (disch := (first | omega | assumption | (simp only [List.length_append, List.length_cons, List.length_nil, List.length_set]; omega))) only [go_sem, Sp60, SAdd, Dr60]))
    unfold SDecP
    refine ⟨n, r, b0, b1, b2, b3, v0, v1, v2, v3, l, m3, T3, bs, hn, hP3, o3, pf, fun H4 hP4 x4 => ?_⟩
    rw [ht4] at hP4
    rw [hZ]
    replace kN := kN.touch x4 fun c hc => hP3.low hc
    repeat' (first | with_reducible refine iteI (fun _ => ?_) (fun _ => ?_) | ((first | unfold AOpsC | unfold AOpsD | skip); simp (maxSteps := 1000000) (disch := (first | omega | assumption | (simp only [List.length_append, List.length_cons, List.length_nil, List.length_set]; omega))) only [go_sem, Sp60, SAdd, Dr60]))
    unfold SMac
    refine ⟨n, r, b0, b1, b2, b3, v0, v1, v2, v3, l, m3, T4, bs, hn, hP4, o4, fun H5 hP5 x5 => ?_⟩
    rw [hMT] at hP5
    dsimp only at hP5
    replace kN := kN.touch x5 fun c hc => hP4.low hc
    by_cases hi : 0 < i
    · have hrb := remB hk0 ⟨hi, pi.2⟩
      by_cases hm : (k + 1).tmod i = 0
      · rw [if_pos ⟨hi, hm⟩] at hR
        repeat' (first | with_reducible refine iteI (fun _ => ?_) (fun _ => ?_) | ((first | unfold AOpsC | unfold AOpsD | skip); simp (maxSteps := 1000000) (disch := (first | omega | assumption | (simp only [List.length_append, List.length_cons, List.length_nil, List.length_set]; omega))) only [go_sem, Sp60, SAdd, Dr60, hm]))
        unfold SAda
        refine ⟨n, r, b0, b1, b2, b3, v0, v1, v2, v3, l, _, _, bs, hn, hP5, o5, fun H6 c0 c1 c2 u0 u1 u2 hP6 k6 => ?_⟩
        rw [← hR] at hP6
        repeat' (first | with_reducible refine iteI (fun _ => ?_) (fun _ => ?_) | ((first | unfold AOpsC | unfold AOpsD | skip); simp (maxSteps := 1000000) (disch := (first | omega | assumption | (simp only [List.length_append, List.length_cons, List.length_nil, List.length_set]; omega))) only [go_sem, Sp60, SAdd, Dr60]))
        have hk := hK _ _ _ _ _ _ _ hP6 (kN.trans k6)
        rw [hL] at hk
        exact KLe hk (by simp only [IntKind.wrap_i64] <;> omega) (by simp only [IntKind.wrap_i64] <;> omega) (by simp only [IntKind.wrap_i64] <;> omega) (by simp only [IntKind.wrap_i64] <;> omega)
      · rw [if_neg (fun h => hm h.2)] at hR
        repeat' (first | with_reducible refine iteI (fun _ => ?_) (fun _ => ?_) | ((first | unfold AOpsC | unfold AOpsD | skip); simp (maxSteps := 1000000) (disch := (first | omega | assumption | (simp only [List.length_append, List.length_cons, List.length_nil, List.length_set]; omega))) only [go_sem, Sp60, SAdd, Dr60, hm]))
        have hk := hK H5 b0 b1 b2 v0 v1 v2 (by rw [hR]; exact hP5) kN
        rw [hL] at hk
        exact KLe hk (by simp only [IntKind.wrap_i64] <;> omega) (by simp only [IntKind.wrap_i64] <;> omega) (by simp only [IntKind.wrap_i64] <;> omega) (by simp only [IntKind.wrap_i64] <;> omega)
    · rw [if_neg (fun h => hi h.1)] at hR
      repeat' (first | with_reducible refine iteI (fun _ => ?_) (fun _ => ?_) | ((first | unfold AOpsC | unfold AOpsD | skip); simp (maxSteps := 1000000) (disch := (first | omega | assumption | (simp only [List.length_append, List.length_cons, List.length_nil, List.length_set]; omega))) only [go_sem, Sp60, SAdd, Dr60, hi]))
      have hk := hK H5 b0 b1 b2 v0 v1 v2 (by rw [hR]; exact hP5) kN
      rw [hL] at hk
      exact KLe hk (by simp only [IntKind.wrap_i64] <;> omega) (by simp only [IntKind.wrap_i64] <;> omega) (by simp only [IntKind.wrap_i64] <;> omega) (by simp only [IntKind.wrap_i64] <;> omega)
  · exact h.elim

def invMcQ (η : List Blk) (r : Int) (l : List Id3) (m3 T4 bs : List Int) (nm nt : Nat) (y z w d e f g hh evy k X0 X1 X2 X3 : Int) (st : St) : Prop := ∃ i : Nat, ∃ H : List Blk, ∃ q0 : Nat, ∃ q1 : Nat, ∃ q2 : Nat, ∃ q3 : Nat, ∃ u0 : Nat, ∃ u1 : Nat, ∃ u2 : Nat, ∃ u3 : Nat, (i ≤ 16) ∧ (Ext η H) ∧ (New4 η.length H q0 q1 q2 q3 u0 u1 u2 u3 l (mac l m3 T4 bs i).1 (mac l m3 T4 bs i).2 bs) ∧ st.n = 79 ∧ st.τ 2 = .int .i64 k ∧ st.τ 4 = .loc 4 1 0 ∧ st.τ 6 = .loc 6 1 0 ∧ st.τ 7 = .loc 7 1 0 ∧ st.τ 8 = .loc 8 1 0 ∧ st.τ 9 = .loc 9 1 0 ∧ st.τ 16 = .int .i64 i ∧ st.lam 4 = ⟨1, [.int .i64 y, .int .i64 z, .int .i64 w, .int .i64 d, .int .i64 e, .int .i64 f, .int .i64 g, .int .i64 hh, .int .i64 evy]⟩ ∧ st.lam 6 = ⟨1, [.int .i64 0, .nils, .nils, .nils, .nils]⟩ ∧ st.lam 7 = ⟨1, [.int .i64 0, .int .i64 0, .int .i64 0, .int .i64 0]⟩ ∧ st.lam 8 = ⟨1, [.int .i64 r, .sl q0 u0 0 l.length, .sl q1 u1 0 nm, .sl q2 u2 0 nt, .sl q3 u3 0 bs.length]⟩ ∧ st.lam 9 = ⟨1, [.int .i64 X0, .int .i64 X1, .int .i64 X2, .int .i64 X3]⟩ ∧ st.η = H

/- spec.l18Macro -/
def Sp56 (lo : Nat) : Spec := fun g args η K => match g with | 52 => SAdS args η K | 61 => SAdd args η K | 94 => SBrQ args η K | 95 => SRnQ args η K | 96 => SSkQ args η K | 97 => SDecQ args η K | 98 => SStepQ args η K | _ => False
theorem Sp56_ok {lo : Nat} : Sound Tryz.prog lo (Sp56 lo) := by
  intro g args η K h
  unfold Sp56 at h
  split at h
  · exact .inl (f52_ok h)
  · exact .inl (f61_ok h)
  · exact .inl (f94_ok h)
  · exact .inl (f95_ok h)
  · exact .inl (f96_ok h)
  · exact .inl (f97_ok h)
  · exact .inl (f98_ok h)
  · exact h.elim
def Dr56 : Draws := fun id => match id with | 5 => ([0, 0, 3, 0, 0, 31, 63, 127], [2], [], (.one 0 (.one 1 (.one 3 (.one 4 (.one 2 (.one 5 (.one 6 (.one 7 .nil))))))))) | 13 => ([0, 0, 1, 7], [], [], (.one 0 (.two 1 2 (.one 2 (.one 3 .nil)) (.one 1 (.one 3 .nil))))) | _ => ([], [], [], .nil)
theorem f56_ok {lo : Nat} {args : List AV} {η : List Blk} {K : AV → List Blk → Prop} (h : SMcQ args η K) : AF Tryz.prog lo 56 args η K := by
  unfold SMcQ at h
  split at h
  · obtain ⟨l, ms, ts, bs, ⟨⟨hr, ha, hb, hc⟩, e1, hp, hk0, hk1⟩, hK⟩ := h
    rename_i r _ _ _ _ y z w d e f g hh i k
    obtain ⟨b0, v0, rfl, hb0⟩ := hr
    obtain ⟨b1, v1, rfl, hb1⟩ := ha
    obtain ⟨b2, v2, rfl, hb2⟩ := hb
    obtain ⟨b3, v3, rfl, hb3⟩ := hc
    have kl := okT e1
    have hln := mesh_len kl.1
    obtain ⟨pb, pd, pe, pf, pi⟩ := planT hp
    have o1 := brd_ok e1 pb
    have o2 := rain_ok o1 pd
    have o3 := soak_ok o2 pe
    have o4 := dec_ok o3 pf
    have hR : mcrR l ms ts bs y z w d e f g hh i k = if 0 < i ∧ (k + 1).tmod i = 0 then adR l (mac l (nSkM l (nRnM l (nBrM l ms ts y z w) (nBrT l ms ts y z w) d) (nRnT l (nBrM l ms ts y z w) (nBrT l ms ts y z w) d) e) ((List.range (nSkT l (nRnM l (nBrM l ms ts y z w) (nBrT l ms ts y z w) d) (nRnT l (nBrM l ms ts y z w) (nBrT l ms ts y z w) d) e).length).map (decF (nSkT l (nRnM l (nBrM l ms ts y z w) (nBrT l ms ts y z w) d) (nRnT l (nBrM l ms ts y z w) (nBrT l ms ts y z w) d) e) f)) bs 16).1 (mac l (nSkM l (nRnM l (nBrM l ms ts y z w) (nBrT l ms ts y z w) d) (nRnT l (nBrM l ms ts y z w) (nBrT l ms ts y z w) d) e) ((List.range (nSkT l (nRnM l (nBrM l ms ts y z w) (nBrT l ms ts y z w) d) (nRnT l (nBrM l ms ts y z w) (nBrT l ms ts y z w) d) e).length).map (decF (nSkT l (nRnM l (nBrM l ms ts y z w) (nBrT l ms ts y z w) d) (nRnT l (nBrM l ms ts y z w) (nBrT l ms ts y z w) d) e) f)) bs 16).2 bs g hh else (l, (mac l (nSkM l (nRnM l (nBrM l ms ts y z w) (nBrT l ms ts y z w) d) (nRnT l (nBrM l ms ts y z w) (nBrT l ms ts y z w) d) e) ((List.range (nSkT l (nRnM l (nBrM l ms ts y z w) (nBrT l ms ts y z w) d) (nRnT l (nBrM l ms ts y z w) (nBrT l ms ts y z w) d) e).length).map (decF (nSkT l (nRnM l (nBrM l ms ts y z w) (nBrT l ms ts y z w) d) (nRnT l (nBrM l ms ts y z w) (nBrT l ms ts y z w) d) e) f)) bs 16).1, (mac l (nSkM l (nRnM l (nBrM l ms ts y z w) (nBrT l ms ts y z w) d) (nRnT l (nBrM l ms ts y z w) (nBrT l ms ts y z w) d) e) ((List.range (nSkT l (nRnM l (nBrM l ms ts y z w) (nBrT l ms ts y z w) d) (nRnT l (nBrM l ms ts y z w) (nBrT l ms ts y z w) d) e).length).map (decF (nSkT l (nRnM l (nBrM l ms ts y z w) (nBrT l ms ts y z w) d) (nRnT l (nBrM l ms ts y z w) (nBrT l ms ts y z w) d) e) f)) bs 16).2) := rfl
    have hL : mcrL l ms ts y z w d e f = ldA (ldA (ldA (nBrL l ms ts y z w) (nRnL l (nBrM l ms ts y z w) (nBrT l ms ts y z w) d)) (nSkL l (nRnM l (nBrM l ms ts y z w) (nBrT l ms ts y z w) d) (nRnT l (nBrM l ms ts y z w) (nBrT l ms ts y z w) d) e)) (0, 0, 0, sumN (goneF (nSkT l (nRnM l (nBrM l ms ts y z w) (nBrT l ms ts y z w) d) (nRnT l (nBrM l ms ts y z w) (nBrT l ms ts y z w) d) e) f) (nSkT l (nRnM l (nBrM l ms ts y z w) (nBrT l ms ts y z w) d) (nRnT l (nBrM l ms ts y z w) (nBrT l ms ts y z w) d) e).length) := rfl
    obtain ⟨m1, hm1⟩ : ∃ m1, nBrM l ms ts y z w = m1 := ⟨_, rfl⟩
    obtain ⟨T1, ht1⟩ : ∃ T1, nBrT l ms ts y z w = T1 := ⟨_, rfl⟩
    obtain ⟨⟨a0, a1, a2, a3⟩, hla⟩ : ∃ a, nBrL l ms ts y z w = a := ⟨_, rfl⟩
    rw [hm1, ht1] at o1 o2 o3 o4 hR hL
    obtain ⟨m2, hm2⟩ : ∃ m2, nRnM l m1 T1 d = m2 := ⟨_, rfl⟩
    obtain ⟨T2, ht2⟩ : ∃ T2, nRnT l m1 T1 d = T2 := ⟨_, rfl⟩
    obtain ⟨⟨d0, d1, d2, d3⟩, hld⟩ : ∃ a, nRnL l m1 T1 d = a := ⟨_, rfl⟩
    rw [hm2, ht2] at o2 o3 o4 hR hL
    obtain ⟨m3, hm3⟩ : ∃ m3, nSkM l m2 T2 e = m3 := ⟨_, rfl⟩
    obtain ⟨T3, ht3⟩ : ∃ T3, nSkT l m2 T2 e = T3 := ⟨_, rfl⟩
    obtain ⟨⟨f0, f1, f2, f3⟩, hlf⟩ : ∃ a, nSkL l m2 T2 e = a := ⟨_, rfl⟩
    rw [hm3, ht3] at o3 o4 hR
    rw [ht3] at hL
    obtain ⟨T4, ht4⟩ : ∃ T4, (List.range T3.length).map (decF T3 f) = T4 := ⟨_, rfl⟩
    obtain ⟨Z, hZ⟩ : ∃ Z, sumN (goneF T3 f) T3.length = Z := ⟨_, rfl⟩
    rw [ht4] at o4 hR
    rw [hla, hld, hlf, hZ] at hL
    have o5 := mac_ok o4 16
    obtain ⟨⟨M, T⟩, hMT⟩ : ∃ x, mac l m3 T4 bs 16 = x := ⟨_, rfl⟩
    rw [hMT] at hR o5
    simp only [ldA] at hL
    dsimp only at hR o5
    have j1 := okT o1
    have j2 := okT o2
    have j3 := okT o3
    have j4 := okT o4
    have j5 := okT o5
    have nm1 : m1.length = ms.length := j1.2.2.1.trans kl.2.2.1.symm
    have nm2 : m2.length = ms.length := j2.2.2.1.trans kl.2.2.1.symm
    have nm3 : m3.length = ms.length := j3.2.2.1.trans kl.2.2.1.symm
    have nM : M.length = ms.length := j5.2.2.1.trans kl.2.2.1.symm
    have nt1 : T1.length = ts.length := j1.2.2.2.1.trans kl.2.2.2.1.symm
    have nt2 : T2.length = ts.length := j2.2.2.2.1.trans kl.2.2.2.1.symm
    have nt3 : T3.length = ts.length := j3.2.2.2.1.trans kl.2.2.2.1.symm
    have nt4 : T4.length = ts.length := j4.2.2.2.1.trans kl.2.2.2.1.symm
    have nT : T.length = ts.length := j5.2.2.2.1.trans kl.2.2.2.1.symm
    refine AF_run Sp56_ok Dr56 [] [.cell 6 34, .cell 7 51] hm Tryz.func56 rfl (by decide) Tryz.ntmps56 rfl (by kernel_rfl) (Nat.le_of_ble_eq_true rfl) ?_; intro hlo
    repeat' (first | with_reducible refine iteI (fun _ => ?_) (fun _ => ?_) | ((first | unfold AOpsC | unfold AOpsD | skip); simp (maxSteps := 1000000) (disch := (first | omega | assumption | (simp only [List.length_append, List.length_cons, List.length_nil, List.length_set]; omega))) only [go_sem, Sp56, SAdd, Dr56]))
    unfold SBrQ
    refine ⟨l, ms, ts, bs, ⟨⟨⟨b0, v0, rfl, hb0⟩, ⟨b1, v1, rfl, hb1⟩, ⟨b2, v2, rfl, hb2⟩, ⟨b3, v3, rfl, hb3⟩⟩, e1, pb⟩, fun H1 p0 p1 p2 p3 w0 w1 w2 w3 hN1 x1 => ?_⟩
    rw [hm1, ht1] at hN1
    rw [hla]
    repeat' (first | with_reducible refine iteI (fun _ => ?_) (fun _ => ?_) | ((first | unfold AOpsC | unfold AOpsD | skip); simp (maxSteps := 1000000) (disch := (first | omega | assumption | (simp only [List.length_append, List.length_cons, List.length_nil, List.length_set]; omega))) only [go_sem, Sp56, SAdd, Dr56]))
    unfold SRnQ
    refine ⟨l, m1, T1, bs, ⟨⟨⟨p0, w0, rfl, hN1.g0⟩, ⟨p1, w1, by rw [nm1], hN1.g1⟩, ⟨p2, w2, by rw [nt1], hN1.g2⟩, ⟨p3, w3, rfl, hN1.g3⟩⟩, o1, pd⟩, fun H2 q0 q1 q2 q3 x0 y1 y2 y3 hN2 x2 => ?_⟩
    rw [hm2, ht2] at hN2
    rw [hld, nm1, nt1]
    repeat' (first | with_reducible refine iteI (fun _ => ?_) (fun _ => ?_) | ((first | unfold AOpsC | unfold AOpsD | skip); simp (maxSteps := 1000000) (disch := (first | omega | assumption | (simp only [List.length_append, List.length_cons, List.length_nil, List.length_set]; omega))) only [go_sem, Sp56, SAdd, Dr56]))
    unfold SSkQ
    refine ⟨l, m2, T2, bs, ⟨⟨⟨q0, x0, rfl, hN2.g0⟩, ⟨q1, y1, by rw [nm2], hN2.g1⟩, ⟨q2, y2, by rw [nt2], hN2.g2⟩, ⟨q3, y3, rfl, hN2.g3⟩⟩, o2, pe⟩, fun H3 r0 r1 r2 r3 z0 z1 z2 z3' hN3 x3 => ?_⟩
    rw [hm3, ht3] at hN3
    rw [hlf, nm2, nt2]
    repeat' (first | with_reducible refine iteI (fun _ => ?_) (fun _ => ?_) | ((first | unfold AOpsC | unfold AOpsD | skip); simp (maxSteps := 1000000) (disch := (first | omega | assumption | (simp only [List.length_append, List.length_cons, List.length_nil, List.length_set]; omega))) only [go_sem, Sp56, SAdd, Dr56]))
    have D1 : dec3 69 H3 (.sl r0 z0 0 l.length) = l := IsR.dec3 ⟨r0, z0, rfl, hN3.g0⟩
    have D2 : decI H3 (.sl r1 z1 0 ms.length) = m3 := IsI.dec ⟨r1, z1, by rw [nm3], hN3.g1⟩
    have D3 : decI H3 (.sl r2 z2 0 ts.length) = T3 := IsI.dec ⟨r2, z2, by rw [nt3], hN3.g2⟩
    have D4 : decI H3 (.sl r3 z3' 0 bs.length) = bs := IsI.dec ⟨r3, z3', rfl, hN3.g3⟩
    have O1 : ok3 69 H3 (.sl r0 z0 0 l.length) := ⟨l, ⟨r0, z0, rfl, hN3.g0⟩, by omega⟩
    have O2 : okI H3 (.sl r1 z1 0 ms.length) := ⟨m3, ⟨r1, z1, by rw [nm3], hN3.g1⟩, by omega⟩
    have O3 : okI H3 (.sl r2 z2 0 ts.length) := ⟨T3, ⟨r2, z2, by rw [nt3], hN3.g2⟩, by omega⟩
    have O4 : okI H3 (.sl r3 z3' 0 bs.length) := ⟨bs, ⟨r3, z3', rfl, hN3.g3⟩, by omega⟩
    unfold SDecQ
    simp only [D1, D2, D3, D4]
    refine ⟨⟨⟨O1, O2, O3, O4⟩, o3, pf⟩, fun H4 s0 s1 s2 s3 a0' a1' a2' a3' hN4 x4 => ?_⟩
    rw [ht4] at hN4
    rw [hZ, nm3, nt3]
    have xA : Ext η H4 := ((x1.trans x2).trans x3).trans x4
    have hNA : New4 η.length H4 s0 s1 s2 s3 a0' a1' a2' a3' l (mac l m3 T4 bs 0).1 (mac l m3 T4 bs 0).2 bs := hN4.mono ((x1.trans x2).trans x3).len
    repeat' (first | with_reducible refine iteI (fun _ => ?_) (fun _ => ?_) | ((first | unfold AOpsC | unfold AOpsD | skip); simp (maxSteps := 1000000) (disch := (first | omega | assumption | (simp only [List.length_append, List.length_cons, List.length_nil, List.length_set]; omega))) only [go_sem, Sp56, SAdd, Dr56]))
    refine ⟨invMcQ η r l m3 T4 bs ms.length ts.length y z w d e f g hh i k _ _ _ _, fun st => ctr 16 st 16, .inl ⟨0, H4, s0, s1, s2, s3, a0', a1', a2', a3', Nat.zero_le _, xA, hNA, rfl, by simp [upd], by simp [upd], by simp [upd], by simp [upd], by simp [upd], by simp [upd], by simp [upd], by simp [upd], by simp [upd], by simp [upd], by simp [upd], rfl, rfl⟩, ?_⟩
    clear hNA xA hN4 x4 O1 O2 O3 O4 D1 D2 D3 D4 hN3 x3 hN2 x2 hN1 x1
    obtain ⟨evy, rfl⟩ : ∃ evy, evy = i := ⟨_, rfl⟩
    rintro ⟨n, τ, lam, η'⟩ ⟨i, H, q0, q1, q2, q3, u0, u1, u2, u3, g0, g1, g2, hn, t2, t4, t6, t7, t8, t9, t16, l4, l6, l7, l8, l9, hη⟩; simp only at hn t2 t4 t6 t7 t8 t9 t16 l4 l6 l7 l8 l9 hη; subst hn hη
    have o6 := mac_ok o4 i
    obtain ⟨n1, n2⟩ : (mac l m3 T4 bs i).1.length = ms.length ∧ (mac l m3 T4 bs i).2.length = ts.length := ⟨(okT o6).2.2.1.trans kl.2.2.1.symm, (okT o6).2.2.2.1.trans kl.2.2.2.1.symm⟩
    by_cases hlt : i < 16
    · repeat' (first | with_reducible refine iteI (fun _ => ?_) (fun _ => ?_) | ((first | unfold AOpsC | unfold AOpsD | skip); simp (maxSteps := 1000000) (disch := (first | omega | assumption | (simp only [List.length_append, List.length_cons, List.length_nil, List.length_set]; omega))) only [go_sem, Sp56, SAdd, Dr56, t2, t4, t6, t7, t8, t9, t16, l4, l6, l7, l8, l9]))
      unfold SStepQ
      refine ⟨l, (mac l m3 T4 bs i).1, (mac l m3 T4 bs i).2, bs, ⟨⟨q0, u0, rfl, g2.g0⟩, ⟨q1, u1, by rw [n1], g2.g1⟩, ⟨q2, u2, by rw [n2], g2.g2⟩, ⟨q3, u3, rfl, g2.g3⟩⟩, o6, by omega, fun H2 c0 c1 c2 c3 hN2 x2 => ?_⟩
      rw [n1, n2]
      repeat' (first | with_reducible refine iteI (fun _ => ?_) (fun _ => ?_) | ((first | unfold AOpsC | unfold AOpsD | skip); simp (maxSteps := 1000000) (disch := (first | omega | assumption | (simp only [List.length_append, List.length_cons, List.length_nil, List.length_set]; omega))) only [go_sem, Sp56, SAdd, Dr56, t2, t4, t6, t7, t8, t9, t16, l4, l6, l7, l8, l9]))
      refine ⟨⟨i + 1, H2, c0, c1, c2, c3, 0, 0, 0, 0, hlt, g1.trans x2, hN2.mono g1.len, rfl, by simp [upd, t2, t4, t6, t7, t8, t9, t16], by simp [upd, t2, t4, t6, t7, t8, t9, t16], by simp [upd, t2, t4, t6, t7, t8, t9, t16], by simp [upd, t2, t4, t6, t7, t8, t9, t16], by simp [upd, t2, t4, t6, t7, t8, t9, t16], by simp [upd, t2, t4, t6, t7, t8, t9, t16], by simp [upd], by simp [upd, l4], by simp [upd, l6], by simp [upd, l7], by simp [upd], by simp [upd, l9], rfl⟩, by simp [ctr, upd, t16]; omega⟩
    · obtain rfl : i = 16 := by omega
      rw [hMT] at g2
      dsimp only at g2
      clear n1 n2 o6
      by_cases hi : 0 < evy
      · have hrb := remB hk0 ⟨hi, pi.2⟩
        by_cases hm : (k + 1).tmod evy = 0
        · rw [if_pos ⟨hi, hm⟩] at hR
          repeat' (first | with_reducible refine iteI (fun _ => ?_) (fun _ => ?_) | ((first | unfold AOpsC | unfold AOpsD | skip); simp (maxSteps := 1000000) (disch := (first | omega | assumption | (simp only [List.length_append, List.length_cons, List.length_nil, List.length_set]; omega))) only [go_sem, Sp56, SAdd, Dr56, hm, t2, t4, t6, t7, t8, t9, t16, l4, l6, l7, l8, l9]))
          unfold SAdS
          refine ⟨l, M, T, bs, ⟨⟨⟨q0, u0, rfl, g2.g0⟩, ⟨q1, u1, by rw [nM], g2.g1⟩, ⟨q2, u2, by rw [nT], g2.g2⟩, ⟨q3, u3, rfl, g2.g3⟩⟩, o5⟩, fun H6 c0 c1 c2 c3 w0 w1 w2 w3 hN6 x6 => ?_⟩
          repeat' (first | with_reducible refine iteI (fun _ => ?_) (fun _ => ?_) | ((first | unfold AOpsC | unfold AOpsD | skip); simp (maxSteps := 1000000) (disch := (first | omega | assumption | (simp only [List.length_append, List.length_cons, List.length_nil, List.length_set]; omega))) only [go_sem, Sp56, SAdd, Dr56, t2, t4, t6, t7, t8, t9, t16, l4, l6, l7, l8, l9]))
          have hk := hK H6 c0 c1 c2 c3 w0 w1 w2 w3 (by rw [hR]; exact hN6.mono g1.len) (g1.trans x6)
          rw [hR, hL] at hk
          dsimp only at hk
          exact KLd hk (by simp only [IntKind.wrap_i64] <;> omega) (by simp only [IntKind.wrap_i64] <;> omega) (by simp only [IntKind.wrap_i64] <;> omega) (by simp only [IntKind.wrap_i64] <;> omega)
        · rw [if_neg (fun h => hm h.2)] at hR
          repeat' (first | with_reducible refine iteI (fun _ => ?_) (fun _ => ?_) | ((first | unfold AOpsC | unfold AOpsD | skip); simp (maxSteps := 1000000) (disch := (first | omega | assumption | (simp only [List.length_append, List.length_cons, List.length_nil, List.length_set]; omega))) only [go_sem, Sp56, SAdd, Dr56, hm, t2, t4, t6, t7, t8, t9, t16, l4, l6, l7, l8, l9]))
          have hk := hK _ q0 q1 q2 q3 u0 u1 u2 u3 (by rw [hR]; exact g2) g1
          rw [hR, hL] at hk
          dsimp only at hk
          rw [nM, nT] at hk
          exact KLd hk (by simp only [IntKind.wrap_i64] <;> omega) (by simp only [IntKind.wrap_i64] <;> omega) (by simp only [IntKind.wrap_i64] <;> omega) (by simp only [IntKind.wrap_i64] <;> omega)
      · rw [if_neg (fun h => hi h.1)] at hR
        repeat' (first | with_reducible refine iteI (fun _ => ?_) (fun _ => ?_) | ((first | unfold AOpsC | unfold AOpsD | skip); simp (maxSteps := 1000000) (disch := (first | omega | assumption | (simp only [List.length_append, List.length_cons, List.length_nil, List.length_set]; omega))) only [go_sem, Sp56, SAdd, Dr56, hi, t2, t4, t6, t7, t8, t9, t16, l4, l6, l7, l8, l9]))
        have hk := hK _ q0 q1 q2 q3 u0 u1 u2 u3 (by rw [hR]; exact g2) g1
        rw [hR, hL] at hk
        dsimp only at hk
        rw [nM, nT] at hk
        exact KLd hk (by simp only [IntKind.wrap_i64] <;> omega) (by simp only [IntKind.wrap_i64] <;> omega) (by simp only [IntKind.wrap_i64] <;> omega) (by simp only [IntKind.wrap_i64] <;> omega)
  · exact h.elim

end Go.Proofs.YtaalpmbopkbdiaaGreat
