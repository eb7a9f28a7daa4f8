/- What functions of the program compute, said in the abstract logic; no conditions. -/
import Derived.Test.YtffefndnnbcplaaGBase
import Derived.Test.YtffefndnnbcplaaGIn
import Derived.Test.YtffefndnnbcplaaGDraw
import Derived.Test.YtffefndnnbcplaaGMesh
import Derived.Test.YtffefndnnbcplaaGIds
import Derived.Test.YtffefndnnbcplaaGEv
import Derived.Test.YtffefndnnbcplaaGRes
import Derived.Test.YtffefndnnbcplaaGBal
import Derived.Test.YtffefndnnbcplaaGCost
import Derived.Test.YtffefndnnbcplaaGMeshN
import Derived.Test.YtffefndnnbcplaaGDrawM
import Derived.Test.YtffefndnnbcplaaGDrawN
import Derived.Test.YtffefndnnbcplaaGIdx
import Derived.Test.YtffefndnnbcplaaGState
import Derived.Test.YtffefndnnbcplaaGCopy
import Derived.Test.YtffefndnnbcplaaGBalc
import Derived.Test.YtffefndnnbcplaaGBalw
import Derived.Test.YtffefndnnbcplaaGInts
import Derived.Test.YtffefndnnbcplaaGStTo
import Derived.Test.YtffefndnnbcplaaGResS
import Derived.Test.YtffefndnnbcplaaGOwn
import Derived.Test.YtffefndnnbcplaaGDrawS
import Derived.Test.YtffefndnnbcplaaGDLaw

namespace Go.Proofs.Ytffefndnnbcplaa
open Go
set_option linter.unusedSimpArgs false
set_option linter.unusedVariables false
set_option maxRecDepth 100000
set_option maxHeartbeats 8000000
attribute [local go_sem] st0 AC thenA andC locLoadB KsSW_same KsSW_grow oldLoadB KsOS_same KsOS_grow pv ev put upd dstOk cv cvc binI setB Value.oneCell' EndA resA resA1 List.mapM_cons List.mapM_nil Option.pure_def Option.bind_eq_bind noLocV noLoc1 noLoc noLocs plainV cellsA newVarA putCells condA lam0 inBlockA cur lenA rowA avoidsB avoidB clearB Array.toList_append Op.operands Call.operands newSlot Nat.zero_add Nat.add_zero Nat.succ_ne_self Nat.lt_add_one Nat.zero_lt_succ true_and and_true true_or or_true false_or or_false and_self true_implies forall_const Bool.false_eq_true Bool.true_eq_false false_implies implies_true imp_self ne_eq not_false_eq_true not_true_eq_false false_and and_false List.getElem?_toArray List.getElem?_cons_succ List.getElem?_cons_zero Option.bind_some Option.map_some Bool.not_true Bool.not_false List.getD_cons_zero List.getD_cons_succ Option.some.injEq exists_eq_left' AV.bool.injEq List.map_cons List.map_nil List.all_cons List.all_nil Bool.and_self Bool.and_true Bool.true_and List.append_nil List.cons_append List.nil_append List.length_cons List.length_nil List.drop_zero List.take_zero List.drop_succ_cons List.take_succ_cons List.take_nil List.drop_nil List.not_mem_nil List.mem_cons List.contains_nil List.contains_cons Bool.or_self Bool.or_true Bool.true_or Bool.false_or Bool.or_false Bool.and_false Bool.false_and KsS_same KsS_grow skipV KsS_ext KsSW_ext KsOS_ext rep1 rep2 rep3 rep4 rep5 List.flatten_cons List.flatten_nil partsA isPtr fillA List.size_toArray ltT ltF leT leF ltTn ltFn leTn leFn eqTi eqFi wrapId toNat1 intGet boolGet memD app_get app_last app_lst app_set app_setL app_setF set_ne set_eq gt_iff_lt ge_iff_le decide_eq_true_eq len2 len3 get20 get21 drop2 put2 get30 get31 get32 drop3 put3 putI pairEta bneTi bneFi beqTi beqFi bne_eq_false_iff_eq beq_eq_false_iff_ne beq_iff_eq bne_iff_ne Int.toNat_natCast Nat.mul_one List.length_map Bool.not_eq_true Bool.not_eq_false Bool.decide_eq_true decide_true decide_false Bool.not_eq_true' Bool.not_eq_false' decide_eq_false_iff_not eq_self Decidable.not_not
def costL : List Id3 → Int
  | [] => 0
  | [_] => 0
  | x :: y :: t => 2 ^ (if x.2.1 < y.2.1 then y.2.1 else x.2.1).toNat + costL (y :: t)
theorem costN_cons (x : Id3) (t : List Id3) : ∀ i : Nat, costN (x :: t) (i + 1) = 2 ^ (faceI (x :: t) 0).toNat + costN t i
  | 0 => by simp [costN]
  | i + 1 => by
    rw [costN, costN_cons x t i, costN]
    have : faceI (x :: t) (i + 1) = faceI t i := by simp [faceI, lvD]
    rw [this]
    omega
theorem cost_eq : ∀ l : List Id3, costI l = costL l
  | [] => rfl
  | [_] => rfl
  | x :: y :: t => by
    have ih := cost_eq (y :: t)
    unfold costI at ih ⊢
    rw [costL, ← ih, show (x :: y :: t).length - 1 = ((y :: t).length - 1) + 1 by simp, costN_cons]
    congr 2
theorem pow_le {a b : Int} (h : a ≤ b) : (2 : Int) ^ a.toNat ≤ 2 ^ b.toNat := by
  have h1 : a.toNat ≤ b.toNat := by omega
  have h2 : 2 ^ a.toNat ≤ 2 ^ b.toNat := Nat.pow_le_pow_right (by omega) h1
  have : ((2 ^ a.toNat : Nat) : Int) ≤ ((2 ^ b.toNat : Nat) : Int) := Int.ofNat_le.2 h2
  simpa using this
theorem pow_pos1 (a : Nat) : (1 : Int) ≤ 2 ^ a := by
  have : 1 ≤ 2 ^ a := Nat.one_le_two_pow
  have : ((1 : Nat) : Int) ≤ ((2 ^ a : Nat) : Int) := Int.ofNat_le.2 this
  simpa using this
theorem cost_head {x y : Id3} {t : List Id3} (h : x.2.1 ≤ y.2.1) : costL (x :: t) ≤ costL (y :: t) := by
  cases t with
  | nil => exact Int.le_refl _
  | cons z t =>
    rw [costL, costL]
    have : (2 : Int) ^ (if x.2.1 < z.2.1 then z.2.1 else x.2.1).toNat ≤ 2 ^ (if y.2.1 < z.2.1 then z.2.1 else y.2.1).toNat := pow_le (by split <;> split <;> omega)
    omega
/-- A leaf split in two costs more. -/
theorem cost_split (a b : Id3) : ∀ (l : List Id3) (i : Nat), i < l.length → (l.getD i (0, 0, 0)).2.1 < a.2.1 → a.2.1 ≤ b.2.1 →
    costL l < costL (l.take i ++ [a, b] ++ l.drop (i + 1)) ∧ ∃ h s, l.take i ++ [a, b] ++ l.drop (i + 1) = h :: s ∧ (l.getD 0 (0, 0, 0)).2.1 ≤ h.2.1
  | [], i, hi, _, _ => by simp at hi
  | x :: t, 0, hi, ha, hb => by
    simp only [List.take_zero, List.nil_append, List.cons_append, List.drop_succ_cons, List.drop_zero, List.getD_cons_zero] at ha ⊢
    refine ⟨?_, a, b :: t, rfl, by omega⟩
    rw [costL]
    have h1 := cost_head (x := x) (y := b) (t := t) (by omega)
    have h2 := pow_pos1 (if a.2.1 < b.2.1 then b.2.1 else a.2.1).toNat
    omega
  | x :: t, i + 1, hi, ha, hb => by
    have ih := cost_split a b t i (by simpa using hi) (by simpa using ha) hb
    obtain ⟨h1, h, s, h2, h3⟩ := ih
    simp only [List.take_succ_cons, List.cons_append, List.drop_succ_cons, List.getD_cons_zero] at *
    refine ⟨?_, x, _, rfl, Int.le_refl _⟩
    rw [h2] at h1 ⊢
    cases t with
    | nil => simp at hi
    | cons y t =>
      rw [costL, costL]
      simp only [List.getD_cons_zero] at h3
      have := pow_le (a := if x.2.1 < y.2.1 then y.2.1 else x.2.1) (b := if x.2.1 < h.2.1 then h.2.1 else x.2.1) (by split <;> split <;> omega)
      omega
theorem cost_ref {l : List Id3} {i : Nat} (hi : i < l.length) : costI l < costI (splitL l i) := by
  rw [cost_eq, cost_eq]
  have := (cost_split ((l.getD i z3).1, (l.getD i z3).2.1 + 1, 2 * (l.getD i z3).2.2 + 0) ((l.getD i z3).1, (l.getD i z3).2.1 + 1, 2 * (l.getD i z3).2.2 + 1) l i hi (by unfold z3; simp only; omega) (Int.le_refl _)).1
  exact this
theorem getD_lv {l : List Id3} {lv : Int} (h : ∀ x ∈ l, x.2.1 = lv) {i : Nat} (hi : i < l.length) : lvD l i = lv := h _ (getD_mem hi)
/-- The cost of a uniform mesh. -/
theorem cost_uni {l : List Id3} {lv : Int} (h : ∀ x ∈ l, x.2.1 = lv) : ∀ n : Nat, n + 1 ≤ l.length → costN l n = (n : Int) * 2 ^ lv.toNat
  | 0, _ => by simp [costN]
  | n + 1, hn => by
    have e : faceI l n = lv := by
      unfold faceI
      rw [getD_lv h (by omega), getD_lv h (by omega)]
      simp
    rw [costN, cost_uni h n (by omega), e, Int.natCast_add, Int.add_mul]
    simp
theorem new_cost {r lv : Int} (h : newB r lv = true) : costI (newM r lv) = (r * 2 ^ lv.toNat - 1) * 2 ^ lv.toNat := by
  have h' := h
  simp only [newB, Bool.and_eq_true] at h'
  have h1 := inT h'.1
  have h2 := inT h'.2
  have e : newM r lv = fullM lv r.toNat := if_pos h
  have hl := fullM_len lv r.toNat
  have hp : 1 ≤ 2 ^ lv.toNat := Nat.one_le_two_pow
  have h3 : 1 * 1 ≤ r.toNat * 2 ^ lv.toNat := Nat.mul_le_mul (by omega) hp
  rw [e]
  unfold costI
  rw [cost_uni (fullM_ids h2 r.toNat) _ (by omega), hl]
  congr 1
  have : ((r.toNat * 2 ^ lv.toNat : Nat) : Int) = r * 2 ^ lv.toNat := by
    rw [Int.natCast_mul]
    congr 1
    all_goals first | omega | simp
  omega

def SMayR : List AV → List Blk → (AV → List Blk → Prop) → Prop
  | [.agg [.int .i64 r, v], .int .i64 i], η, K => ∃ l : List Id3, (IsR 45 3 enc3 η v l ∧ l.length ≤ 1048576 ∧ meshB r l = true ∧ 0 ≤ i ∧ i < l.length) ∧ K (.bool (decide ((l.getD i.toNat (0, 0, 0)).2.1 < 4))) η
  | _, _, _ => False
def SRefL : List AV → List Blk → (AV → List Blk → Prop) → Prop
  | [.agg [.int .i64 r, v], .int .i64 i], η, K => ∃ l : List Id3, (IsR 45 3 enc3 η v l ∧ l.length ≤ 128 ∧ meshB r l = true ∧ 0 ≤ i ∧ i < l.length) ∧ (∀ H b, H[b]? = some ⟨0, 45, 3, (l.map enc3).flatten⟩ → Ext η H → K (.tup [.agg [.int .i64 r, .sl b 0 0 l.length], .bool false]) H) ∧
      ((l.getD i.toNat z3).2.1 ≠ 4 → ∀ H b w, H[b]? = some ⟨w, 45, 3, ((splitL l i.toNat).map enc3).flatten⟩ → Ext η H → K (.tup [.agg [.int .i64 r, .sl b w 0 (splitL l i.toNat).length], .bool true]) H)
  | _, _, _ => False

/- spec.MayRefine -/
def Sp98 (lo : Nat) : Spec := fun g args η K => match g with | 94 => SMesh args η K | 95 => SIn args η K | _ => False
theorem Sp98_ok {lo : Nat} : Sound Try.prog lo (Sp98 lo) := by
  intro g args η K h
  unfold Sp98 at h
  split at h
  · exact f94_ok h
  · exact f95_ok h
  · exact h.elim
theorem f98_ok {lo : Nat} {args : List AV} {η : List Blk} {K : AV → List Blk → Prop} (h : SMayR args η K) : AF Try.prog lo 98 args η K := by
  unfold SMayR at h
  split at h
  · obtain ⟨l, ⟨hr, hl, hm1, i0, i1⟩, hK⟩ := h
    rename_i r _ i
    have d1 := hr.dec3
    have o1 : ok3 45 _ _ := ⟨l, hr, hl⟩
    obtain ⟨b, ver, rfl, hb⟩ := hr
    obtain ⟨j, rfl⟩ : ∃ j : Nat, i = j := ⟨i.toNat, by omega⟩
    rw [Int.toNat_natCast] at hK
    have hin : inB (j : Int) 0 ((l.length : Int) - 1) = true := by simp only [inB, Bool.and_eq_true, decide_eq_true_eq]; omega
    refine AF_run Sp98_ok D0 [] [.tmp 4] hm Try.func98 rfl (by decide) Try.ntmps98 rfl (by kernel_rfl) (Nat.le_of_ble_eq_true rfl) ?_; intro hlo
    repeat' (first | with_reducible refine iteI (fun _ => ?_) (fun _ => ?_) | ((first | unfold AOpsC | unfold AOpsD | skip); simp (maxSteps := 1000000) (disch := (first | omega | assumption | (simp only [List.length_append, List.length_cons, List.length_nil, List.length_set]; omega))) only [go_sem, ↓skipC, ↓exitC, ↓retC, ↓seqC, ↓blockC, ↓condC, ↓regC, ↓drawC, ↓drawStep, ↓AOpC, ↓AOpF, ↓AOpE, ↓AEff, ↓contE_at, ↓contC_at, ↓keepC_at, ↓keepW_at, ↓keepO_at, ↓map_parts, ↓reduceIte, reduceCtorEq, Nat.reduceLT, Nat.reduceEqDiff, Nat.reduceAdd, Nat.reduceMul, Nat.reduceLeDiff, Nat.reduceSub, Nat.reduceBEq, Nat.reduceBNe, Nat.reduceBneDiff, Nat.reduceBeqDiff, ag_24, ag_26, ag_3, ag_45, by_24, by_26, by_3, by_45, el_24, fi_26_1, fi_45_1, in_3, nf_26, nf_45, pl_26, pl_45, ps_26, ps_45, sz_24, sz_26, sz_3, sz_45, ze_24, ze_26, ze_3, ze_45, Sp98, SMesh, SIn, hb, d1, o1, hm1, hin]))
    exact hK
  · exact h.elim

/- spec.RefineLeaf -/
def Sp30 (lo : Nat) : Spec := fun g args η K => match g with | 98 => SMayR args η K | 99 => SCopyM args η K | 100 => SSplit args η K | _ => False
theorem Sp30_ok {lo : Nat} : Sound Try.prog lo (Sp30 lo) := by
  intro g args η K h
  unfold Sp30 at h
  split at h
  · exact f98_ok h
  · exact f99_ok h
  · exact f100_ok h
  · exact h.elim
theorem f30_ok {lo : Nat} {args : List AV} {η : List Blk} {K : AV → List Blk → Prop} (h : SRefL args η K) : AF Try.prog lo 30 args η K := by
  unfold SRefL at h
  split at h
  · obtain ⟨l, ⟨hr, hl, hm1, i0, i1⟩, hK1, hK2⟩ := h
    rename_i r _ i
    have hr' := hr
    obtain ⟨bb, ver, rfl, hb⟩ := hr'
    refine AF_run Sp30_ok D0 [] [.cell 4 26, .tmp 5] hm Try.func30 rfl (by decide) Try.ntmps30 rfl (by kernel_rfl) (Nat.le_of_ble_eq_true rfl) ?_; intro hlo
    repeat' (first | with_reducible refine iteI (fun _ => ?_) (fun _ => ?_) | ((first | unfold AOpsC | unfold AOpsD | skip); simp (maxSteps := 1000000) (disch := (first | omega | assumption | (simp only [List.length_append, List.length_cons, List.length_nil, List.length_set]; omega))) only [go_sem, ↓skipC, ↓exitC, ↓retC, ↓seqC, ↓blockC, ↓condC, ↓regC, ↓drawC, ↓drawStep, ↓AOpC, ↓AOpF, ↓AOpE, ↓AEff, ↓contE_at, ↓contC_at, ↓keepC_at, ↓keepW_at, ↓keepO_at, ↓map_parts, ↓reduceIte, reduceCtorEq, Nat.reduceLT, Nat.reduceEqDiff, Nat.reduceAdd, Nat.reduceMul, Nat.reduceLeDiff, Nat.reduceSub, Nat.reduceBEq, Nat.reduceBNe, Nat.reduceBneDiff, Nat.reduceBeqDiff, ag_26, by_26, nf_26, pl_26, ps_26, sz_26, ze_26, Sp30]))
    unfold SMayR
    refine ⟨l, ⟨hr, by omega, hm1, i0, i1⟩, ?_⟩
    by_cases h4 : (l.getD i.toNat (0, 0, 0)).2.1 < 4
    · repeat' (first | with_reducible refine iteI (fun _ => ?_) (fun _ => ?_) | ((first | unfold AOpsC | unfold AOpsD | skip); simp (maxSteps := 1000000) (disch := (first | omega | assumption | (simp only [List.length_append, List.length_cons, List.length_nil, List.length_set]; omega))) only [go_sem, ↓skipC, ↓exitC, ↓retC, ↓seqC, ↓blockC, ↓condC, ↓regC, ↓drawC, ↓drawStep, ↓AOpC, ↓AOpF, ↓AOpE, ↓AEff, ↓contE_at, ↓contC_at, ↓keepC_at, ↓keepW_at, ↓keepO_at, ↓map_parts, ↓reduceIte, reduceCtorEq, Nat.reduceLT, Nat.reduceEqDiff, Nat.reduceAdd, Nat.reduceMul, Nat.reduceLeDiff, Nat.reduceSub, Nat.reduceBEq, Nat.reduceBNe, Nat.reduceBneDiff, Nat.reduceBeqDiff, ag_26, by_26, nf_26, pl_26, ps_26, sz_26, ze_26, Sp30, h4]))
      have hid := mesh_ids hm1 _ (getD_mem (d := z3) (show i.toNat < l.length by omega))
      have hn4 : (l.getD i.toNat z3).2.1 ≠ 4 := by unfold z3; omega
      unfold SSplit
      refine ⟨l, ⟨hr, hl, i0, i1, hid, hn4⟩, fun H b w hnb hb x => ?_⟩
      repeat' (first | with_reducible refine iteI (fun _ => ?_) (fun _ => ?_) | ((first | unfold AOpsC | unfold AOpsD | skip); simp (maxSteps := 1000000) (disch := (first | omega | assumption | (simp only [List.length_append, List.length_cons, List.length_nil, List.length_set]; omega))) only [go_sem, ↓skipC, ↓exitC, ↓retC, ↓seqC, ↓blockC, ↓condC, ↓regC, ↓drawC, ↓drawStep, ↓AOpC, ↓AOpF, ↓AOpE, ↓AEff, ↓contE_at, ↓contC_at, ↓keepC_at, ↓keepW_at, ↓keepO_at, ↓map_parts, ↓reduceIte, reduceCtorEq, Nat.reduceLT, Nat.reduceEqDiff, Nat.reduceAdd, Nat.reduceMul, Nat.reduceLeDiff, Nat.reduceSub, Nat.reduceBEq, Nat.reduceBNe, Nat.reduceBneDiff, Nat.reduceBeqDiff, ag_26, by_26, nf_26, pl_26, ps_26, sz_26, ze_26, Sp30]))
      exact hK2 hn4 H b w hb x
    · repeat' (first | with_reducible refine iteI (fun _ => ?_) (fun _ => ?_) | ((first | unfold AOpsC | unfold AOpsD | skip); simp (maxSteps := 1000000) (disch := (first | omega | assumption | (simp only [List.length_append, List.length_cons, List.length_nil, List.length_set]; omega))) only [go_sem, ↓skipC, ↓exitC, ↓retC, ↓seqC, ↓blockC, ↓condC, ↓regC, ↓drawC, ↓drawStep, ↓AOpC, ↓AOpF, ↓AOpE, ↓AEff, ↓contE_at, ↓contC_at, ↓keepC_at, ↓keepW_at, ↓keepO_at, ↓map_parts, ↓reduceIte, reduceCtorEq, Nat.reduceLT, Nat.reduceEqDiff, Nat.reduceAdd, Nat.reduceMul, Nat.reduceLeDiff, Nat.reduceSub, Nat.reduceBEq, Nat.reduceBNe, Nat.reduceBneDiff, Nat.reduceBeqDiff, ag_26, by_26, nf_26, pl_26, ps_26, sz_26, ze_26, Sp30, h4]))
      unfold SCopyM
      refine ⟨l, hr, by omega, ?_⟩
      repeat' (first | with_reducible refine iteI (fun _ => ?_) (fun _ => ?_) | ((first | unfold AOpsC | unfold AOpsD | skip); simp (maxSteps := 1000000) (disch := (first | omega | assumption | (simp only [List.length_append, List.length_cons, List.length_nil, List.length_set]; omega))) only [go_sem, ↓skipC, ↓exitC, ↓retC, ↓seqC, ↓blockC, ↓condC, ↓regC, ↓drawC, ↓drawStep, ↓AOpC, ↓AOpF, ↓AOpE, ↓AEff, ↓contE_at, ↓contC_at, ↓keepC_at, ↓keepW_at, ↓keepO_at, ↓map_parts, ↓reduceIte, reduceCtorEq, Nat.reduceLT, Nat.reduceEqDiff, Nat.reduceAdd, Nat.reduceMul, Nat.reduceLeDiff, Nat.reduceSub, Nat.reduceBEq, Nat.reduceBNe, Nat.reduceBneDiff, Nat.reduceBeqDiff, ag_26, by_26, nf_26, pl_26, ps_26, sz_26, ze_26, Sp30]))
      exact hK1 _ _ (app_last _ _) ⟨_, rfl⟩
  · exact h.elim

/- laws.FnCosts -/
def Sp4 (lo : Nat) : Spec := fun g args η K => match g with | 22 => SBig lo args η K | 23 => SDrawM lo args η K | 24 => SPlaces lo args η K | 28 => SMeshN args η K | 29 => SCostR args η K | 30 => SRefL args η K | 31 => SSaved args η K | _ => False
theorem Sp4_ok {lo : Nat} : Sound Try.prog lo (Sp4 lo) := by
  intro g args η K h
  unfold Sp4 at h
  split at h
  · exact f22_ok h
  · exact f23_ok h
  · exact f24_ok h
  · exact f28_ok h
  · exact f29_ok h
  · exact f30_ok h
  · exact f31_ok h
  · exact h.elim
def D4 : Draws := fun id => match id with | 9 => ([0, 0, 2, 6, 0, 16, 48, 126, 255, 511, 1023, 1023, 0, 6143, 16383], [], [(0, 11), (1, 11), (2, 11), (3, 11), (4, 11), (5, 11), (6, 11), (7, 11), (8, 11), (9, 11), (10, 11), (11, 11)], (.one 12 (.one 0 (.one 1 (.one 2 (.one 3 (.one 4 (.one 5 (.one 6 (.one 7 (.one 8 (.one 9 (.one 10 (.one 11 (.one 13 (.one 14 .nil)))))))))))))))) | 10 => ([0, 1, 0, 4, 0, 16, 60, 124, 0, 256, 1020, 2047, 4095, 8191, 16383, 32767, 65535, 131071, 262143, 524287, 262143, 2097151, 262143, 8388607, 16777215, 33554431, 67108863, 134217727, 268435455, 536870911, 1073741823, 2147483647, 4294967295, 8589934591, 17179869183, 34359738367, 68719476735, 34359738367, 274877906943, 549755813887, 1099511627775, 2199023255551], [1, 19, 21, 36], [], (.one 0 (.one 2 (.one 3 (.one 4 (.one 5 (.one 6 (.one 7 (.one 8 (.one 9 (.one 10 (.one 1 (.one 11 (.one 12 (.one 13 (.one 14 (.one 15 (.one 16 (.one 17 (.one 18 (.one 20 (.one 22 (.one 19 (.one 21 (.one 23 (.one 24 (.one 25 (.one 26 (.one 27 (.one 28 (.one 29 (.one 30 (.one 31 (.one 32 (.one 33 (.one 34 (.one 35 (.one 37 (.one 36 (.one 38 (.one 39 (.one 40 (.one 41 .nil))))))))))))))))))))))))))))))))))))))))))) | _ => ([], [], [], .nil)
theorem f4_ok {lo : Nat} {args : List AV} {η : List Blk} {K : AV → List Blk → Prop} (h : SDL lo args η K) : AF Try.prog lo 4 args η K := by
  unfold SDL at h
  split at h
  · obtain ⟨g, hr, hml, hK⟩ := h
    have hn := (noLoc8 hr).1
    refine AF_run Sp4_ok D4 [] [.tmp 2] hm Try.func4 rfl (by decide) Try.ntmps4 rfl (by kernel_rfl) (Nat.le_of_ble_eq_true rfl) ?_; intro hlo
    repeat' (first | with_reducible refine iteI (fun _ => ?_) (fun _ => ?_) | ((first | unfold AOpsC | unfold AOpsD | skip); simp (maxSteps := 1000000) (disch := (first | omega | assumption | (simp only [List.length_append, List.length_cons, List.length_nil, List.length_set]; omega))) only [go_sem, ↓skipC, ↓exitC, ↓retC, ↓seqC, ↓blockC, ↓condC, ↓regC, ↓drawC, ↓drawStep, ↓AOpC, ↓AOpF, ↓AOpE, ↓AEff, ↓contE_at, ↓contC_at, ↓keepC_at, ↓keepW_at, ↓keepO_at, ↓map_parts, ↓reduceIte, reduceCtorEq, Nat.reduceLT, Nat.reduceEqDiff, Nat.reduceAdd, Nat.reduceMul, Nat.reduceLeDiff, Nat.reduceSub, Nat.reduceBEq, Nat.reduceBNe, Nat.reduceBneDiff, Nat.reduceBeqDiff, ag_24, ag_26, ag_28, ag_3, ag_45, by_24, by_26, by_28, by_3, by_45, el_24, el_28, fi_26_0, fi_26_1, in_3, in_33, nf_26, nf_45, pl_26, pl_45, ps_26, ps_45, sz_24, sz_26, sz_28, sz_3, sz_45, ze_24, ze_26, ze_28, ze_3, ze_45, Sp4, SCostR, D4, ↓hn]))
    unfold SBig
    refine ⟨g, hr, hml, ?_⟩
    by_cases hl : (1048576 : Int) < g.length
    · repeat' (first | with_reducible refine iteI (fun _ => ?_) (fun _ => ?_) | ((first | unfold AOpsC | unfold AOpsD | skip); simp (maxSteps := 1000000) (disch := (first | omega | assumption | (simp only [List.length_append, List.length_cons, List.length_nil, List.length_set]; omega))) only [go_sem, ↓skipC, ↓exitC, ↓retC, ↓seqC, ↓blockC, ↓condC, ↓regC, ↓drawC, ↓drawStep, ↓AOpC, ↓AOpF, ↓AOpE, ↓AEff, ↓contE_at, ↓contC_at, ↓keepC_at, ↓keepW_at, ↓keepO_at, ↓map_parts, ↓reduceIte, reduceCtorEq, Nat.reduceLT, Nat.reduceEqDiff, Nat.reduceAdd, Nat.reduceMul, Nat.reduceLeDiff, Nat.reduceSub, Nat.reduceBEq, Nat.reduceBNe, Nat.reduceBneDiff, Nat.reduceBeqDiff, ag_24, ag_26, ag_28, ag_3, ag_45, by_24, by_26, by_28, by_3, by_45, el_24, el_28, fi_26_0, fi_26_1, in_3, in_33, nf_26, nf_45, pl_26, pl_45, ps_26, ps_45, sz_24, sz_26, sz_28, sz_3, sz_45, ze_24, ze_26, ze_28, ze_3, ze_45, Sp4, SCostR, D4, ↓hn, hl]))
      exact hK _
    repeat' (first | with_reducible refine iteI (fun _ => ?_) (fun _ => ?_) | ((first | unfold AOpsC | unfold AOpsD | skip); simp (maxSteps := 1000000) (disch := (first | omega | assumption | (simp only [List.length_append, List.length_cons, List.length_nil, List.length_set]; omega))) only [go_sem, ↓skipC, ↓exitC, ↓retC, ↓seqC, ↓blockC, ↓condC, ↓regC, ↓drawC, ↓drawStep, ↓AOpC, ↓AOpF, ↓AOpE, ↓AEff, ↓contE_at, ↓contC_at, ↓keepC_at, ↓keepW_at, ↓keepO_at, ↓map_parts, ↓reduceIte, reduceCtorEq, Nat.reduceLT, Nat.reduceEqDiff, Nat.reduceAdd, Nat.reduceMul, Nat.reduceLeDiff, Nat.reduceSub, Nat.reduceBEq, Nat.reduceBNe, Nat.reduceBneDiff, Nat.reduceBeqDiff, ag_24, ag_26, ag_28, ag_3, ag_45, by_24, by_26, by_28, by_3, by_45, el_24, el_28, fi_26_0, fi_26_1, in_3, in_33, nf_26, nf_45, pl_26, pl_45, ps_26, ps_45, sz_24, sz_26, sz_28, sz_3, sz_45, ze_24, ze_26, ze_28, ze_3, ze_45, Sp4, SCostR, D4, ↓hn, hl]))
    unfold SDrawM
    refine ⟨g, hr, hml, fun HS r l b0 v0 k1 hr3 hb0n w0 hx => ?_⟩
    have hln := mesh_len k1
    have hne := mesh_ne k1
    have hlv := mesh_levs k1
    replace hr := hr.ext hx
    repeat' (first | with_reducible refine iteI (fun _ => ?_) (fun _ => ?_) | ((first | unfold AOpsC | unfold AOpsD | skip); simp (maxSteps := 1000000) (disch := (first | omega | assumption | (simp only [List.length_append, List.length_cons, List.length_nil, List.length_set]; omega))) only [go_sem, ↓skipC, ↓exitC, ↓retC, ↓seqC, ↓blockC, ↓condC, ↓regC, ↓drawC, ↓drawStep, ↓AOpC, ↓AOpF, ↓AOpE, ↓AEff, ↓contE_at, ↓contC_at, ↓keepC_at, ↓keepW_at, ↓keepO_at, ↓map_parts, ↓reduceIte, reduceCtorEq, Nat.reduceLT, Nat.reduceEqDiff, Nat.reduceAdd, Nat.reduceMul, Nat.reduceLeDiff, Nat.reduceSub, Nat.reduceBEq, Nat.reduceBNe, Nat.reduceBneDiff, Nat.reduceBeqDiff, ag_24, ag_26, ag_28, ag_3, ag_45, by_24, by_26, by_28, by_3, by_45, el_24, el_28, fi_26_0, fi_26_1, in_3, in_33, nf_26, nf_45, pl_26, pl_45, ps_26, ps_45, sz_24, sz_26, sz_28, sz_3, sz_45, ze_24, ze_26, ze_28, ze_3, ze_45, Sp4, SCostR, D4, ↓hn, w0]))
    unfold SPlaces
    refine ⟨g, hr, hml, fun vp HP ps hps hall hi hext => ?_⟩
    obtain ⟨bp, wp, rfl, hbp⟩ := hi
    replace hr := hr.ext hext
    have hpx : ∀ i, i < 12 → 0 ≤ ps.getD i 0 ∧ ps.getD i 0 < 10000 := fun i hi => hall _ (of_eq_true (memD (by omega)))
    replace w0 := hext.blk w0
    have D1 : dec3 45 HP (.sl b0 v0 0 l.length) = l := IsR.dec3 ⟨b0, v0, rfl, w0⟩
    have O1 : ok3 45 HP (.sl b0 v0 0 l.length) := ⟨l, ⟨b0, v0, rfl, w0⟩, by omega⟩
    have x0 := hpx 0 (by omega)
    have x1 := hpx 1 (by omega)
    have y0 := tmod_bd (b := 5) x0.1 (by omega)
    have y1 := tmod_bd (b := (l.length : Int)) x1.1 (by omega)
    repeat' (first | with_reducible refine iteI (fun _ => ?_) (fun _ => ?_) | ((first | unfold AOpsC | unfold AOpsD | skip); simp (maxSteps := 1000000) (disch := (first | omega | assumption | (simp only [List.length_append, List.length_cons, List.length_nil, List.length_set]; omega))) only [go_sem, ↓skipC, ↓exitC, ↓retC, ↓seqC, ↓blockC, ↓condC, ↓regC, ↓drawC, ↓drawStep, ↓AOpC, ↓AOpF, ↓AOpE, ↓AEff, ↓contE_at, ↓contC_at, ↓keepC_at, ↓keepW_at, ↓keepO_at, ↓map_parts, ↓reduceIte, reduceCtorEq, Nat.reduceLT, Nat.reduceEqDiff, Nat.reduceAdd, Nat.reduceMul, Nat.reduceLeDiff, Nat.reduceSub, Nat.reduceBEq, Nat.reduceBNe, Nat.reduceBneDiff, Nat.reduceBeqDiff, ag_24, ag_26, ag_28, ag_3, ag_45, by_24, by_26, by_28, by_3, by_45, el_24, el_28, fi_26_0, fi_26_1, in_3, in_33, nf_26, nf_45, pl_26, pl_45, ps_26, ps_45, sz_24, sz_26, sz_28, sz_3, sz_45, ze_24, ze_26, ze_28, ze_3, ze_45, Sp4, SCostR, D4, w0, hbp, Int.reduceToNat, Int.toNat_zero, Int.toNat_one, Nat.zero_mul, Nat.one_mul]))
    generalize hlv0 : (ps.getD 0 0).tmod 5 = lv at *
    have hB1 : newB r lv = true := by simp [newB, inB]; omega
    have hB2 : newB r 4 = true := by simp [newB, inB]; omega
    have hn1 : newR r lv = r := if_pos hB1
    have hn2 : newR r 4 = r := if_pos hB2
    have hl1 := newM_len r lv
    have hl2 := newM_len r 4
    have hcu : costR r (newM r lv) = (r * 2 ^ lv.toNat - 1) * 2 ^ lv.toNat := by rw [costR, if_pos (newM_ok hB1), new_cost hB1]
    have hcf : costR r (newM r 4) = (r * 16 - 1) * 16 := by rw [costR, if_pos (newM_ok hB2), new_cost hB2]; rfl
    have hcf' : costI (newM r 4) = (r * 16 - 1) * 16 := by rw [new_cost hB2]; rfl
    have hcl : costR r l = costI l := if_pos k1
    have cb : 0 ≤ costI l ∧ costI l ≤ 16 * ((l.length - 1 : Nat) : Int) := cost_bd hlv (l.length - 1) (by omega)
    have hs1 : savedR r (newM r 4) = 0 := by rw [savedR, if_pos (newM_ok hB2)]; omega
    have hs2 : savedR r l = (r * 16 - 1) * 16 - costI l := by rw [savedR, if_pos k1, hcf']
    unfold SMeshN
    refine fun H1 u hu hex xa => ?_
    obtain ⟨bu, vu, rfl⟩ := hex hB1
    rw [hn1, hB1]
    have Ru1 : IsR 45 3 enc3 H1 (.sl bu vu 0 (newM r lv).length) (newM r lv) := by
      rcases hu.1 with ⟨h | h, _⟩ | h
      · cases h
      · cases h
      · exact h
    have hbp1 := xa.blk hbp
    have w1 := xa.blk w0
    repeat' (first | with_reducible refine iteI (fun _ => ?_) (fun _ => ?_) | ((first | unfold AOpsC | unfold AOpsD | skip); simp (maxSteps := 1000000) (disch := (first | omega | assumption | (simp only [List.length_append, List.length_cons, List.length_nil, List.length_set]; omega))) only [go_sem, ↓skipC, ↓exitC, ↓retC, ↓seqC, ↓blockC, ↓condC, ↓regC, ↓drawC, ↓drawStep, ↓AOpC, ↓AOpF, ↓AOpE, ↓AEff, ↓contE_at, ↓contC_at, ↓keepC_at, ↓keepW_at, ↓keepO_at, ↓map_parts, ↓reduceIte, reduceCtorEq, Nat.reduceLT, Nat.reduceEqDiff, Nat.reduceAdd, Nat.reduceMul, Nat.reduceLeDiff, Nat.reduceSub, Nat.reduceBEq, Nat.reduceBNe, Nat.reduceBneDiff, Nat.reduceBeqDiff, ag_24, ag_26, ag_28, ag_3, ag_45, by_24, by_26, by_28, by_3, by_45, el_24, el_28, fi_26_0, fi_26_1, in_3, in_33, nf_26, nf_45, pl_26, pl_45, ps_26, ps_45, sz_24, sz_26, sz_28, sz_3, sz_45, ze_24, ze_26, ze_28, ze_3, ze_45, Sp4, SCostR, D4, w1]))
    unfold SMeshN
    refine fun H2 f hf hef xb => ?_
    obtain ⟨bf, vf, rfl⟩ := hef hB2
    rw [hn2, hB2]
    have Rf2 : IsR 45 3 enc3 H2 (.sl bf vf 0 (newM r 4).length) (newM r 4) := by
      rcases hf.1 with ⟨h | h, _⟩ | h
      · cases h
      · cases h
      · exact h
    have Df2 := Rf2.dec3
    have Of2 : ok3 45 H2 _ := ⟨_, Rf2, by omega⟩
    have Ru2 := Ru1.ext xb
    have Du2 := Ru2.dec3
    have Ou2 : ok3 45 H2 _ := ⟨_, Ru2, by omega⟩
    have w2 := xb.blk w1
    have hbp2 := xb.blk hbp1
    have Rm2 : IsR 45 3 enc3 H2 (.sl b0 v0 0 l.length) l := ⟨b0, v0, rfl, w2⟩
    have Dm2 := Rm2.dec3
    have Om2 : ok3 45 H2 _ := ⟨_, Rm2, by omega⟩
    have hln0 : ¬ (l.length : Int) = 0 := by omega
    repeat' (first | with_reducible refine iteI (fun _ => ?_) (fun _ => ?_) | ((first | unfold AOpsC | unfold AOpsD | skip); simp (maxSteps := 1000000) (disch := (first | omega | assumption | (simp only [List.length_append, List.length_cons, List.length_nil, List.length_set]; omega))) only [go_sem, ↓skipC, ↓exitC, ↓retC, ↓seqC, ↓blockC, ↓condC, ↓regC, ↓drawC, ↓drawStep, ↓AOpC, ↓AOpF, ↓AOpE, ↓AEff, ↓contE_at, ↓contC_at, ↓keepC_at, ↓keepW_at, ↓keepO_at, ↓map_parts, ↓reduceIte, reduceCtorEq, Nat.reduceLT, Nat.reduceEqDiff, Nat.reduceAdd, Nat.reduceMul, Nat.reduceLeDiff, Nat.reduceSub, Nat.reduceBEq, Nat.reduceBNe, Nat.reduceBneDiff, Nat.reduceBeqDiff, ag_24, ag_26, ag_28, ag_3, ag_45, by_24, by_26, by_28, by_3, by_45, el_24, el_28, fi_26_0, fi_26_1, in_3, in_33, nf_26, nf_45, pl_26, pl_45, ps_26, ps_45, sz_24, sz_26, sz_28, sz_3, sz_45, ze_24, ze_26, ze_28, ze_3, ze_45, Sp4, SCostR, D4, Dm2, Om2, hcl, w2, hbp2, hln0, Int.reduceToNat, Int.toNat_zero, Int.toNat_one, Nat.zero_mul, Nat.one_mul]))
    obtain ⟨j, hj⟩ : ∃ j : Nat, (ps.getD 1 0).tmod (l.length : Int) = j := ⟨((ps.getD 1 0).tmod (l.length : Int)).toNat, by omega⟩
    rw [hj]
    have hjl : j < l.length := by omega
    clear xa xb hu hex hf hef Ru1 hbp hbp1 w0 w1 hbp2 D1 O1
    unfold SRefL
    refine ⟨l, ⟨Rm2, by omega, k1, by omega, by omega⟩, fun H3 b hb3 x3 => ?_, fun h4 H3 b w hb3 x3 => ?_⟩
    · have hnl : (True : Prop) := trivial
      rcases lv5 (show 0 ≤ lv ∧ lv ≤ 4 by omega) with rfl | rfl | rfl | rfl | rfl
      all_goals
        simp only [Int.reduceToNat, Int.reducePow, Int.toNat_zero, Int.pow_zero] at hcu
        have Ru3 := Ru2.ext x3
        have Du3 := Ru3.dec3
        have Ou3 : ok3 45 H3 _ := ⟨_, Ru3, by omega⟩
        have Rf3 := Rf2.ext x3
        have Df3 := Rf3.dec3
        have Of3 : ok3 45 H3 _ := ⟨_, Rf3, by omega⟩
        have Rm3 := Rm2.ext x3
        have Dm3 := Rm3.dec3
        have Om3 : ok3 45 H3 _ := ⟨_, Rm3, by omega⟩
        repeat' (first | with_reducible refine iteI (fun _ => ?_) (fun _ => ?_) | ((first | unfold AOpsC | unfold AOpsD | skip); simp (maxSteps := 1000000) (disch := (first | omega | assumption | (simp only [List.length_append, List.length_cons, List.length_nil, List.length_set]; omega))) only [go_sem, ↓skipC, ↓exitC, ↓retC, ↓seqC, ↓blockC, ↓condC, ↓regC, ↓drawC, ↓drawStep, ↓AOpC, ↓AOpF, ↓AOpE, ↓AEff, ↓contE_at, ↓contC_at, ↓keepC_at, ↓keepW_at, ↓keepO_at, ↓map_parts, ↓reduceIte, reduceCtorEq, Nat.reduceLT, Nat.reduceEqDiff, Nat.reduceAdd, Nat.reduceMul, Nat.reduceLeDiff, Nat.reduceSub, Nat.reduceBEq, Nat.reduceBNe, Nat.reduceBneDiff, Nat.reduceBeqDiff, ag_24, ag_26, ag_28, ag_3, ag_45, by_24, by_26, by_28, by_3, by_45, el_24, el_28, fi_26_0, fi_26_1, in_3, in_33, nf_26, nf_45, pl_26, pl_45, ps_26, ps_45, sz_24, sz_26, sz_28, sz_3, sz_45, ze_24, ze_26, ze_28, ze_3, ze_45, Sp4, SCostR, D4, Du3, Ou3, Df3, Of3, Dm3, Om3, hcu, Int.reduceToNat, Nat.min_eq_left, Int.reducePow, IntKind.bits, wrapU, Int.one_mul, hnl]))
        unfold SSaved
        refine ⟨Of3, fun H4 x4 => ?_⟩
        rw [Df3, hs1]
        have Ru4 := Ru3.ext x4
        have Du4 := Ru4.dec3
        have Ou4 : ok3 45 H4 _ := ⟨_, Ru4, by omega⟩
        have Rf4 := Rf3.ext x4
        have Df4 := Rf4.dec3
        have Of4 : ok3 45 H4 _ := ⟨_, Rf4, by omega⟩
        have Rm4 := Rm3.ext x4
        have Dm4 := Rm4.dec3
        have Om4 : ok3 45 H4 _ := ⟨_, Rm4, by omega⟩
        repeat' (first | with_reducible refine iteI (fun _ => ?_) (fun _ => ?_) | ((first | unfold AOpsC | unfold AOpsD | skip); simp (maxSteps := 1000000) (disch := (first | omega | assumption | (simp only [List.length_append, List.length_cons, List.length_nil, List.length_set]; omega))) only [go_sem, ↓skipC, ↓exitC, ↓retC, ↓seqC, ↓blockC, ↓condC, ↓regC, ↓drawC, ↓drawStep, ↓AOpC, ↓AOpF, ↓AOpE, ↓AEff, ↓contE_at, ↓contC_at, ↓keepC_at, ↓keepW_at, ↓keepO_at, ↓map_parts, ↓reduceIte, reduceCtorEq, Nat.reduceLT, Nat.reduceEqDiff, Nat.reduceAdd, Nat.reduceMul, Nat.reduceLeDiff, Nat.reduceSub, Nat.reduceBEq, Nat.reduceBNe, Nat.reduceBneDiff, Nat.reduceBeqDiff, ag_24, ag_26, ag_28, ag_3, ag_45, by_24, by_26, by_28, by_3, by_45, el_24, el_28, fi_26_0, fi_26_1, in_3, in_33, nf_26, nf_45, pl_26, pl_45, ps_26, ps_45, sz_24, sz_26, sz_28, sz_3, sz_45, ze_24, ze_26, ze_28, ze_3, ze_45, Sp4, SCostR, D4, Du4, Ou4, Df4, Of4, Dm4, Om4, hcu, hcf, hcl]))
        unfold SSaved
        refine ⟨Om4, fun H5 x5 => ?_⟩
        rw [Dm4, hs2]
        have Ru5 := Ru4.ext x5
        have Du5 := Ru5.dec3
        have Ou5 : ok3 45 H5 _ := ⟨_, Ru5, by omega⟩
        have Rf5 := Rf4.ext x5
        have Df5 := Rf5.dec3
        have Of5 : ok3 45 H5 _ := ⟨_, Rf5, by omega⟩
        have Rm5 := Rm4.ext x5
        have Dm5 := Rm5.dec3
        have Om5 : ok3 45 H5 _ := ⟨_, Rm5, by omega⟩
        repeat' (first | with_reducible refine iteI (fun _ => ?_) (fun _ => ?_) | ((first | unfold AOpsC | unfold AOpsD | skip); simp (maxSteps := 1000000) (disch := (first | omega | assumption | (simp only [List.length_append, List.length_cons, List.length_nil, List.length_set]; omega))) only [go_sem, ↓skipC, ↓exitC, ↓retC, ↓seqC, ↓blockC, ↓condC, ↓regC, ↓drawC, ↓drawStep, ↓AOpC, ↓AOpF, ↓AOpE, ↓AEff, ↓contE_at, ↓contC_at, ↓keepC_at, ↓keepW_at, ↓keepO_at, ↓map_parts, ↓reduceIte, reduceCtorEq, Nat.reduceLT, Nat.reduceEqDiff, Nat.reduceAdd, Nat.reduceMul, Nat.reduceLeDiff, Nat.reduceSub, Nat.reduceBEq, Nat.reduceBNe, Nat.reduceBneDiff, Nat.reduceBeqDiff, ag_24, ag_26, ag_28, ag_3, ag_45, by_24, by_26, by_28, by_3, by_45, el_24, el_28, fi_26_0, fi_26_1, in_3, in_33, nf_26, nf_45, pl_26, pl_45, ps_26, ps_45, sz_24, sz_26, sz_28, sz_3, sz_45, ze_24, ze_26, ze_28, ze_3, ze_45, Sp4, SCostR, D4, Du5, Ou5, Df5, Of5, Dm5, Om5, hcu, hcf, hcl]))
        unfold SSaved
        refine ⟨Om5, fun H6 x6 => ?_⟩
        rw [Dm5, hs2]
        have Ru6 := Ru5.ext x6
        have Du6 := Ru6.dec3
        have Ou6 : ok3 45 H6 _ := ⟨_, Ru6, by omega⟩
        have Rf6 := Rf5.ext x6
        have Df6 := Rf6.dec3
        have Of6 : ok3 45 H6 _ := ⟨_, Rf6, by omega⟩
        have Rm6 := Rm5.ext x6
        have Dm6 := Rm6.dec3
        have Om6 : ok3 45 H6 _ := ⟨_, Rm6, by omega⟩
        repeat' (first | with_reducible refine iteI (fun _ => ?_) (fun _ => ?_) | ((first | unfold AOpsC | unfold AOpsD | skip); simp (maxSteps := 1000000) (disch := (first | omega | assumption | (simp only [List.length_append, List.length_cons, List.length_nil, List.length_set]; omega))) only [go_sem, ↓skipC, ↓exitC, ↓retC, ↓seqC, ↓blockC, ↓condC, ↓regC, ↓drawC, ↓drawStep, ↓AOpC, ↓AOpF, ↓AOpE, ↓AEff, ↓contE_at, ↓contC_at, ↓keepC_at, ↓keepW_at, ↓keepO_at, ↓map_parts, ↓reduceIte, reduceCtorEq, Nat.reduceLT, Nat.reduceEqDiff, Nat.reduceAdd, Nat.reduceMul, Nat.reduceLeDiff, Nat.reduceSub, Nat.reduceBEq, Nat.reduceBNe, Nat.reduceBneDiff, Nat.reduceBeqDiff, ag_24, ag_26, ag_28, ag_3, ag_45, by_24, by_26, by_28, by_3, by_45, el_24, el_28, fi_26_0, fi_26_1, in_3, in_33, nf_26, nf_45, pl_26, pl_45, ps_26, ps_45, sz_24, sz_26, sz_28, sz_3, sz_45, ze_24, ze_26, ze_28, ze_3, ze_45, Sp4, SCostR, D4, Du6, Ou6, Df6, Of6, Dm6, Om6, hcu, hcf, hcl]))
        exact hK _
    · have hnl : (True : Prop) := trivial
      rw [Int.toNat_natCast] at h4 hb3 ⊢
      have hms := split_mesh k1 hjl h4
      have hlS := mesh_len hms
      have hneS := mesh_ne hms
      have cbS : 0 ≤ costI (splitL l j) ∧ costI (splitL l j) ≤ 16 * (((splitL l j).length - 1 : Nat) : Int) := cost_bd (mesh_levs hms) ((splitL l j).length - 1) (by omega)
      have hcx : costR r (splitL l j) = costI (splitL l j) := if_pos hms
      have hgt := cost_ref hjl
      rcases lv5 (show 0 ≤ lv ∧ lv ≤ 4 by omega) with rfl | rfl | rfl | rfl | rfl
      all_goals
        simp only [Int.reduceToNat, Int.reducePow, Int.toNat_zero, Int.pow_zero] at hcu
        have Ru3 := Ru2.ext x3
        have Du3 := Ru3.dec3
        have Ou3 : ok3 45 H3 _ := ⟨_, Ru3, by omega⟩
        have Rf3 := Rf2.ext x3
        have Df3 := Rf3.dec3
        have Of3 : ok3 45 H3 _ := ⟨_, Rf3, by omega⟩
        have Rm3 := Rm2.ext x3
        have Dm3 := Rm3.dec3
        have Om3 : ok3 45 H3 _ := ⟨_, Rm3, by omega⟩
        have Rx3 : IsR 45 3 enc3 H3 (.sl b w 0 (splitL l j).length) (splitL l j) := ⟨b, w, rfl, hb3⟩
        have Dx3 := Rx3.dec3
        have Ox3 : ok3 45 H3 _ := ⟨_, Rx3, by omega⟩
        repeat' (first | with_reducible refine iteI (fun _ => ?_) (fun _ => ?_) | ((first | unfold AOpsC | unfold AOpsD | skip); simp (maxSteps := 1000000) (disch := (first | omega | assumption | (simp only [List.length_append, List.length_cons, List.length_nil, List.length_set]; omega))) only [go_sem, ↓skipC, ↓exitC, ↓retC, ↓seqC, ↓blockC, ↓condC, ↓regC, ↓drawC, ↓drawStep, ↓AOpC, ↓AOpF, ↓AOpE, ↓AEff, ↓contE_at, ↓contC_at, ↓keepC_at, ↓keepW_at, ↓keepO_at, ↓map_parts, ↓reduceIte, reduceCtorEq, Nat.reduceLT, Nat.reduceEqDiff, Nat.reduceAdd, Nat.reduceMul, Nat.reduceLeDiff, Nat.reduceSub, Nat.reduceBEq, Nat.reduceBNe, Nat.reduceBneDiff, Nat.reduceBeqDiff, ag_24, ag_26, ag_28, ag_3, ag_45, by_24, by_26, by_28, by_3, by_45, el_24, el_28, fi_26_0, fi_26_1, in_3, in_33, nf_26, nf_45, pl_26, pl_45, ps_26, ps_45, sz_24, sz_26, sz_28, sz_3, sz_45, ze_24, ze_26, ze_28, ze_3, ze_45, Sp4, SCostR, D4, Du3, Ou3, Df3, Of3, Dm3, Om3, Dx3, Ox3, hcu, Int.reduceToNat, Nat.min_eq_left, Int.reducePow, IntKind.bits, wrapU, Int.one_mul, hnl]))
        unfold SSaved
        refine ⟨Of3, fun H4 x4 => ?_⟩
        rw [Df3, hs1]
        have Ru4 := Ru3.ext x4
        have Du4 := Ru4.dec3
        have Ou4 : ok3 45 H4 _ := ⟨_, Ru4, by omega⟩
        have Rf4 := Rf3.ext x4
        have Df4 := Rf4.dec3
        have Of4 : ok3 45 H4 _ := ⟨_, Rf4, by omega⟩
        have Rm4 := Rm3.ext x4
        have Dm4 := Rm4.dec3
        have Om4 : ok3 45 H4 _ := ⟨_, Rm4, by omega⟩
        have Rx4 := Rx3.ext x4
        have Dx4 := Rx4.dec3
        have Ox4 : ok3 45 H4 _ := ⟨_, Rx4, by omega⟩
        repeat' (first | with_reducible refine iteI (fun _ => ?_) (fun _ => ?_) | ((first | unfold AOpsC | unfold AOpsD | skip); simp (maxSteps := 1000000) (disch := (first | omega | assumption | (simp only [List.length_append, List.length_cons, List.length_nil, List.length_set]; omega))) only [go_sem, ↓skipC, ↓exitC, ↓retC, ↓seqC, ↓blockC, ↓condC, ↓regC, ↓drawC, ↓drawStep, ↓AOpC, ↓AOpF, ↓AOpE, ↓AEff, ↓contE_at, ↓contC_at, ↓keepC_at, ↓keepW_at, ↓keepO_at, ↓map_parts, ↓reduceIte, reduceCtorEq, Nat.reduceLT, Nat.reduceEqDiff, Nat.reduceAdd, Nat.reduceMul, Nat.reduceLeDiff, Nat.reduceSub, Nat.reduceBEq, Nat.reduceBNe, Nat.reduceBneDiff, Nat.reduceBeqDiff, ag_24, ag_26, ag_28, ag_3, ag_45, by_24, by_26, by_28, by_3, by_45, el_24, el_28, fi_26_0, fi_26_1, in_3, in_33, nf_26, nf_45, pl_26, pl_45, ps_26, ps_45, sz_24, sz_26, sz_28, sz_3, sz_45, ze_24, ze_26, ze_28, ze_3, ze_45, Sp4, SCostR, D4, Du4, Ou4, Df4, Of4, Dm4, Om4, Dx4, Ox4, hcu, hcf, hcl, hcx]))
        unfold SSaved
        refine ⟨Om4, fun H5 x5 => ?_⟩
        rw [Dm4, hs2]
        have Ru5 := Ru4.ext x5
        have Du5 := Ru5.dec3
        have Ou5 : ok3 45 H5 _ := ⟨_, Ru5, by omega⟩
        have Rf5 := Rf4.ext x5
        have Df5 := Rf5.dec3
        have Of5 : ok3 45 H5 _ := ⟨_, Rf5, by omega⟩
        have Rm5 := Rm4.ext x5
        have Dm5 := Rm5.dec3
        have Om5 : ok3 45 H5 _ := ⟨_, Rm5, by omega⟩
        have Rx5 := Rx4.ext x5
        have Dx5 := Rx5.dec3
        have Ox5 : ok3 45 H5 _ := ⟨_, Rx5, by omega⟩
        repeat' (first | with_reducible refine iteI (fun _ => ?_) (fun _ => ?_) | ((first | unfold AOpsC | unfold AOpsD | skip); simp (maxSteps := 1000000) (disch := (first | omega | assumption | (simp only [List.length_append, List.length_cons, List.length_nil, List.length_set]; omega))) only [go_sem, ↓skipC, ↓exitC, ↓retC, ↓seqC, ↓blockC, ↓condC, ↓regC, ↓drawC, ↓drawStep, ↓AOpC, ↓AOpF, ↓AOpE, ↓AEff, ↓contE_at, ↓contC_at, ↓keepC_at, ↓keepW_at, ↓keepO_at, ↓map_parts, ↓reduceIte, reduceCtorEq, Nat.reduceLT, Nat.reduceEqDiff, Nat.reduceAdd, Nat.reduceMul, Nat.reduceLeDiff, Nat.reduceSub, Nat.reduceBEq, Nat.reduceBNe, Nat.reduceBneDiff, Nat.reduceBeqDiff, ag_24, ag_26, ag_28, ag_3, ag_45, by_24, by_26, by_28, by_3, by_45, el_24, el_28, fi_26_0, fi_26_1, in_3, in_33, nf_26, nf_45, pl_26, pl_45, ps_26, ps_45, sz_24, sz_26, sz_28, sz_3, sz_45, ze_24, ze_26, ze_28, ze_3, ze_45, Sp4, SCostR, D4, Du5, Ou5, Df5, Of5, Dm5, Om5, Dx5, Ox5, hcu, hcf, hcl, hcx]))
        unfold SSaved
        refine ⟨Om5, fun H6 x6 => ?_⟩
        rw [Dm5, hs2]
        have Ru6 := Ru5.ext x6
        have Du6 := Ru6.dec3
        have Ou6 : ok3 45 H6 _ := ⟨_, Ru6, by omega⟩
        have Rf6 := Rf5.ext x6
        have Df6 := Rf6.dec3
        have Of6 : ok3 45 H6 _ := ⟨_, Rf6, by omega⟩
        have Rm6 := Rm5.ext x6
        have Dm6 := Rm6.dec3
        have Om6 : ok3 45 H6 _ := ⟨_, Rm6, by omega⟩
        have Rx6 := Rx5.ext x6
        have Dx6 := Rx6.dec3
        have Ox6 : ok3 45 H6 _ := ⟨_, Rx6, by omega⟩
        repeat' (first | with_reducible refine iteI (fun _ => ?_) (fun _ => ?_) | ((first | unfold AOpsC | unfold AOpsD | skip); simp (maxSteps := 1000000) (disch := (first | omega | assumption | (simp only [List.length_append, List.length_cons, List.length_nil, List.length_set]; omega))) only [go_sem, ↓skipC, ↓exitC, ↓retC, ↓seqC, ↓blockC, ↓condC, ↓regC, ↓drawC, ↓drawStep, ↓AOpC, ↓AOpF, ↓AOpE, ↓AEff, ↓contE_at, ↓contC_at, ↓keepC_at, ↓keepW_at, ↓keepO_at, ↓map_parts, ↓reduceIte, reduceCtorEq, Nat.reduceLT, Nat.reduceEqDiff, Nat.reduceAdd, Nat.reduceMul, Nat.reduceLeDiff, Nat.reduceSub, Nat.reduceBEq, Nat.reduceBNe, Nat.reduceBneDiff, Nat.reduceBeqDiff, ag_24, ag_26, ag_28, ag_3, ag_45, by_24, by_26, by_28, by_3, by_45, el_24, el_28, fi_26_0, fi_26_1, in_3, in_33, nf_26, nf_45, pl_26, pl_45, ps_26, ps_45, sz_24, sz_26, sz_28, sz_3, sz_45, ze_24, ze_26, ze_28, ze_3, ze_45, Sp4, SCostR, D4, Du6, Ou6, Df6, Of6, Dm6, Om6, Dx6, Ox6, hcu, hcf, hcl, hcx]))
        exact hK _
  · exact h.elim

/- the law -/
theorem law_ok {blks : List Blk} {x0 : AV} (s0 : AvSh blks (.rows 5 1 .u8) x0) : AF Try.prog blks.length 4 [x0] blks fun v _ => v = .bool true := by
  obtain ⟨l, hl, hlm⟩ := row8 s0
  exact f4_ok (show SDL blks.length _ _ _ from ⟨l, hl, hlm, fun _ => rfl⟩)

end Go.Proofs.Ytffefndnnbcplaa
