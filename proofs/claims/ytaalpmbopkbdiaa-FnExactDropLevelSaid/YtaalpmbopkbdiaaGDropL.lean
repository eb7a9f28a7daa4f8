/- What functions of the program compute, said in the abstract logic; no conditions. -/
import Derived.Test.YtaalpmbopkbdiaaGEv
import Derived.Test.YtaalpmbopkbdiaaGCost
import Derived.Test.YtaalpmbopkbdiaaGCopy
import Derived.Test.YtaalpmbopkbdiaaGRes
import Derived.Test.YtaalpmbopkbdiaaGRepl

namespace Go.Proofs.Ytaalpmbopkbdiaa
open Go
set_option linter.unusedSimpArgs false
set_option linter.unusedVariables false
set_option maxRecDepth 100000
set_option maxHeartbeats 8000000
attribute [local go_sem] st0 AC thenA andC locLoadB KsSW_same KsSW_grow oldLoadB noBlkB KsSL_same KsOS_same KsOS_grow pv ev put upd dstOk cv cvc binI setB Value.oneCell' EndA resA resA1 List.mapM_cons List.mapM_nil Option.pure_def Option.bind_eq_bind noLocV noLoc1 noLoc noLocs plainV cellsA newVarA putCells condA lam0 inBlockA cur lenA rowA writeA dstA appendC appendZ avoidsB avoidB clearB Array.toList_append Op.operands Call.operands newSlot Nat.zero_add Nat.add_zero Nat.succ_ne_self Nat.lt_add_one Nat.zero_lt_succ true_and and_true true_or or_true false_or or_false and_self true_implies forall_const Bool.false_eq_true Bool.true_eq_false false_implies implies_true imp_self ne_eq not_false_eq_true not_true_eq_false false_and and_false List.getElem?_toArray List.getElem?_cons_succ List.getElem?_cons_zero Option.bind_some Option.map_some Bool.not_true Bool.not_false List.getD_cons_zero List.getD_cons_succ Option.some.injEq exists_eq_left' AV.bool.injEq List.map_cons List.map_nil List.all_cons List.all_nil Bool.and_self Bool.and_true Bool.true_and List.append_nil List.cons_append List.nil_append List.length_cons List.length_nil List.drop_zero List.take_zero List.drop_succ_cons List.take_succ_cons List.take_nil List.drop_nil List.not_mem_nil List.mem_cons List.contains_nil List.contains_cons Bool.or_self Bool.or_true Bool.true_or Bool.false_or Bool.or_false Bool.and_false Bool.false_and KsS_same KsS_grow skipV KsS_ext KsSW_ext KsOS_ext rep1 rep2 rep3 rep4 rep5 List.flatten_cons List.flatten_nil partsA isPtr fillA List.size_toArray ltT ltF leT leF ltTn ltFn leTn leFn eqTi eqFi wrapId toNat1 intGet boolGet memD app_get app_last app_lst app_set app_setL app_setF set_ne set_eq gt_iff_lt ge_iff_le decide_eq_true_eq len2 len3 get20 get21 drop2 put2 get30 get31 get32 drop3 put3 putI pairEta bneTi bneFi beqTi beqFi bne_eq_false_iff_eq beq_eq_false_iff_ne beq_iff_eq bne_iff_ne Int.toNat_natCast Nat.mul_one List.length_map Bool.not_eq_true Bool.not_eq_false Bool.decide_eq_true decide_true decide_false Bool.not_eq_true' Bool.not_eq_false' decide_eq_false_iff_not eq_self Decidable.not_not

def flI (r : Int) (l : List Id3) (i : Int) : Int := if (meshB r l && inB i 0 ((l.length : Int) - 2)) = true then faceI l i.toNat else -1
def kpE (r : Int) (l : List Id3) (lev : Int) (e : Int × Int) : Bool := !decide (flI r l e.2 = lev)
def dlR (r : Int) (l : List Id3) (lev : Int) (es : List (Int × Int)) : List (Int × Int) := if meshB r l = true then es.filter (kpE r l lev) else []
def SFLv : List AV → List Blk → (AV → List Blk → Prop) → Prop
  | [.agg [.int .i64 r, v], .int .i64 i], η, K => ok3 63 η v ∧ K (.int .i64 (flI r (dec3 63 η v) i)) η
  | _, _, _ => False
def SD1 : List AV → List Blk → (AV → List Blk → Prop) → Prop
  | [.agg [.int .i64 t, .int .i64 fc], .ptr p 0 0, .ptr q 0 0], η, K => ∃ (r lev : Int) (v : AV) (l : List Id3), (η[p]? = some ⟨0, 26, 2, [.int .i64 r, v]⟩ ∧ η[q]? = some ⟨0, 3, 1, [.int .i64 lev]⟩) ∧ (IsR 63 3 enc3 η v l ∧ l.length ≤ 1048576) ∧ K (.bool (!kpE r l lev (t, fc))) η
  | _, _, _ => False
def SIxE : List AV → List Blk → (AV → List Blk → Prop) → Prop
  | [.sl b ver 0 n, .fn g [.ptr p 0 0, .ptr q 0 0]], η, K => ∃ (r lev : Int) (v : AV) (l : List Id3) (es : List (Int × Int)), g = 68 ∧ (η[p]? = some ⟨0, 26, 2, [.int .i64 r, v]⟩ ∧ η[q]? = some ⟨0, 3, 1, [.int .i64 lev]⟩) ∧ (IsR 63 3 enc3 η v l ∧ l.length ≤ 1048576) ∧ (n = es.length ∧ es.length ≤ 1048576 ∧ η[b]? = some ⟨ver, 76, 2, (es.map enc2).flatten⟩) ∧ K (.int .i64 (firstI es.length fun i => !kpE r l lev (es.getD i (0, 0)))) η
  | _, _, _ => False
def SDelE (lo : Nat) : List AV → List Blk → (AV → List Blk → Prop) → Prop
  | [.sl b ver 0 n, .fn g [.ptr p 0 0, .ptr q 0 0]], η, K => ∃ (r lev : Int) (v : AV) (l : List Id3) (es : List (Int × Int)), (g = 68 ∧ lo ≤ b ∧ b ≠ p ∧ b ≠ q ∧ ¬ hits v b) ∧ (η[p]? = some ⟨0, 26, 2, [.int .i64 r, v]⟩ ∧ η[q]? = some ⟨0, 3, 1, [.int .i64 lev]⟩) ∧ (IsR 63 3 enc3 η v l ∧ l.length ≤ 1048576) ∧ (n = es.length ∧ es.length ≤ 1048576 ∧ η[b]? = some ⟨ver, 76, 2, (es.map enc2).flatten⟩) ∧
      K (.sl b ver 0 (es.filter (kpE r l lev)).length) (η.set b ⟨ver, 76, 2, ((es.filter (kpE r l lev)).map enc2).flatten⟩)
  | _, _, _ => False
def SCloE : List AV → List Blk → (AV → List Blk → Prop) → Prop
  | [v], η, K => ∃ l : List (Int × Int), IsR 76 2 enc2 η v l ∧ l.length ≤ 1048576 ∧ K (.sl η.length 0 0 l.length) (η ++ [⟨0, 76, 2, (l.map enc2).flatten⟩])
  | _, _, _ => False
theorem all2 (l : List (Int × Int)) : ((l.map enc2).flatten).all noLoc = true := by
  rw [List.all_eq_true]
  intro x hx
  obtain ⟨c, hc, hx⟩ := List.mem_flatten.1 hx
  obtain ⟨p, _, rfl⟩ := List.mem_map.1 hc
  simp only [enc2, List.mem_cons, List.not_mem_nil, or_false] at hx
  rcases hx with rfl | rfl <;> rfl
theorem flE2 : ∀ (l : List (Int × Int)) (a : Nat), (l.map enc2).flatten.take (a * 2) = ((l.take a).map enc2).flatten
  | l, 0 => by simp
  | [], a + 1 => by simp
  | x :: l, a + 1 => by rw [Nat.add_mul, Nat.one_mul]; exact congrArg (enc2 x ++ ·) (flE2 l a)
theorem filt_snoc {es : List (Int × Int)} {f : Int × Int → Bool} {i : Nat} (h : i < es.length) : (es.take (i + 1)).filter f = (es.take i).filter f ++ (if f (es.getD i (0, 0)) = true then [es.getD i (0, 0)] else []) := by
  rw [take1 (d := (0, 0)) h, List.filter_append]
  congr 1
  simp only [List.filter_cons, List.filter_nil]
theorem filt_all {es : List (Int × Int)} {f : Int × Int → Bool} {i : Nat} (hi : i ≤ es.length) (h : (List.range i).all (fun j => !!f (es.getD j (0, 0))) = true) : (es.take i).filter f = es.take i := by
  induction i with
  | zero => simp
  | succ i ih =>
    rw [List.range_succ, List.all_append, Bool.and_eq_true] at h
    have h2 : f (es.getD i (0, 0)) = true := by simpa using h.2
    rw [filt_snoc (by omega), ih (by omega) h.1, if_pos h2, ← take1 (d := (0, 0)) (by omega)]
theorem kp_snoc {es : List (Int × Int)} {f : Int × Int → Bool} {i : Nat} (h : (List.range i).all (fun j => !!f (es.getD j (0, 0))) = true) (hk : f (es.getD i (0, 0)) = true) : (List.range (i + 1)).all (fun j => !!f (es.getD j (0, 0))) = true := by
  rw [List.range_succ, List.all_append, h]
  simp only [List.all_cons, List.all_nil, hk]
  rfl
theorem first_bad {n : Nat} {f : Nat → Bool} (h : ¬ (List.range n).all (fun j => !!f j) = true) : ∃ i, i < n ∧ (List.range i).all (fun j => !!f j) = true ∧ f i = false := by
  induction n with
  | zero => exact absurd rfl h
  | succ n ih =>
    by_cases h2 : (List.range n).all (fun j => !!f j) = true
    · refine ⟨n, by omega, h2, ?_⟩
      rw [List.range_succ, List.all_append, h2] at h
      simpa using h
    · obtain ⟨i, h3, h4⟩ := ih h2
      exact ⟨i, by omega, h4⟩
theorem filt_len (es : List (Int × Int)) (f : Int × Int → Bool) (i : Nat) : ((es.take i).filter f).length ≤ i := by
  have := List.length_filter_le f (es.take i)
  simp only [List.length_take] at this
  omega

/- slices.Clone[[]impl.Event,impl.Event] -/
theorem f67_ok {lo : Nat} {args : List AV} {η : List Blk} {K : AV → List Blk → Prop} (h : SCloE args η K) : AF Try.prog lo 67 args η K := by
  unfold SCloE at h
  split at h
  · obtain ⟨l, ⟨b, ver, rfl, hb⟩, hl, hK⟩ := h
    refine AF_run noSp_ok D0 [] [.tmp 2] hm Try.func67 rfl (by decide) Try.ntmps67 rfl (by kernel_rfl) (Nat.le_of_ble_eq_true rfl) ?_; intro hlo
    repeat' (first | with_reducible refine iteI (fun _ => ?_) (fun _ => ?_) | ((first | unfold AOpsC | unfold AOpsD | skip); simp (maxSteps := 1000000) (disch := (first | omega | assumption | (simp only [List.length_append, List.length_cons, List.length_nil, List.length_set]; omega))) only [go_sem, ↓skipC, ↓exitC, ↓retC, ↓seqC, ↓blockC, ↓condC, ↓regC, ↓drawC, ↓drawStep, ↓AOpC, ↓AOpF, ↓AOpE, ↓AEff, ↓contE_at, ↓contC_at, ↓keepC_at, ↓keepW_at, ↓keepO_at, ↓keepL_at, ↓map_parts, ↓reduceIte, reduceCtorEq, Nat.reduceLT, Nat.reduceEqDiff, Nat.reduceAdd, Nat.reduceMul, Nat.reduceLeDiff, Nat.reduceSub, Nat.reduceBEq, Nat.reduceBNe, Nat.reduceBneDiff, Nat.reduceBeqDiff, ag_45, ag_76, by_45, by_76, el_45, nf_76, pl_76, ps_76, sz_45, sz_76, ze_45, ze_76, hb, takeF2, all2, Option.isSome_some]))
    exact hK
  · exact h.elim

/- impl.FaceLevel -/
def Sp69 (lo : Nat) : Spec := fun g args η K => match g with | 65 => SMesh args η K | 98 => SIn args η K | 112 => SFace args η K | _ => False
theorem Sp69_ok {lo : Nat} : Sound Try.prog lo (Sp69 lo) := by
  intro g args η K h
  unfold Sp69 at h
  split at h
  · exact .inl (f65_ok h)
  · exact .inl (f98_ok h)
  · exact .inl (f112_ok h)
  · exact h.elim
theorem f69_ok {lo : Nat} {args : List AV} {η : List Blk} {K : AV → List Blk → Prop} (h : SFLv args η K) : AF Try.prog lo 69 args η K := by
  unfold SFLv at h
  split at h
  · obtain ⟨⟨l, hr, hl⟩, hK⟩ := h
    rename_i r _ i
    have d1 := hr.dec3
    have o1 : ok3 63 _ _ := ⟨l, hr, hl⟩
    rw [d1] at hK
    obtain ⟨b, ver, rfl, hb⟩ := hr
    refine AF_run Sp69_ok D0 [] [.tmp 4] hm Try.func69 rfl (by decide) Try.ntmps69 rfl (by kernel_rfl) (Nat.le_of_ble_eq_true rfl) ?_; intro hlo
    cases e1 : meshB r l
    · repeat' (first | with_reducible refine iteI (fun _ => ?_) (fun _ => ?_) | ((first | unfold AOpsC | unfold AOpsD | skip); simp (maxSteps := 1000000) (disch := (first | omega | assumption | (simp only [List.length_append, List.length_cons, List.length_nil, List.length_set]; omega))) only [go_sem, ↓skipC, ↓exitC, ↓retC, ↓seqC, ↓blockC, ↓condC, ↓regC, ↓drawC, ↓drawStep, ↓AOpC, ↓AOpF, ↓AOpE, ↓AEff, ↓contE_at, ↓contC_at, ↓keepC_at, ↓keepW_at, ↓keepO_at, ↓keepL_at, ↓map_parts, ↓reduceIte, reduceCtorEq, Nat.reduceLT, Nat.reduceEqDiff, Nat.reduceAdd, Nat.reduceMul, Nat.reduceLeDiff, Nat.reduceSub, Nat.reduceBEq, Nat.reduceBNe, Nat.reduceBneDiff, Nat.reduceBeqDiff, ag_24, ag_26, ag_63, by_24, by_26, by_63, el_24, fi_26_1, nf_26, nf_63, pl_26, pl_63, ps_26, ps_63, sz_24, sz_26, sz_63, ze_24, ze_26, ze_63, Sp69, SMesh, SIn, hb, d1, o1, e1]))
      exact KI hK (by simp [flI, e1])
    have hlv := mesh_levs e1
    cases e2 : inB i 0 ((l.length : Int) - 2)
    · repeat' (first | with_reducible refine iteI (fun _ => ?_) (fun _ => ?_) | ((first | unfold AOpsC | unfold AOpsD | skip); simp (maxSteps := 1000000) (disch := (first | omega | assumption | (simp only [List.length_append, List.length_cons, List.length_nil, List.length_set]; omega))) only [go_sem, ↓skipC, ↓exitC, ↓retC, ↓seqC, ↓blockC, ↓condC, ↓regC, ↓drawC, ↓drawStep, ↓AOpC, ↓AOpF, ↓AOpE, ↓AEff, ↓contE_at, ↓contC_at, ↓keepC_at, ↓keepW_at, ↓keepO_at, ↓keepL_at, ↓map_parts, ↓reduceIte, reduceCtorEq, Nat.reduceLT, Nat.reduceEqDiff, Nat.reduceAdd, Nat.reduceMul, Nat.reduceLeDiff, Nat.reduceSub, Nat.reduceBEq, Nat.reduceBNe, Nat.reduceBneDiff, Nat.reduceBeqDiff, ag_24, ag_26, ag_63, by_24, by_26, by_63, el_24, fi_26_1, nf_26, nf_63, pl_26, pl_63, ps_26, ps_63, sz_24, sz_26, sz_63, ze_24, ze_26, ze_63, Sp69, SMesh, SIn, hb, d1, o1, e1, e2]))
      exact KI hK (by simp [flI, e2])
    have e2' := inT e2
    repeat' (first | with_reducible refine iteI (fun _ => ?_) (fun _ => ?_) | ((first | unfold AOpsC | unfold AOpsD | skip); simp (maxSteps := 1000000) (disch := (first | omega | assumption | (simp only [List.length_append, List.length_cons, List.length_nil, List.length_set]; omega))) only [go_sem, ↓skipC, ↓exitC, ↓retC, ↓seqC, ↓blockC, ↓condC, ↓regC, ↓drawC, ↓drawStep, ↓AOpC, ↓AOpF, ↓AOpE, ↓AEff, ↓contE_at, ↓contC_at, ↓keepC_at, ↓keepW_at, ↓keepO_at, ↓keepL_at, ↓map_parts, ↓reduceIte, reduceCtorEq, Nat.reduceLT, Nat.reduceEqDiff, Nat.reduceAdd, Nat.reduceMul, Nat.reduceLeDiff, Nat.reduceSub, Nat.reduceBEq, Nat.reduceBNe, Nat.reduceBneDiff, Nat.reduceBeqDiff, ag_24, ag_26, ag_63, by_24, by_26, by_63, el_24, fi_26_1, nf_26, nf_63, pl_26, pl_63, ps_26, ps_63, sz_24, sz_26, sz_63, ze_24, ze_26, ze_63, Sp69, SMesh, SIn, hb, d1, o1, e1, e2]))
    unfold SFace
    simp only [d1]
    refine ⟨⟨o1, hlv, e2'.1, by omega⟩, ?_⟩
    repeat' (first | with_reducible refine iteI (fun _ => ?_) (fun _ => ?_) | ((first | unfold AOpsC | unfold AOpsD | skip); simp (maxSteps := 1000000) (disch := (first | omega | assumption | (simp only [List.length_append, List.length_cons, List.length_nil, List.length_set]; omega))) only [go_sem, ↓skipC, ↓exitC, ↓retC, ↓seqC, ↓blockC, ↓condC, ↓regC, ↓drawC, ↓drawStep, ↓AOpC, ↓AOpF, ↓AOpE, ↓AEff, ↓contE_at, ↓contC_at, ↓keepC_at, ↓keepW_at, ↓keepO_at, ↓keepL_at, ↓map_parts, ↓reduceIte, reduceCtorEq, Nat.reduceLT, Nat.reduceEqDiff, Nat.reduceAdd, Nat.reduceMul, Nat.reduceLeDiff, Nat.reduceSub, Nat.reduceBEq, Nat.reduceBNe, Nat.reduceBneDiff, Nat.reduceBeqDiff, ag_24, ag_26, ag_63, by_24, by_26, by_63, el_24, fi_26_1, nf_26, nf_63, pl_26, pl_63, ps_26, ps_63, sz_24, sz_26, sz_63, ze_24, ze_26, ze_63, Sp69, SMesh, SIn]))
    exact KI hK (by simp [flI, e1, e2])
  · exact h.elim

/- impl.DropLevel$1 -/
def Sp68 (lo : Nat) : Spec := fun g args η K => match g with | 69 => SFLv args η K | _ => False
theorem Sp68_ok {lo : Nat} : Sound Try.prog lo (Sp68 lo) := by
  intro g args η K h
  unfold Sp68 at h
  split at h
  · exact .inl (f69_ok h)
  · exact h.elim
def Dr68 : Draws := fun id => match id with | 1 => ([0, 0, 2, 7, 0, 31, 63], [3], [], (.one 0 (.one 1 (.one 2 (.one 4 (.one 3 (.one 5 (.one 6 .nil)))))))) | _ => ([], [], [], .nil)
theorem f68_ok {lo : Nat} {args : List AV} {η : List Blk} {K : AV → List Blk → Prop} (h : SD1 args η K) : AF Try.prog lo 68 args η K := by
  unfold SD1 at h
  split at h
  · obtain ⟨r, lev, v, l, ⟨hp, hq⟩, ⟨hr, hl⟩, hK⟩ := h
    rename_i t fc p q
    have d1 := hr.dec3
    have o1 : ok3 63 _ _ := ⟨l, hr, hl⟩
    obtain ⟨b, ver, rfl, hb⟩ := hr
    refine AF_run Sp68_ok Dr68 [] [.tmp 4] hm Try.func68 rfl (by decide) Try.ntmps68 rfl (by kernel_rfl) (Nat.le_of_ble_eq_true rfl) ?_; intro hlo
    repeat' (first | with_reducible refine iteI (fun _ => ?_) (fun _ => ?_) | ((first | unfold AOpsC | unfold AOpsD | skip); simp (maxSteps := 1000000) (disch := (first | omega | assumption | (simp only [List.length_append, List.length_cons, List.length_nil, List.length_set]; omega))) only [go_sem, ↓skipC, ↓exitC, ↓retC, ↓seqC, ↓blockC, ↓condC, ↓regC, ↓drawC, ↓drawStep, ↓AOpC, ↓AOpF, ↓AOpE, ↓AEff, ↓contE_at, ↓contC_at, ↓keepC_at, ↓keepW_at, ↓keepO_at, ↓keepL_at, ↓map_parts, ↓reduceIte, reduceCtorEq, Nat.reduceLT, Nat.reduceEqDiff, Nat.reduceAdd, Nat.reduceMul, Nat.reduceLeDiff, Nat.reduceSub, Nat.reduceBEq, Nat.reduceBNe, Nat.reduceBneDiff, Nat.reduceBeqDiff, ag_26, ag_3, ag_76, by_26, by_3, by_76, en_3, fi_76_1, in_3, nf_26, nf_76, pl_26, pl_76, ps_26, ps_76, sz_26, sz_3, sz_76, ze_26, ze_3, ze_76, Sp68, SFLv, Dr68, hp, hq, d1, o1]))
    refine KB hK ?_
    rw [kpE, Bool.not_not]
    rw [Bool.eq_iff_iff]
    simp
  · exact h.elim

def invIxE (η : List Blk) (b ver p q : Nat) (r lev : Int) (l : List Id3) (es : List (Int × Int)) (st : St) : Prop := ∃ i : Nat, (i ≤ es.length) ∧ ((List.range i).all (fun j => !!kpE r l lev (es.getD j (0, 0))) = true) ∧ st.n = 19 ∧ st.τ 0 = .sl b ver 0 es.length ∧ st.τ 1 = .fn 68 [.ptr p 0 0, .ptr q 0 0] ∧ st.τ 7 = .int .i64 es.length ∧ st.τ 8 = .int .i64 i ∧ st.lam = lam0 ∧ st.η = η

/- slices.IndexFunc[[]impl.Event,impl.Event] -/
def Sp111 (lo : Nat) : Spec := fun g args η K => match g with | 68 => SD1 args η K | _ => False
theorem Sp111_ok {lo : Nat} : Sound Try.prog lo (Sp111 lo) := by
  intro g args η K h
  unfold Sp111 at h
  split at h
  · exact .inl (f68_ok h)
  · exact h.elim
theorem f111_ok {lo : Nat} {args : List AV} {η : List Blk} {K : AV → List Blk → Prop} (h : SIxE args η K) : AF Try.prog lo 111 args η K := by
  unfold SIxE at h
  split at h
  · obtain ⟨r, lev, v, l, es, rfl, hpq, hrl, ⟨rfl, hn, hb⟩, hK⟩ := h
    rename_i b ver p q
    refine AF_run Sp111_ok D0 [] [.tmp 4] hm Try.func111 rfl (by decide) Try.ntmps111 rfl (by kernel_rfl) (Nat.le_of_ble_eq_true rfl) ?_; intro hlo
    repeat' (first | with_reducible refine iteI (fun _ => ?_) (fun _ => ?_) | ((first | unfold AOpsC | unfold AOpsD | skip); simp (maxSteps := 1000000) (disch := (first | omega | assumption | (simp only [List.length_append, List.length_cons, List.length_nil, List.length_set]; omega))) only [go_sem, ↓skipC, ↓exitC, ↓retC, ↓seqC, ↓blockC, ↓condC, ↓regC, ↓drawC, ↓drawStep, ↓AOpC, ↓AOpF, ↓AOpE, ↓AEff, ↓contE_at, ↓contC_at, ↓keepC_at, ↓keepW_at, ↓keepO_at, ↓keepL_at, ↓map_parts, ↓reduceIte, reduceCtorEq, Nat.reduceLT, Nat.reduceEqDiff, Nat.reduceAdd, Nat.reduceMul, Nat.reduceLeDiff, Nat.reduceSub, Nat.reduceBEq, Nat.reduceBNe, Nat.reduceBneDiff, Nat.reduceBeqDiff, ag_45, ag_76, by_45, by_76, el_45, nf_76, pl_76, ps_76, sz_45, sz_76, ze_45, ze_76, Sp111, hb]))
    refine ⟨invIxE η b ver p q r lev l es, fun st => ctr es.length st 8, .inl ⟨0, Nat.zero_le _, rfl, rfl, (by first | (simp [upd]; done) | (simp [upd, *]; done) | rfl), (by first | (simp [upd]; done) | (simp [upd, *]; done) | rfl), (by first | (simp [upd]; done) | (simp [upd, *]; done) | rfl), (by first | (simp [upd]; done) | (simp [upd, *]; done) | rfl), rfl, rfl⟩, ?_⟩
    rintro ⟨n, τ, lam, η'⟩ ⟨i, g0, g1, hn, t0, t1, t7, t8, hlam, hη⟩; simp only at hn t0 t1 t7 t8 hlam hη; subst hn hlam hη
    by_cases hlt : i < es.length
    · repeat' (first | with_reducible refine iteI (fun _ => ?_) (fun _ => ?_) | ((first | unfold AOpsC | unfold AOpsD | skip); simp (maxSteps := 1000000) (disch := (first | omega | assumption | (simp only [List.length_append, List.length_cons, List.length_nil, List.length_set]; omega))) only [go_sem, ↓skipC, ↓exitC, ↓retC, ↓seqC, ↓blockC, ↓condC, ↓regC, ↓drawC, ↓drawStep, ↓AOpC, ↓AOpF, ↓AOpE, ↓AEff, ↓contE_at, ↓contC_at, ↓keepC_at, ↓keepW_at, ↓keepO_at, ↓keepL_at, ↓map_parts, ↓reduceIte, reduceCtorEq, Nat.reduceLT, Nat.reduceEqDiff, Nat.reduceAdd, Nat.reduceMul, Nat.reduceLeDiff, Nat.reduceSub, Nat.reduceBEq, Nat.reduceBNe, Nat.reduceBneDiff, Nat.reduceBeqDiff, ag_45, ag_76, by_45, by_76, el_45, nf_76, pl_76, ps_76, sz_45, sz_76, ze_45, ze_76, Sp111, hb, t0, t1, t7, t8]))
      unfold SD1
      refine ⟨r, lev, v, l, hpq, hrl, ?_⟩
      cases hk : kpE r l lev (es.getD i (0, 0))
      · have hres := first_here (n := es.length) (p := fun i => !kpE r l lev (es.getD i (0, 0))) hlt g1 (by simp only [hk]; rfl)
        rw [hres] at hK
        repeat' (first | with_reducible refine iteI (fun _ => ?_) (fun _ => ?_) | ((first | unfold AOpsC | unfold AOpsD | skip); simp (maxSteps := 1000000) (disch := (first | omega | assumption | (simp only [List.length_append, List.length_cons, List.length_nil, List.length_set]; omega))) only [go_sem, ↓skipC, ↓exitC, ↓retC, ↓seqC, ↓blockC, ↓condC, ↓regC, ↓drawC, ↓drawStep, ↓AOpC, ↓AOpF, ↓AOpE, ↓AEff, ↓contE_at, ↓contC_at, ↓keepC_at, ↓keepW_at, ↓keepO_at, ↓keepL_at, ↓map_parts, ↓reduceIte, reduceCtorEq, Nat.reduceLT, Nat.reduceEqDiff, Nat.reduceAdd, Nat.reduceMul, Nat.reduceLeDiff, Nat.reduceSub, Nat.reduceBEq, Nat.reduceBNe, Nat.reduceBneDiff, Nat.reduceBeqDiff, ag_45, ag_76, by_45, by_76, el_45, nf_76, pl_76, ps_76, sz_45, sz_76, ze_45, ze_76, Sp111, hb, hk, t0, t1, t7, t8]))
        exact hK
      · repeat' (first | with_reducible refine iteI (fun _ => ?_) (fun _ => ?_) | ((first | unfold AOpsC | unfold AOpsD | skip); simp (maxSteps := 1000000) (disch := (first | omega | assumption | (simp only [List.length_append, List.length_cons, List.length_nil, List.length_set]; omega))) only [go_sem, ↓skipC, ↓exitC, ↓retC, ↓seqC, ↓blockC, ↓condC, ↓regC, ↓drawC, ↓drawStep, ↓AOpC, ↓AOpF, ↓AOpE, ↓AEff, ↓contE_at, ↓contC_at, ↓keepC_at, ↓keepW_at, ↓keepO_at, ↓keepL_at, ↓map_parts, ↓reduceIte, reduceCtorEq, Nat.reduceLT, Nat.reduceEqDiff, Nat.reduceAdd, Nat.reduceMul, Nat.reduceLeDiff, Nat.reduceSub, Nat.reduceBEq, Nat.reduceBNe, Nat.reduceBneDiff, Nat.reduceBeqDiff, ag_45, ag_76, by_45, by_76, el_45, nf_76, pl_76, ps_76, sz_45, sz_76, ze_45, ze_76, Sp111, hb, hk, t0, t1, t7, t8]))
        have hk2 := kp_snoc g1 hk
        refine ⟨⟨i + 1, hlt, hk2, rfl, (by simp [upd, t0, t1, t7, t8]), (by simp [upd, t0, t1, t7, t8]), (by simp [upd, t0, t1, t7, t8]), (by simp [upd, t0, t1, t7, t8]), rfl, rfl⟩, (by simp [ctr, upd, t0, t1, t7, t8]; omega)⟩
    · obtain rfl : i = es.length := by omega
      rw [first_none g1] at hK
      repeat' (first | with_reducible refine iteI (fun _ => ?_) (fun _ => ?_) | ((first | unfold AOpsC | unfold AOpsD | skip); simp (maxSteps := 1000000) (disch := (first | omega | assumption | (simp only [List.length_append, List.length_cons, List.length_nil, List.length_set]; omega))) only [go_sem, ↓skipC, ↓exitC, ↓retC, ↓seqC, ↓blockC, ↓condC, ↓regC, ↓drawC, ↓drawStep, ↓AOpC, ↓AOpF, ↓AOpE, ↓AEff, ↓contE_at, ↓contC_at, ↓keepC_at, ↓keepW_at, ↓keepO_at, ↓keepL_at, ↓map_parts, ↓reduceIte, reduceCtorEq, Nat.reduceLT, Nat.reduceEqDiff, Nat.reduceAdd, Nat.reduceMul, Nat.reduceLeDiff, Nat.reduceSub, Nat.reduceBEq, Nat.reduceBNe, Nat.reduceBneDiff, Nat.reduceBeqDiff, ag_45, ag_76, by_45, by_76, el_45, nf_76, pl_76, ps_76, sz_45, sz_76, ze_45, ze_76, Sp111, hb, t0, t1, t7, t8]))
      exact hK
  · exact h.elim

def invDlE (η : List Blk) (b ver p q : Nat) (r lev : Int) (l : List Id3) (es : List (Int × Int)) (st : St) : Prop := ∃ i : Nat, ∃ L : List (Int × Int), (i ≤ es.length) ∧ (L.length = es.length ∧ L.take ((es.take i).filter (kpE r l lev)).length = ((es.take i).filter (kpE r l lev)) ∧ L.drop i = es.drop i) ∧ st.n = 42 ∧ st.τ 0 = .sl b ver 0 es.length ∧ st.τ 1 = .fn 68 [.ptr p 0 0, .ptr q 0 0] ∧ st.τ 5 = .int .i64 ((es.take i).filter (kpE r l lev)).length ∧ st.τ 6 = .int .i64 i ∧ st.η = η.set b ⟨ver, 76, 2, (L.map enc2).flatten⟩

theorem set_back {η : List Blk} {b : Nat} {B : Blk} (h : η[b]? = some B) : η.set b B = η := by
  apply List.ext_getElem?
  intro j
  by_cases hj : b = j
  · subst hj
    rw [set_eq (blt h), h]
  · rw [set_ne hj]
theorem drop_getD {L es : List (Int × Int)} {i : Nat} (h : L.drop i = es.drop i) : L.getD i (0, 0) = es.getD i (0, 0) := by
  have := congrArg (fun l : List (Int × Int) => l[0]?) h
  simp only [List.getElem?_drop, Nat.add_zero] at this
  rw [List.getD_eq_getElem?_getD, List.getD_eq_getElem?_getD, this]
theorem drop_next {L es : List (Int × Int)} {i : Nat} (h : L.drop i = es.drop i) : L.drop (i + 1) = es.drop (i + 1) := by
  rw [← List.drop_drop, ← List.drop_drop, h]
theorem keep_step {L es K : List (Int × Int)} {i : Nat} {e : Int × Int} (hl : L.length = es.length) (hi : i < es.length) (hk : K.length ≤ i) (h1 : L.take K.length = K) (h2 : L.drop i = es.drop i) : (L.set K.length e).length = es.length ∧ (L.set K.length e).take (K ++ [e]).length = K ++ [e] ∧ (L.set K.length e).drop (i + 1) = es.drop (i + 1) := by
  refine ⟨by simpa using hl, ?_, ?_⟩
  · rw [List.length_append, List.length_cons, List.length_nil, Nat.zero_add, List.take_add_one, List.take_set_of_le (Nat.le_refl _), h1, List.getElem?_set_self (by omega)]
    rfl
  · rw [List.drop_set_of_lt (by omega)]
    exact drop_next h2

/- slices.DeleteFunc[[]impl.Event,impl.Event] -/
def Sp66 (lo : Nat) : Spec := fun g args η K => match g with | 68 => SD1 args η K | 111 => SIxE args η K | _ => False
theorem Sp66_ok {lo : Nat} : Sound Try.prog lo (Sp66 lo) := by
  intro g args η K h
  unfold Sp66 at h
  split at h
  · exact .inl (f68_ok h)
  · exact .inl (f111_ok h)
  · exact h.elim
theorem f66_ok {lo : Nat} {args : List AV} {η : List Blk} {K : AV → List Blk → Prop} (h : SDelE lo args η K) : AF Try.prog lo 66 args η K := by
  unfold SDelE at h
  split at h
  · obtain ⟨r, lev, v, l, es, ⟨rfl, hlb, hbp, hbq, hbv⟩, ⟨hp, hq⟩, ⟨hr, hl⟩, ⟨rfl, hn, hb⟩, hK⟩ := h
    rename_i b ver p q
    have lb := blt hb
    refine AF_forget ?_
    refine AF_run Sp66_ok D0 [] [.tmp 4] hm Try.func66 rfl (by decide) Try.ntmps66 rfl (by kernel_rfl) (Nat.le_of_ble_eq_true rfl) ?_; intro hlo
    repeat' (first | with_reducible refine iteI (fun _ => ?_) (fun _ => ?_) | ((first | unfold AOpsC | unfold AOpsD | skip); simp (maxSteps := 1000000) (disch := (first | omega | assumption | (simp only [List.length_append, List.length_cons, List.length_nil, List.length_set]; omega))) only [go_sem, ↓skipC, ↓exitC, ↓retC, ↓seqC, ↓blockC, ↓condC, ↓regC, ↓drawC, ↓drawStep, ↓AOpC, ↓AOpF, ↓AOpE, ↓AEff, ↓contE_at, ↓contC_at, ↓keepC_at, ↓keepW_at, ↓keepO_at, ↓keepL_at, ↓map_parts, ↓reduceIte, reduceCtorEq, Nat.reduceLT, Nat.reduceEqDiff, Nat.reduceAdd, Nat.reduceMul, Nat.reduceLeDiff, Nat.reduceSub, Nat.reduceBEq, Nat.reduceBNe, Nat.reduceBneDiff, Nat.reduceBeqDiff, ag_45, ag_76, by_45, by_76, el_45, nf_76, pl_76, ps_76, sz_45, sz_76, ze_45, ze_76, Sp66, hb]))
    unfold SIxE
    refine ⟨r, lev, v, l, es, rfl, ⟨hp, hq⟩, ⟨hr, hl⟩, ⟨rfl, hn, hb⟩, ?_⟩
    by_cases hx : (List.range es.length).all (fun j => !!kpE r l lev (es.getD j (0, 0))) = true
    · have hf := filt_all (Nat.le_refl _) hx
      rw [List.take_length] at hf
      rw [hf, set_back hb] at hK
      rw [first_none hx]
      repeat' (first | with_reducible refine iteI (fun _ => ?_) (fun _ => ?_) | ((first | unfold AOpsC | unfold AOpsD | skip); simp (maxSteps := 1000000) (disch := (first | omega | assumption | (simp only [List.length_append, List.length_cons, List.length_nil, List.length_set]; omega))) only [go_sem, ↓skipC, ↓exitC, ↓retC, ↓seqC, ↓blockC, ↓condC, ↓regC, ↓drawC, ↓drawStep, ↓AOpC, ↓AOpF, ↓AOpE, ↓AEff, ↓contE_at, ↓contC_at, ↓keepC_at, ↓keepW_at, ↓keepO_at, ↓keepL_at, ↓map_parts, ↓reduceIte, reduceCtorEq, Nat.reduceLT, Nat.reduceEqDiff, Nat.reduceAdd, Nat.reduceMul, Nat.reduceLeDiff, Nat.reduceSub, Nat.reduceBEq, Nat.reduceBNe, Nat.reduceBneDiff, Nat.reduceBeqDiff, ag_45, ag_76, by_45, by_76, el_45, nf_76, pl_76, ps_76, sz_45, sz_76, ze_45, ze_76, Sp66, hb]))
      exact .inr (.inl hK)
    · obtain ⟨i0, hi0, hpre, hbad⟩ : ∃ i0, i0 < es.length ∧ (List.range i0).all (fun j => !!kpE r l lev (es.getD j (0, 0))) = true ∧ kpE r l lev (es.getD i0 (0, 0)) = false := first_bad (f := fun j => kpE r l lev (es.getD j (0, 0))) hx
      rw [first_here (n := es.length) (p := fun i => !kpE r l lev (es.getD i (0, 0))) hi0 hpre (by simp only [hbad]; rfl)]
      have hf0 := filt_all (by omega) hpre
      have hf1 : (es.take (i0 + 1)).filter (kpE r l lev) = es.take i0 := by rw [filt_snoc hi0, hf0, hbad]; simp
      repeat' (first | with_reducible refine iteI (fun _ => ?_) (fun _ => ?_) | ((first | unfold AOpsC | unfold AOpsD | skip); simp (maxSteps := 1000000) (disch := (first | omega | assumption | (simp only [List.length_append, List.length_cons, List.length_nil, List.length_set]; omega))) only [go_sem, ↓skipC, ↓exitC, ↓retC, ↓seqC, ↓blockC, ↓condC, ↓regC, ↓drawC, ↓drawStep, ↓AOpC, ↓AOpF, ↓AOpE, ↓AEff, ↓contE_at, ↓contC_at, ↓keepC_at, ↓keepW_at, ↓keepO_at, ↓keepL_at, ↓map_parts, ↓reduceIte, reduceCtorEq, Nat.reduceLT, Nat.reduceEqDiff, Nat.reduceAdd, Nat.reduceMul, Nat.reduceLeDiff, Nat.reduceSub, Nat.reduceBEq, Nat.reduceBNe, Nat.reduceBneDiff, Nat.reduceBeqDiff, ag_45, ag_76, by_45, by_76, el_45, nf_76, pl_76, ps_76, sz_45, sz_76, ze_45, ze_76, Sp66, hb]))
      refine ⟨invDlE η b ver p q r lev l es, fun st => ctr es.length st 6, .inl ⟨i0 + 1, es, by omega, ⟨rfl, by rw [hf1]; simp, rfl⟩, rfl, by simp [upd], by simp [upd], by rw [hf1]; simp [upd]; omega, by simp [upd], by rw [set_back hb]⟩, ?_⟩
      clear hf0 hf1 hbad hpre hi0 hx
      rintro ⟨n, τ, lam, η'⟩ ⟨i, L, g0, g1, hn, t0, t1, t5, t6, hη⟩; simp only at hn t0 t1 t5 t6 hη; subst hn hη
      obtain ⟨hL1, hL2, hL3⟩ := g1
      have hb' : (η.set b (⟨ver, 76, 2, (L.map enc2).flatten⟩ : Blk))[b]? = _ := set_eq lb
      have hp' : (η.set b (⟨ver, 76, 2, (L.map enc2).flatten⟩ : Blk))[p]? = _ := setBlk hp hbp
      have hq' : (η.set b (⟨ver, 76, 2, (L.map enc2).flatten⟩ : Blk))[q]? = _ := setBlk hq hbq
      have hr' : IsR 63 3 enc3 (η.set b (⟨ver, 76, 2, (L.map enc2).flatten⟩ : Blk)) v l := by
        obtain ⟨c, w, rfl, hc⟩ := hr
        exact ⟨c, w, rfl, setBlk hc fun e => hbv e.symm⟩
      have hkl := filt_len es (kpE r l lev) i
      by_cases hlt : i < es.length
      · have hg := drop_getD hL3
        repeat' (first | with_reducible refine iteI (fun _ => ?_) (fun _ => ?_) | ((first | unfold AOpsC | unfold AOpsD | skip); simp (maxSteps := 1000000) (disch := (first | omega | assumption | (simp only [List.length_append, List.length_cons, List.length_nil, List.length_set]; omega))) only [go_sem, ↓skipC, ↓exitC, ↓retC, ↓seqC, ↓blockC, ↓condC, ↓regC, ↓drawC, ↓drawStep, ↓AOpC, ↓AOpF, ↓AOpE, ↓AEff, ↓contE_at, ↓contC_at, ↓keepC_at, ↓keepW_at, ↓keepO_at, ↓keepL_at, ↓map_parts, ↓reduceIte, reduceCtorEq, Nat.reduceLT, Nat.reduceEqDiff, Nat.reduceAdd, Nat.reduceMul, Nat.reduceLeDiff, Nat.reduceSub, Nat.reduceBEq, Nat.reduceBNe, Nat.reduceBneDiff, Nat.reduceBeqDiff, ag_45, ag_76, by_45, by_76, el_45, nf_76, pl_76, ps_76, sz_45, sz_76, ze_45, ze_76, Sp66, hb', hL1, hg, t0, t1, t5, t6]))
        unfold SD1
        refine ⟨r, lev, v, l, ⟨hp', hq'⟩, ⟨hr', hl⟩, ?_⟩
        cases hk : kpE r l lev (es.getD i (0, 0))
        · have hs : (es.take (i + 1)).filter (kpE r l lev) = (es.take i).filter (kpE r l lev) := by rw [filt_snoc hlt, hk]; simp
          repeat' (first | with_reducible refine iteI (fun _ => ?_) (fun _ => ?_) | ((first | unfold AOpsC | unfold AOpsD | skip); simp (maxSteps := 1000000) (disch := (first | omega | assumption | (simp only [List.length_append, List.length_cons, List.length_nil, List.length_set]; omega))) only [go_sem, ↓skipC, ↓exitC, ↓retC, ↓seqC, ↓blockC, ↓condC, ↓regC, ↓drawC, ↓drawStep, ↓AOpC, ↓AOpF, ↓AOpE, ↓AEff, ↓contE_at, ↓contC_at, ↓keepC_at, ↓keepW_at, ↓keepO_at, ↓keepL_at, ↓map_parts, ↓reduceIte, reduceCtorEq, Nat.reduceLT, Nat.reduceEqDiff, Nat.reduceAdd, Nat.reduceMul, Nat.reduceLeDiff, Nat.reduceSub, Nat.reduceBEq, Nat.reduceBNe, Nat.reduceBneDiff, Nat.reduceBeqDiff, ag_45, ag_76, by_45, by_76, el_45, nf_76, pl_76, ps_76, sz_45, sz_76, ze_45, ze_76, Sp66, hb', hL1, hg, hk, t0, t1, t5, t6]))
          exact ⟨⟨i + 1, L, hlt, ⟨hL1, by rw [hs]; exact hL2, drop_next hL3⟩, rfl, by simp [upd, t0], by simp [upd, t1], by simp [upd, t5, hs], by simp [upd], rfl⟩, by simp [ctr, upd, t6]; omega⟩
        · have hs : (es.take (i + 1)).filter (kpE r l lev) = (es.take i).filter (kpE r l lev) ++ [es.getD i (0, 0)] := by rw [filt_snoc hlt, hk]; simp
          have hks := keep_step (e := es.getD i (0, 0)) hL1 hlt hkl hL2 hL3
          repeat' (first | with_reducible refine iteI (fun _ => ?_) (fun _ => ?_) | ((first | unfold AOpsC | unfold AOpsD | skip); simp (maxSteps := 1000000) (disch := (first | omega | assumption | (simp only [List.length_append, List.length_cons, List.length_nil, List.length_set]; omega))) only [go_sem, ↓skipC, ↓exitC, ↓retC, ↓seqC, ↓blockC, ↓condC, ↓regC, ↓drawC, ↓drawStep, ↓AOpC, ↓AOpF, ↓AOpE, ↓AEff, ↓contE_at, ↓contC_at, ↓keepC_at, ↓keepW_at, ↓keepO_at, ↓keepL_at, ↓map_parts, ↓reduceIte, reduceCtorEq, Nat.reduceLT, Nat.reduceEqDiff, Nat.reduceAdd, Nat.reduceMul, Nat.reduceLeDiff, Nat.reduceSub, Nat.reduceBEq, Nat.reduceBNe, Nat.reduceBneDiff, Nat.reduceBeqDiff, ag_45, ag_76, by_45, by_76, el_45, nf_76, pl_76, ps_76, sz_45, sz_76, ze_45, ze_76, Sp66, hb', hL1, hg, hk, List.set_set, t0, t1, t5, t6]))
          exact ⟨⟨i + 1, _, hlt, by rw [hs]; exact hks, rfl, by simp [upd, t0], by simp [upd, t1], by simp [upd, t5, hs], by simp [upd], rfl⟩, by simp [ctr, upd, t6]; omega⟩
      · obtain rfl : i = es.length := by omega
        rw [List.take_length] at hL2 hkl t5
        repeat' (first | with_reducible refine iteI (fun _ => ?_) (fun _ => ?_) | ((first | unfold AOpsC | unfold AOpsD | skip); simp (maxSteps := 1000000) (disch := (first | omega | assumption | (simp only [List.length_append, List.length_cons, List.length_nil, List.length_set]; omega))) only [go_sem, ↓skipC, ↓exitC, ↓retC, ↓seqC, ↓blockC, ↓condC, ↓regC, ↓drawC, ↓drawStep, ↓AOpC, ↓AOpF, ↓AOpE, ↓AEff, ↓contE_at, ↓contC_at, ↓keepC_at, ↓keepW_at, ↓keepO_at, ↓keepL_at, ↓map_parts, ↓reduceIte, reduceCtorEq, Nat.reduceLT, Nat.reduceEqDiff, Nat.reduceAdd, Nat.reduceMul, Nat.reduceLeDiff, Nat.reduceSub, Nat.reduceBEq, Nat.reduceBNe, Nat.reduceBneDiff, Nat.reduceBeqDiff, ag_45, ag_76, by_45, by_76, el_45, nf_76, pl_76, ps_76, sz_45, sz_76, ze_45, ze_76, Sp66, hb', hL1, Int.toNat_zero, Nat.zero_mul, Nat.sub_zero, t0, t1, t5, t6]))
        refine .inr (.inr ⟨b, _, (es.filter (kpE r l lev)).length * 2, hlb, set_eq (by simpa using lb), ?_⟩)
        have he : (layA (L.map enc2).flatten ((es.filter (kpE r l lev)).length * 2) (List.replicate (es.length - (es.filter (kpE r l lev)).length) [AV.int .i64 0, AV.int .i64 0]).flatten).take ((es.filter (kpE r l lev)).length * 2) = ((es.filter (kpE r l lev)).map enc2).flatten := by
          rw [layA_under (by rw [len2]; omega) (Nat.le_refl _), flE2, hL2]
        simp only [List.set_set, he]
        exact hK
  · exact h.elim

def SDrp : List AV → List Blk → (AV → List Blk → Prop) → Prop
  | [.agg [.int .i64 r, v], w, .int .i64 lev], η, K => (ok3 63 η v ∧ ok2 76 η w) ∧ ∀ H u, NewR 76 2 enc2 η.length H u (dlR r (dec3 63 η v) lev (dec2 76 η w)) → Ext η H → K u H
  | _, _, _ => False

/- impl.DropLevel -/
def Sp29 (lo : Nat) : Spec := fun g args η K => match g with | 65 => SMesh args η K | 66 => SDelE lo args η K | 67 => SCloE args η K | _ => False
theorem Sp29_ok {lo : Nat} : Sound Try.prog lo (Sp29 lo) := by
  intro g args η K h
  unfold Sp29 at h
  split at h
  · exact .inl (f65_ok h)
  · exact .inl (f66_ok h)
  · exact .inl (f67_ok h)
  · exact h.elim
theorem f29_ok {lo : Nat} {args : List AV} {η : List Blk} {K : AV → List Blk → Prop} (h : SDrp args η K) : AF Try.prog lo 29 args η K := by
  unfold SDrp at h
  split at h
  · obtain ⟨⟨⟨l, hr, hl⟩, ⟨es, hw, hwl⟩⟩, hK⟩ := h
    rename_i r _ _ lev
    have d1 := hr.dec3
    have o1 : ok3 63 _ _ := ⟨l, hr, hl⟩
    rw [d1, hw.dec2] at hK
    have hr0 := hr
    obtain ⟨b, ver, rfl, hb⟩ := hr
    obtain ⟨bw, vw, rfl, hbw⟩ := hw
    have lb := blt hb
    have lw := blt hbw
    refine AF_run Sp29_ok D0 [3,5] [.tmp 6] hm Try.func29 rfl (by decide) Try.ntmps29 rfl (by kernel_rfl) (Nat.le_of_ble_eq_true rfl) ?_; intro hlo
    have x2 : ∀ a c : Blk, Ext η (η ++ [a] ++ [c]) := fun a c => ((Ext.refl η).app _).app _
    have D1 : ∀ a c : Blk, dec3 63 (η ++ [a] ++ [c]) (.sl b ver 0 l.length) = l := fun a c => (hr0.ext (x2 a c)).dec3
    have O1 : ∀ a c : Blk, ok3 63 (η ++ [a] ++ [c]) (.sl b ver 0 l.length) := fun a c => ⟨l, hr0.ext (x2 a c), hl⟩
    cases e1 : meshB r l
    · repeat' (first | with_reducible refine iteI (fun _ => ?_) (fun _ => ?_) | ((first | unfold AOpsC | unfold AOpsD | skip); simp (maxSteps := 1000000) (disch := (first | omega | assumption | (simp only [List.length_append, List.length_cons, List.length_nil, List.length_set]; omega))) only [go_sem, ↓skipC, ↓exitC, ↓retC, ↓seqC, ↓blockC, ↓condC, ↓regC, ↓drawC, ↓drawStep, ↓AOpC, ↓AOpF, ↓AOpE, ↓AEff, ↓contE_at, ↓contC_at, ↓keepC_at, ↓keepW_at, ↓keepO_at, ↓keepL_at, ↓map_parts, ↓reduceIte, reduceCtorEq, Nat.reduceLT, Nat.reduceEqDiff, Nat.reduceAdd, Nat.reduceMul, Nat.reduceLeDiff, Nat.reduceSub, Nat.reduceBEq, Nat.reduceBNe, Nat.reduceBneDiff, Nat.reduceBeqDiff, ag_26, ag_3, by_26, by_3, en_3, in_3, nf_26, pl_26, ps_26, sz_26, sz_3, ze_26, ze_3, Sp29, SMesh, hb, D1, O1, e1]))
      exact hK _ _ ((NewR.nil _ _).eq (by simp [dlR, e1])) (x2 _ _)
    repeat' (first | with_reducible refine iteI (fun _ => ?_) (fun _ => ?_) | ((first | unfold AOpsC | unfold AOpsD | skip); simp (maxSteps := 1000000) (disch := (first | omega | assumption | (simp only [List.length_append, List.length_cons, List.length_nil, List.length_set]; omega))) only [go_sem, ↓skipC, ↓exitC, ↓retC, ↓seqC, ↓blockC, ↓condC, ↓regC, ↓drawC, ↓drawStep, ↓AOpC, ↓AOpF, ↓AOpE, ↓AEff, ↓contE_at, ↓contC_at, ↓keepC_at, ↓keepW_at, ↓keepO_at, ↓keepL_at, ↓map_parts, ↓reduceIte, reduceCtorEq, Nat.reduceLT, Nat.reduceEqDiff, Nat.reduceAdd, Nat.reduceMul, Nat.reduceLeDiff, Nat.reduceSub, Nat.reduceBEq, Nat.reduceBNe, Nat.reduceBneDiff, Nat.reduceBeqDiff, ag_26, ag_3, by_26, by_3, en_3, in_3, nf_26, pl_26, ps_26, sz_26, sz_3, ze_26, ze_3, Sp29, SMesh, hb, D1, O1, e1]))
    unfold SCloE
    refine ⟨es, ⟨bw, vw, rfl, (x2 _ _).blk hbw⟩, hwl, ?_⟩
    repeat' (first | with_reducible refine iteI (fun _ => ?_) (fun _ => ?_) | ((first | unfold AOpsC | unfold AOpsD | skip); simp (maxSteps := 1000000) (disch := (first | omega | assumption | (simp only [List.length_append, List.length_cons, List.length_nil, List.length_set]; omega))) only [go_sem, ↓skipC, ↓exitC, ↓retC, ↓seqC, ↓blockC, ↓condC, ↓regC, ↓drawC, ↓drawStep, ↓AOpC, ↓AOpF, ↓AOpE, ↓AEff, ↓contE_at, ↓contC_at, ↓keepC_at, ↓keepW_at, ↓keepO_at, ↓keepL_at, ↓map_parts, ↓reduceIte, reduceCtorEq, Nat.reduceLT, Nat.reduceEqDiff, Nat.reduceAdd, Nat.reduceMul, Nat.reduceLeDiff, Nat.reduceSub, Nat.reduceBEq, Nat.reduceBNe, Nat.reduceBneDiff, Nat.reduceBeqDiff, ag_26, ag_3, by_26, by_3, en_3, in_3, nf_26, pl_26, ps_26, sz_26, sz_3, ze_26, ze_3, Sp29, SMesh]))
    obtain ⟨E, hE⟩ : ∃ E, E = η ++ [(⟨0, 26, 2, [.int .i64 r, .sl b ver 0 l.length]⟩ : Blk)] ++ [⟨0, 3, 1, [.int .i64 lev]⟩] := ⟨_, rfl⟩
    rw [← hE]
    have xE : Ext η E := by rw [hE]; exact x2 _ _
    have eq := fun c : Nat => congrArg (fun L : List Blk => L[c]?) hE
    have hp : E[η.length]? = some ⟨0, 26, 2, [.int .i64 r, .sl b ver 0 l.length]⟩ := (eq η.length).trans (by simp)
    have hq : E[η.length + 1]? = some ⟨0, 3, 1, [.int .i64 lev]⟩ := (eq (η.length + 1)).trans (by simp)
    have hEl : E.length = η.length + 2 := by rw [hE]; simp
    clear eq
    have e1l : ∀ a : Blk, (η ++ [a]).length = η.length + 1 := fun a => by simp
    simp only [e1l]
    unfold SDelE
    have xF : ∀ a : Blk, Ext E (E ++ [a]) := fun a => (Ext.refl E).app _
    refine ⟨r, lev, _, l, es, ⟨rfl, by omega, by omega, by omega, fun h => by simp only [hits] at h; omega⟩, ⟨(xF _).blk hp, (xF _).blk hq⟩, ⟨hr0.ext (xE.trans (xF _)), hl⟩, ⟨rfl, hwl, app_last _ _⟩, ?_⟩
    repeat' (first | with_reducible refine iteI (fun _ => ?_) (fun _ => ?_) | ((first | unfold AOpsC | unfold AOpsD | skip); simp (maxSteps := 1000000) (disch := (first | omega | assumption | (simp only [List.length_append, List.length_cons, List.length_nil, List.length_set]; omega))) only [go_sem, ↓skipC, ↓exitC, ↓retC, ↓seqC, ↓blockC, ↓condC, ↓regC, ↓drawC, ↓drawStep, ↓AOpC, ↓AOpF, ↓AOpE, ↓AEff, ↓contE_at, ↓contC_at, ↓keepC_at, ↓keepW_at, ↓keepO_at, ↓keepL_at, ↓map_parts, ↓reduceIte, reduceCtorEq, Nat.reduceLT, Nat.reduceEqDiff, Nat.reduceAdd, Nat.reduceMul, Nat.reduceLeDiff, Nat.reduceSub, Nat.reduceBEq, Nat.reduceBNe, Nat.reduceBneDiff, Nat.reduceBeqDiff, ag_26, ag_3, by_26, by_3, en_3, in_3, nf_26, pl_26, ps_26, sz_26, sz_3, ze_26, ze_3, Sp29, SMesh]))
    exact hK _ _ ((NewR.mk (b := E.length) (ver := 0) (by omega) (app_last _ _)).eq (by rw [dlR, if_pos e1])) (xE.trans (xF _))
  · exact h.elim

def invDrS (η : List Blk) (r lev : Int) (v w : AV) (l : List Id3) (es : List (Int × Int)) (st : St) : Prop := ∃ i : Nat, ∃ H : List Blk, ∃ bl : Nat, ∃ wer : Nat, (i ≤ es.length) ∧ (Ext η H) ∧ (η.length ≤ bl) ∧ (H[bl]? = some ⟨wer, 76, 2, (((es.take i).filter (kpE r l lev)).map enc2).flatten⟩) ∧ st.n = 49 ∧ st.τ 1 = w ∧ st.τ 2 = .int .i64 lev ∧ st.τ 3 = .loc 3 1 0 ∧ st.τ 7 = .sl bl wer 0 ((es.take i).filter (kpE r l lev)).length ∧ st.τ 8 = .int .i64 i ∧ st.lam 3 = ⟨1, [.int .i64 r, v]⟩ ∧ st.η = H

/- spec.DropLevel -/
def Sp27 (lo : Nat) : Spec := fun g args η K => match g with | 61 => SMesh args η K | 62 => SIn args η K | 63 => SFace args η K | _ => False
theorem Sp27_ok {lo : Nat} : Sound Try.prog lo (Sp27 lo) := by
  intro g args η K h
  unfold Sp27 at h
  split at h
  · exact .inl (f61_ok h)
  · exact .inl (f62_ok h)
  · exact .inl (f63_ok h)
  · exact h.elim
def Dr27 : Draws := fun id => match id with | 6 => ([0, 0, 3, 7, 15, 0, 32, 96, 224, 511], [], [], (.one 0 (.one 1 (.one 2 (.one 3 (.one 4 (.one 5 (.one 6 (.one 7 (.one 8 (.one 9 .nil))))))))))) | 7 => ([0, 0, 0, 6, 14, 30, 63, 127], [], [], (.one 0 (.one 1 (.one 2 (.one 3 (.one 4 (.one 5 (.one 6 (.one 7 .nil))))))))) | _ => ([], [], [], .nil)
theorem f27_ok {lo : Nat} {args : List AV} {η : List Blk} {K : AV → List Blk → Prop} (h : SDrp args η K) : AF Try.prog lo 27 args η K := by
  unfold SDrp at h
  split at h
  · obtain ⟨⟨⟨l, hr, hl⟩, ⟨es, hw, hwl⟩⟩, hK⟩ := h
    rename_i r _ _ lev
    have d1 := hr.dec3
    have o1 : ok3 63 _ _ := ⟨l, hr, hl⟩
    rw [d1, hw.dec2] at hK
    obtain ⟨b, ver, rfl, hb⟩ := hr
    obtain ⟨bw, vw, rfl, hbw⟩ := hw
    refine AF_run Sp27_ok Dr27 [] [.tmp 6] hm Try.func27 rfl (by decide) Try.ntmps27 rfl (by kernel_rfl) (Nat.le_of_ble_eq_true rfl) ?_; intro hlo
    cases e1 : meshB r l
    · repeat' (first | with_reducible refine iteI (fun _ => ?_) (fun _ => ?_) | ((first | unfold AOpsC | unfold AOpsD | skip); simp (maxSteps := 1000000) (disch := (first | omega | assumption | (simp only [List.length_append, List.length_cons, List.length_nil, List.length_set]; omega))) only [go_sem, ↓skipC, ↓exitC, ↓retC, ↓seqC, ↓blockC, ↓condC, ↓regC, ↓drawC, ↓drawStep, ↓AOpC, ↓AOpF, ↓AOpE, ↓AEff, ↓contE_at, ↓contC_at, ↓keepC_at, ↓keepW_at, ↓keepO_at, ↓keepL_at, ↓map_parts, ↓reduceIte, reduceCtorEq, Nat.reduceLT, Nat.reduceEqDiff, Nat.reduceAdd, Nat.reduceMul, Nat.reduceLeDiff, Nat.reduceSub, Nat.reduceBEq, Nat.reduceBNe, Nat.reduceBneDiff, Nat.reduceBeqDiff, ag_24, ag_26, ag_3, ag_45, ag_63, ag_76, by_24, by_26, by_3, by_45, by_63, by_76, el_24, el_45, en_3, fi_26_1, fi_76_1, in_3, nf_26, nf_63, nf_76, pl_26, pl_63, pl_76, ps_26, ps_63, ps_76, sz_24, sz_26, sz_3, sz_45, sz_63, sz_76, ze_24, ze_26, ze_3, ze_45, ze_63, ze_76, Sp27, SMesh, SIn, Dr27, hb, hbw, d1, o1, e1]))
      refine ⟨fun st => st.τ 7 = .emp ∧ st.η = η ∧ st.n = 49 ∧ st.τ 1 = .sl bw vw 0 es.length ∧ st.τ 3 = .loc 3 1 0 ∧ st.lam 3 = ⟨1, [.int .i64 r, .sl b ver 0 l.length]⟩ ∧ st.τ 8 = .int .i64 0, fun _ => 0, .inl ⟨rfl, rfl, rfl, rfl, rfl, rfl, rfl⟩, ?_⟩
      rintro ⟨n, τ, lam, η'⟩ ⟨t7, hη, hn, t1, t3, l3, t8⟩; simp only at t7 hη hn t1 t3 l3 t8; subst hη hn
      by_cases h0 : 0 < es.length
      · repeat' (first | with_reducible refine iteI (fun _ => ?_) (fun _ => ?_) | ((first | unfold AOpsC | unfold AOpsD | skip); simp (maxSteps := 1000000) (disch := (first | omega | assumption | (simp only [List.length_append, List.length_cons, List.length_nil, List.length_set]; omega))) only [go_sem, ↓skipC, ↓exitC, ↓retC, ↓seqC, ↓blockC, ↓condC, ↓regC, ↓drawC, ↓drawStep, ↓AOpC, ↓AOpF, ↓AOpE, ↓AEff, ↓contE_at, ↓contC_at, ↓keepC_at, ↓keepW_at, ↓keepO_at, ↓keepL_at, ↓map_parts, ↓reduceIte, reduceCtorEq, Nat.reduceLT, Nat.reduceEqDiff, Nat.reduceAdd, Nat.reduceMul, Nat.reduceLeDiff, Nat.reduceSub, Nat.reduceBEq, Nat.reduceBNe, Nat.reduceBneDiff, Nat.reduceBeqDiff, ag_24, ag_26, ag_3, ag_45, ag_63, ag_76, by_24, by_26, by_3, by_45, by_63, by_76, el_24, el_45, en_3, fi_26_1, fi_76_1, in_3, nf_26, nf_63, nf_76, pl_26, pl_63, pl_76, ps_26, ps_63, ps_76, sz_24, sz_26, sz_3, sz_45, sz_63, sz_76, ze_24, ze_26, ze_3, ze_45, ze_63, ze_76, Sp27, SMesh, SIn, Dr27, hb, hbw, d1, o1, e1, t7, t1, t3, l3, t8]))
        exact hK _ _ ((NewR.emp _ _).eq (by simp [dlR, e1])) (Ext.refl _)
      · repeat' (first | with_reducible refine iteI (fun _ => ?_) (fun _ => ?_) | ((first | unfold AOpsC | unfold AOpsD | skip); simp (maxSteps := 1000000) (disch := (first | omega | assumption | (simp only [List.length_append, List.length_cons, List.length_nil, List.length_set]; omega))) only [go_sem, ↓skipC, ↓exitC, ↓retC, ↓seqC, ↓blockC, ↓condC, ↓regC, ↓drawC, ↓drawStep, ↓AOpC, ↓AOpF, ↓AOpE, ↓AEff, ↓contE_at, ↓contC_at, ↓keepC_at, ↓keepW_at, ↓keepO_at, ↓keepL_at, ↓map_parts, ↓reduceIte, reduceCtorEq, Nat.reduceLT, Nat.reduceEqDiff, Nat.reduceAdd, Nat.reduceMul, Nat.reduceLeDiff, Nat.reduceSub, Nat.reduceBEq, Nat.reduceBNe, Nat.reduceBneDiff, Nat.reduceBeqDiff, ag_24, ag_26, ag_3, ag_45, ag_63, ag_76, by_24, by_26, by_3, by_45, by_63, by_76, el_24, el_45, en_3, fi_26_1, fi_76_1, in_3, nf_26, nf_63, nf_76, pl_26, pl_63, pl_76, ps_26, ps_63, ps_76, sz_24, sz_26, sz_3, sz_45, sz_63, sz_76, ze_24, ze_26, ze_3, ze_45, ze_63, ze_76, Sp27, SMesh, SIn, Dr27, hb, hbw, d1, o1, e1, t7, t1, t3, l3, t8]))
        exact hK _ _ ((NewR.emp _ _).eq (by simp [dlR, e1])) (Ext.refl _)
    have hlv := mesh_levs e1
    repeat' (first | with_reducible refine iteI (fun _ => ?_) (fun _ => ?_) | ((first | unfold AOpsC | unfold AOpsD | skip); simp (maxSteps := 1000000) (disch := (first | omega | assumption | (simp only [List.length_append, List.length_cons, List.length_nil, List.length_set]; omega))) only [go_sem, ↓skipC, ↓exitC, ↓retC, ↓seqC, ↓blockC, ↓condC, ↓regC, ↓drawC, ↓drawStep, ↓AOpC, ↓AOpF, ↓AOpE, ↓AEff, ↓contE_at, ↓contC_at, ↓keepC_at, ↓keepW_at, ↓keepO_at, ↓keepL_at, ↓map_parts, ↓reduceIte, reduceCtorEq, Nat.reduceLT, Nat.reduceEqDiff, Nat.reduceAdd, Nat.reduceMul, Nat.reduceLeDiff, Nat.reduceSub, Nat.reduceBEq, Nat.reduceBNe, Nat.reduceBneDiff, Nat.reduceBeqDiff, ag_24, ag_26, ag_3, ag_45, ag_63, ag_76, by_24, by_26, by_3, by_45, by_63, by_76, el_24, el_45, en_3, fi_26_1, fi_76_1, in_3, nf_26, nf_63, nf_76, pl_26, pl_63, pl_76, ps_26, ps_63, ps_76, sz_24, sz_26, sz_3, sz_45, sz_63, sz_76, ze_24, ze_26, ze_3, ze_45, ze_63, ze_76, Sp27, SMesh, SIn, Dr27, hb, hbw, d1, o1, e1]))
    refine ⟨invDrS η r lev (.sl b ver 0 l.length) (.sl bw vw 0 es.length) l es, fun st => ctr es.length st 8, .inr ⟨7, 76, 2, Nat.le_of_ble_eq_true rfl, rfl, 0, _, η.length, 0, Nat.zero_le _, (Ext.refl η).app _, Nat.le_refl _, by simp [RecE], rfl, by simp [RecE, upd], by simp [RecE, upd], by simp [RecE, upd], by simp [RecE, upd], by simp [RecE, upd], by simp [RecE, upd], rfl⟩, ?_⟩
    rintro ⟨n, τ, lam, η'⟩ ⟨i, H, bl, wer, g0, g1, g2, g3, hn, t1, t2, t3, t7, t8, l3, hη⟩; simp only at hn t1 t2 t3 t7 t8 l3 hη; subst hn hη
    have hb' := g1.blk hb
    have hbw' := g1.blk hbw
    have d1' : dec3 63 η' (.sl b ver 0 l.length) = l := IsR.dec3 ⟨b, ver, rfl, hb'⟩
    have o1' : ok3 63 η' (.sl b ver 0 l.length) := ⟨l, ⟨b, ver, rfl, hb'⟩, hl⟩
    have hHl := blt g3
    have hkl := filt_len es (kpE r l lev) i
    by_cases hlt : i < es.length
    · have hfi : ∀ c : Bool, inB (es.getD i (0, 0)).2 0 ((l.length : Int) - 2) = c → flI r l (es.getD i (0, 0)).2 = if c = true then faceI l (es.getD i (0, 0)).2.toNat else -1 := fun c hc => by rw [flI, e1, hc]; cases c <;> rfl
      have fin : ∀ x : Int, flI r l (es.getD i (0, 0)).2 = x → kpE r l lev (es.getD i (0, 0)) = !decide (x = lev) := fun x hx => by rw [kpE, hx]
      cases e2 : inB (es.getD i (0, 0)).2 0 ((l.length : Int) - 2)
      · have hf := fin _ (hfi _ e2)
        by_cases hc : (-1 : Int) = lev
        · have hs : (es.take (i + 1)).filter (kpE r l lev) = (es.take i).filter (kpE r l lev) := by rw [filt_snoc hlt, hf]; simp [hc]
          repeat' (first | with_reducible refine iteI (fun _ => ?_) (fun _ => ?_) | ((first | unfold AOpsC | unfold AOpsD | skip); simp (maxSteps := 1000000) (disch := (first | omega | assumption | (simp only [List.length_append, List.length_cons, List.length_nil, List.length_set]; omega))) only [go_sem, ↓skipC, ↓exitC, ↓retC, ↓seqC, ↓blockC, ↓condC, ↓regC, ↓drawC, ↓drawStep, ↓AOpC, ↓AOpF, ↓AOpE, ↓AEff, ↓contE_at, ↓contC_at, ↓keepC_at, ↓keepW_at, ↓keepO_at, ↓keepL_at, ↓map_parts, ↓reduceIte, reduceCtorEq, Nat.reduceLT, Nat.reduceEqDiff, Nat.reduceAdd, Nat.reduceMul, Nat.reduceLeDiff, Nat.reduceSub, Nat.reduceBEq, Nat.reduceBNe, Nat.reduceBneDiff, Nat.reduceBeqDiff, ag_24, ag_26, ag_3, ag_45, ag_63, ag_76, by_24, by_26, by_3, by_45, by_63, by_76, el_24, el_45, en_3, fi_26_1, fi_76_1, in_3, nf_26, nf_63, nf_76, pl_26, pl_63, pl_76, ps_26, ps_63, ps_76, sz_24, sz_26, sz_3, sz_45, sz_63, sz_76, ze_24, ze_26, ze_3, ze_45, ze_63, ze_76, Sp27, SMesh, SIn, Dr27, hb', hbw', d1', o1', e1, e2, hc, t1, t2, t3, t7, t8, l3]))
          exact ⟨⟨i + 1, _, bl, wer, hlt, g1, g2, by rw [hs]; exact g3, rfl, by simp [upd, t1, t2, t3, t7, t8, hs], by simp [upd, t1, t2, t3, t7, t8, hs], by simp [upd, t1, t2, t3, t7, t8, hs], by simp [upd, t1, t2, t3, t7, t8, hs], by simp [upd, t1, t2, t3, t7, t8, hs], by simp [upd, l3], rfl⟩, by simp [ctr, upd, t8]; omega⟩
        · have hs : (es.take (i + 1)).filter (kpE r l lev) = (es.take i).filter (kpE r l lev) ++ [es.getD i (0, 0)] := by rw [filt_snoc hlt, hf]; simp [hc]
          repeat' (first | with_reducible refine iteI (fun _ => ?_) (fun _ => ?_) | ((first | unfold AOpsC | unfold AOpsD | skip); simp (maxSteps := 1000000) (disch := (first | omega | assumption | (simp only [List.length_append, List.length_cons, List.length_nil, List.length_set]; omega))) only [go_sem, ↓skipC, ↓exitC, ↓retC, ↓seqC, ↓blockC, ↓condC, ↓regC, ↓drawC, ↓drawStep, ↓AOpC, ↓AOpF, ↓AOpE, ↓AEff, ↓contE_at, ↓contC_at, ↓keepC_at, ↓keepW_at, ↓keepO_at, ↓keepL_at, ↓map_parts, ↓reduceIte, reduceCtorEq, Nat.reduceLT, Nat.reduceEqDiff, Nat.reduceAdd, Nat.reduceMul, Nat.reduceLeDiff, Nat.reduceSub, Nat.reduceBEq, Nat.reduceBNe, Nat.reduceBneDiff, Nat.reduceBeqDiff, ag_24, ag_26, ag_3, ag_45, ag_63, ag_76, by_24, by_26, by_3, by_45, by_63, by_76, el_24, el_45, en_3, fi_26_1, fi_76_1, in_3, nf_26, nf_63, nf_76, pl_26, pl_63, pl_76, ps_26, ps_63, ps_76, sz_24, sz_26, sz_3, sz_45, sz_63, sz_76, ze_24, ze_26, ze_3, ze_45, ze_63, ze_76, Sp27, SMesh, SIn, Dr27, hb', hbw', d1', o1', e1, e2, hc, g3, takeF2, t1, t2, t3, t7, t8, l3]))
          exact ⟨⟨i + 1, _, bl, wer + 1, hlt, (g1.set g2 _).app _, g2, by rw [hs, app_get (by simpa using hHl), set_eq hHl]; simp [enc2], rfl, by simp [upd, t1, t2, t3, t7, t8, hs], by simp [upd, t1, t2, t3, t7, t8, hs], by simp [upd, t1, t2, t3, t7, t8, hs], by simp [upd, t1, t2, t3, t7, t8, hs], by simp [upd, t1, t2, t3, t7, t8, hs], by simp [upd, l3], rfl⟩, by simp [ctr, upd, t8]; omega⟩
      · have e2' := inT e2
        have hf := fin _ (hfi _ e2)
        repeat' (first | with_reducible refine iteI (fun _ => ?_) (fun _ => ?_) | ((first | unfold AOpsC | unfold AOpsD | skip); simp (maxSteps := 1000000) (disch := (first | omega | assumption | (simp only [List.length_append, List.length_cons, List.length_nil, List.length_set]; omega))) only [go_sem, ↓skipC, ↓exitC, ↓retC, ↓seqC, ↓blockC, ↓condC, ↓regC, ↓drawC, ↓drawStep, ↓AOpC, ↓AOpF, ↓AOpE, ↓AEff, ↓contE_at, ↓contC_at, ↓keepC_at, ↓keepW_at, ↓keepO_at, ↓keepL_at, ↓map_parts, ↓reduceIte, reduceCtorEq, Nat.reduceLT, Nat.reduceEqDiff, Nat.reduceAdd, Nat.reduceMul, Nat.reduceLeDiff, Nat.reduceSub, Nat.reduceBEq, Nat.reduceBNe, Nat.reduceBneDiff, Nat.reduceBeqDiff, ag_24, ag_26, ag_3, ag_45, ag_63, ag_76, by_24, by_26, by_3, by_45, by_63, by_76, el_24, el_45, en_3, fi_26_1, fi_76_1, in_3, nf_26, nf_63, nf_76, pl_26, pl_63, pl_76, ps_26, ps_63, ps_76, sz_24, sz_26, sz_3, sz_45, sz_63, sz_76, ze_24, ze_26, ze_3, ze_45, ze_63, ze_76, Sp27, SMesh, SIn, Dr27, hb', hbw', d1', o1', e1, e2, t1, t2, t3, t7, t8, l3]))
        unfold SFace
        simp only [d1']
        refine ⟨⟨o1', hlv, e2'.1, by omega⟩, ?_⟩
        by_cases hc : faceI l (es.getD i (0, 0)).2.toNat = lev
        · have hs : (es.take (i + 1)).filter (kpE r l lev) = (es.take i).filter (kpE r l lev) := by rw [filt_snoc hlt, hf, if_pos rfl, decide_eq_true hc]; simp
          repeat' (first | with_reducible refine iteI (fun _ => ?_) (fun _ => ?_) | ((first | unfold AOpsC | unfold AOpsD | skip); simp (maxSteps := 1000000) (disch := (first | omega | assumption | (simp only [List.length_append, List.length_cons, List.length_nil, List.length_set]; omega))) only [go_sem, ↓skipC, ↓exitC, ↓retC, ↓seqC, ↓blockC, ↓condC, ↓regC, ↓drawC, ↓drawStep, ↓AOpC, ↓AOpF, ↓AOpE, ↓AEff, ↓contE_at, ↓contC_at, ↓keepC_at, ↓keepW_at, ↓keepO_at, ↓keepL_at, ↓map_parts, ↓reduceIte, reduceCtorEq, Nat.reduceLT, Nat.reduceEqDiff, Nat.reduceAdd, Nat.reduceMul, Nat.reduceLeDiff, Nat.reduceSub, Nat.reduceBEq, Nat.reduceBNe, Nat.reduceBneDiff, Nat.reduceBeqDiff, ag_24, ag_26, ag_3, ag_45, ag_63, ag_76, by_24, by_26, by_3, by_45, by_63, by_76, el_24, el_45, en_3, fi_26_1, fi_76_1, in_3, nf_26, nf_63, nf_76, pl_26, pl_63, pl_76, ps_26, ps_63, ps_76, sz_24, sz_26, sz_3, sz_45, sz_63, sz_76, ze_24, ze_26, ze_3, ze_45, ze_63, ze_76, Sp27, SMesh, SIn, Dr27, hb', hbw', hc, t1, t2, t3, t7, t8, l3]))
          exact ⟨⟨i + 1, _, bl, wer, hlt, g1, g2, by rw [hs]; exact g3, rfl, by simp [upd, t1, t2, t3, t7, t8, hs], by simp [upd, t1, t2, t3, t7, t8, hs], by simp [upd, t1, t2, t3, t7, t8, hs], by simp [upd, t1, t2, t3, t7, t8, hs], by simp [upd, t1, t2, t3, t7, t8, hs], by simp [upd, l3], rfl⟩, by simp [ctr, upd, t8]; omega⟩
        · have hs : (es.take (i + 1)).filter (kpE r l lev) = (es.take i).filter (kpE r l lev) ++ [es.getD i (0, 0)] := by rw [filt_snoc hlt, hf, if_pos (rfl : true = true), decide_eq_false hc]; simp
          repeat' (first | with_reducible refine iteI (fun _ => ?_) (fun _ => ?_) | ((first | unfold AOpsC | unfold AOpsD | skip); simp (maxSteps := 1000000) (disch := (first | omega | assumption | (simp only [List.length_append, List.length_cons, List.length_nil, List.length_set]; omega))) only [go_sem, ↓skipC, ↓exitC, ↓retC, ↓seqC, ↓blockC, ↓condC, ↓regC, ↓drawC, ↓drawStep, ↓AOpC, ↓AOpF, ↓AOpE, ↓AEff, ↓contE_at, ↓contC_at, ↓keepC_at, ↓keepW_at, ↓keepO_at, ↓keepL_at, ↓map_parts, ↓reduceIte, reduceCtorEq, Nat.reduceLT, Nat.reduceEqDiff, Nat.reduceAdd, Nat.reduceMul, Nat.reduceLeDiff, Nat.reduceSub, Nat.reduceBEq, Nat.reduceBNe, Nat.reduceBneDiff, Nat.reduceBeqDiff, ag_24, ag_26, ag_3, ag_45, ag_63, ag_76, by_24, by_26, by_3, by_45, by_63, by_76, el_24, el_45, en_3, fi_26_1, fi_76_1, in_3, nf_26, nf_63, nf_76, pl_26, pl_63, pl_76, ps_26, ps_63, ps_76, sz_24, sz_26, sz_3, sz_45, sz_63, sz_76, ze_24, ze_26, ze_3, ze_45, ze_63, ze_76, Sp27, SMesh, SIn, Dr27, hb', hbw', hc, g3, takeF2, t1, t2, t3, t7, t8, l3]))
          exact ⟨⟨i + 1, _, bl, wer + 1, hlt, (g1.set g2 _).app _, g2, by rw [hs, app_get (by simpa using hHl), set_eq hHl]; simp [enc2], rfl, by simp [upd, t1, t2, t3, t7, t8, hs], by simp [upd, t1, t2, t3, t7, t8, hs], by simp [upd, t1, t2, t3, t7, t8, hs], by simp [upd, t1, t2, t3, t7, t8, hs], by simp [upd, t1, t2, t3, t7, t8, hs], by simp [upd, l3], rfl⟩, by simp [ctr, upd, t8]; omega⟩
    · obtain rfl : i = es.length := by omega
      rw [List.take_length] at g3 t7
      repeat' (first | with_reducible refine iteI (fun _ => ?_) (fun _ => ?_) | ((first | unfold AOpsC | unfold AOpsD | skip); simp (maxSteps := 1000000) (disch := (first | omega | assumption | (simp only [List.length_append, List.length_cons, List.length_nil, List.length_set]; omega))) only [go_sem, ↓skipC, ↓exitC, ↓retC, ↓seqC, ↓blockC, ↓condC, ↓regC, ↓drawC, ↓drawStep, ↓AOpC, ↓AOpF, ↓AOpE, ↓AEff, ↓contE_at, ↓contC_at, ↓keepC_at, ↓keepW_at, ↓keepO_at, ↓keepL_at, ↓map_parts, ↓reduceIte, reduceCtorEq, Nat.reduceLT, Nat.reduceEqDiff, Nat.reduceAdd, Nat.reduceMul, Nat.reduceLeDiff, Nat.reduceSub, Nat.reduceBEq, Nat.reduceBNe, Nat.reduceBneDiff, Nat.reduceBeqDiff, ag_24, ag_26, ag_3, ag_45, ag_63, ag_76, by_24, by_26, by_3, by_45, by_63, by_76, el_24, el_45, en_3, fi_26_1, fi_76_1, in_3, nf_26, nf_63, nf_76, pl_26, pl_63, pl_76, ps_26, ps_63, ps_76, sz_24, sz_26, sz_3, sz_45, sz_63, sz_76, ze_24, ze_26, ze_3, ze_45, ze_63, ze_76, Sp27, SMesh, SIn, Dr27, hb', hbw', d1', o1', e1, t1, t2, t3, t7, t8, l3]))
      exact hK _ _ ((NewR.mk g2 g3).eq (by simp [dlR, e1])) g1
  · exact h.elim

end Go.Proofs.Ytaalpmbopkbdiaa
