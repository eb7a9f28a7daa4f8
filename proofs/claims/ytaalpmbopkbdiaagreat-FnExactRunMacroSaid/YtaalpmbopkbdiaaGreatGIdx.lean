/- What functions of the program compute, said in the abstract logic; no conditions. -/
import Derived.Test.YtaalpmbopkbdiaaGreatGIn

namespace Go.Proofs.YtaalpmbopkbdiaaGreat
open Go
set_option linter.unusedSimpArgs false
set_option linter.unusedVariables false
set_option maxRecDepth 100000
set_option maxHeartbeats 8000000
attribute [local go_sem] st0 AC thenA andC locLoadB KsSW_same KsSW_grow oldLoadB noBlkB KsSL_same KsOS_same KsOS_grow pv ev put upd dstOk cv cvc binI setB Value.oneCell' EndA resA resA1 List.mapM_cons List.mapM_nil Option.pure_def Option.bind_eq_bind noLocV noLoc1 noLoc noLocs plainV cellsA newVarA putCells condA lam0 inBlockA cur lenA rowA writeA dstA appendC appendZ mapPut mapGet avoidsB avoidB clearB Array.toList_append Op.operands Call.operands newSlot Nat.zero_add Nat.add_zero Nat.succ_ne_self Nat.lt_add_one Nat.zero_lt_succ true_and and_true true_or or_true false_or or_false and_self true_implies forall_const Bool.false_eq_true Bool.true_eq_false false_implies implies_true imp_self ne_eq not_false_eq_true not_true_eq_false false_and and_false List.getElem?_toArray List.getElem?_cons_succ List.getElem?_cons_zero Option.bind_some Option.map_some Bool.not_true Bool.not_false List.getD_cons_zero List.getD_cons_succ Option.some.injEq exists_eq_left' AV.bool.injEq List.map_cons List.map_nil List.all_cons List.all_nil Bool.and_self Bool.and_true Bool.true_and List.append_nil List.cons_append List.nil_append List.length_cons List.length_nil List.drop_zero List.take_zero List.drop_succ_cons List.take_succ_cons List.take_nil List.drop_nil List.not_mem_nil List.mem_cons List.contains_nil List.contains_cons Bool.or_self Bool.or_true Bool.true_or Bool.false_or Bool.or_false Bool.and_false Bool.false_and KsS_same KsS_grow skipV KsS_ext KsSW_ext KsOS_ext rep1 rep2 rep3 rep4 rep5 List.flatten_cons List.flatten_nil partsA isPtr fillA List.size_toArray ltT ltF leT leF ltTn ltFn leTn leFn eqTi eqFi wrapId toNat1 intGet boolGet memD app_get app_last app_lst app_set app_setL app_setF set_ne set_eq gt_iff_lt ge_iff_le decide_eq_true_eq len2 len3 get20 get21 drop2 put2 get30 get31 get32 drop3 put3 putI pairEta bneTi bneFi beqTi beqFi bne_eq_false_iff_eq beq_eq_false_iff_ne beq_iff_eq bne_iff_ne Int.toNat_natCast Nat.mul_one List.length_map Bool.not_eq_true Bool.not_eq_false Bool.decide_eq_true decide_true decide_false Bool.not_eq_true' Bool.not_eq_false' decide_eq_false_iff_not eq_self Decidable.not_not
attribute [local go_sem ↓] skipC exitC retC seqC blockC condC regC drawC drawStep AOpC AOpF AOpE AEff contE_at contC_at keepC_at keepW_at keepO_at keepL_at map_parts
attribute [local go_sem] reduceCtorEq Nat.reduceLT Nat.reduceEqDiff Nat.reduceAdd Nat.reduceMul Nat.reduceLeDiff Nat.reduceSub Nat.reduceBEq Nat.reduceBNe Nat.reduceBneDiff Nat.reduceBeqDiff
attribute [local go_sem ↓] reduceIte
attribute [local go_sem] ag_25 ag_3 by_25 by_3 el_25 en_3 in_3 sz_25 sz_3 ze_25 ze_3

/-- A function value of whole numbers, known at the elements of a list. -/
def FnAt (g : FuncId) (caps : List AV) (l : List Int) (f : Int → Bool) (η : List Blk) : Prop := ∀ lo x, x ∈ l → ∀ K : AV → List Blk → Prop, K (.bool (f x)) η → AF Tryz.prog lo g (.int .i64 x :: caps) η K
def SpI (g : FuncId) (caps : List AV) (l : List Int) (f : Int → Bool) (η0 : List Blk) : Spec := fun g' args η K => match args with | .int .i64 x :: r => (g' = g ∧ η = η0 ∧ r = caps) ∧ x ∈ l ∧ K (.bool (f x)) η | _ => False
theorem SpI_ok {lo : Nat} {g : FuncId} {caps : List AV} {l : List Int} {f : Int → Bool} {η : List Blk} (h : FnAt g caps l f η) : Sound Tryz.prog lo (SpI g caps l f η) := by
  intro g' args η' K hh
  unfold SpI at hh
  split at hh
  · obtain ⟨⟨rfl, rfl, rfl⟩, hx, hK⟩ := hh
    exact .inl (h lo _ hx K hK)
  · exact hh.elim
def idxOf (l : List Int) (f : Int → Bool) : Int := match l.findIdx? f with | some i => (i : Int) | none => -1
def SIdx : List AV → List Blk → (AV → List Blk → Prop) → Prop
  | [v, .fn g caps], η, K => ∃ (l : List Int) (f : Int → Bool), IsI η v l ∧ l.length ≤ 1048576 ∧ FnAt g caps l f η ∧ K (.int .i64 (idxOf l f)) η
  | _, _, _ => False
theorem idx_here {l : List Int} {f : Int → Bool} {i : Nat} (hi : i < l.length) (h : (l.take i).all (fun x => !f x) = true) (hf : f (l.getD i 0) = true) : idxOf l f = i := by
  unfold idxOf
  have : l.findIdx? f = some i := by
    rw [List.findIdx?_eq_some_iff_getElem]
    refine ⟨hi, by simpa [List.getD_eq_getElem?_getD, hi] using hf, fun j hj => ?_⟩
    have hj2 : j < l.length := by omega
    have hm : l[j] ∈ l.take i := by
      rw [List.mem_iff_getElem?]
      exact ⟨j, by rw [List.getElem?_take, if_pos hj, List.getElem?_eq_getElem hj2]⟩
    have := List.all_eq_true.1 h _ hm
    simpa using this
  rw [this]
theorem idx_none {l : List Int} {f : Int → Bool} (h : l.all (fun x => !f x) = true) : idxOf l f = -1 := by
  unfold idxOf
  have : l.findIdx? f = none := by
    rw [List.findIdx?_eq_none_iff]
    intro x hx
    have := List.all_eq_true.1 h x hx
    simpa using this
  rw [this]
theorem all1 {α : Type} {l : List α} {p : α → Bool} {i : Nat} {d : α} (hi : i < l.length) (h : (l.take i).all p = true) (hp : p (l.getD i d) = true) : (l.take (i + 1)).all p = true := by
  rw [take1 (d := d) hi, List.all_append, h]; simp only [List.all_cons, List.all_nil, hp, Bool.and_self]

def invI (η : List Blk) (l : List Int) (v fv : AV) (f : Int → Bool) (st : St) : Prop := ∃ i : Nat, (i ≤ l.length) ∧ ((l.take i).all (fun x => !f x) = true) ∧ st.n = 19 ∧ st.τ 0 = v ∧ st.τ 1 = fv ∧ st.τ 7 = .int .i64 l.length ∧ st.τ 8 = .int .i64 i ∧ st.lam = lam0 ∧ st.η = η

/- slices.IndexFunc[[]int,int] -/
theorem f143_ok {lo : Nat} {args : List AV} {η : List Blk} {K : AV → List Blk → Prop} (h : SIdx args η K) : AF Tryz.prog lo 143 args η K := by
  unfold SIdx at h
  split at h
  · obtain ⟨l, f, hr, hl, hf, hK⟩ := h
    rename_i g caps
    obtain ⟨b, ver, rfl, hb⟩ := hr
    refine AF_run (SpI_ok hf) D0 [] [.tmp 4] hm Tryz.func143 rfl (by decide) Tryz.ntmps143 rfl (by kernel_rfl) (Nat.le_of_ble_eq_true rfl) ?_; intro hlo
    repeat' (first | with_reducible refine iteI (fun _ => ?_) (fun _ => ?_) | ((first | unfold AOpsC | unfold AOpsD | skip); simp (maxSteps := 1000000) (disch := (first | omega | assumption | (simp only [List.length_append, List.length_cons, List.length_nil, List.length_set]; omega))) only [go_sem, SpI, hb]))
    refine ⟨invI η l (.sl b ver 0 l.length) (.fn g caps) f, fun st => ctr l.length st 8, .inl ⟨0, Nat.zero_le _, rfl, rfl, ?_⟩, ?_⟩
    · simp [upd]
    · rintro ⟨n, τ, lam, η'⟩ ⟨i, g0, g1, hn, t0, t1, t7, t8, hlam, hη⟩; simp only at hn t0 t1 t7 t8 hlam hη; subst hn hlam hη
      by_cases hlt : i < l.length
      · repeat' (first | with_reducible refine iteI (fun _ => ?_) (fun _ => ?_) | ((first | unfold AOpsC | unfold AOpsD | skip); simp (maxSteps := 1000000) (disch := (first | omega | assumption | (simp only [List.length_append, List.length_cons, List.length_nil, List.length_set]; omega))) only [go_sem, SpI, hb, t0, t1, t7, t8]))
        · rename_i hfx
          rw [idx_here hlt g1 hfx] at hK
          exact hK
        · rename_i hfx
          refine ⟨⟨i + 1, hlt, all1 (d := 0) hlt g1 (by simp_all), rfl, (by simp [upd, t0, t1, t7, t8]), (by simp [upd, t0, t1, t7, t8]), (by simp [upd, t0, t1, t7, t8]), (by simp [upd, t0, t1, t7, t8]), rfl, rfl⟩, (by simp [ctr, upd, t0, t1, t7, t8]; omega)⟩
      · repeat' (first | with_reducible refine iteI (fun _ => ?_) (fun _ => ?_) | ((first | unfold AOpsC | unfold AOpsD | skip); simp (maxSteps := 1000000) (disch := (first | omega | assumption | (simp only [List.length_append, List.length_cons, List.length_nil, List.length_set]; omega))) only [go_sem, SpI, hb, t0, t1, t7, t8]))
        obtain rfl : i = l.length := by omega
        rw [List.take_length] at g1
        rw [idx_none g1] at hK
        exact hK
  · exact h.elim

theorem idx_any (l : List Int) (f : Int → Bool) : (0 ≤ idxOf l f) = (l.any f = true) := by
  unfold idxOf
  apply propext
  cases h : l.findIdx? f with
  | none =>
    rw [List.findIdx?_eq_none_iff] at h
    simp only [show ¬ (0 : Int) ≤ -1 by omega, false_iff, List.any_eq_true, not_exists, not_and]
    intro x hx
    simp [h x hx]
  | some i =>
    rw [List.findIdx?_eq_some_iff_getElem] at h
    obtain ⟨hi, hf, _⟩ := h
    simp only [Int.natCast_nonneg, true_iff, List.any_eq_true]
    exact ⟨_, List.getElem_mem hi, hf⟩
def SCon : List AV → List Blk → (AV → List Blk → Prop) → Prop
  | [v, .fn g caps], η, K => ∃ (l : List Int) (f : Int → Bool), IsI η v l ∧ l.length ≤ 1048576 ∧ FnAt g caps l f η ∧ K (.bool (l.any f)) η
  | _, _, _ => False

/- slices.ContainsFunc[[]int,int] -/
def Sp112 (lo : Nat) : Spec := fun g args η K => match g with | 143 => SIdx args η K | _ => False
theorem Sp112_ok {lo : Nat} : Sound Tryz.prog lo (Sp112 lo) := by
  intro g args η K h
  unfold Sp112 at h
  split at h
  · exact .inl (f143_ok h)
  · exact h.elim
theorem f112_ok {lo : Nat} {args : List AV} {η : List Blk} {K : AV → List Blk → Prop} (h : SCon args η K) : AF Tryz.prog lo 112 args η K := by
  unfold SCon at h
  split at h
  · obtain ⟨l, f, hr, hl, hf, hK⟩ := h
    rename_i g caps
    have hr' := hr
    obtain ⟨b, ver, rfl, hb⟩ := hr'
    refine AF_run Sp112_ok D0 [] [.tmp 4] hm Tryz.func112 rfl (by decide) Tryz.ntmps112 rfl (by kernel_rfl) (Nat.le_of_ble_eq_true rfl) ?_; intro hlo
    repeat' (first | with_reducible refine iteI (fun _ => ?_) (fun _ => ?_) | ((first | unfold AOpsC | unfold AOpsD | skip); simp (maxSteps := 1000000) (disch := (first | omega | assumption | (simp only [List.length_append, List.length_cons, List.length_nil, List.length_set]; omega))) only [go_sem, Sp112, SIdx]))
    refine ⟨l, f, hr, hl, hf, ?_⟩
    repeat' (first | with_reducible refine iteI (fun _ => ?_) (fun _ => ?_) | ((first | unfold AOpsC | unfold AOpsD | skip); simp (maxSteps := 1000000) (disch := (first | omega | assumption | (simp only [List.length_append, List.length_cons, List.length_nil, List.length_set]; omega))) only [go_sem, Sp112, SIdx, idx_any]))
    exact hK
  · exact h.elim

end Go.Proofs.YtaalpmbopkbdiaaGreat
