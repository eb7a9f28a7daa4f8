/- What functions of the program compute, said in the abstract logic; no conditions. -/
import Derived.Test.YtaalpmbopkbdiaaGRes
import Derived.Test.YtaalpmbopkbdiaaGBal

namespace Go.Proofs.Ytaalpmbopkbdiaa
open Go
set_option linter.unusedSimpArgs false
set_option linter.unusedVariables false
set_option maxRecDepth 100000
set_option maxHeartbeats 8000000
attribute [local go_sem] st0 AC thenA andC locLoadB KsSW_same KsSW_grow oldLoadB noBlkB KsSL_same KsOS_same KsOS_grow pv ev put upd dstOk cv cvc binI setB Value.oneCell' EndA resA resA1 List.mapM_cons List.mapM_nil Option.pure_def Option.bind_eq_bind noLocV noLoc1 noLoc noLocs plainV cellsA newVarA putCells condA lam0 inBlockA cur lenA rowA writeA dstA appendC appendZ mapPut mapGet avoidsB avoidB clearB Array.toList_append Op.operands Call.operands newSlot Nat.zero_add Nat.add_zero Nat.succ_ne_self Nat.lt_add_one Nat.zero_lt_succ true_and and_true true_or or_true false_or or_false and_self true_implies forall_const Bool.false_eq_true Bool.true_eq_false false_implies implies_true imp_self ne_eq not_false_eq_true not_true_eq_false false_and and_false List.getElem?_toArray List.getElem?_cons_succ List.getElem?_cons_zero Option.bind_some Option.map_some Bool.not_true Bool.not_false List.getD_cons_zero List.getD_cons_succ Option.some.injEq exists_eq_left' AV.bool.injEq List.map_cons List.map_nil List.all_cons List.all_nil Bool.and_self Bool.and_true Bool.true_and List.append_nil List.cons_append List.nil_append List.length_cons List.length_nil List.drop_zero List.take_zero List.drop_succ_cons List.take_succ_cons List.take_nil List.drop_nil List.not_mem_nil List.mem_cons List.contains_nil List.contains_cons Bool.or_self Bool.or_true Bool.true_or Bool.false_or Bool.or_false Bool.and_false Bool.false_and KsS_same KsS_grow skipV KsS_ext KsSW_ext KsOS_ext rep1 rep2 rep3 rep4 rep5 List.flatten_cons List.flatten_nil partsA isPtr fillA List.size_toArray ltT ltF leT leF ltTn ltFn leTn leFn eqTi eqFi wrapId toNat1 intGet boolGet memD app_get app_last app_lst app_set app_setL app_setF set_ne set_eq gt_iff_lt ge_iff_le decide_eq_true_eq len2 len3 get20 get21 drop2 put2 get30 get31 get32 drop3 put3 putI pairEta bneTi bneFi beqTi beqFi bne_eq_false_iff_eq beq_eq_false_iff_ne beq_iff_eq bne_iff_ne Int.toNat_natCast Nat.mul_one List.length_map Bool.not_eq_true Bool.not_eq_false Bool.decide_eq_true decide_true decide_false Bool.not_eq_true' Bool.not_eq_false' decide_eq_false_iff_not eq_self Decidable.not_not
attribute [local go_sem ↓] skipC exitC retC seqC blockC condC regC drawC drawStep AOpC AOpF AOpE AEff contE_at contC_at keepC_at keepW_at keepO_at keepL_at map_parts
attribute [local go_sem] reduceCtorEq Nat.reduceLT Nat.reduceEqDiff Nat.reduceAdd Nat.reduceMul Nat.reduceLeDiff Nat.reduceSub Nat.reduceBEq Nat.reduceBNe Nat.reduceBneDiff Nat.reduceBeqDiff
attribute [local go_sem ↓] reduceIte
attribute [local go_sem] ag_24 ag_26 ag_3 ag_63 by_24 by_26 by_3 by_63 el_24 en_3 fi_26_1 fi_63_0 fi_63_1 fi_63_2 in_3 nf_26 nf_63 pl_26 pl_63 ps_26 ps_63 sz_24 sz_26 sz_3 sz_63 ze_24 ze_26 ze_3 ze_63

def contB (a b : Id3) : Bool := idT a && (idT b && (decide (a.1 = b.1) && (decide (a.2.1 ≤ b.2.1) && decide (b.2.2.fdiv (2 ^ (b.2.1 - a.2.1).toNat) = a.2.2))))
def SContB : List AV → List Blk → (AV → List Blk → Prop) → Prop
  | [.agg [.int .i64 a, .int .i64 b, .int .i64 c], .agg [.int .i64 d, .int .i64 e, .int .i64 f]], η, K => K (.bool (contB (a, b, c) (d, e, f))) η
  | _, _, _ => False
theorem shrMin {k : Int} (h : 0 ≤ k ∧ k ≤ 4) : min k.toNat 64 = k.toNat := by omega
/-- A function value of addresses, known at the elements of a list, on every later heap. -/
def FnAtR (g : FuncId) (caps : List AV) (l : List Id3) (f : Id3 → Bool) (η : List Blk) : Prop :=
  ∀ lo H x, lo ≤ H.length → Ext η H → x ∈ l → ∀ K : AV → List Blk → Prop, (∀ H', Ext H H' → K (.bool (f x)) H') → AF Try.prog lo g (.agg (enc3 x) :: caps) H K
def SpR (g : FuncId) (caps : List AV) (l : List Id3) (f : Id3 → Bool) (η0 : List Blk) (lo : Nat) : Spec := fun g' args η K => match args with
  | .agg [.int .i64 a, .int .i64 b, .int .i64 c] :: r => (g' = g ∧ r = caps) ∧ lo ≤ η.length ∧ Ext η0 η ∧ (a, b, c) ∈ l ∧ ∀ H', Ext η H' → K (.bool (f (a, b, c))) H'
  | _ => False
theorem SpR_ok {lo : Nat} {g : FuncId} {caps : List AV} {l : List Id3} {f : Id3 → Bool} {η : List Blk} (h : FnAtR g caps l f η) : Sound Try.prog lo (SpR g caps l f η lo) := by
  intro g' args η' K hh
  unfold SpR at hh
  split at hh
  · obtain ⟨⟨rfl, rfl⟩, h0, h1, hx, hK⟩ := hh
    exact .inl (h lo _ _ h0 h1 hx K hK)
  · exact hh.elim
def idxR (l : List Id3) (f : Id3 → Bool) : Int := match l.findIdx? f with | some i => (i : Int) | none => -1
theorem idxR_here {l : List Id3} {f : Id3 → Bool} {i : Nat} (hi : i < l.length) (h : (l.take i).all (fun x => !f x) = true) (hf : f (l.getD i (0, 0, 0)) = true) : idxR l f = i := by
  unfold idxR
  have : l.findIdx? f = some i := by
    rw [List.findIdx?_eq_some_iff_getElem]
    refine ⟨hi, by simpa [List.getD_eq_getElem?_getD, hi] using hf, fun j hj => ?_⟩
    have hj2 : j < l.length := by omega
    have hm : l[j] ∈ l.take i := by
      rw [List.mem_iff_getElem?]
      exact ⟨j, by rw [List.getElem?_take, if_pos hj, List.getElem?_eq_getElem hj2]⟩
    have := List.all_eq_true.1 h _ hm
    simpa using this
  rw [this]
theorem idxR_none {l : List Id3} {f : Id3 → Bool} (h : l.all (fun x => !f x) = true) : idxR l f = -1 := by
  unfold idxR
  have : l.findIdx? f = none := by
    rw [List.findIdx?_eq_none_iff]
    intro x hx
    have := List.all_eq_true.1 h x hx
    simpa using this
  rw [this]
theorem idxR_any (l : List Id3) (f : Id3 → Bool) : decide (0 ≤ idxR l f) = l.any f := by
  unfold idxR
  cases h : l.findIdx? f with
  | none =>
    rw [List.findIdx?_eq_none_iff] at h
    have : l.any f = false := by
      rw [List.any_eq_false]
      intro x hx
      simp [h x hx]
    rw [this]
    rfl
  | some i =>
    rw [List.findIdx?_eq_some_iff_getElem] at h
    obtain ⟨hi, hf, _⟩ := h
    have : l.any f = true := by
      rw [List.any_eq_true]
      exact ⟨_, List.getElem_mem hi, hf⟩
    rw [this]
    simp
theorem allR {l : List Id3} {p : Id3 → Bool} {i : Nat} (hi : i < l.length) (h : (l.take i).all p = true) (hp : p (l.getD i (0, 0, 0)) = true) : (l.take (i + 1)).all p = true := by
  rw [take1 (d := (0, 0, 0)) hi, List.all_append, h]; simp only [List.all_cons, List.all_nil, hp, Bool.and_self]
theorem memR {l : List Id3} {i : Nat} (h : i < l.length) : (((l.getD i (0, 0, 0)).1, (l.getD i (0, 0, 0)).2.1, (l.getD i (0, 0, 0)).2.2) ∈ l) = True := eq_true (getD_mem h)
theorem memR3 {l : List Id3} {i : Nat} (h : i < l.length) : (l.getD i (0, 0, 0) ∈ l) = True := eq_true (getD_mem h)
def SIdxR (lo : Nat) : List AV → List Blk → (AV → List Blk → Prop) → Prop
  | [v, .fn g caps], η, K => ∃ (l : List Id3) (f : Id3 → Bool), IsR 63 3 enc3 η v l ∧ l.length ≤ 1048576 ∧ FnAtR g caps l f η ∧ ∀ H, Ext η H → K (.int .i64 (idxR l f)) H
  | _, _, _ => False
def SConR (lo : Nat) : List AV → List Blk → (AV → List Blk → Prop) → Prop
  | [v, .fn g caps], η, K => ∃ (l : List Id3) (f : Id3 → Bool), IsR 63 3 enc3 η v l ∧ l.length ≤ 1048576 ∧ FnAtR g caps l f η ∧ ∀ H, Ext η H → K (.bool (l.any f)) H
  | _, _, _ => False
def SLeafOf : List AV → List Blk → (AV → List Blk → Prop) → Prop
  | [.agg [.int .i64 r, v], .agg [.int .i64 a, .int .i64 b, .int .i64 c]], η, K => ok3 63 η v ∧ K (.int .i64 (idxR (dec3 63 η v) fun x => decide (x = (a, b, c)))) η
  | _, _, _ => False
/- impl.Contains -/
def Sp80 (lo : Nat) : Spec := fun g args η K => match g with | 108 => SId args η K | _ => False
theorem Sp80_ok {lo : Nat} : Sound Try.prog lo (Sp80 lo) := by
  intro g args η K h
  unfold Sp80 at h
  split at h
  · exact .inl (f108_ok h)
  · exact h.elim
def Dr80 : Draws := fun id => match id with | 1 => ([0, 1, 3, 7, 15, 31, 63, 127, 255, 127, 639, 2047, 4095, 8191, 16383, 32767, 16383, 81919, 262143, 524287, 1048575, 2097151, 4194303, 2097151, 10485759, 2097151, 35651583, 127926271, 268435455, 2097151, 538968063, 2147483647, 4294967295, 8589934591], [], [], (.one 0 (.one 1 (.one 2 (.one 3 (.one 4 (.one 5 (.one 6 (.one 7 (.one 8 (.one 9 (.one 10 (.one 11 (.one 12 (.one 13 (.one 14 (.one 15 (.one 16 (.one 17 (.one 18 (.one 19 (.one 20 (.one 21 (.one 22 (.one 23 (.one 24 (.one 25 (.one 26 (.one 27 (.one 28 (.one 29 (.one 30 (.one 31 (.one 32 (.one 33 .nil))))))))))))))))))))))))))))))))))) | _ => ([], [], [], .nil)
theorem f80_ok {lo : Nat} {args : List AV} {η : List Blk} {K : AV → List Blk → Prop} (h : SContB args η K) : AF Try.prog lo 80 args η K := by
  unfold SContB at h
  split at h
  · rename_i a b c d e f
    refine AF_run Sp80_ok Dr80 [] [.tmp 4] hm Try.func80 rfl (by decide) Try.ntmps80 rfl (by kernel_rfl) (Nat.le_of_ble_eq_true rfl) ?_; intro hlo
    cases e1 : idB a b c
    · repeat' (first | with_reducible refine iteI (fun _ => ?_) (fun _ => ?_) | ((first | unfold AOpsC | unfold AOpsD | skip); simp (maxSteps := 1000000) (disch := (first | omega | assumption | (simp only [List.length_append, List.length_cons, List.length_nil, List.length_set]; omega))) only [go_sem, Sp80, SId, Dr80, e1]))
      exact KB h (by simp [contB, idT, e1])
    cases e2 : idB d e f
    · repeat' (first | with_reducible refine iteI (fun _ => ?_) (fun _ => ?_) | ((first | unfold AOpsC | unfold AOpsD | skip); simp (maxSteps := 1000000) (disch := (first | omega | assumption | (simp only [List.length_append, List.length_cons, List.length_nil, List.length_set]; omega))) only [go_sem, Sp80, SId, Dr80, e1, e2]))
      exact KB h (by simp [contB, idT, e1, e2])
    by_cases e3 : a = d
    case neg =>
      repeat' (first | with_reducible refine iteI (fun _ => ?_) (fun _ => ?_) | ((first | unfold AOpsC | unfold AOpsD | skip); simp (maxSteps := 1000000) (disch := (first | omega | assumption | (simp only [List.length_append, List.length_cons, List.length_nil, List.length_set]; omega))) only [go_sem, Sp80, SId, Dr80, e1, e2, e3]))
      exact KB h (by simp [contB, idT, e3])
    subst e3
    have b1 := id_bd e1
    have b2 := id_bd e2
    by_cases e4 : b ≤ e
    case neg =>
      repeat' (first | with_reducible refine iteI (fun _ => ?_) (fun _ => ?_) | ((first | unfold AOpsC | unfold AOpsD | skip); simp (maxSteps := 1000000) (disch := (first | omega | assumption | (simp only [List.length_append, List.length_cons, List.length_nil, List.length_set]; omega))) only [go_sem, Sp80, SId, Dr80, e1, e2, e4]))
      exact KB h (by simp [contB, idT, e4])
    have e5 : min (e - b).toNat 64 = (e - b).toNat := shrMin (by omega)
    by_cases e6 : f.fdiv (2 ^ (e - b).toNat) = c
    · repeat' (first | with_reducible refine iteI (fun _ => ?_) (fun _ => ?_) | ((first | unfold AOpsC | unfold AOpsD | skip); simp (maxSteps := 1000000) (disch := (first | omega | assumption | (simp only [List.length_append, List.length_cons, List.length_nil, List.length_set]; omega))) only [go_sem, Sp80, SId, Dr80, e1, e2, e4, IntKind.bits, wrapU, e5, e6, Int.sub_nonneg]))
      exact KB h (by simp [contB, idT, e1, e2, e4, e6])
    · repeat' (first | with_reducible refine iteI (fun _ => ?_) (fun _ => ?_) | ((first | unfold AOpsC | unfold AOpsD | skip); simp (maxSteps := 1000000) (disch := (first | omega | assumption | (simp only [List.length_append, List.length_cons, List.length_nil, List.length_set]; omega))) only [go_sem, Sp80, SId, Dr80, e1, e2, e4, IntKind.bits, wrapU, e5, e6, Int.sub_nonneg]))
      exact KB h (by simp [contB, idT, e6])
  · exact h.elim

def invIR (η : List Blk) (l : List Id3) (v fv : AV) (f : Id3 → Bool) (st : St) : Prop := ∃ i : Nat, ∃ H : List Blk, (i ≤ l.length) ∧ ((l.take i).all (fun x => !f x) = true) ∧ (Ext η H) ∧ st.n = 19 ∧ st.τ 0 = v ∧ st.τ 1 = fv ∧ st.τ 7 = .int .i64 l.length ∧ st.τ 8 = .int .i64 i ∧ st.lam = lam0 ∧ st.η = H

/- slices.IndexFunc[[]impl.Id,impl.Id] -/
theorem f124_ok {lo : Nat} {args : List AV} {η : List Blk} {K : AV → List Blk → Prop} (h : SIdxR lo args η K) : AF Try.prog lo 124 args η K := by
  unfold SIdxR at h
  split at h
  · obtain ⟨l, f, hr, hl, hf, hK⟩ := h
    rename_i g caps
    obtain ⟨b, ver, rfl, hb⟩ := hr
    refine AF_run (SpR_ok hf) D0 [] [.tmp 4] hm Try.func124 rfl (by decide) Try.ntmps124 rfl (by kernel_rfl) (Nat.le_of_ble_eq_true rfl) ?_; intro hlo
    repeat' (first | with_reducible refine iteI (fun _ => ?_) (fun _ => ?_) | ((first | unfold AOpsC | unfold AOpsD | skip); simp (maxSteps := 1000000) (disch := (first | omega | assumption | (simp only [List.length_append, List.length_cons, List.length_nil, List.length_set]; omega))) only [go_sem, SpR, hb]))
    refine ⟨invIR η l (.sl b ver 0 l.length) (.fn g caps) f, fun st => ctr l.length st 8, .inl ⟨0, η, Nat.zero_le _, rfl, Ext.refl _, rfl, by simp [upd], by simp [upd], by simp [upd], by simp [upd], rfl, rfl⟩, ?_⟩
    rintro ⟨n, τ, lam, η'⟩ ⟨i, H, g0, g1, g2, hn, t0, t1, t7, t8, hlam, hη⟩; simp only at hn t0 t1 t7 t8 hlam hη; subst hn hlam hη
    have hb' := g2.blk hb
    have hlo' := Nat.le_trans hlo g2.len
    by_cases hlt : i < l.length
    · repeat' (first | with_reducible refine iteI (fun _ => ?_) (fun _ => ?_) | ((first | unfold AOpsC | unfold AOpsD | skip); simp (maxSteps := 1000000) (disch := (first | omega | assumption | (simp only [List.length_append, List.length_cons, List.length_nil, List.length_set]; omega))) only [go_sem, SpR, hb', t0, t1, t7, t8, memR, memR3]))
      refine ⟨g2, fun H' x' => ?_⟩
      repeat' (first | with_reducible refine iteI (fun _ => ?_) (fun _ => ?_) | ((first | unfold AOpsC | unfold AOpsD | skip); simp (maxSteps := 1000000) (disch := (first | omega | assumption | (simp only [List.length_append, List.length_cons, List.length_nil, List.length_set]; omega))) only [go_sem, SpR, hb', t0, t1, t7, t8]))
      · rename_i hfx
        have hk := hK _ (g2.trans x')
        rw [idxR_here hlt g1 hfx] at hk
        exact hk
      · rename_i hfx
        refine ⟨⟨i + 1, _, hlt, allR hlt g1 (by simpa using hfx), g2.trans x', rfl, by simp [upd, t0], by simp [upd, t1], by simp [upd, t7], by simp [upd], rfl, rfl⟩, by simp [ctr, upd, t8]; omega⟩
    · repeat' (first | with_reducible refine iteI (fun _ => ?_) (fun _ => ?_) | ((first | unfold AOpsC | unfold AOpsD | skip); simp (maxSteps := 1000000) (disch := (first | omega | assumption | (simp only [List.length_append, List.length_cons, List.length_nil, List.length_set]; omega))) only [go_sem, SpR, hb', t0, t1, t7, t8]))
      obtain rfl : i = l.length := by omega
      rw [List.take_length] at g1
      have hk := hK _ g2
      rw [idxR_none g1] at hk
      exact hk
  · exact h.elim

/- slices.ContainsFunc[[]impl.Id,impl.Id] -/
def Sp77 (lo : Nat) : Spec := fun g args η K => match g with | 124 => SIdxR lo args η K | _ => False
theorem Sp77_ok {lo : Nat} : Sound Try.prog lo (Sp77 lo) := by
  intro g args η K h
  unfold Sp77 at h
  split at h
  · exact .inl (f124_ok h)
  · exact h.elim
theorem f77_ok {lo : Nat} {args : List AV} {η : List Blk} {K : AV → List Blk → Prop} (h : SConR lo args η K) : AF Try.prog lo 77 args η K := by
  unfold SConR at h
  split at h
  · obtain ⟨l, f, hr, hl, hf, hK⟩ := h
    rename_i g caps
    have hr' := hr
    obtain ⟨b, ver, rfl, hb⟩ := hr'
    refine AF_run Sp77_ok D0 [] [.tmp 4] hm Try.func77 rfl (by decide) Try.ntmps77 rfl (by kernel_rfl) (Nat.le_of_ble_eq_true rfl) ?_; intro hlo
    repeat' (first | with_reducible refine iteI (fun _ => ?_) (fun _ => ?_) | ((first | unfold AOpsC | unfold AOpsD | skip); simp (maxSteps := 1000000) (disch := (first | omega | assumption | (simp only [List.length_append, List.length_cons, List.length_nil, List.length_set]; omega))) only [go_sem, Sp77]))
    unfold SIdxR
    refine ⟨l, f, hr, hl, hf, fun H x => ?_⟩
    repeat' (first | with_reducible refine iteI (fun _ => ?_) (fun _ => ?_) | ((first | unfold AOpsC | unfold AOpsD | skip); simp (maxSteps := 1000000) (disch := (first | omega | assumption | (simp only [List.length_append, List.length_cons, List.length_nil, List.length_set]; omega))) only [go_sem, Sp77]))
    exact KB (hK _ x) (idxR_any l f).symm
  · exact h.elim

def invSLeafOf (η : List Blk) (r a b c : Int) (l : List Id3) (v : AV) (st : St) : Prop := ∃ i : Nat, (i ≤ l.length) ∧ ((l.take i).all (fun x => !(fun x => decide (x = (a, b, c))) x) = true) ∧ st.n = 21 ∧ st.τ 2 = .loc 2 1 0 ∧ st.τ 3 = .loc 3 1 0 ∧ st.τ 5 = .int .i64 i ∧ st.lam 2 = ⟨1, [.int .i64 r, v]⟩ ∧ st.lam 3 = ⟨1, [.int .i64 a, .int .i64 b, .int .i64 c]⟩ ∧ st.η = η

/- spec.LeafOf -/
def Dr36 : Draws := fun id => match id with | 4 => ([0, 1, 0, 7, 15, 0, 63], [], [], (.one 0 (.one 1 (.one 2 (.one 3 (.one 4 (.one 5 (.one 6 .nil)))))))) | _ => ([], [], [], .nil)
theorem f36_ok {lo : Nat} {args : List AV} {η : List Blk} {K : AV → List Blk → Prop} (h : SLeafOf args η K) : AF Try.prog lo 36 args η K := by
  unfold SLeafOf at h
  split at h
  · obtain ⟨⟨l, hr, hl⟩, hK⟩ := h
    rename_i r _ a b c
    have d1 := hr.dec3
    simp only [d1] at hK
    obtain ⟨bb, ver, rfl, hb⟩ := hr
    refine AF_run noSp_ok Dr36 [] [.tmp 4] hm Try.func36 rfl (by decide) Try.ntmps36 rfl (by kernel_rfl) (Nat.le_of_ble_eq_true rfl) ?_; intro hlo
    repeat' (first | with_reducible refine iteI (fun _ => ?_) (fun _ => ?_) | ((first | unfold AOpsC | unfold AOpsD | skip); simp (maxSteps := 1000000) (disch := (first | omega | assumption | (simp only [List.length_append, List.length_cons, List.length_nil, List.length_set]; omega))) only [go_sem, Dr36, hb]))
    refine ⟨invSLeafOf η r a b c l (.sl bb ver 0 l.length), fun st => ctr l.length st 5, .inl ⟨0, Nat.zero_le _, rfl, rfl, (by first | (simp [upd]; done) | (simp [upd, *]; done) | rfl), (by first | (simp [upd]; done) | (simp [upd, *]; done) | rfl), (by first | (simp [upd]; done) | (simp [upd, *]; done) | rfl), (by first | (simp [upd]; done) | (simp [upd, *]; done) | rfl), (by first | (simp [upd]; done) | (simp [upd, *]; done) | rfl), rfl⟩, ?_⟩
    rintro ⟨n, τ, lam, η'⟩ ⟨i, g0, g1, hn, t2, t3, t5, l2, l3, hη⟩; simp only at hn t2 t3 t5 l2 l3 hη; subst hn hη
    by_cases hlt : i < l.length
    · cases hfx : decide (l.getD i (0, 0, 0) = (a, b, c))
      · have hnx := allR hlt g1 (by simp only [hfx]; rfl)
        have hfx2 : ((l.getD i (0, 0, 0)).1 = a ∧ (l.getD i (0, 0, 0)).2.1 = b ∧ (l.getD i (0, 0, 0)).2.2 = c) = False := by
          refine eq_false ?_
          rintro ⟨q1, q2, q3⟩
          exact of_decide_eq_false hfx (Prod.ext q1 (Prod.ext q2 q3))
        have hfx3 : sameInts [(IntKind.i64, (l.getD i (0, 0, 0)).1), (.i64, (l.getD i (0, 0, 0)).2.1), (.i64, (l.getD i (0, 0, 0)).2.2)] [(.i64, a), (.i64, b), (.i64, c)] = false := by
          simp [sameInts]; simpa using hfx2
        repeat' (first | with_reducible refine iteI (fun _ => ?_) (fun _ => ?_) | ((first | unfold AOpsC | unfold AOpsD | skip); simp (maxSteps := 1000000) (disch := (first | omega | assumption | (simp only [List.length_append, List.length_cons, List.length_nil, List.length_set]; omega))) only [go_sem, Dr36, hb, t2, t3, t5, l2, l3, intsOf, hfx3]))
        refine ⟨⟨i + 1, hlt, hnx, rfl, (by simp [upd, t2, t3, t5]), (by simp [upd, t2, t3, t5]), (by simp [upd, t2, t3, t5]), (by simp [upd, l2, l3]), (by simp [upd, l2, l3]), rfl⟩, (by simp [ctr, upd, t2, t3, t5]; omega)⟩
      · rw [idxR_here hlt g1 hfx] at hK
        have hfx3 : sameInts [(IntKind.i64, (l.getD i (0, 0, 0)).1), (.i64, (l.getD i (0, 0, 0)).2.1), (.i64, (l.getD i (0, 0, 0)).2.2)] [(.i64, a), (.i64, b), (.i64, c)] = true := by
          rw [of_decide_eq_true hfx]; simp [sameInts]
        repeat' (first | with_reducible refine iteI (fun _ => ?_) (fun _ => ?_) | ((first | unfold AOpsC | unfold AOpsD | skip); simp (maxSteps := 1000000) (disch := (first | omega | assumption | (simp only [List.length_append, List.length_cons, List.length_nil, List.length_set]; omega))) only [go_sem, Dr36, hb, t2, t3, t5, l2, l3, intsOf, hfx3]))
        exact hK
    · obtain rfl : i = l.length := by omega
      rw [List.take_length] at g1
      rw [idxR_none g1] at hK
      repeat' (first | with_reducible refine iteI (fun _ => ?_) (fun _ => ?_) | ((first | unfold AOpsC | unfold AOpsD | skip); simp (maxSteps := 1000000) (disch := (first | omega | assumption | (simp only [List.length_append, List.length_cons, List.length_nil, List.length_set]; omega))) only [go_sem, Dr36, hb, t2, t3, t5, l2, l3]))
      exact hK
  · exact h.elim

end Go.Proofs.Ytaalpmbopkbdiaa
