/- What functions of the program compute, said in the abstract logic; no conditions. -/
import Derived.Test.YtaalpmbopkbdiaaGCont

namespace Go.Proofs.Ytaalpmbopkbdiaa
open Go
set_option linter.unusedSimpArgs false
set_option linter.unusedVariables false
set_option maxRecDepth 100000
set_option maxHeartbeats 8000000
attribute [local go_sem] st0 AC thenA andC locLoadB KsSW_same KsSW_grow oldLoadB noBlkB KsSL_same KsOS_same KsOS_grow pv ev put upd dstOk cv cvc binI setB Value.oneCell' EndA resA resA1 List.mapM_cons List.mapM_nil Option.pure_def Option.bind_eq_bind noLocV noLoc1 noLoc noLocs plainV cellsA newVarA putCells condA lam0 inBlockA cur lenA rowA writeA dstA appendC appendZ mapPut mapGet avoidsB avoidB clearB Array.toList_append Op.operands Call.operands newSlot Nat.zero_add Nat.add_zero Nat.succ_ne_self Nat.lt_add_one Nat.zero_lt_succ true_and and_true true_or or_true false_or or_false and_self true_implies forall_const Bool.false_eq_true Bool.true_eq_false false_implies implies_true imp_self ne_eq not_false_eq_true not_true_eq_false false_and and_false List.getElem?_toArray List.getElem?_cons_succ List.getElem?_cons_zero Option.bind_some Option.map_some Bool.not_true Bool.not_false List.getD_cons_zero List.getD_cons_succ Option.some.injEq exists_eq_left' AV.bool.injEq List.map_cons List.map_nil List.all_cons List.all_nil Bool.and_self Bool.and_true Bool.true_and List.append_nil List.cons_append List.nil_append List.length_cons List.length_nil List.drop_zero List.take_zero List.drop_succ_cons List.take_succ_cons List.take_nil List.drop_nil List.not_mem_nil List.mem_cons List.contains_nil List.contains_cons Bool.or_self Bool.or_true Bool.true_or Bool.false_or Bool.or_false Bool.and_false Bool.false_and KsS_same KsS_grow skipV KsS_ext KsSW_ext KsOS_ext rep1 rep2 rep3 rep4 rep5 List.flatten_cons List.flatten_nil partsA isPtr fillA List.size_toArray ltT ltF leT leF ltTn ltFn leTn leFn eqTi eqFi wrapId toNat1 intGet boolGet memD app_get app_last app_lst app_set app_setL app_setF set_ne set_eq gt_iff_lt ge_iff_le decide_eq_true_eq len2 len3 get20 get21 drop2 put2 get30 get31 get32 drop3 put3 putI pairEta bneTi bneFi beqTi beqFi bne_eq_false_iff_eq beq_eq_false_iff_ne beq_iff_eq bne_iff_ne Int.toNat_natCast Nat.mul_one List.length_map Bool.not_eq_true Bool.not_eq_false Bool.decide_eq_true decide_true decide_false Bool.not_eq_true' Bool.not_eq_false' decide_eq_false_iff_not eq_self Decidable.not_not
attribute [local go_sem ↓] skipC exitC retC seqC blockC condC regC drawC drawStep AOpC AOpF AOpE AEff contE_at contC_at keepC_at keepW_at keepO_at keepL_at map_parts
attribute [local go_sem] reduceCtorEq Nat.reduceLT Nat.reduceEqDiff Nat.reduceAdd Nat.reduceMul Nat.reduceLeDiff Nat.reduceSub Nat.reduceBEq Nat.reduceBNe Nat.reduceBneDiff Nat.reduceBeqDiff
attribute [local go_sem ↓] reduceIte
attribute [local go_sem] ag_24 ag_26 ag_3 ag_63 by_24 by_26 by_3 by_63 el_24 en_3 fi_26_0 fi_26_1 in_3 nf_26 nf_63 pl_26 pl_63 ps_26 ps_63 sz_24 sz_26 sz_3 sz_63 ze_24 ze_26 ze_3 ze_63

def finB (r : Int) (a : List Id3) (q : Int) (b : List Id3) : Bool := meshB r a && (meshB q b && (decide (r = q) && a.all fun x => b.any fun y => contB y x))
theorem cont_self {x : Id3} (h : idT x = true) : contB x x = true := by simp [contB, h]
def SFin (lo : Nat) : List AV → List Blk → (AV → List Blk → Prop) → Prop
  | [.agg [.int .i64 r, v], .agg [.int .i64 q, u]], η, K => (ok3 63 η v ∧ ok3 63 η u) ∧ ∀ H, Ext η H → K (.bool (finB r (dec3 63 η v) q (dec3 63 η u))) H
  | _, _, _ => False
def SFin1 (lo : Nat) : List AV → List Blk → (AV → List Blk → Prop) → Prop
  | [.agg [.int .i64 a, .int .i64 b, .int .i64 c], .ptr p 0 0], η, K => ∃ (r : Int) (v : AV) (ty : Nat) (m : List Id3), η[p]? = some ⟨0, ty, 2, [.int .i64 r, v]⟩ ∧ IsR 63 3 enc3 η v m ∧ m.length ≤ 1048576 ∧ ∀ H, Ext η H → K (.bool (!(m.any fun y => contB y (a, b, c)))) H
  | _, _, _ => False
def SFin2 (lo : Nat) : List AV → List Blk → (AV → List Blk → Prop) → Prop
  | [.agg [.int .i64 a, .int .i64 b, .int .i64 c], .ptr p 0 0], η, K => ∃ (d e f : Int) (ty : Nat), η[p]? = some ⟨0, ty, 3, [.int .i64 d, .int .i64 e, .int .i64 f]⟩ ∧ K (.bool (contB (a, b, c) (d, e, f))) η
  | _, _, _ => False

/- impl.IsFinerEverywhere$1$1 -/
def Sp79 (lo : Nat) : Spec := fun g args η K => match g with | 80 => SContB args η K | _ => False
theorem Sp79_ok {lo : Nat} : Sound Try.prog lo (Sp79 lo) := by
  intro g args η K h
  unfold Sp79 at h
  split at h
  · exact .inl (f80_ok h)
  · exact h.elim
theorem f79_ok {lo : Nat} {args : List AV} {η : List Blk} {K : AV → List Blk → Prop} (h : SFin2 lo args η K) : AF Try.prog lo 79 args η K := by
  unfold SFin2 at h
  split at h
  · obtain ⟨d, e, f, ty, hp, hK⟩ := h
    refine AF_run Sp79_ok D0 [] [.tmp 3] hm Try.func79 rfl (by decide) Try.ntmps79 rfl (by kernel_rfl) (Nat.le_of_ble_eq_true rfl) ?_; intro hlo
    repeat' (first | with_reducible refine iteI (fun _ => ?_) (fun _ => ?_) | ((first | unfold AOpsC | unfold AOpsD | skip); simp (maxSteps := 1000000) (disch := (first | omega | assumption | (simp only [List.length_append, List.length_cons, List.length_nil, List.length_set]; omega))) only [go_sem, Sp79, SContB, hp]))
    exact hK
  · exact h.elim

/- impl.IsFinerEverywhere$1 -/
def Sp78 (lo : Nat) : Spec := fun g args η K => match g with | 77 => SConR lo args η K | _ => False
theorem Sp78_ok {lo : Nat} : Sound Try.prog lo (Sp78 lo) := by
  intro g args η K h
  unfold Sp78 at h
  split at h
  · exact .inl (f77_ok h)
  · exact h.elim
theorem f78_ok {lo : Nat} {args : List AV} {η : List Blk} {K : AV → List Blk → Prop} (h : SFin1 lo args η K) : AF Try.prog lo 78 args η K := by
  unfold SFin1 at h
  split at h
  · obtain ⟨r, v, ty, m, hp, hs, hmn, hK⟩ := h
    rename_i a b c p
    obtain ⟨b2, ver2, rfl, hb2⟩ := hs
    have hpl := blt hp
    have hbl := blt hb2
    refine AF_run Sp78_ok D0 [2] [.tmp 3] hm Try.func78 rfl (by decide) Try.ntmps78 rfl (by kernel_rfl) (Nat.le_of_ble_eq_true rfl) ?_; intro hlo
    repeat' (first | with_reducible refine iteI (fun _ => ?_) (fun _ => ?_) | ((first | unfold AOpsC | unfold AOpsD | skip); simp (maxSteps := 1000000) (disch := (first | omega | assumption | (simp only [List.length_append, List.length_cons, List.length_nil, List.length_set]; omega))) only [go_sem, Sp78, hp, hb2]))
    unfold SConR
    refine ⟨m, fun y => contB y (a, b, c), ⟨b2, ver2, rfl, by rw [app_get hbl]; exact hb2⟩, hmn, ?_, fun H x => ?_⟩
    · intro lo' H' y _ hx _ K' hK'
      obtain ⟨y1, y2, y3⟩ := y
      exact f79_ok (lo := lo') (show SFin2 lo' [.agg [.int .i64 y1, .int .i64 y2, .int .i64 y3], .ptr η.length 0 0] H' K' from ⟨a, b, c, _, hx.blk (app_last _ _), hK' _ (Ext.refl _)⟩)
    · repeat' (first | with_reducible refine iteI (fun _ => ?_) (fun _ => ?_) | ((first | unfold AOpsC | unfold AOpsD | skip); simp (maxSteps := 1000000) (disch := (first | omega | assumption | (simp only [List.length_append, List.length_cons, List.length_nil, List.length_set]; omega))) only [go_sem, Sp78]))
      exact hK _ (((Ext.refl η).app _).trans x)
  · exact h.elim

/- impl.IsFinerEverywhere -/
def Sp37 (lo : Nat) : Spec := fun g args η K => match g with | 65 => SMesh args η K | 77 => SConR lo args η K | _ => False
theorem Sp37_ok {lo : Nat} : Sound Try.prog lo (Sp37 lo) := by
  intro g args η K h
  unfold Sp37 at h
  split at h
  · exact .inl (f65_ok h)
  · exact .inl (f77_ok h)
  · exact h.elim
theorem f37_ok {lo : Nat} {args : List AV} {η : List Blk} {K : AV → List Blk → Prop} (h : SFin lo args η K) : AF Try.prog lo 37 args η K := by
  unfold SFin at h
  split at h
  · obtain ⟨⟨⟨l, hr, hl⟩, ⟨m, hs, hmn⟩⟩, hK⟩ := h
    rename_i r _ q _
    obtain ⟨b, ver, rfl, hb⟩ := hr
    obtain ⟨b2, ver2, rfl, hb2⟩ := hs
    have d1 : dec3 63 η (.sl b ver 0 l.length) = l := IsR.dec3 ⟨b, ver, rfl, hb⟩
    have d2 : dec3 63 η (.sl b2 ver2 0 m.length) = m := IsR.dec3 ⟨b2, ver2, rfl, hb2⟩
    simp only [d1, d2] at hK
    have hbl := blt hb
    have hbl2 := blt hb2
    refine AF_run Sp37_ok D0 [3] [.tmp 4] hm Try.func37 rfl (by decide) Try.ntmps37 rfl (by kernel_rfl) (Nat.le_of_ble_eq_true rfl) ?_; intro hlo
    generalize hH : η ++ [(⟨0, 26, 2, [.int .i64 q, .sl b2 ver2 0 m.length]⟩ : Blk)] = H0
    have x0 : Ext η H0 := ⟨_, hH.symm⟩
    have hb' := x0.blk hb
    have hb2' := x0.blk hb2
    have hp : H0[η.length]? = some ⟨0, 26, 2, [.int .i64 q, .sl b2 ver2 0 m.length]⟩ := by rw [← hH]; exact app_last _ _
    have d1' : dec3 63 H0 (.sl b ver 0 l.length) = l := IsR.dec3 ⟨b, ver, rfl, hb'⟩
    have d2' : dec3 63 H0 (.sl b2 ver2 0 m.length) = m := IsR.dec3 ⟨b2, ver2, rfl, hb2'⟩
    have o1' : ok3 63 H0 (.sl b ver 0 l.length) := ⟨l, ⟨b, ver, rfl, hb'⟩, hl⟩
    have o2' : ok3 63 H0 (.sl b2 ver2 0 m.length) := ⟨m, ⟨b2, ver2, rfl, hb2'⟩, hmn⟩
    cases e1 : meshB r l
    · repeat' (first | with_reducible refine iteI (fun _ => ?_) (fun _ => ?_) | ((first | unfold AOpsC | unfold AOpsD | skip); simp (maxSteps := 1000000) (disch := (first | omega | assumption | (simp only [List.length_append, List.length_cons, List.length_nil, List.length_set]; omega))) only [go_sem, Sp37, SMesh, hH, hp, hb', hb2', d1', d2', o1', o2', e1]))
      exact KB (hK _ x0) (by simp [finB, e1])
    cases e2 : meshB q m
    · repeat' (first | with_reducible refine iteI (fun _ => ?_) (fun _ => ?_) | ((first | unfold AOpsC | unfold AOpsD | skip); simp (maxSteps := 1000000) (disch := (first | omega | assumption | (simp only [List.length_append, List.length_cons, List.length_nil, List.length_set]; omega))) only [go_sem, Sp37, SMesh, hH, hp, hb', hb2', d1', d2', o1', o2', e1, e2]))
      exact KB (hK _ x0) (by simp [finB, e2])
    by_cases e3 : r = q
    case neg =>
      repeat' (first | with_reducible refine iteI (fun _ => ?_) (fun _ => ?_) | ((first | unfold AOpsC | unfold AOpsD | skip); simp (maxSteps := 1000000) (disch := (first | omega | assumption | (simp only [List.length_append, List.length_cons, List.length_nil, List.length_set]; omega))) only [go_sem, Sp37, SMesh, hH, hp, hb', hb2', d1', d2', o1', o2', e1, e2, e3]))
      exact KB (hK _ x0) (by simp [finB, e3])
    subst e3
    repeat' (first | with_reducible refine iteI (fun _ => ?_) (fun _ => ?_) | ((first | unfold AOpsC | unfold AOpsD | skip); simp (maxSteps := 1000000) (disch := (first | omega | assumption | (simp only [List.length_append, List.length_cons, List.length_nil, List.length_set]; omega))) only [go_sem, Sp37, SMesh, hH, hp, hb', hb2', d1', d2', o1', o2', e1, e2]))
    unfold SConR
    refine ⟨l, fun x => !(m.any fun y => contB y x), ⟨b, ver, rfl, hb'⟩, hl, ?_, fun H x => ?_⟩
    · intro lo' H' y hlo2 hx _ K' hK'
      obtain ⟨y1, y2, y3⟩ := y
      exact f78_ok (lo := lo') (show SFin1 lo' [.agg [.int .i64 y1, .int .i64 y2, .int .i64 y3], .ptr η.length 0 0] H' K' from ⟨r, _, _, m, hx.blk hp, ⟨b2, ver2, rfl, hx.blk hb2'⟩, hmn, hK'⟩)
    · repeat' (first | with_reducible refine iteI (fun _ => ?_) (fun _ => ?_) | ((first | unfold AOpsC | unfold AOpsD | skip); simp (maxSteps := 1000000) (disch := (first | omega | assumption | (simp only [List.length_append, List.length_cons, List.length_nil, List.length_set]; omega))) only [go_sem, Sp37, SMesh]))
      refine KB (hK _ (x0.trans x)) ?_
      simp only [finB, e1, e2, decide_true, Bool.true_and]
      rw [Bool.eq_iff_iff]
      simp
  · exact h.elim

end Go.Proofs.Ytaalpmbopkbdiaa
