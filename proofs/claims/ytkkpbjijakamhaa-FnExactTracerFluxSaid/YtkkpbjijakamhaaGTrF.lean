/- What functions of the program compute, said in the abstract logic; no conditions. -/
import Derived.Test.YtkkpbjijakamhaaGFlux2
import Derived.Test.YtkkpbjijakamhaaGOut

namespace Go.Proofs.Ytkkpbjijakamhaa
open Go
set_option linter.unusedSimpArgs false
set_option linter.unusedVariables false
set_option maxRecDepth 100000
set_option maxHeartbeats 8000000
attribute [local go_sem] st0 AC thenA pv ev put upd dstOk cv cvc binI setB Value.oneCell' EndA resA resA1 List.mapM_cons List.mapM_nil Option.pure_def Option.bind_eq_bind noLocV noLoc1 noLoc noLocs plainV cellsA newVarA putCells condA lam0 inBlockA cur lenA rowA avoidsB avoidB clearB Array.toList_append Op.operands Call.operands newSlot Nat.zero_add Nat.add_zero Nat.succ_ne_self Nat.lt_add_one Nat.zero_lt_succ true_and and_true true_or or_true false_or or_false and_self true_implies forall_const Bool.false_eq_true Bool.true_eq_false false_implies implies_true imp_self ne_eq not_false_eq_true not_true_eq_false false_and and_false List.getElem?_toArray List.getElem?_cons_succ List.getElem?_cons_zero Option.bind_some Option.map_some Bool.not_true Bool.not_false List.getD_cons_zero List.getD_cons_succ Option.some.injEq exists_eq_left' AV.bool.injEq List.map_cons List.map_nil List.all_cons List.all_nil Bool.and_self Bool.and_true Bool.true_and List.append_nil List.cons_append List.nil_append List.length_cons List.length_nil List.drop_zero List.take_zero List.drop_succ_cons List.take_succ_cons List.take_nil List.drop_nil List.not_mem_nil List.mem_cons List.contains_nil List.contains_cons Bool.or_self Bool.or_true Bool.true_or Bool.false_or Bool.or_false Bool.and_false Bool.false_and KsS_same KsS_grow skipV KsS_ext rep1 rep2 rep3 rep4 rep5 List.flatten_cons List.flatten_nil partsA isPtr fillA List.size_toArray ltT ltF leT leF ltTn ltFn leTn leFn eqTi eqFi wrapId toNat1 intGet boolGet memD app_get app_last app_lst app_set app_setL app_setF set_ne set_eq gt_iff_lt ge_iff_le decide_eq_true_eq len2 len3 get20 get21 drop2 put2 get30 get31 get32 drop3 put3 putI pairEta bneTi bneFi beqTi beqFi bne_eq_false_iff_eq beq_eq_false_iff_ne beq_iff_eq bne_iff_ne Int.toNat_natCast Nat.mul_one List.length_map Bool.not_eq_true Bool.not_eq_false Bool.decide_eq_true decide_true decide_false Bool.not_eq_true' Bool.not_eq_false' decide_eq_false_iff_not eq_self Decidable.not_not

def trP (f ta ma tb mb : Int) : Int := if 0 < f then shareO ta f ma else if f < 0 then -(shareO tb (-f) mb) else 0
def STrP : List AV → List Blk → (AV → List Blk → Prop) → Prop
  | [.int .i64 f, .int .i64 ta, .int .i64 ma, .int .i64 tb, .int .i64 mb], η, K => (-1000000000000 ≤ f ∧ f ≤ 1000000000000) ∧ K (.int .i64 (trP f ta ma tb mb)) η
  | _, _, _ => False
def trI (l : List Id3) (ms ts bs : List Int) (i : Nat) : Int := trP (fluxI l ms bs i) (ts.getD i 0) (ms.getD i 0) (ts.getD (i + 1) 0) (ms.getD (i + 1) 0)
def STrF : List AV → List Blk → (AV → List Blk → Prop) → Prop
  | [.agg [.int .i64 r, v, a, b, c], .int .i64 i], η, K => ((ok3 45 η v ∧ okI η a ∧ okI η b ∧ okI η c) ∧ okB r (dec3 45 η v) (decI η a) (decI η b) (decI η c) = true ∧ 0 ≤ i ∧ i + 1 < (dec3 45 η v).length) ∧ K (.int .i64 (trI (dec3 45 η v) (decI η a) (decI η b) (decI η c) i.toNat)) η
  | _, _, _ => False
def trR (r : Int) (l : List Id3) (ms ts bs : List Int) (i : Int) : Int := if faceB r l ms ts bs i = true then trI l ms ts bs i.toNat else 0

def STrR : List AV → List Blk → (AV → List Blk → Prop) → Prop
  | [.agg [.int .i64 r, v, a, b, c], .int .i64 i], η, K => (ok3 45 η v ∧ okI η a ∧ okI η b ∧ okI η c) ∧ K (.int .i64 (trR r (dec3 45 η v) (decI η a) (decI η b) (decI η c) i)) η
  | _, _, _ => False

/- spec.l10Pair -/
def Sp174 (lo : Nat) : Spec := fun g args η K => match g with | 177 => SShare args η K | _ => False
theorem Sp174_ok {lo : Nat} : Sound Try.prog lo (Sp174 lo) := by
  intro g args η K h
  unfold Sp174 at h
  split at h
  · exact f177_ok h
  · exact h.elim
theorem f174_ok {lo : Nat} {args : List AV} {η : List Blk} {K : AV → List Blk → Prop} (h : STrP args η K) : AF Try.prog lo 174 args η K := by
  unfold STrP at h
  split at h
  · obtain ⟨hb, hK⟩ := h
    rename_i f ta ma tb mb
    have s2 := shareO_bd tb (-f) mb
    refine AF_run Sp174_ok D0 [] [.tmp 10] hm Try.func174 rfl (by decide) Try.ntmps174 rfl (by kernel_rfl) (Nat.le_of_ble_eq_true rfl) ?_; intro hlo
    by_cases h1 : 0 < f
    · repeat' (first | with_reducible refine iteI (fun _ => ?_) (fun _ => ?_) | ((first | unfold AOpsC | unfold AOpsD | skip); simp (maxSteps := 1000000) (disch := (first | omega | assumption | (simp only [List.length_append, List.length_cons, List.length_nil, List.length_set]; omega))) only [go_sem, ↓skipC, ↓exitC, ↓retC, ↓seqC, ↓blockC, ↓condC, ↓regC, ↓drawC, ↓drawStep, ↓AOpC, ↓AOpF, ↓AOpE, ↓AEff, ↓contE_at, ↓contC_at, ↓keepC_at, ↓map_parts, ↓reduceIte, reduceCtorEq, Nat.reduceLT, Nat.reduceEqDiff, Nat.reduceAdd, Nat.reduceMul, Nat.reduceLeDiff, Nat.reduceSub, Nat.reduceBEq, Nat.reduceBNe, Nat.reduceBneDiff, Nat.reduceBeqDiff, Sp174, SShare, Int.zero_sub]))
      exact KI hK (by rw [trP, if_pos h1])
    · by_cases h2 : f < 0
      · repeat' (first | with_reducible refine iteI (fun _ => ?_) (fun _ => ?_) | ((first | unfold AOpsC | unfold AOpsD | skip); simp (maxSteps := 1000000) (disch := (first | omega | assumption | (simp only [List.length_append, List.length_cons, List.length_nil, List.length_set]; omega))) only [go_sem, ↓skipC, ↓exitC, ↓retC, ↓seqC, ↓blockC, ↓condC, ↓regC, ↓drawC, ↓drawStep, ↓AOpC, ↓AOpF, ↓AOpE, ↓AEff, ↓contE_at, ↓contC_at, ↓keepC_at, ↓map_parts, ↓reduceIte, reduceCtorEq, Nat.reduceLT, Nat.reduceEqDiff, Nat.reduceAdd, Nat.reduceMul, Nat.reduceLeDiff, Nat.reduceSub, Nat.reduceBEq, Nat.reduceBNe, Nat.reduceBneDiff, Nat.reduceBeqDiff, Sp174, SShare, Int.zero_sub]))
        exact KI hK (by rw [trP, if_neg h1, if_pos h2])
      · repeat' (first | with_reducible refine iteI (fun _ => ?_) (fun _ => ?_) | ((first | unfold AOpsC | unfold AOpsD | skip); simp (maxSteps := 1000000) (disch := (first | omega | assumption | (simp only [List.length_append, List.length_cons, List.length_nil, List.length_set]; omega))) only [go_sem, ↓skipC, ↓exitC, ↓retC, ↓seqC, ↓blockC, ↓condC, ↓regC, ↓drawC, ↓drawStep, ↓AOpC, ↓AOpF, ↓AOpE, ↓AEff, ↓contE_at, ↓contC_at, ↓keepC_at, ↓map_parts, ↓reduceIte, reduceCtorEq, Nat.reduceLT, Nat.reduceEqDiff, Nat.reduceAdd, Nat.reduceMul, Nat.reduceLeDiff, Nat.reduceSub, Nat.reduceBEq, Nat.reduceBNe, Nat.reduceBneDiff, Nat.reduceBeqDiff, Sp174, SShare, Int.zero_sub]))
        exact KI hK (by rw [trP, if_neg h1, if_neg h2])
  · exact h.elim

/- spec.l10Flux -/
def Sp143 (lo : Nat) : Spec := fun g args η K => match g with | 140 => SFlux args η K | 174 => STrP args η K | _ => False
theorem Sp143_ok {lo : Nat} : Sound Try.prog lo (Sp143 lo) := by
  intro g args η K h
  unfold Sp143 at h
  split at h
  · exact f140_ok h
  · exact f174_ok h
  · exact h.elim
def D143 : Draws := fun id => match id with | 1 => ([0, 0, 3, 0, 8, 0, 56, 120, 0, 256, 0, 1792, 3840, 0, 8192, 0, 32768, 122880, 253952, 0, 524288, 0, 2097152, 7864320, 16252928, 33554431, 67108863], [2], [], [0, 1, 3, 4, 5, 6, 7, 8, 9, 10, 11, 12, 13, 14, 15, 16, 17, 18, 19, 20, 21, 22, 23, 24, 2, 25, 26]) | _ => ([], [], [], [])
theorem f143_ok {lo : Nat} {args : List AV} {η : List Blk} {K : AV → List Blk → Prop} (h : STrF args η K) : AF Try.prog lo 143 args η K := by
  unfold STrF at h
  split at h
  · obtain ⟨⟨⟨⟨l, hr, hl⟩, ⟨ms, ha, hla⟩, ⟨ts, hb, hlb⟩, ⟨bs, hc, hlc⟩⟩, e1, i0, i1⟩, hK⟩ := h
    rename_i r _ _ _ _ i
    rw [hr.dec3] at i1 e1
    rw [ha.dec, hb.dec, hc.dec] at e1
    have d1 := hr.dec3
    have d2 := ha.dec
    have d3 := hb.dec
    have d4 := hc.dec
    have o1 : ok3 45 _ _ := ⟨l, hr, hl⟩
    have o2 : okI _ _ := ⟨ms, ha, hla⟩
    have o3 : okI _ _ := ⟨ts, hb, hlb⟩
    have o4 : okI _ _ := ⟨bs, hc, hlc⟩
    simp only [d1, d2, d3, d4] at hK
    have hr' := hr
    have ha' := ha
    have hb' := hb
    have hc' := hc
    obtain ⟨b0, v0, rfl, hb0⟩ := hr'
    obtain ⟨b1, v1, rfl, hb1⟩ := ha'
    obtain ⟨b2, v2, rfl, hb2⟩ := hb'
    obtain ⟨b3, v3, rfl, hb3⟩ := hc'
    obtain ⟨j, rfl⟩ : ∃ j : Nat, i = j := ⟨i.toNat, by omega⟩
    rw [Int.toNat_natCast] at hK
    obtain ⟨k1, k2, k3, k4, k5, k6, k7, k8⟩ := okT e1
    have j1 : j < l.length := by omega
    have m1 := cells_at k7 (i := j) (by omega)
    have j2 : j + 1 < l.length := by omega
    have m2 := cells_at k7 (i := j + 1) (by omega)
    have fb := flux_bd e1 j2
    have q1 := tdiv_bd (a := ms.getD j 0) (b := 4) (X := 10000000) (by omega) (by omega)
    have q2 := tdiv_bd (a := ms.getD (j + 1) 0) (b := 4) (X := 10000000) (by omega) (by omega)
    refine AF_run Sp143_ok D143 [] [.tmp 4] hm Try.func143 rfl (by decide) Try.ntmps143 rfl (by kernel_rfl) (Nat.le_of_ble_eq_true rfl) ?_; intro hlo
    repeat' (first | with_reducible refine iteI (fun _ => ?_) (fun _ => ?_) | ((first | unfold AOpsC | unfold AOpsD | skip); simp (maxSteps := 1000000) (disch := (first | omega | assumption | (simp only [List.length_append, List.length_cons, List.length_nil, List.length_set]; omega))) only [go_sem, ↓skipC, ↓exitC, ↓retC, ↓seqC, ↓blockC, ↓condC, ↓regC, ↓drawC, ↓drawStep, ↓AOpC, ↓AOpF, ↓AOpE, ↓AEff, ↓contE_at, ↓contC_at, ↓keepC_at, ↓map_parts, ↓reduceIte, reduceCtorEq, Nat.reduceLT, Nat.reduceEqDiff, Nat.reduceAdd, Nat.reduceMul, Nat.reduceLeDiff, Nat.reduceSub, Nat.reduceBEq, Nat.reduceBNe, Nat.reduceBneDiff, Nat.reduceBeqDiff, ag_28, ag_3, ag_39, by_28, by_3, by_39, el_28, fi_39_1, fi_39_2, in_3, nf_39, pl_39, ps_39, sz_28, sz_3, sz_39, ze_28, ze_3, ze_39, Sp143, SFlux, STrP, D143, hb0, hb1, hb2, hb3, d1, d2, d3, d4, o1, o2, o3, o4, e1]))
    exact hK
  · exact h.elim

/- spec.TracerFlux -/
def Sp80 (lo : Nat) : Spec := fun g args η K => match g with | 49 => SOk args η K | 99 => SIn args η K | 143 => STrF args η K | _ => False
theorem Sp80_ok {lo : Nat} : Sound Try.prog lo (Sp80 lo) := by
  intro g args η K h
  unfold Sp80 at h
  split at h
  · exact f49_ok h
  · exact f99_ok h
  · exact f143_ok h
  · exact h.elim
theorem f80_ok {lo : Nat} {args : List AV} {η : List Blk} {K : AV → List Blk → Prop} (h : STrR args η K) : AF Try.prog lo 80 args η K := by
  unfold STrR at h
  split at h
  · obtain ⟨⟨⟨l, hr, hl⟩, ⟨ms, ha, hla⟩, ⟨ts, hb, hlb⟩, ⟨bs, hc, hlc⟩⟩, hK⟩ := h
    rename_i r _ _ _ _ i
    have d1 := hr.dec3
    have d2 := ha.dec
    have d3 := hb.dec
    have d4 := hc.dec
    have o1 : ok3 45 _ _ := ⟨l, hr, hl⟩
    have o2 : okI _ _ := ⟨ms, ha, hla⟩
    have o3 : okI _ _ := ⟨ts, hb, hlb⟩
    have o4 : okI _ _ := ⟨bs, hc, hlc⟩
    simp only [d1, d2, d3, d4] at hK
    have hr' := hr
    have ha' := ha
    have hb' := hb
    have hc' := hc
    obtain ⟨b0, v0, rfl, hb0⟩ := hr'
    obtain ⟨b1, v1, rfl, hb1⟩ := ha'
    obtain ⟨b2, v2, rfl, hb2⟩ := hb'
    obtain ⟨b3, v3, rfl, hb3⟩ := hc'
    refine AF_run Sp80_ok D0 [] [.tmp 4] hm Try.func80 rfl (by decide) Try.ntmps80 rfl (by kernel_rfl) (Nat.le_of_ble_eq_true rfl) ?_; intro hlo
    cases e1 : okB r l ms ts bs
    · repeat' (first | with_reducible refine iteI (fun _ => ?_) (fun _ => ?_) | ((first | unfold AOpsC | unfold AOpsD | skip); simp (maxSteps := 1000000) (disch := (first | omega | assumption | (simp only [List.length_append, List.length_cons, List.length_nil, List.length_set]; omega))) only [go_sem, ↓skipC, ↓exitC, ↓retC, ↓seqC, ↓blockC, ↓condC, ↓regC, ↓drawC, ↓drawStep, ↓AOpC, ↓AOpF, ↓AOpE, ↓AEff, ↓contE_at, ↓contC_at, ↓keepC_at, ↓map_parts, ↓reduceIte, reduceCtorEq, Nat.reduceLT, Nat.reduceEqDiff, Nat.reduceAdd, Nat.reduceMul, Nat.reduceLeDiff, Nat.reduceSub, Nat.reduceBEq, Nat.reduceBNe, Nat.reduceBneDiff, Nat.reduceBeqDiff, ag_28, ag_3, ag_39, by_28, by_3, by_39, el_28, fi_39_1, in_3, nf_39, pl_39, ps_39, sz_28, sz_3, sz_39, ze_28, ze_3, ze_39, Sp80, SOk, SIn, STrF, hb0, hb1, hb2, hb3, d1, d2, d3, d4, o1, o2, o3, o4, e1]))
      exact KI hK (by simp [trR, faceB, e1])
    obtain ⟨k1, k2, k3, k4, k5, k6, k7, k8⟩ := okT e1
    cases e3 : inB i 0 ((l.length : Int) - 2)
    · have e3m : inB i 0 ((ms.length : Int) - 2) = false := by rw [k3]; exact e3
      repeat' (first | with_reducible refine iteI (fun _ => ?_) (fun _ => ?_) | ((first | unfold AOpsC | unfold AOpsD | skip); simp (maxSteps := 1000000) (disch := (first | omega | assumption | (simp only [List.length_append, List.length_cons, List.length_nil, List.length_set]; omega))) only [go_sem, ↓skipC, ↓exitC, ↓retC, ↓seqC, ↓blockC, ↓condC, ↓regC, ↓drawC, ↓drawStep, ↓AOpC, ↓AOpF, ↓AOpE, ↓AEff, ↓contE_at, ↓contC_at, ↓keepC_at, ↓map_parts, ↓reduceIte, reduceCtorEq, Nat.reduceLT, Nat.reduceEqDiff, Nat.reduceAdd, Nat.reduceMul, Nat.reduceLeDiff, Nat.reduceSub, Nat.reduceBEq, Nat.reduceBNe, Nat.reduceBneDiff, Nat.reduceBeqDiff, ag_28, ag_3, ag_39, by_28, by_3, by_39, el_28, fi_39_1, in_3, nf_39, pl_39, ps_39, sz_28, sz_3, sz_39, ze_28, ze_3, ze_39, Sp80, SOk, SIn, STrF, hb0, hb1, hb2, hb3, d1, d2, d3, d4, o1, o2, o3, o4, e1, e3, e3m]))
      exact KI hK (by simp [trR, faceB, e3])
    · have e3m : inB i 0 ((ms.length : Int) - 2) = true := by rw [k3]; exact e3
      have e3' := inT e3
      repeat' (first | with_reducible refine iteI (fun _ => ?_) (fun _ => ?_) | ((first | unfold AOpsC | unfold AOpsD | skip); simp (maxSteps := 1000000) (disch := (first | omega | assumption | (simp only [List.length_append, List.length_cons, List.length_nil, List.length_set]; omega))) only [go_sem, ↓skipC, ↓exitC, ↓retC, ↓seqC, ↓blockC, ↓condC, ↓regC, ↓drawC, ↓drawStep, ↓AOpC, ↓AOpF, ↓AOpE, ↓AEff, ↓contE_at, ↓contC_at, ↓keepC_at, ↓map_parts, ↓reduceIte, reduceCtorEq, Nat.reduceLT, Nat.reduceEqDiff, Nat.reduceAdd, Nat.reduceMul, Nat.reduceLeDiff, Nat.reduceSub, Nat.reduceBEq, Nat.reduceBNe, Nat.reduceBneDiff, Nat.reduceBeqDiff, ag_28, ag_3, ag_39, by_28, by_3, by_39, el_28, fi_39_1, in_3, nf_39, pl_39, ps_39, sz_28, sz_3, sz_39, ze_28, ze_3, ze_39, Sp80, SOk, SIn, STrF, hb0, hb1, hb2, hb3, d1, d2, d3, d4, o1, o2, o3, o4, e1, e3, e3m]))
      exact KI hK (by rw [trR, if_pos (by simp [faceB, e1, e3])])
  · exact h.elim

/- impl.TracerFlux -/
def Sp81 (lo : Nat) : Spec := fun g args η K => match g with | 40 => SFaceFl args η K | 144 => SShare args η K | _ => False
theorem Sp81_ok {lo : Nat} : Sound Try.prog lo (Sp81 lo) := by
  intro g args η K h
  unfold Sp81 at h
  split at h
  · exact f40_ok h
  · exact f144_ok h
  · exact h.elim
def D81 : Draws := fun id => match id with | 3 => ([0, 1, 0, 7, 15, 0, 0, 64, 0, 448, 960, 2047, 4095], [], [], [0, 1, 2, 3, 4, 5, 6, 7, 8, 9, 10, 11, 12]) | 5 => ([0, 1, 0, 4, 15, 31, 0, 64, 0, 256, 0, 1024, 3840, 7936, 16383, 32767, 65535], [], [], [0, 1, 2, 3, 4, 5, 6, 7, 8, 9, 10, 11, 12, 13, 14, 15, 16]) | _ => ([], [], [], [])
theorem f81_ok {lo : Nat} {args : List AV} {η : List Blk} {K : AV → List Blk → Prop} (h : STrR args η K) : AF Try.prog lo 81 args η K := by
  unfold STrR at h
  split at h
  · obtain ⟨⟨⟨l, hr, hl⟩, ⟨ms, ha, hla⟩, ⟨ts, hb, hlb⟩, ⟨bs, hc, hlc⟩⟩, hK⟩ := h
    rename_i r _ _ _ _ i
    have d1 := hr.dec3
    have d2 := ha.dec
    have d3 := hb.dec
    have d4 := hc.dec
    have o1 : ok3 45 _ _ := ⟨l, hr, hl⟩
    have o2 : okI _ _ := ⟨ms, ha, hla⟩
    have o3 : okI _ _ := ⟨ts, hb, hlb⟩
    have o4 : okI _ _ := ⟨bs, hc, hlc⟩
    simp only [d1, d2, d3, d4] at hK
    have hr' := hr
    have ha' := ha
    have hb' := hb
    have hc' := hc
    obtain ⟨b0, v0, rfl, hb0⟩ := hr'
    obtain ⟨b1, v1, rfl, hb1⟩ := ha'
    obtain ⟨b2, v2, rfl, hb2⟩ := hb'
    obtain ⟨b3, v3, rfl, hb3⟩ := hc'
    refine AF_run Sp81_ok D81 [] [.tmp 4] hm Try.func81 rfl (by decide) Try.ntmps81 rfl (by kernel_rfl) (Nat.le_of_ble_eq_true rfl) ?_; intro hlo
    cases ef : faceB r l ms ts bs i
    · have hz : faceFl r l ms ts bs i = 0 := by simp [faceFl, ef]
      repeat' (first | with_reducible refine iteI (fun _ => ?_) (fun _ => ?_) | ((first | unfold AOpsC | unfold AOpsD | skip); simp (maxSteps := 1000000) (disch := (first | omega | assumption | (simp only [List.length_append, List.length_cons, List.length_nil, List.length_set]; omega))) only [go_sem, ↓skipC, ↓exitC, ↓retC, ↓seqC, ↓blockC, ↓condC, ↓regC, ↓drawC, ↓drawStep, ↓AOpC, ↓AOpF, ↓AOpE, ↓AEff, ↓contE_at, ↓contC_at, ↓keepC_at, ↓map_parts, ↓reduceIte, reduceCtorEq, Nat.reduceLT, Nat.reduceEqDiff, Nat.reduceAdd, Nat.reduceMul, Nat.reduceLeDiff, Nat.reduceSub, Nat.reduceBEq, Nat.reduceBNe, Nat.reduceBneDiff, Nat.reduceBeqDiff, ag_28, ag_3, ag_39, by_28, by_3, by_39, el_28, fi_39_1, fi_39_2, in_3, nf_39, pl_39, ps_39, sz_28, sz_3, sz_39, ze_28, ze_3, ze_39, Sp81, SFaceFl, SShare, D81, hb0, hb1, hb2, hb3, d1, d2, d3, d4, o1, o2, o3, o4, hz]))
      exact KI hK (by simp [trR, ef])
    have e0 := ef
    simp only [faceB, Bool.and_eq_true] at e0
    obtain ⟨e1, e3⟩ := e0
    have e3' := inT e3
    obtain ⟨j, rfl⟩ : ∃ j : Nat, i = j := ⟨i.toNat, by omega⟩
    obtain ⟨k1, k2, k3, k4, k5, k6, k7, k8⟩ := okT e1
    have j2 : j + 1 < l.length := by omega
    have m1 := cells_at k7 (i := j) (by omega)
    have m2 := cells_at k7 (i := j + 1) (by omega)
    have fb := flux_bd e1 j2
    have q1 := tdiv_bd (a := ms.getD j 0) (b := 4) (X := 10000000) (by omega) (by omega)
    have q2 := tdiv_bd (a := ms.getD (j + 1) 0) (b := 4) (X := 10000000) (by omega) (by omega)
    have hz : faceFl r l ms ts bs j = fluxI l ms bs j := by rw [faceFl, if_pos ef, Int.toNat_natCast]
    have hres : trR r l ms ts bs j = trI l ms ts bs j := by rw [trR, if_pos ef, Int.toNat_natCast]
    rw [hres] at hK
    have s2 := shareO_bd (ts.getD (j + 1) 0) (-(fluxI l ms bs j)) (ms.getD (j + 1) 0)
    by_cases h1 : 0 < fluxI l ms bs j
    · repeat' (first | with_reducible refine iteI (fun _ => ?_) (fun _ => ?_) | ((first | unfold AOpsC | unfold AOpsD | skip); simp (maxSteps := 1000000) (disch := (first | omega | assumption | (simp only [List.length_append, List.length_cons, List.length_nil, List.length_set]; omega))) only [go_sem, ↓skipC, ↓exitC, ↓retC, ↓seqC, ↓blockC, ↓condC, ↓regC, ↓drawC, ↓drawStep, ↓AOpC, ↓AOpF, ↓AOpE, ↓AEff, ↓contE_at, ↓contC_at, ↓keepC_at, ↓map_parts, ↓reduceIte, reduceCtorEq, Nat.reduceLT, Nat.reduceEqDiff, Nat.reduceAdd, Nat.reduceMul, Nat.reduceLeDiff, Nat.reduceSub, Nat.reduceBEq, Nat.reduceBNe, Nat.reduceBneDiff, Nat.reduceBeqDiff, ag_28, ag_3, ag_39, by_28, by_3, by_39, el_28, fi_39_1, fi_39_2, in_3, nf_39, pl_39, ps_39, sz_28, sz_3, sz_39, ze_28, ze_3, ze_39, Sp81, SFaceFl, SShare, D81, hb0, hb1, hb2, hb3, d1, d2, d3, d4, o1, o2, o3, o4, hz, Int.zero_sub]))
      exact KI hK (by rw [trI, trP, if_pos h1])
    · by_cases h2 : fluxI l ms bs j < 0
      · repeat' (first | with_reducible refine iteI (fun _ => ?_) (fun _ => ?_) | ((first | unfold AOpsC | unfold AOpsD | skip); simp (maxSteps := 1000000) (disch := (first | omega | assumption | (simp only [List.length_append, List.length_cons, List.length_nil, List.length_set]; omega))) only [go_sem, ↓skipC, ↓exitC, ↓retC, ↓seqC, ↓blockC, ↓condC, ↓regC, ↓drawC, ↓drawStep, ↓AOpC, ↓AOpF, ↓AOpE, ↓AEff, ↓contE_at, ↓contC_at, ↓keepC_at, ↓map_parts, ↓reduceIte, reduceCtorEq, Nat.reduceLT, Nat.reduceEqDiff, Nat.reduceAdd, Nat.reduceMul, Nat.reduceLeDiff, Nat.reduceSub, Nat.reduceBEq, Nat.reduceBNe, Nat.reduceBneDiff, Nat.reduceBeqDiff, ag_28, ag_3, ag_39, by_28, by_3, by_39, el_28, fi_39_1, fi_39_2, in_3, nf_39, pl_39, ps_39, sz_28, sz_3, sz_39, ze_28, ze_3, ze_39, Sp81, SFaceFl, SShare, D81, hb0, hb1, hb2, hb3, d1, d2, d3, d4, o1, o2, o3, o4, hz, Int.zero_sub]))
        exact KI hK (by rw [trI, trP, if_neg h1, if_pos h2])
      · repeat' (first | with_reducible refine iteI (fun _ => ?_) (fun _ => ?_) | ((first | unfold AOpsC | unfold AOpsD | skip); simp (maxSteps := 1000000) (disch := (first | omega | assumption | (simp only [List.length_append, List.length_cons, List.length_nil, List.length_set]; omega))) only [go_sem, ↓skipC, ↓exitC, ↓retC, ↓seqC, ↓blockC, ↓condC, ↓regC, ↓drawC, ↓drawStep, ↓AOpC, ↓AOpF, ↓AOpE, ↓AEff, ↓contE_at, ↓contC_at, ↓keepC_at, ↓map_parts, ↓reduceIte, reduceCtorEq, Nat.reduceLT, Nat.reduceEqDiff, Nat.reduceAdd, Nat.reduceMul, Nat.reduceLeDiff, Nat.reduceSub, Nat.reduceBEq, Nat.reduceBNe, Nat.reduceBneDiff, Nat.reduceBeqDiff, ag_28, ag_3, ag_39, by_28, by_3, by_39, el_28, fi_39_1, fi_39_2, in_3, nf_39, pl_39, ps_39, sz_28, sz_3, sz_39, ze_28, ze_3, ze_39, Sp81, SFaceFl, SShare, D81, hb0, hb1, hb2, hb3, d1, d2, d3, d4, o1, o2, o3, o4, hz, Int.zero_sub]))
        exact KI hK (by rw [trI, trP, if_neg h1, if_neg h2])
  · exact h.elim

end Go.Proofs.Ytkkpbjijakamhaa
