/- What functions of the program compute, said in the abstract logic; no conditions. -/
import Derived.Test.YtaalpmbopkbdiaaGreatGIn

namespace Go.Proofs.YtaalpmbopkbdiaaGreat
open Go
set_option linter.unusedSimpArgs false
set_option linter.unusedVariables false
set_option maxRecDepth 100000
set_option maxHeartbeats 8000000
attribute [local go_sem] st0 AC thenA andC locLoadB KsSW_same KsSW_grow oldLoadB noBlkB KsSL_same KsOS_same KsOS_grow pv ev put upd dstOk cv cvc binI setB Value.oneCell' EndA resA resA1 List.mapM_cons List.mapM_nil Option.pure_def Option.bind_eq_bind noLocV noLoc1 noLoc noLocs plainV cellsA newVarA putCells condA lam0 inBlockA cur lenA rowA writeA dstA appendC appendZ mapPut mapGet avoidsB avoidB clearB Array.toList_append Op.operands Call.operands newSlot Nat.zero_add Nat.add_zero Nat.succ_ne_self Nat.lt_add_one Nat.zero_lt_succ true_and and_true true_or or_true false_or or_false and_self true_implies forall_const Bool.false_eq_true Bool.true_eq_false false_implies implies_true imp_self ne_eq not_false_eq_true not_true_eq_false false_and and_false List.getElem?_toArray List.getElem?_cons_succ List.getElem?_cons_zero Option.bind_some Option.map_some Bool.not_true Bool.not_false List.getD_cons_zero List.getD_cons_succ Option.some.injEq exists_eq_left' AV.bool.injEq List.map_cons List.map_nil List.all_cons List.all_nil Bool.and_self Bool.and_true Bool.true_and List.append_nil List.cons_append List.nil_append List.length_cons List.length_nil List.drop_zero List.take_zero List.drop_succ_cons List.take_succ_cons List.take_nil List.drop_nil List.not_mem_nil List.mem_cons List.contains_nil List.contains_cons Bool.or_self Bool.or_true Bool.true_or Bool.false_or Bool.or_false Bool.and_false Bool.false_and KsS_same KsS_grow skipV KsS_ext KsSW_ext KsOS_ext rep1 rep2 rep3 rep4 rep5 List.flatten_cons List.flatten_nil partsA isPtr fillA List.size_toArray ltT ltF leT leF ltTn ltFn leTn leFn eqTi eqFi wrapId toNat1 intGet boolGet memD app_get app_last app_lst app_set app_setL app_setF set_ne set_eq gt_iff_lt ge_iff_le decide_eq_true_eq len2 len3 get20 get21 drop2 put2 get30 get31 get32 drop3 put3 putI pairEta bneTi bneFi beqTi beqFi bne_eq_false_iff_eq beq_eq_false_iff_ne beq_iff_eq bne_iff_ne Int.toNat_natCast Nat.mul_one List.length_map Bool.not_eq_true Bool.not_eq_false Bool.decide_eq_true decide_true decide_false Bool.not_eq_true' Bool.not_eq_false' decide_eq_false_iff_not eq_self Decidable.not_not
attribute [local go_sem ↓] skipC exitC retC seqC blockC condC regC drawC drawStep AOpC AOpF AOpE AEff contE_at contC_at keepC_at keepW_at keepO_at keepL_at map_parts
attribute [local go_sem] reduceCtorEq Nat.reduceLT Nat.reduceEqDiff Nat.reduceAdd Nat.reduceMul Nat.reduceLeDiff Nat.reduceSub Nat.reduceBEq Nat.reduceBNe Nat.reduceBneDiff Nat.reduceBeqDiff
attribute [local go_sem ↓] reduceIte
attribute [local go_sem] ag_25 ag_3 by_25 by_3 el_25 en_3 in_3 sz_25 sz_3 ze_25 ze_3

def SToInt : List AV → List Blk → (AV → List Blk → Prop) → Prop
  | [v], η, K => ∃ l : List Int, RowI η v l ∧ l.length ≤ 1048576 ∧ K (.sl η.length 0 0 l.length) (η ++ [⟨0, 3, 1, l.map (.int .i64)⟩])
  | _, _, _ => False
theorem old_get {η : List Blk} {b : Nat} {x : Blk} (h : η[b]? = some x) (l : List Blk) : (η ++ l)[b]? = some x := by
  rw [List.getElem?_append_left (List.getElem?_eq_some_iff.1 h).1]; exact h
theorem last_get (η : List Blk) (x : Blk) : (η ++ [x])[η.length]? = some x := by simp
theorem last_set (η : List Blk) (x y : Blk) : (η ++ [x]).set η.length y = η ++ [y] := by simp
/-- Copied so far. -/
def partA (l : List Int) (i : Nat) : List AV := (l.take i ++ List.replicate (l.length - i) 0).map (.int .i64)
theorem partA_len (l : List Int) (i : Nat) (h : i ≤ l.length) : (partA l i).length = l.length := by simp [partA]; omega
theorem partA_0 (l : List Int) : partA l 0 = (List.replicate l.length [AV.int .i64 0]).flatten := by simp [partA]
theorem partA_end (l : List Int) : partA l l.length = l.map (.int .i64) := by simp [partA]
theorem partA_put (l : List Int) (i : Nat) (h : i < l.length) : (partA l i).take i ++ [AV.int .i64 (l[i])] ++ (partA l i).drop (i + 1) = partA l (i + 1) := by
  have h1 : l.take (i + 1) = l.take i ++ [l[i]] := by rw [List.take_add_one]; simp [h]
  have h2 : l.length - i = (l.length - (i + 1)) + 1 := by omega
  unfold partA
  rw [h1, h2, List.replicate_succ]
  simp only [List.map_append, List.map_cons, List.map_nil]
  have e : ((l.take i).map (AV.int .i64)).length = i := by simp; omega
  rw [List.take_append_of_le_length (by omega), List.take_of_length_le (by omega), List.drop_append, List.drop_of_length_le (by omega), e, Nat.add_sub_cancel_left]
  simp
def invT (η : List Blk) (l : List Int) (v : AV) (st : St) : Prop := ∃ i : Nat, i ≤ l.length ∧ st.n = 22 ∧ st.τ 0 = v ∧ st.τ 3 = .sl η.length 0 0 l.length ∧ st.τ 4 = .int .i64 i ∧ st.lam = lam0 ∧ st.η = η ++ [⟨0, 3, 1, partA l i⟩]

/- laws.toIntS -/
theorem f37_ok {lo : Nat} {args : List AV} {η : List Blk} {K : AV → List Blk → Prop} (h : SToInt args η K) : AF Tryz.prog lo 37 args η K := by
  unfold SToInt at h
  split at h
  · obtain ⟨l, hr, hl, hK⟩ := h
    rename_i v _ _
    refine AF_run noSp_ok D0 [] [.tmp 2] hm Tryz.func37 rfl (by decide) Tryz.ntmps37 rfl (by kernel_rfl) (Nat.le_of_ble_eq_true rfl) ?_; intro hlo
    rcases hr with ⟨rfl, rfl⟩ | ⟨b, ver, rfl, hb⟩
    · (simp (maxSteps := 4000000) only [go_sem, AOpsD]; iterate 40 ((try unfold AOpsC); (try unfold AOpsD); try simp only [go_sem, AOpsD]))
      refine ⟨by simp, invT η [] .nils, fun st => ctr 0 st 4, .inl ⟨0, Nat.zero_le _, ?_⟩, ?_⟩
      · simp only [go_sem, AOpsC, AOpsD]
        simp [partA]
      · rintro ⟨n, τ, lam, η'⟩ ⟨i, hi, hn, h0, h3, h4, hlam, hη⟩
        simp only at hn h0 h3 h4 hlam hη
        obtain rfl : i = 0 := by simpa using hi
        subst hn hlam hη
        have hd : (((0 : Nat) : Int) < 0) = False := eq_false (by omega)
        simp only [go_sem, AOpsC, AOpsD, h0, h3, h4, hd, decide_false, partA_end]
        exact hK
    · simp only [go_sem, AOpsC, AOpsD, hb]
      refine ⟨by simp; omega, ?_⟩
      refine ⟨invT η l (.sl b ver 0 l.length), fun st => ctr l.length st 4, .inl ⟨0, Nat.zero_le _, ?_⟩, ?_⟩
      · simp only [go_sem, AOpsC, AOpsD]
        simp [partA_0]
      · rintro ⟨n, τ, lam, η'⟩ ⟨i, hi, hn, h0, h3, h4, hlam, hη⟩
        simp only at hn h0 h3 h4 hlam hη
        subst hn hlam hη
        have ho := old_get hb
        have hn0 : (0 ≤ (i : Int)) = True := eq_true (by omega)
        by_cases hlt : i < l.length
        · have hd : ((i : Int) < (l.length : Int)) = True := eq_true (by omega)
          have hle : (i + 1 ≤ l.length) = True := eq_true (by omega)
          have hx : l[i]? = some l[i] := List.getElem?_eq_getElem hlt
          have hpl : (partA l i).length = l.length := partA_len l i hi
          simp only [go_sem, AOpsD, h0, h3, h4, ho, last_get, last_set, hn0, hd, hle, hx, hpl, hlo, Int.toNat_natCast, Nat.mul_one, List.getElem?_map, List.length_map, decide_true]
          iterate 20 ((try unfold AOpsC); try simp only [go_sem, AOpsD, h0, h3, h4, ho, last_get, last_set, hn0, hd, hle, hx, hpl, hlo, Int.toNat_natCast, Nat.mul_one, List.getElem?_map, List.length_map, decide_true])
          have hw : IntKind.i64.wrap ((i : Int) + 1) = ((i + 1 : Nat) : Int) := by rw [IntKind.wrap_i64]; omega
          rw [partA_put l i hlt, hw]
          refine ⟨⟨i + 1, hlt, rfl, ?_, ?_, ?_, rfl, rfl⟩, ?_⟩
          · simp [upd, h0]
          · simp [upd, h3]
          · simp [upd]
          · simp [ctr, upd, h4]; omega
        · have hd : ((i : Int) < (l.length : Int)) = False := eq_false (by omega)
          obtain rfl : i = l.length := by omega
          simp only [go_sem, AOpsC, AOpsD, h0, h3, h4, ho, last_get, hd, decide_false, partA_end]
          exact hK
  · exact h.elim

def SEqI : List AV → List Blk → (AV → List Blk → Prop) → Prop
  | [v, u], η, K => ∃ l m : List Int, RowI η v l ∧ RowI η u m ∧ l.length ≤ 1048576 ∧ K (.bool (decide (l = m))) η
  | _, _, _ => False
def invE (η : List Blk) (l m : List Int) (v u : AV) (st : St) : Prop := ∃ i : Nat, i ≤ l.length ∧ l.take i = m.take i ∧ st.n = 26 ∧ st.τ 0 = v ∧ st.τ 1 = u ∧ st.τ 5 = .int .i64 i ∧ st.lam = lam0 ∧ st.η = η

/- laws.eqIntS -/
def Dr46 : Draws := fun id => match id with | 6 => ([0, 0, 3, 7, 0, 0, 48, 112, 255], [], [], (.one 0 (.one 1 (.one 2 (.one 3 (.one 4 (.one 5 (.one 6 (.one 7 (.one 8 .nil)))))))))) | _ => ([], [], [], .nil)
theorem f46_ok {lo : Nat} {args : List AV} {η : List Blk} {K : AV → List Blk → Prop} (h : SEqI args η K) : AF Tryz.prog lo 46 args η K := by
  unfold SEqI at h
  split at h
  · obtain ⟨l, m, hr, hs, hl, hK⟩ := h
    refine AF_run noSp_ok Dr46 [] [.tmp 4] hm Tryz.func46 rfl (by decide) Tryz.ntmps46 rfl (by kernel_rfl) (Nat.le_of_ble_eq_true rfl) ?_; intro hlo
    rcases hr with ⟨rfl, rfl⟩ | ⟨b, ver, rfl, hb⟩ <;> rcases hs with ⟨rfl, rfl⟩ | ⟨c, wer, rfl, hc⟩
    · have hq : ((0 : Int) != (0 : Int)) = false := by decide
      simp only [go_sem, Dr46, hq]
      iterate 12 ((try unfold AOpsC); try simp only [go_sem, Dr46, hq])
      refine ⟨invE η [] [] .nils .nils, fun st => ctr 0 st 5, .inl ⟨0, Nat.zero_le _, rfl, rfl, ?_⟩, ?_⟩
      · simp [upd]
      · rintro ⟨n, τ, lam, η'⟩ ⟨i, hi, ht, hn, h0, h1, h5, hlam, hη⟩
        simp only at hn h0 h1 h5 hlam hη
        obtain rfl : i = 0 := by simpa using hi
        subst hn hlam hη
        have hd : (((0 : Nat) : Int) < 0) = False := eq_false (by omega)
        simp only [go_sem, Dr46, h0, h1, h5, hd, decide_false]
        iterate 12 ((try unfold AOpsC); try simp only [go_sem, Dr46, h0, h1, h5, hd, decide_false])
        simpa using hK
    · by_cases hm : m = []
      · subst hm
        have hq : ((0 : Int) != (([] : List Int).length : Int)) = false := by decide
        simp only [go_sem, Dr46, hc, hq]
        iterate 12 ((try unfold AOpsC); try simp only [go_sem, Dr46, hc, hq])
        refine ⟨invE η [] [] .nils (.sl c wer 0 ([] : List Int).length), fun st => ctr 0 st 5, .inl ⟨0, Nat.zero_le _, rfl, rfl, ?_⟩, ?_⟩
        · simp [upd]
        · rintro ⟨n, τ, lam, η'⟩ ⟨i, hi, ht, hn, h0, h1, h5, hlam, hη⟩
          simp only at hn h0 h1 h5 hlam hη
          obtain rfl : i = 0 := by simpa using hi
          subst hn hlam hη
          have hd : (((0 : Nat) : Int) < 0) = False := eq_false (by omega)
          simp only [go_sem, Dr46, h0, h1, h5, hd, decide_false]
          iterate 12 ((try unfold AOpsC); try simp only [go_sem, Dr46, h0, h1, h5, hd, decide_false])
          simpa using hK
      · have hq : ((0 : Int) != (m.length : Int)) = true := by cases m <;> simp_all <;> omega
        simp only [go_sem, Dr46, hc, hq]
        iterate 12 ((try unfold AOpsC); try simp only [go_sem, Dr46, hc, hq])
        have hm' : ¬ [] = m := fun e => hm e.symm
        simpa [hm'] using hK
    · by_cases hm : l = []
      · subst hm
        have hq : ((([] : List Int).length : Int) != (0 : Int)) = false := by decide
        simp only [go_sem, Dr46, hb, hq]
        iterate 12 ((try unfold AOpsC); try simp only [go_sem, Dr46, hb, hq])
        refine ⟨invE η [] [] (.sl b ver 0 ([] : List Int).length) .nils, fun st => ctr 0 st 5, .inl ⟨0, Nat.zero_le _, rfl, rfl, ?_⟩, ?_⟩
        · simp [upd]
        · rintro ⟨n, τ, lam, η'⟩ ⟨i, hi, ht, hn, h0, h1, h5, hlam, hη⟩
          simp only at hn h0 h1 h5 hlam hη
          obtain rfl : i = 0 := by simpa using hi
          subst hn hlam hη
          have hd : (((0 : Nat) : Int) < (([] : List Int).length : Int)) = False := eq_false (by simp)
          have hd2 : (((0 : Nat) : Int) < ((0 : Nat) : Int)) = False := eq_false (by omega)
          simp only [go_sem, Dr46, hb, h0, h1, h5, hd, hd2, decide_false]
          iterate 12 ((try unfold AOpsC); try simp only [go_sem, Dr46, hb, h0, h1, h5, hd, hd2, decide_false])
          simpa using hK
      · have hq : ((l.length : Int) != (0 : Int)) = true := by cases l <;> simp_all <;> omega
        simp only [go_sem, Dr46, hb, hq]
        iterate 12 ((try unfold AOpsC); try simp only [go_sem, Dr46, hb, hq])
        simpa [hm] using hK
    · by_cases hlen : l.length = m.length
      · have hq : ((l.length : Int) != (m.length : Int)) = false := by simp [hlen]
        simp only [go_sem, Dr46, hb, hc, hq]
        iterate 12 ((try unfold AOpsC); try simp only [go_sem, Dr46, hb, hc, hq])
        refine ⟨invE η l m (.sl b ver 0 l.length) (.sl c wer 0 m.length), fun st => ctr l.length st 5, .inl ⟨0, Nat.zero_le _, rfl, rfl, ?_⟩, ?_⟩
        · simp [upd]
        · rintro ⟨n, τ, lam, η'⟩ ⟨i, hi, ht, hn, h0, h1, h5, hlam, hη⟩
          simp only at hn h0 h1 h5 hlam hη
          subst hn hlam hη
          have hn0 : (0 ≤ (i : Int)) = True := eq_true (by omega)
          by_cases hlt : i < l.length
          · have hd : ((i : Int) < (l.length : Int)) = True := eq_true (by omega)
            have hd2 : ((i : Int) < (m.length : Int)) = True := eq_true (by omega)
            have hle : (i + 1 ≤ l.length) = True := eq_true (by omega)
            have hle2 : (i + 1 ≤ m.length) = True := eq_true (by omega)
            have hx : l[i]? = some l[i] := List.getElem?_eq_getElem hlt
            have hlt2 : i < m.length := by omega
            have hy : m[i]? = some m[i] := List.getElem?_eq_getElem hlt2
            by_cases hxy : l[i] = m[i]
            · have hne : (l[i] != m[i]) = false := by simp [hxy]
              simp only [go_sem, Dr46, hb, hc, h0, h1, h5, hn0, hd, hd2, hle, hle2, hx, hy, Int.toNat_natCast, Nat.mul_one, List.getElem?_map, List.length_map, decide_true, hne]
              iterate 28 ((try unfold AOpsC); (try unfold AOpsD); try simp only [go_sem, Dr46, hb, hc, h0, h1, h5, hn0, hd, hd2, hle, hle2, hx, hy, Int.toNat_natCast, Nat.mul_one, List.getElem?_map, List.length_map, decide_true, hne])
              have hw : IntKind.i64.wrap ((i : Int) + 1) = ((i + 1 : Nat) : Int) := by rw [IntKind.wrap_i64]; omega
              rw [hw]
              refine ⟨⟨i + 1, hlt, by rw [List.take_add_one, List.take_add_one, ht, hx, hy, hxy], rfl, ?_, ?_, ?_, rfl, rfl⟩, ?_⟩
              · simp [upd, h0]
              · simp [upd, h1]
              · simp [upd]
              · simp [ctr, upd, h5]; omega
            · have hne : (l[i] != m[i]) = true := by simp [hxy]
              simp only [go_sem, Dr46, hb, hc, h0, h1, h5, hn0, hd, hd2, hle, hle2, hx, hy, Int.toNat_natCast, Nat.mul_one, List.getElem?_map, List.length_map, decide_true, hne]
              iterate 28 ((try unfold AOpsC); (try unfold AOpsD); try simp only [go_sem, Dr46, hb, hc, h0, h1, h5, hn0, hd, hd2, hle, hle2, hx, hy, Int.toNat_natCast, Nat.mul_one, List.getElem?_map, List.length_map, decide_true, hne])
              have hlm : l ≠ m := fun e => hxy (by subst e; rfl)
              simpa [hlm] using hK
          · have hd : ((i : Int) < (l.length : Int)) = False := eq_false (by omega)
            simp only [go_sem, Dr46, hb, hc, h0, h1, h5, hd, decide_false]
            iterate 12 ((try unfold AOpsC); try simp only [go_sem, Dr46, hb, hc, h0, h1, h5, hd, decide_false])
            have hlm : l = m := by
              have hi2 : i = l.length := by omega
              rw [hi2, List.take_of_length_le (Nat.le_refl _), List.take_of_length_le (by omega)] at ht
              exact ht
            simpa [hlm] using hK
      · have hq : ((l.length : Int) != (m.length : Int)) = true := by simp; omega
        have hlm : l ≠ m := fun e => hlen (by rw [e])
        simp only [go_sem, Dr46, hb, hc, hq]
        iterate 12 ((try unfold AOpsC); try simp only [go_sem, Dr46, hb, hc, hq])
        simpa [hlm] using hK
  · exact h.elim

end Go.Proofs.YtaalpmbopkbdiaaGreat
