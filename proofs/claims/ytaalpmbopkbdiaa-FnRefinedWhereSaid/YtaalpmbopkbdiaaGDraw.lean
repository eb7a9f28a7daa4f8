/- What functions of the program compute, said in the abstract logic; no conditions. -/
import Derived.Test.YtaalpmbopkbdiaaGIn

namespace Go.Proofs.Ytaalpmbopkbdiaa
open Go
set_option linter.unusedSimpArgs false
set_option linter.unusedVariables false
set_option maxRecDepth 100000
set_option maxHeartbeats 8000000
attribute [local go_sem] st0 AC thenA andC locLoadB KsSW_same KsSW_grow oldLoadB noBlkB KsSL_same KsOS_same KsOS_grow pv ev put upd dstOk cv cvc binI setB Value.oneCell' EndA resA resA1 List.mapM_cons List.mapM_nil Option.pure_def Option.bind_eq_bind noLocV noLoc1 noLoc noLocs plainV cellsA newVarA putCells condA lam0 inBlockA cur lenA rowA writeA dstA appendC appendZ mapPut mapGet avoidsB avoidB clearB Array.toList_append Op.operands Call.operands newSlot Nat.zero_add Nat.add_zero Nat.succ_ne_self Nat.lt_add_one Nat.zero_lt_succ true_and and_true true_or or_true false_or or_false and_self true_implies forall_const Bool.false_eq_true Bool.true_eq_false false_implies implies_true imp_self ne_eq not_false_eq_true not_true_eq_false false_and and_false List.getElem?_toArray List.getElem?_cons_succ List.getElem?_cons_zero Option.bind_some Option.map_some Bool.not_true Bool.not_false List.getD_cons_zero List.getD_cons_succ Option.some.injEq exists_eq_left' AV.bool.injEq List.map_cons List.map_nil List.all_cons List.all_nil Bool.and_self Bool.and_true Bool.true_and List.append_nil List.cons_append List.nil_append List.length_cons List.length_nil List.drop_zero List.take_zero List.drop_succ_cons List.take_succ_cons List.take_nil List.drop_nil List.not_mem_nil List.mem_cons List.contains_nil List.contains_cons Bool.or_self Bool.or_true Bool.true_or Bool.false_or Bool.or_false Bool.and_false Bool.false_and KsS_same KsS_grow skipV KsS_ext KsSW_ext KsOS_ext rep1 rep2 rep3 rep4 rep5 List.flatten_cons List.flatten_nil partsA isPtr fillA List.size_toArray ltT ltF leT leF ltTn ltFn leTn leFn eqTi eqFi wrapId toNat1 intGet boolGet memD app_get app_last app_lst app_set app_setL app_setF set_ne set_eq gt_iff_lt ge_iff_le decide_eq_true_eq len2 len3 get20 get21 drop2 put2 get30 get31 get32 drop3 put3 putI pairEta bneTi bneFi beqTi beqFi bne_eq_false_iff_eq beq_eq_false_iff_ne beq_iff_eq bne_iff_ne Int.toNat_natCast Nat.mul_one List.length_map Bool.not_eq_true Bool.not_eq_false Bool.decide_eq_true decide_true decide_false Bool.not_eq_true' Bool.not_eq_false' decide_eq_false_iff_not eq_self Decidable.not_not
attribute [local go_sem ↓] skipC exitC retC seqC blockC condC regC drawC drawStep AOpC AOpF AOpE AEff contE_at contC_at keepC_at keepW_at keepO_at keepL_at map_parts
attribute [local go_sem] reduceCtorEq Nat.reduceLT Nat.reduceEqDiff Nat.reduceAdd Nat.reduceMul Nat.reduceLeDiff Nat.reduceSub Nat.reduceBEq Nat.reduceBNe Nat.reduceBneDiff Nat.reduceBeqDiff
attribute [local go_sem ↓] reduceIte
attribute [local go_sem] ag_105 ag_22 ag_27 ag_3 ag_5 by_105 by_22 by_27 by_3 by_5 el_22 el_27 en_3 en_5 fi_105_0 fi_105_1 fi_105_2 in_3 in_5 nf_105 pl_105 ps_105 sz_105 sz_22 sz_27 sz_3 sz_5 ze_105 ze_22 ze_27 ze_3 ze_5

def curB (v : AV) (i h : Int) : Blk := ⟨0, 105, 3, [v, .int .i64 i, .int .i64 h]⟩
/-- A cursor over bytes: its block, the slice of bytes. -/
def CurAt (lo : Nat) (η : List Blk) (b : Nat) (v : AV) : Prop := lo ≤ b ∧ ∃ l i h, Row8 5 η v l ∧ l.length ≤ maxLen ∧ 0 ≤ i ∧ i ≤ l.length ∧ η[b]? = some (curB v i h)
def SNew (lo : Nat) : List AV → List Blk → (AV → List Blk → Prop) → Prop
  | [v], η, K => ∃ l, Row8 5 η v l ∧ l.length ≤ maxLen ∧ ∀ h, K (.ptr η.length 0 0) (η ++ [curB v 0 h])
  | _, _, _ => False
def SByte (lo : Nat) : List AV → List Blk → (AV → List Blk → Prop) → Prop
  | [.ptr b 0 0], η, K => ∃ v, CurAt lo η b v ∧ ∀ r i h, 0 ≤ r → r ≤ 255 → CurAt lo (η.set b (curB v i h)) b v → K (.int .i64 r) (η.set b (curB v i h))
  | _, _, _ => False
def SBelow (lo : Nat) : List AV → List Blk → (AV → List Blk → Prop) → Prop
  | [.ptr b 0 0, .int .i64 n], η, K => ∃ v, CurAt lo η b v ∧ n ≤ 2147483648 ∧ ∀ r i h, 0 ≤ r → (0 < n → r < n) → (n ≤ 0 → r = 0) → CurAt lo (η.set b (curB v i h)) b v → K (.int .i64 r) (η.set b (curB v i h))
  | _, _, _ => False
def invN (η : List Blk) (l : List Int) (v : AV) (st : St) : Prop := ∃ (i : Nat) (h : Int), i ≤ l.length ∧ st.n = 32 ∧ st.τ 0 = v ∧ st.τ 3 = .int .i64 h ∧ st.τ 4 = .int .i64 i ∧ st.lam = lam0 ∧ st.η = η
theorem and255 (x : Int) : 0 ≤ IntKind.i64.wrap (BitVec.ofInt IntKind.i64.bits x &&& BitVec.ofInt IntKind.i64.bits 255).toNat ∧ IntKind.i64.wrap (BitVec.ofInt IntKind.i64.bits x &&& BitVec.ofInt IntKind.i64.bits 255).toNat ≤ 255 := by
  have h : (BitVec.ofInt IntKind.i64.bits x &&& BitVec.ofInt IntKind.i64.bits 255).toNat ≤ 255 := by
    rw [BitVec.toNat_and]
    exact Nat.le_trans Nat.and_le_right (by decide)
  rw [IntKind.wrap_i64]
  omega
theorem row8get {l : List Int} {i : Nat} (h : i < l.length) : (l.map (AV.int .u8))[i]? = some (.int .u8 (l.getD i 0)) := rowGet _ _ _ h
theorem noLoc8 {η : List Blk} {v : AV} {l : List Int} (h : Row8 5 η v l) : noLoc1 v = true ∧ noLoc v = true := by
  rcases h with ⟨rfl, _⟩ | ⟨b, ver, rfl, _⟩ <;> exact ⟨rfl, rfl⟩

/- spec.l01New -/
theorem f40_ok {lo : Nat} {args : List AV} {η : List Blk} {K : AV → List Blk → Prop} (h : SNew lo args η K) : AF Try.prog lo 40 args η K := by
  unfold SNew at h
  split at h
  · obtain ⟨l, hr, hml, hK⟩ := h
    have hml' : maxLen = 9223372036854775807 := rfl
    refine AF_run noSp_ok D0 [31] [.tmp 2] hm Try.func40 rfl (by decide) Try.ntmps40 rfl (by kernel_rfl) (Nat.le_of_ble_eq_true rfl) ?_; intro hlo
    rcases hr with ⟨rfl, rfl⟩ | ⟨b, ver, rfl, hb⟩
    · repeat' (first | with_reducible refine iteI (fun _ => ?_) (fun _ => ?_) | ((first | unfold AOpsC | unfold AOpsD | skip); simp (maxSteps := 1000000) (disch := (first | omega | assumption | (simp only [List.length_append, List.length_cons, List.length_nil, List.length_set]; omega))) only [go_sem, AOpsD]))
      refine ⟨invN η [] .nils, fun st => ctr 0 st 4, .inl ⟨0, _, Nat.zero_le _, rfl, rfl, rfl, rfl, rfl, rfl⟩, ?_⟩
      rintro ⟨n, τ, lam, η'⟩ ⟨i, hh, g0, hn, t0, t3, t4, hlam, hη⟩; simp only at hn t0 t3 t4 hlam hη; subst hn hlam hη
      obtain rfl : i = 0 := by simpa using g0
      repeat' (first | with_reducible refine iteI (fun _ => ?_) (fun _ => ?_) | ((first | unfold AOpsC | unfold AOpsD | skip); simp (maxSteps := 1000000) (disch := (first | omega | assumption | (simp only [List.length_append, List.length_cons, List.length_nil, List.length_set]; omega))) only [go_sem, AOpsD, t0, t3, t4]))
      exact hK _
    · repeat' (first | with_reducible refine iteI (fun _ => ?_) (fun _ => ?_) | ((first | unfold AOpsC | unfold AOpsD | skip); simp (maxSteps := 1000000) (disch := (first | omega | assumption | (simp only [List.length_append, List.length_cons, List.length_nil, List.length_set]; omega))) only [go_sem, AOpsD, hb]))
      refine ⟨invN η l (.sl b ver 0 l.length), fun st => ctr l.length st 4, .inl ⟨0, _, Nat.zero_le _, rfl, rfl, rfl, rfl, rfl, rfl⟩, ?_⟩
      rintro ⟨n, τ, lam, η'⟩ ⟨i, hh, g0, hn, t0, t3, t4, hlam, hη⟩; simp only at hn t0 t3 t4 hlam hη; subst hn hlam hη
      by_cases hlt : i < l.length
      · by_cases h4 : i < 4000
        · repeat' (first | with_reducible refine iteI (fun _ => ?_) (fun _ => ?_) | ((first | unfold AOpsC | unfold AOpsD | skip); simp (maxSteps := 1000000) (disch := (first | omega | assumption | (simp only [List.length_append, List.length_cons, List.length_nil, List.length_set]; omega))) only [go_sem, AOpsD, hb, t0, t3, t4, row8get]))
          exact ⟨⟨i + 1, _, hlt, rfl, by simp [upd, t0], by simp [upd]; rfl, by simp [upd], rfl, rfl⟩, by simp [ctr, upd, t4]; omega⟩
        · repeat' (first | with_reducible refine iteI (fun _ => ?_) (fun _ => ?_) | ((first | unfold AOpsC | unfold AOpsD | skip); simp (maxSteps := 1000000) (disch := (first | omega | assumption | (simp only [List.length_append, List.length_cons, List.length_nil, List.length_set]; omega))) only [go_sem, AOpsD, hb, t0, t3, t4, row8get]))
          exact hK _
      · repeat' (first | with_reducible refine iteI (fun _ => ?_) (fun _ => ?_) | ((first | unfold AOpsC | unfold AOpsD | skip); simp (maxSteps := 1000000) (disch := (first | omega | assumption | (simp only [List.length_append, List.length_cons, List.length_nil, List.length_set]; omega))) only [go_sem, AOpsD, hb, t0, t3, t4, row8get]))
        exact hK _
  · exact h.elim

/- spec.l01Byte -/
def Dr85 : Draws := fun id => match id with | 2 => ([0, 1, 3, 7, 15, 0, 32, 96, 224, 480, 1023, 2047, 4095], [], [], (.one 0 (.one 1 (.one 2 (.one 3 (.one 4 (.one 5 (.one 6 (.one 7 (.one 8 (.one 9 (.one 10 (.one 11 (.one 12 .nil)))))))))))))) | 3 => ([0, 1, 3, 7, 0, 16, 48, 112, 240, 511], [], [], (.one 0 (.one 1 (.one 2 (.one 3 (.one 4 (.one 5 (.one 6 (.one 7 (.one 8 (.one 9 .nil))))))))))) | 4 => ([0, 0, 2, 6, 14, 0, 32, 96, 224, 510, 1022, 2046, 4095, 8191, 16383], [], [], (.one 0 (.one 1 (.one 2 (.one 3 (.one 4 (.one 5 (.one 6 (.one 7 (.one 8 (.one 9 (.one 10 (.one 11 (.one 12 (.one 13 (.one 14 .nil)))))))))))))))) | _ => ([], [], [], .nil)
theorem f85_ok {lo : Nat} {args : List AV} {η : List Blk} {K : AV → List Blk → Prop} (h : SByte lo args η K) : AF Try.prog lo 85 args η K := by
  unfold SByte at h
  split at h
  · obtain ⟨v, ⟨hlb, l, i, hh, hr, hml, h0, hi, hb⟩, hK⟩ := h
    rename_i b
    have hml' : maxLen = 9223372036854775807 := rfl
    have hbl := blt hb
    have hne : ∀ c ver, η[c]? = some ⟨ver, 5, 1, l.map (.int .u8)⟩ → ¬ b = c := by
      rintro c ver hc rfl
      rw [hb] at hc
      simp [curB] at hc
    have done : ∀ r (i' : Nat) h', 0 ≤ r ∧ r ≤ 255 → i' ≤ l.length → K (.int .i64 r) (η.set b (curB v i' h')) := fun r i' h' hr2 h2 =>
      hK r i' h' hr2.1 hr2.2 ⟨hlb, l, i', h', by
        rcases hr with h | ⟨c, ver, rfl, hc⟩
        · exact .inl h
        · exact .inr ⟨c, ver, rfl, by rw [set_ne (hne c ver hc)]; exact hc⟩, hml, by omega, h2, set_eq hbl⟩
    unfold curB at hb
    refine AF_run noSp_ok Dr85 [] [.tmp 2] hm Try.func85 rfl (by decide) Try.ntmps85 rfl (by kernel_rfl) (Nat.le_of_ble_eq_true rfl) ?_; intro hlo
    rcases hr with ⟨rfl, rfl⟩ | ⟨c, ver, rfl, hc⟩
    · repeat' (first | with_reducible refine iteI (fun _ => ?_) (fun _ => ?_) | ((first | unfold AOpsC | unfold AOpsD | skip); simp (maxSteps := 1000000) (disch := (first | omega | assumption | (simp only [List.length_append, List.length_cons, List.length_nil, List.length_set]; omega))) only [go_sem, Dr85, hb, List.set_set]))
      exact done _ _ _ (and255 _) hi
    · have hbc := hne c ver hc
      repeat' (first | with_reducible refine iteI (fun _ => ?_) (fun _ => ?_) | ((first | unfold AOpsC | unfold AOpsD | skip); simp (maxSteps := 1000000) (disch := (first | omega | assumption | (simp only [List.length_append, List.length_cons, List.length_nil, List.length_set]; omega))) only [go_sem, Dr85, hb, hc, row8get, List.set_set]))
      · exact done _ (i + 1) _ (and255 _) (by omega)
      · exact done _ i _ (and255 _) hi
  · exact h.elim

/- spec.l01Below -/
def Sp41 (lo : Nat) : Spec := fun g args η K => match g with | 85 => SByte lo args η K | _ => False
theorem Sp41_ok {lo : Nat} : Sound Try.prog lo (Sp41 lo) := by
  intro g args η K h
  unfold Sp41 at h
  split at h
  · exact .inl (f85_ok h)
  · exact h.elim
theorem f41_ok {lo : Nat} {args : List AV} {η : List Blk} {K : AV → List Blk → Prop} (h : SBelow lo args η K) : AF Try.prog lo 41 args η K := by
  unfold SBelow at h
  split at h
  · obtain ⟨v, hc, hn, hK⟩ := h
    rename_i b n
    have hc0 := hc
    obtain ⟨hlb, l, i, hh, hr, hml, h0, hi, hb⟩ := hc0
    have hbl := blt hb
    have hsame : η.set b (curB v i hh) = η := by
      apply List.ext_getElem? 
      intro j
      by_cases hj : b = j
      · subst hj; rw [set_eq hbl, hb]
      · rw [set_ne hj]
    refine AF_run Sp41_ok D0 [] [.tmp 4] hm Try.func41 rfl (by decide) Try.ntmps41 rfl (by kernel_rfl) (Nat.le_of_ble_eq_true rfl) ?_; intro hlo
    repeat' (first | with_reducible refine iteI (fun _ => ?_) (fun _ => ?_) | ((first | unfold AOpsC | unfold AOpsD | skip); simp (maxSteps := 1000000) (disch := (first | omega | assumption | (simp only [List.length_append, List.length_cons, List.length_nil, List.length_set]; omega))) only [go_sem, Sp41, SByte]))
    · have := hK 0 i hh (by omega) (by omega) (by omega) (by rw [hsame]; exact hc)
      rw [hsame] at this
      exact this
    · refine ⟨v, hc, fun r i1 h1 hr0 hr1 hc1 => ?_⟩
      repeat' (first | with_reducible refine iteI (fun _ => ?_) (fun _ => ?_) | ((first | unfold AOpsC | unfold AOpsD | skip); simp (maxSteps := 1000000) (disch := (first | omega | assumption | (simp only [List.length_append, List.length_cons, List.length_nil, List.length_set]; omega))) only [go_sem, Sp41, SByte]))
      exact hK _ _ _ (Int.tmod_nonneg _ hr0) (fun hp => Int.tmod_lt_of_pos _ hp) (fun hp => by omega) hc1
    · refine ⟨v, hc, fun r1 i1 h1 ha1 hb1 hc1 => ?_⟩
      refine ⟨v, hc1, fun r2 i2 h2 ha2 hb2 hc2 => ?_⟩
      refine ⟨v, hc2, fun r3 i3 h3 ha3 hb3 hc3 => ?_⟩
      refine ⟨v, hc3, fun r4 i4 h4 ha4 hb4 hc4 => ?_⟩
      repeat' (first | with_reducible refine iteI (fun _ => ?_) (fun _ => ?_) | ((first | unfold AOpsC | unfold AOpsD | skip); simp (maxSteps := 1000000) (disch := (first | omega | assumption | (simp only [List.length_append, List.length_cons, List.length_nil, List.length_set]; omega))) only [go_sem, Sp41, SByte]))
      simp only [List.set_set] at hc4 ⊢
      exact hK _ _ _ (Int.tmod_nonneg _ (by omega)) (fun hp => Int.tmod_lt_of_pos _ hp) (fun hp => by omega) hc4
  · exact h.elim

def SPlaces (lo : Nat) : List AV → List Blk → (AV → List Blk → Prop) → Prop
  | [v], η, K => ∃ l, Row8 5 η v l ∧ l.length ≤ maxLen ∧ ∀ v' H (ps : List Int), ps.length = 12 → (∀ x ∈ ps, 0 ≤ x ∧ x < 10000) → IsI H v' ps → Ext η H → K v' H
  | _, _, _ => False
def invP (lo : Nat) (η : List Blk) (v : AV) (st : St) : Prop := ∃ (ps : List Int) (H : List Blk) (ver : Nat), ps.length ≤ 12 ∧ (∀ x ∈ ps, 0 ≤ x ∧ x < 10000) ∧ CurAt lo H η.length v ∧ H[η.length + 1]? = some ⟨ver, 3, 1, ps.map (.int .i64)⟩ ∧ Ext η H ∧
  st.n = 19 ∧ st.τ 3 = .ptr η.length 0 0 ∧ st.τ 4 = .sl (η.length + 1) ver 0 ps.length ∧ st.τ 5 = .int .i64 ps.length ∧ st.lam = lam0 ∧ st.η = H

/- spec.DrawPlaces -/
def Sp10 (lo : Nat) : Spec := fun g args η K => match g with | 40 => SNew lo args η K | 41 => SBelow lo args η K | _ => False
theorem Sp10_ok {lo : Nat} : Sound Try.prog lo (Sp10 lo) := by
  intro g args η K h
  unfold Sp10 at h
  split at h
  · exact .inl (f40_ok h)
  · exact .inl (f41_ok h)
  · exact h.elim
theorem f10_ok {lo : Nat} {args : List AV} {η : List Blk} {K : AV → List Blk → Prop} (h : SPlaces lo args η K) : AF Try.prog lo 10 args η K := by
  unfold SPlaces at h
  split at h
  · obtain ⟨l, hr, hml, hK⟩ := h
    rename_i v
    have hn := (noLoc8 hr).1
    refine AF_run Sp10_ok D0 [] [.tmp 2] hm Try.func10 rfl (by decide) Try.ntmps10 rfl (by kernel_rfl) (Nat.le_of_ble_eq_true rfl) ?_; intro hlo
    repeat' (first | with_reducible refine iteI (fun _ => ?_) (fun _ => ?_) | ((first | unfold AOpsC | unfold AOpsD | skip); simp (maxSteps := 1000000) (disch := (first | omega | assumption | (simp only [List.length_append, List.length_cons, List.length_nil, List.length_set]; omega))) only [go_sem, Sp10, SNew, SBelow, ↓hn]))
    refine ⟨l, hr, hml, fun h0 => ?_⟩
    repeat' (first | with_reducible refine iteI (fun _ => ?_) (fun _ => ?_) | ((first | unfold AOpsC | unfold AOpsD | skip); simp (maxSteps := 1000000) (disch := (first | omega | assumption | (simp only [List.length_append, List.length_cons, List.length_nil, List.length_set]; omega))) only [go_sem, Sp10, SNew, SBelow]))
    refine ⟨invP lo η v, fun st => ctr 12 st 5, .inr ⟨4, 3, 1, Nat.le_of_ble_eq_true rfl, rfl, [], _, 0, by simp, by simp, ?_, ?_, ?_, rfl, rfl, ?_, rfl, rfl, rfl⟩, ?_⟩
    · refine ⟨hlo, l, 0, h0, (hr.app _).app _, hml, by omega, by omega, ?_⟩
      simp [RecE]
    · simp [RecE]
    · exact ((Ext.refl η).app _).app _
    · simp [RecE, upd]
    · rintro ⟨n, τ, lam, H'⟩ ⟨ps, H, ver, g0, g1, g2, g3, g4, hn, t3, t4, t5, hlam, hη⟩; simp only at hn t3 t4 t5 hlam hη; subst hn hlam hη
      have hHl := blt g3
      by_cases hlt : ps.length < 12
      · repeat' (first | with_reducible refine iteI (fun _ => ?_) (fun _ => ?_) | ((first | unfold AOpsC | unfold AOpsD | skip); simp (maxSteps := 1000000) (disch := (first | omega | assumption | (simp only [List.length_append, List.length_cons, List.length_nil, List.length_set]; omega))) only [go_sem, Sp10, SNew, SBelow, t3, t4, t5, g3, takeMap]))
        refine ⟨v, g2, fun r i1 h1 hr0 hr1 hc1 => ?_⟩
        repeat' (first | with_reducible refine iteI (fun _ => ?_) (fun _ => ?_) | ((first | unfold AOpsC | unfold AOpsD | skip); simp (maxSteps := 1000000) (disch := (first | omega | assumption | (simp only [List.length_append, List.length_cons, List.length_nil, List.length_set]; omega))) only [go_sem, Sp10, SNew, SBelow, t3, t4, t5, g3, takeMap]))
        refine ⟨⟨ps ++ [r], _, ver + 1, by simp; omega, ?_, ?_, ?_, ?_, rfl, by simp [upd, t3], by simp [upd], by simp [upd], rfl, rfl⟩, by simp [ctr, upd, t5]; omega⟩
        · intro x hx
          rcases List.mem_append.1 hx with hx | hx
          · exact g1 x hx
          · obtain rfl : x = r := by simpa using hx
            exact ⟨hr0, hr1⟩
        · obtain ⟨hlb, l2, i2, h2, hr2, hml2, h02, hi2, hb2⟩ := hc1
          refine ⟨hlb, l2, i2, h2, ?_, hml2, h02, hi2, ?_⟩
          · rcases hr with ⟨rfl, rfl⟩ | ⟨c, wer, rfl, hc⟩
            · rcases hr2 with hr2 | ⟨c, wer, hcc, _⟩
              · exact .inl hr2
              · cases hcc
            · have hcl := blt hc
              rcases hr2 with ⟨hr2, _⟩ | ⟨c2, wer2, hcc, hc2⟩
              · cases hr2
              · injection hcc with e1 e2 e3 e4
                subst e1 e2
                refine .inr ⟨c, wer, by rw [e4], ?_⟩
                dsimp only
                rw [app_get (by simp; omega), set_ne (by omega)]
                exact hc2
          · dsimp only
            rw [app_get (by simp; omega), set_ne (by omega)]
            exact hb2
        · dsimp only
          rw [app_get (by simp; omega), set_eq (by simp; omega)]
          simp
        · exact ((g4.set (Nat.le_refl _) _).set (by omega) _).app _
      · repeat' (first | with_reducible refine iteI (fun _ => ?_) (fun _ => ?_) | ((first | unfold AOpsC | unfold AOpsD | skip); simp (maxSteps := 1000000) (disch := (first | omega | assumption | (simp only [List.length_append, List.length_cons, List.length_nil, List.length_set]; omega))) only [go_sem, Sp10, SNew, SBelow, t3, t4, t5, g3, takeMap]))
        exact hK _ _ ps (by omega) g1 ⟨_, _, rfl, g3⟩ g4
  · exact h.elim

end Go.Proofs.Ytaalpmbopkbdiaa
