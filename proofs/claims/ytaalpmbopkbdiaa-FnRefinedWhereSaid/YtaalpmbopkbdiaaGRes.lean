/- What functions of the program compute, said in the abstract logic; no conditions. -/
import Derived.Test.YtaalpmbopkbdiaaGIn
import Derived.Test.YtaalpmbopkbdiaaGIds
import Derived.Test.YtaalpmbopkbdiaaGEv

namespace Go.Proofs.Ytaalpmbopkbdiaa
open Go
set_option linter.unusedSimpArgs false
set_option linter.unusedVariables false
set_option maxRecDepth 100000
set_option maxHeartbeats 8000000
attribute [local go_sem] st0 AC thenA andC locLoadB KsSW_same KsSW_grow oldLoadB noBlkB KsSL_same KsOS_same KsOS_grow pv ev put upd dstOk cv cvc binI setB Value.oneCell' EndA resA resA1 List.mapM_cons List.mapM_nil Option.pure_def Option.bind_eq_bind noLocV noLoc1 noLoc noLocs plainV cellsA newVarA putCells condA lam0 inBlockA cur lenA rowA writeA dstA appendC appendZ mapPut mapGet avoidsB avoidB clearB Array.toList_append Op.operands Call.operands newSlot Nat.zero_add Nat.add_zero Nat.succ_ne_self Nat.lt_add_one Nat.zero_lt_succ true_and and_true true_or or_true false_or or_false and_self true_implies forall_const Bool.false_eq_true Bool.true_eq_false false_implies implies_true imp_self ne_eq not_false_eq_true not_true_eq_false false_and and_false List.getElem?_toArray List.getElem?_cons_succ List.getElem?_cons_zero Option.bind_some Option.map_some Bool.not_true Bool.not_false List.getD_cons_zero List.getD_cons_succ Option.some.injEq exists_eq_left' AV.bool.injEq List.map_cons List.map_nil List.all_cons List.all_nil Bool.and_self Bool.and_true Bool.true_and List.append_nil List.cons_append List.nil_append List.length_cons List.length_nil List.drop_zero List.take_zero List.drop_succ_cons List.take_succ_cons List.take_nil List.drop_nil List.not_mem_nil List.mem_cons List.contains_nil List.contains_cons Bool.or_self Bool.or_true Bool.true_or Bool.false_or Bool.or_false Bool.and_false Bool.false_and KsS_same KsS_grow skipV KsS_ext KsSW_ext KsOS_ext rep1 rep2 rep3 rep4 rep5 List.flatten_cons List.flatten_nil partsA isPtr fillA List.size_toArray ltT ltF leT leF ltTn ltFn leTn leFn eqTi eqFi wrapId toNat1 intGet boolGet memD app_get app_last app_lst app_set app_setL app_setF set_ne set_eq gt_iff_lt ge_iff_le decide_eq_true_eq len2 len3 get20 get21 drop2 put2 get30 get31 get32 drop3 put3 putI pairEta bneTi bneFi beqTi beqFi bne_eq_false_iff_eq beq_eq_false_iff_ne beq_iff_eq bne_iff_ne Int.toNat_natCast Nat.mul_one List.length_map Bool.not_eq_true Bool.not_eq_false Bool.decide_eq_true decide_true decide_false Bool.not_eq_true' Bool.not_eq_false' decide_eq_false_iff_not eq_self Decidable.not_not
attribute [local go_sem ↓] skipC exitC retC seqC blockC condC regC drawC drawStep AOpC AOpF AOpE AEff contE_at contC_at keepC_at keepW_at keepO_at keepL_at map_parts
attribute [local go_sem] reduceCtorEq Nat.reduceLT Nat.reduceEqDiff Nat.reduceAdd Nat.reduceMul Nat.reduceLeDiff Nat.reduceSub Nat.reduceBEq Nat.reduceBNe Nat.reduceBneDiff Nat.reduceBeqDiff
attribute [local go_sem ↓] reduceIte
attribute [local go_sem] ag_24 ag_27 ag_3 ag_45 ag_63 ag_76 by_24 by_27 by_3 by_45 by_63 by_76 el_24 el_27 el_45 en_3 fi_63_0 fi_63_1 fi_63_2 fi_76_0 fi_76_1 in_3 nf_63 nf_76 pl_63 pl_76 ps_63 ps_76 sz_24 sz_27 sz_3 sz_45 sz_63 sz_76 ze_24 ze_27 ze_3 ze_45 ze_63 ze_76

def hits : AV → Nat → Prop
  | .sl b _ _ _, c => b = c
  | _, _ => False
/-- What stands below n is as it was. -/
def Keep (n : Nat) (η H : List Blk) : Prop := n ≤ H.length ∧ ∀ c, c < n → H[c]? = η[c]?
/-- Only blocks of S were written; new ones may have come. -/
def Touch (S : Nat → Prop) (η H : List Blk) : Prop := η.length ≤ H.length ∧ ∀ c, c < η.length → ¬ S c → H[c]? = η[c]?
theorem Keep.refl (η : List Blk) : Keep η.length η η := ⟨Nat.le_refl _, fun _ _ => rfl⟩
theorem Keep.ext {n : Nat} {η H H' : List Blk} (h : Keep n η H) (x : Ext H H') : Keep n η H' := ⟨Nat.le_trans h.1 x.len, fun c hc => by rw [x.get (Nat.lt_of_lt_of_le hc h.1), h.2 c hc]⟩
theorem Keep.touch {n : Nat} {η H H' : List Blk} {S : Nat → Prop} (h : Keep n η H) (x : Touch S H H') (hs : ∀ c, S c → n ≤ c) : Keep n η H' :=
  ⟨Nat.le_trans h.1 x.1, fun c hc => by rw [x.2 c (Nat.lt_of_lt_of_le hc h.1) (fun e => absurd (hs c e) (by omega)), h.2 c hc]⟩
theorem Ext.keep {η H : List Blk} (x : Ext η H) : Keep η.length η H := (Keep.refl η).ext x
theorem Ext.touch {η H : List Blk} (x : Ext η H) (S : Nat → Prop) : Touch S η H := ⟨x.len, fun c hc _ => x.get hc⟩
theorem Touch.ext {η H H' : List Blk} {S : Nat → Prop} (h : Touch S η H) (x : Ext H H') : Touch S η H' := ⟨Nat.le_trans h.1 x.len, fun c hc hs => by rw [x.get (Nat.lt_of_lt_of_le hc h.1), h.2 c hc hs]⟩
theorem Touch.trans {η H H' : List Blk} {S : Nat → Prop} (h : Touch S η H) (x : Touch S H H') : Touch S η H' := ⟨Nat.le_trans h.1 x.1, fun c hc hs => by rw [x.2 c (Nat.lt_of_lt_of_le hc h.1) hs, h.2 c hc hs]⟩
theorem Touch.mono {η H : List Blk} {S T : Nat → Prop} (h : Touch S η H) (hs : ∀ c, S c → T c) : Touch T η H := ⟨h.1, fun c hc ht => h.2 c hc fun e => ht (hs c e)⟩
theorem Touch.none {η H : List Blk} {S : Nat → Prop} (h : Touch S η H) (hs : ∀ c, ¬ S c) : Ext η H := by
  refine ⟨H.drop η.length, ?_⟩
  apply List.ext_getElem?
  intro c
  by_cases hc : c < η.length
  · rw [List.getElem?_append_left hc]; exact h.2 c hc (hs c)
  · rw [List.getElem?_append_right (by omega), List.getElem?_drop]; congr 1; omega
theorem Touch.set {η : List Blk} {b : Nat} {x : Blk} {S : Nat → Prop} (h : S b) : Touch S η (η.set b x) :=
  ⟨by simp, fun c _ hs => set_ne fun e => hs (e ▸ h)⟩
theorem takeF3 (l : List (Int × Int × Int)) : ((l.map enc3).flatten).take (l.length * 3) = (l.map enc3).flatten := by
  rw [List.take_of_length_le]; rw [len3]; exact Nat.le_refl _
/-- A row of whole numbers, nil, empty or there. -/
def RowEI (η : List Blk) (v : AV) (l : List Int) : Prop := ((v = .nils ∨ v = .emp) ∧ l = []) ∨ IsI η v l
/-- A new row: its block is not below n. -/
def NewI (n : Nat) (η : List Blk) (v : AV) (l : List Int) : Prop := RowEI η v l ∧ ∀ c, hits v c → n ≤ c
theorem IsI.lt {η : List Blk} {v : AV} {l : List Int} (h : IsI η v l) : ∀ c, hits v c → c < η.length := by
  obtain ⟨b, ver, rfl, hb⟩ := h
  rintro c rfl
  exact blt hb
theorem RowEI.lt {η : List Blk} {v : AV} {l : List Int} (h : RowEI η v l) : ∀ c, hits v c → c < η.length := by
  rcases h with ⟨rfl | rfl, _⟩ | h
  · exact fun _ h => h.elim
  · exact fun _ h => h.elim
  · exact h.lt
theorem IsI.keep {n : Nat} {η H : List Blk} {v : AV} {l : List Int} (h : IsI η v l) (k : Keep n η H) (hn : ∀ c, hits v c → c < n) : IsI H v l := by
  obtain ⟨b, ver, rfl, hb⟩ := h
  exact ⟨b, ver, rfl, by rw [k.2 b (hn b rfl)]; exact hb⟩
theorem RowI.keep {η H : List Blk} {v : AV} {l : List Int} (h : RowI η v l) (k : Keep η.length η H) : RowI H v l := by
  rcases h with h | h
  · exact .inl h
  · exact .inr (IsI.keep h k (IsI.lt h))
theorem IsI.touch {S : Nat → Prop} {η H : List Blk} {v : AV} {l : List Int} (h : IsI η v l) (k : Touch S η H) (hn : ∀ c, hits v c → ¬ S c) : IsI H v l := by
  obtain ⟨b, ver, rfl, hb⟩ := h
  exact ⟨b, ver, rfl, by rw [k.2 b (blt hb) (hn b rfl)]; exact hb⟩
theorem RowEI.touch {S : Nat → Prop} {η H : List Blk} {v : AV} {l : List Int} (h : RowEI η v l) (k : Touch S η H) (hn : ∀ c, hits v c → ¬ S c) : RowEI H v l := by
  rcases h with h | h
  · exact .inl h
  · exact .inr (h.touch k hn)
theorem RowEI.ext {η H : List Blk} {v : AV} {l : List Int} (h : RowEI η v l) (k : Ext η H) : RowEI H v l := by
  rcases h with h | h
  · exact .inl h
  · exact .inr (h.ext k)
theorem RowEI.noLoc {η : List Blk} {v : AV} {l : List Int} (h : RowEI η v l) : noLoc1 v = true ∧ Proofs.Ytaalpmbopkbdiaa.noLoc v = true := by
  rcases h with ⟨rfl | rfl, _⟩ | ⟨b, ver, rfl, _⟩ <;> exact ⟨rfl, rfl⟩
theorem RowEI.noLocV {η : List Blk} {v : AV} {l : List Int} (h : RowEI η v l) : Proofs.Ytaalpmbopkbdiaa.noLocV v = true := by
  rcases h with ⟨rfl | rfl, _⟩ | ⟨b, ver, rfl, _⟩ <;> rfl
theorem NewI.ext {n : Nat} {η H : List Blk} {v : AV} {l : List Int} (h : NewI n η v l) (k : Ext η H) : NewI n H v l := ⟨h.1.ext k, h.2⟩
theorem NewI.mono {n m : Nat} {η : List Blk} {v : AV} {l : List Int} (h : NewI n η v l) (k : m ≤ n) : NewI m η v l := ⟨h.1, fun c hc => Nat.le_trans k (h.2 c hc)⟩
theorem NewI.mk {n : Nat} {η : List Blk} {b ver : Nat} {l : List Int} (h : n ≤ b) (hb : η[b]? = some ⟨ver, 3, 1, l.map (.int .i64)⟩) : NewI n η (.sl b ver 0 l.length) l := ⟨.inr ⟨b, ver, rfl, hb⟩, fun c hc => by rw [← show b = c from hc]; exact h⟩
theorem NewI.eq {n : Nat} {η : List Blk} {v : AV} {l m : List Int} (h : NewI n η v l) (e : l = m) : NewI n η v m := e ▸ h
theorem NewI.nil (n : Nat) (η : List Blk) : NewI n η .nils [] := ⟨.inl ⟨.inl rfl, rfl⟩, fun _ h => h.elim⟩
theorem NewI.emp (n : Nat) (η : List Blk) : NewI n η .emp [] := ⟨.inl ⟨.inr rfl, rfl⟩, fun _ h => h.elim⟩
/-! the same for structs -/
section
variable {α : Type} {enc : α → List AV} {k : Nat} {e : TypeId}
def RowER (e : TypeId) (k : Nat) (enc : α → List AV) (η : List Blk) (v : AV) (l : List α) : Prop := ((v = .nils ∨ v = .emp) ∧ l = []) ∨ IsR e k enc η v l
def NewR (e : TypeId) (k : Nat) (enc : α → List AV) (n : Nat) (η : List Blk) (v : AV) (l : List α) : Prop := RowER e k enc η v l ∧ ∀ c, hits v c → n ≤ c
theorem IsR.lt {η : List Blk} {v : AV} {l : List α} (h : IsR e k enc η v l) : ∀ c, hits v c → c < η.length := by
  obtain ⟨b, ver, rfl, hb⟩ := h
  rintro c rfl
  exact blt hb
theorem RowER.lt {η : List Blk} {v : AV} {l : List α} (h : RowER e k enc η v l) : ∀ c, hits v c → c < η.length := by
  rcases h with ⟨rfl | rfl, _⟩ | h
  · exact fun _ h => h.elim
  · exact fun _ h => h.elim
  · exact h.lt
theorem IsR.keep {n : Nat} {η H : List Blk} {v : AV} {l : List α} (h : IsR e k enc η v l) (x : Keep n η H) (hn : ∀ c, hits v c → c < n) : IsR e k enc H v l := by
  obtain ⟨b, ver, rfl, hb⟩ := h
  exact ⟨b, ver, rfl, by rw [x.2 b (hn b rfl)]; exact hb⟩
theorem RowR.keep {η H : List Blk} {v : AV} {l : List α} (h : RowR e k enc η v l) (x : Keep η.length η H) : RowR e k enc H v l := by
  rcases h with h | h
  · exact .inl h
  · exact .inr (IsR.keep h x (IsR.lt h))
theorem IsR.touch {S : Nat → Prop} {η H : List Blk} {v : AV} {l : List α} (h : IsR e k enc η v l) (x : Touch S η H) (hn : ∀ c, hits v c → ¬ S c) : IsR e k enc H v l := by
  obtain ⟨b, ver, rfl, hb⟩ := h
  exact ⟨b, ver, rfl, by rw [x.2 b (blt hb) (hn b rfl)]; exact hb⟩
theorem RowER.touch {S : Nat → Prop} {η H : List Blk} {v : AV} {l : List α} (h : RowER e k enc η v l) (x : Touch S η H) (hn : ∀ c, hits v c → ¬ S c) : RowER e k enc H v l := by
  rcases h with h | h
  · exact .inl h
  · exact .inr (h.touch x hn)
theorem RowER.ext {η H : List Blk} {v : AV} {l : List α} (h : RowER e k enc η v l) (x : Ext η H) : RowER e k enc H v l := by
  rcases h with h | h
  · exact .inl h
  · exact .inr (h.ext x)
theorem RowER.noLoc {η : List Blk} {v : AV} {l : List α} (h : RowER e k enc η v l) : noLoc1 v = true ∧ Proofs.Ytaalpmbopkbdiaa.noLoc v = true := by
  rcases h with ⟨rfl | rfl, _⟩ | ⟨b, ver, rfl, _⟩ <;> exact ⟨rfl, rfl⟩
theorem RowER.noLocV {η : List Blk} {v : AV} {l : List α} (h : RowER e k enc η v l) : Proofs.Ytaalpmbopkbdiaa.noLocV v = true := by
  rcases h with ⟨rfl | rfl, _⟩ | ⟨b, ver, rfl, _⟩ <;> rfl
theorem NewR.ext {n : Nat} {η H : List Blk} {v : AV} {l : List α} (h : NewR e k enc n η v l) (x : Ext η H) : NewR e k enc n H v l := ⟨h.1.ext x, h.2⟩
theorem NewR.mono {n m : Nat} {η : List Blk} {v : AV} {l : List α} (h : NewR e k enc n η v l) (x : m ≤ n) : NewR e k enc m η v l := ⟨h.1, fun c hc => Nat.le_trans x (h.2 c hc)⟩
theorem NewR.mk {n : Nat} {η : List Blk} {b ver : Nat} {l : List α} (h : n ≤ b) (hb : η[b]? = some ⟨ver, e, k, (l.map enc).flatten⟩) : NewR e k enc n η (.sl b ver 0 l.length) l := ⟨.inr ⟨b, ver, rfl, hb⟩, fun c hc => by rw [← show b = c from hc]; exact h⟩
theorem NewR.eq {n : Nat} {η : List Blk} {v : AV} {l m : List α} (h : NewR e k enc n η v l) (x : l = m) : NewR e k enc n η v m := x ▸ h
theorem NewR.nil (n : Nat) (η : List Blk) : NewR e k enc n η .nils [] := ⟨.inl ⟨.inl rfl, rfl⟩, fun _ h => h.elim⟩
theorem NewR.emp (n : Nat) (η : List Blk) : NewR e k enc n η .emp [] := ⟨.inl ⟨.inr rfl, rfl⟩, fun _ h => h.elim⟩
end
section
variable {l : List (Int × Int)} {i : Nat}
end
section
variable {l : List (Int × Int × Int)} {i : Nat}
end
/- laws.markIntS -/
/- laws.heldIntS -/
/- laws.eqIntS -/
theorem Touch.blk {S : Nat → Prop} {η H : List Blk} (h : Touch S η H) {b : Nat} (hs : ¬ S b) {x : Blk} (hb : η[b]? = some x) : H[b]? = some x := by rw [h.2 b (blt hb) hs]; exact hb

/- laws.markIdS -/
/- laws.heldIdS -/
/- laws.markEventS -/
/- laws.heldEventS -/
/- laws.eqEventS -/
end Go.Proofs.Ytaalpmbopkbdiaa
