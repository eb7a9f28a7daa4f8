/- What functions of the program compute, said in the abstract logic; no conditions. -/
import Derived.Test.YtaalpmbopkbdiaaGreatGIn
import Derived.Test.YtaalpmbopkbdiaaGreatGIds

namespace Go.Proofs.YtaalpmbopkbdiaaGreat
open Go
set_option linter.unusedSimpArgs false
set_option linter.unusedVariables false
set_option maxRecDepth 100000
set_option maxHeartbeats 8000000
attribute [local go_sem] st0 AC thenA andC locLoadB KsSW_same KsSW_grow oldLoadB noBlkB KsSL_same KsOS_same KsOS_grow pv ev put upd dstOk cv cvc binI setB Value.oneCell' EndA resA resA1 List.mapM_cons List.mapM_nil Option.pure_def Option.bind_eq_bind noLocV noLoc1 noLoc noLocs plainV cellsA newVarA putCells condA lam0 inBlockA cur lenA rowA writeA dstA appendC appendZ mapPut mapGet avoidsB avoidB clearB Array.toList_append Op.operands Call.operands newSlot Nat.zero_add Nat.add_zero Nat.succ_ne_self Nat.lt_add_one Nat.zero_lt_succ true_and and_true true_or or_true false_or or_false and_self true_implies forall_const Bool.false_eq_true Bool.true_eq_false false_implies implies_true imp_self ne_eq not_false_eq_true not_true_eq_false false_and and_false List.getElem?_toArray List.getElem?_cons_succ List.getElem?_cons_zero Option.bind_some Option.map_some Bool.not_true Bool.not_false List.getD_cons_zero List.getD_cons_succ Option.some.injEq exists_eq_left' AV.bool.injEq List.map_cons List.map_nil List.all_cons List.all_nil Bool.and_self Bool.and_true Bool.true_and List.append_nil List.cons_append List.nil_append List.length_cons List.length_nil List.drop_zero List.take_zero List.drop_succ_cons List.take_succ_cons List.take_nil List.drop_nil List.not_mem_nil List.mem_cons List.contains_nil List.contains_cons Bool.or_self Bool.or_true Bool.true_or Bool.false_or Bool.or_false Bool.and_false Bool.false_and KsS_same KsS_grow skipV KsS_ext KsSW_ext KsOS_ext rep1 rep2 rep3 rep4 rep5 List.flatten_cons List.flatten_nil partsA isPtr fillA List.size_toArray ltT ltF leT leF ltTn ltFn leTn leFn eqTi eqFi wrapId toNat1 intGet boolGet memD app_get app_last app_lst app_set app_setL app_setF set_ne set_eq gt_iff_lt ge_iff_le decide_eq_true_eq len2 len3 get20 get21 drop2 put2 get30 get31 get32 drop3 put3 putI pairEta bneTi bneFi beqTi beqFi bne_eq_false_iff_eq beq_eq_false_iff_ne beq_iff_eq bne_iff_ne Int.toNat_natCast Nat.mul_one List.length_map Bool.not_eq_true Bool.not_eq_false Bool.decide_eq_true decide_true decide_false Bool.not_eq_true' Bool.not_eq_false' decide_eq_false_iff_not eq_self Decidable.not_not
attribute [local go_sem ↓] skipC exitC retC seqC blockC condC regC drawC drawStep AOpC AOpF AOpE AEff contE_at contC_at keepC_at keepW_at keepO_at keepL_at map_parts
attribute [local go_sem] reduceCtorEq Nat.reduceLT Nat.reduceEqDiff Nat.reduceAdd Nat.reduceMul Nat.reduceLeDiff Nat.reduceSub Nat.reduceBEq Nat.reduceBNe Nat.reduceBneDiff Nat.reduceBeqDiff
attribute [local go_sem ↓] reduceIte
attribute [local go_sem] ag_25 ag_3 ag_30 ag_69 by_25 by_3 by_30 by_69 el_25 el_30 en_3 fi_69_0 fi_69_1 fi_69_2 in_3 nf_69 pl_69 ps_69 sz_25 sz_3 sz_30 sz_69 ze_25 ze_3 ze_30 ze_69

def hits : AV → Nat → Prop
  | .sl b _ _ _, c => b = c
  | _, _ => False
/-- What stands below n is as it was. -/
def Keep (n : Nat) (η H : List Blk) : Prop := n ≤ H.length ∧ ∀ c, c < n → H[c]? = η[c]?
/-- Only blocks of S were written; new ones may have come. -/
def Touch (S : Nat → Prop) (η H : List Blk) : Prop := η.length ≤ H.length ∧ ∀ c, c < η.length → ¬ S c → H[c]? = η[c]?
theorem Keep.refl (η : List Blk) : Keep η.length η η := ⟨Nat.le_refl _, fun _ _ => rfl⟩
theorem Keep.ext {n : Nat} {η H H' : List Blk} (h : Keep n η H) (x : Ext H H') : Keep n η H' := ⟨Nat.le_trans h.1 x.len, fun c hc => by rw [x.get (Nat.lt_of_lt_of_le hc h.1), h.2 c hc]⟩
theorem Keep.touch {n : Nat} {η H H' : List Blk} {S : Nat → Prop} (h : Keep n η H) (x : Touch S H H') (hs : ∀ c, S c → n ≤ c) : Keep n η H' :=
  ⟨Nat.le_trans h.1 x.1, fun c hc => by rw [x.2 c (Nat.lt_of_lt_of_le hc h.1) (fun e => absurd (hs c e) (by omega)), h.2 c hc]⟩
theorem Ext.keep {η H : List Blk} (x : Ext η H) : Keep η.length η H := (Keep.refl η).ext x
theorem Ext.touch {η H : List Blk} (x : Ext η H) (S : Nat → Prop) : Touch S η H := ⟨x.len, fun c hc _ => x.get hc⟩
theorem Touch.ext {η H H' : List Blk} {S : Nat → Prop} (h : Touch S η H) (x : Ext H H') : Touch S η H' := ⟨Nat.le_trans h.1 x.len, fun c hc hs => by rw [x.get (Nat.lt_of_lt_of_le hc h.1), h.2 c hc hs]⟩
theorem Touch.trans {η H H' : List Blk} {S : Nat → Prop} (h : Touch S η H) (x : Touch S H H') : Touch S η H' := ⟨Nat.le_trans h.1 x.1, fun c hc hs => by rw [x.2 c (Nat.lt_of_lt_of_le hc h.1) hs, h.2 c hc hs]⟩
theorem Touch.mono {η H : List Blk} {S T : Nat → Prop} (h : Touch S η H) (hs : ∀ c, S c → T c) : Touch T η H := ⟨h.1, fun c hc ht => h.2 c hc fun e => ht (hs c e)⟩
theorem Touch.none {η H : List Blk} {S : Nat → Prop} (h : Touch S η H) (hs : ∀ c, ¬ S c) : Ext η H := by
  refine ⟨H.drop η.length, ?_⟩
  apply List.ext_getElem?
  intro c
  by_cases hc : c < η.length
  · rw [List.getElem?_append_left hc]; exact h.2 c hc (hs c)
  · rw [List.getElem?_append_right (by omega), List.getElem?_drop]; congr 1; omega
theorem Touch.set {η : List Blk} {b : Nat} {x : Blk} {S : Nat → Prop} (h : S b) : Touch S η (η.set b x) :=
  ⟨by simp, fun c _ hs => set_ne fun e => hs (e ▸ h)⟩
theorem set_same {η : List Blk} {b : Nat} {x : Blk} (h : η[b]? = some x) : η.set b x = η := by
  apply List.ext_getElem?
  intro j
  by_cases hj : b = j
  · subst hj; rw [set_eq (blt h), h]
  · rw [set_ne hj]
theorem takeF3 (l : List (Int × Int × Int)) : ((l.map enc3).flatten).take (l.length * 3) = (l.map enc3).flatten := by
  rw [List.take_of_length_le]; rw [len3]; exact Nat.le_refl _
theorem getSet {α : Type} {l : List α} {i : Nat} {x d : α} (h : i < l.length) : (l.set i x).getD i d = x := by simp [List.getD_eq_getElem?_getD, h]
/-- Anew at the front, as it was behind. -/
def mixed {α : Type} (f : Nat → α) (l : List α) (i : Nat) : List α := (List.range i).map f ++ l.drop i
theorem mixed_0 {α : Type} (f : Nat → α) (l : List α) : mixed f l 0 = l := by simp [mixed]
theorem mixed_len {α : Type} (f : Nat → α) (l : List α) {i : Nat} (h : i ≤ l.length) : (mixed f l i).length = l.length := by simp [mixed]; omega
theorem mixed_end {α : Type} (f : Nat → α) (l : List α) : mixed f l l.length = (List.range l.length).map f := by simp [mixed]
theorem mixed_get {α : Type} (f : Nat → α) (l : List α) (d : α) {i : Nat} (h : i < l.length) : (mixed f l i).getD i d = l.getD i d := by
  simp [mixed, List.getD_eq_getElem?_getD, List.getElem?_append_right]
theorem mixed_set {α : Type} (f : Nat → α) (l : List α) {i : Nat} (h : i < l.length) : (mixed f l i).set i (f i) = mixed f l (i + 1) := by
  unfold mixed
  rw [List.set_append_right _ _ (by simp), List.range_succ, List.map_append, List.drop_eq_getElem_cons h]
  simp only [List.length_map, List.length_range, Nat.sub_self, List.set_cons_zero, List.map_cons, List.map_nil, List.append_assoc, List.cons_append, List.nil_append]
/-- A row of whole numbers, nil, empty or there. -/
def RowEI (η : List Blk) (v : AV) (l : List Int) : Prop := ((v = .nils ∨ v = .emp) ∧ l = []) ∨ IsI η v l
/-- A new row: its block is not below n. -/
def NewI (n : Nat) (η : List Blk) (v : AV) (l : List Int) : Prop := RowEI η v l ∧ ∀ c, hits v c → n ≤ c
theorem RowI.rowE {η : List Blk} {v : AV} {l : List Int} (h : RowI η v l) : RowEI η v l := by
  rcases h with ⟨h1, h2⟩ | h
  · exact .inl ⟨.inl h1, h2⟩
  · exact .inr h
theorem IsI.rowE {η : List Blk} {v : AV} {l : List Int} (h : IsI η v l) : RowEI η v l := .inr h
theorem IsI.lt {η : List Blk} {v : AV} {l : List Int} (h : IsI η v l) : ∀ c, hits v c → c < η.length := by
  obtain ⟨b, ver, rfl, hb⟩ := h
  rintro c rfl
  exact blt hb
theorem RowEI.lt {η : List Blk} {v : AV} {l : List Int} (h : RowEI η v l) : ∀ c, hits v c → c < η.length := by
  rcases h with ⟨rfl | rfl, _⟩ | h
  · exact fun _ h => h.elim
  · exact fun _ h => h.elim
  · exact h.lt
theorem IsI.keep {n : Nat} {η H : List Blk} {v : AV} {l : List Int} (h : IsI η v l) (k : Keep n η H) (hn : ∀ c, hits v c → c < n) : IsI H v l := by
  obtain ⟨b, ver, rfl, hb⟩ := h
  exact ⟨b, ver, rfl, by rw [k.2 b (hn b rfl)]; exact hb⟩
theorem RowI.keep {η H : List Blk} {v : AV} {l : List Int} (h : RowI η v l) (k : Keep η.length η H) : RowI H v l := by
  rcases h with h | h
  · exact .inl h
  · exact .inr (IsI.keep h k (IsI.lt h))
theorem IsI.touch {S : Nat → Prop} {η H : List Blk} {v : AV} {l : List Int} (h : IsI η v l) (k : Touch S η H) (hn : ∀ c, hits v c → ¬ S c) : IsI H v l := by
  obtain ⟨b, ver, rfl, hb⟩ := h
  exact ⟨b, ver, rfl, by rw [k.2 b (blt hb) (hn b rfl)]; exact hb⟩
theorem RowEI.touch {S : Nat → Prop} {η H : List Blk} {v : AV} {l : List Int} (h : RowEI η v l) (k : Touch S η H) (hn : ∀ c, hits v c → ¬ S c) : RowEI H v l := by
  rcases h with h | h
  · exact .inl h
  · exact .inr (h.touch k hn)
theorem RowEI.ext {η H : List Blk} {v : AV} {l : List Int} (h : RowEI η v l) (k : Ext η H) : RowEI H v l := by
  rcases h with h | h
  · exact .inl h
  · exact .inr (h.ext k)
theorem RowEI.noLoc {η : List Blk} {v : AV} {l : List Int} (h : RowEI η v l) : noLoc1 v = true ∧ Proofs.YtaalpmbopkbdiaaGreat.noLoc v = true := by
  rcases h with ⟨rfl | rfl, _⟩ | ⟨b, ver, rfl, _⟩ <;> exact ⟨rfl, rfl⟩
theorem RowEI.noLocV {η : List Blk} {v : AV} {l : List Int} (h : RowEI η v l) : Proofs.YtaalpmbopkbdiaaGreat.noLocV v = true := by
  rcases h with ⟨rfl | rfl, _⟩ | ⟨b, ver, rfl, _⟩ <;> rfl
theorem NewI.ext {n : Nat} {η H : List Blk} {v : AV} {l : List Int} (h : NewI n η v l) (k : Ext η H) : NewI n H v l := ⟨h.1.ext k, h.2⟩
theorem NewI.mono {n m : Nat} {η : List Blk} {v : AV} {l : List Int} (h : NewI n η v l) (k : m ≤ n) : NewI m η v l := ⟨h.1, fun c hc => Nat.le_trans k (h.2 c hc)⟩
theorem NewI.mk {n : Nat} {η : List Blk} {b ver : Nat} {l : List Int} (h : n ≤ b) (hb : η[b]? = some ⟨ver, 3, 1, l.map (.int .i64)⟩) : NewI n η (.sl b ver 0 l.length) l := ⟨.inr ⟨b, ver, rfl, hb⟩, fun c hc => by rw [← show b = c from hc]; exact h⟩
theorem NewI.eq {n : Nat} {η : List Blk} {v : AV} {l m : List Int} (h : NewI n η v l) (e : l = m) : NewI n η v m := e ▸ h
theorem NewI.nil (n : Nat) (η : List Blk) : NewI n η .nils [] := ⟨.inl ⟨.inl rfl, rfl⟩, fun _ h => h.elim⟩
theorem NewI.emp (n : Nat) (η : List Blk) : NewI n η .emp [] := ⟨.inl ⟨.inr rfl, rfl⟩, fun _ h => h.elim⟩
/-! the same for structs -/
section
variable {α : Type} {enc : α → List AV} {k : Nat} {e : TypeId}
def RowER (e : TypeId) (k : Nat) (enc : α → List AV) (η : List Blk) (v : AV) (l : List α) : Prop := ((v = .nils ∨ v = .emp) ∧ l = []) ∨ IsR e k enc η v l
def NewR (e : TypeId) (k : Nat) (enc : α → List AV) (n : Nat) (η : List Blk) (v : AV) (l : List α) : Prop := RowER e k enc η v l ∧ ∀ c, hits v c → n ≤ c
theorem RowR.rowE {η : List Blk} {v : AV} {l : List α} (h : RowR e k enc η v l) : RowER e k enc η v l := by
  rcases h with ⟨h1, h2⟩ | h
  · exact .inl ⟨.inl h1, h2⟩
  · exact .inr h
theorem IsR.rowE {η : List Blk} {v : AV} {l : List α} (h : IsR e k enc η v l) : RowER e k enc η v l := .inr h
theorem IsR.lt {η : List Blk} {v : AV} {l : List α} (h : IsR e k enc η v l) : ∀ c, hits v c → c < η.length := by
  obtain ⟨b, ver, rfl, hb⟩ := h
  rintro c rfl
  exact blt hb
theorem RowER.lt {η : List Blk} {v : AV} {l : List α} (h : RowER e k enc η v l) : ∀ c, hits v c → c < η.length := by
  rcases h with ⟨rfl | rfl, _⟩ | h
  · exact fun _ h => h.elim
  · exact fun _ h => h.elim
  · exact h.lt
theorem IsR.keep {n : Nat} {η H : List Blk} {v : AV} {l : List α} (h : IsR e k enc η v l) (x : Keep n η H) (hn : ∀ c, hits v c → c < n) : IsR e k enc H v l := by
  obtain ⟨b, ver, rfl, hb⟩ := h
  exact ⟨b, ver, rfl, by rw [x.2 b (hn b rfl)]; exact hb⟩
theorem RowR.keep {η H : List Blk} {v : AV} {l : List α} (h : RowR e k enc η v l) (x : Keep η.length η H) : RowR e k enc H v l := by
  rcases h with h | h
  · exact .inl h
  · exact .inr (IsR.keep h x (IsR.lt h))
theorem IsR.touch {S : Nat → Prop} {η H : List Blk} {v : AV} {l : List α} (h : IsR e k enc η v l) (x : Touch S η H) (hn : ∀ c, hits v c → ¬ S c) : IsR e k enc H v l := by
  obtain ⟨b, ver, rfl, hb⟩ := h
  exact ⟨b, ver, rfl, by rw [x.2 b (blt hb) (hn b rfl)]; exact hb⟩
theorem RowER.touch {S : Nat → Prop} {η H : List Blk} {v : AV} {l : List α} (h : RowER e k enc η v l) (x : Touch S η H) (hn : ∀ c, hits v c → ¬ S c) : RowER e k enc H v l := by
  rcases h with h | h
  · exact .inl h
  · exact .inr (h.touch x hn)
theorem RowER.ext {η H : List Blk} {v : AV} {l : List α} (h : RowER e k enc η v l) (x : Ext η H) : RowER e k enc H v l := by
  rcases h with h | h
  · exact .inl h
  · exact .inr (h.ext x)
theorem RowER.noLoc {η : List Blk} {v : AV} {l : List α} (h : RowER e k enc η v l) : noLoc1 v = true ∧ Proofs.YtaalpmbopkbdiaaGreat.noLoc v = true := by
  rcases h with ⟨rfl | rfl, _⟩ | ⟨b, ver, rfl, _⟩ <;> exact ⟨rfl, rfl⟩
theorem RowER.noLocV {η : List Blk} {v : AV} {l : List α} (h : RowER e k enc η v l) : Proofs.YtaalpmbopkbdiaaGreat.noLocV v = true := by
  rcases h with ⟨rfl | rfl, _⟩ | ⟨b, ver, rfl, _⟩ <;> rfl
theorem NewR.ext {n : Nat} {η H : List Blk} {v : AV} {l : List α} (h : NewR e k enc n η v l) (x : Ext η H) : NewR e k enc n H v l := ⟨h.1.ext x, h.2⟩
theorem NewR.mono {n m : Nat} {η : List Blk} {v : AV} {l : List α} (h : NewR e k enc n η v l) (x : m ≤ n) : NewR e k enc m η v l := ⟨h.1, fun c hc => Nat.le_trans x (h.2 c hc)⟩
theorem NewR.mk {n : Nat} {η : List Blk} {b ver : Nat} {l : List α} (h : n ≤ b) (hb : η[b]? = some ⟨ver, e, k, (l.map enc).flatten⟩) : NewR e k enc n η (.sl b ver 0 l.length) l := ⟨.inr ⟨b, ver, rfl, hb⟩, fun c hc => by rw [← show b = c from hc]; exact h⟩
theorem NewR.eq {n : Nat} {η : List Blk} {v : AV} {l m : List α} (h : NewR e k enc n η v l) (x : l = m) : NewR e k enc n η v m := x ▸ h
theorem NewR.nil (n : Nat) (η : List Blk) : NewR e k enc n η .nils [] := ⟨.inl ⟨.inl rfl, rfl⟩, fun _ h => h.elim⟩
theorem NewR.emp (n : Nat) (η : List Blk) : NewR e k enc n η .emp [] := ⟨.inl ⟨.inr rfl, rfl⟩, fun _ h => h.elim⟩
end
section
variable {l : List (Int × Int)} {i : Nat}
end
section
variable {l : List (Int × Int × Int)} {i : Nat}
theorem put30 {a : Int} (h : i < l.length) : (l.map enc3).flatten.take (i * 3) ++ [.int .i64 a] ++ (l.map enc3).flatten.drop (i * 3 + 1) = ((l.set i (a, (l.getD i (0, 0, 0)).2.1, (l.getD i (0, 0, 0)).2.2)).map enc3).flatten := by
  rw [← put3 h]
  have h1 : i * 3 + 1 < (l.map enc3).flatten.length := by rw [len3]; omega
  have h2 : i * 3 + 1 + 1 < (l.map enc3).flatten.length := by rw [len3]; omega
  rw [List.drop_eq_getElem_cons h1, List.drop_eq_getElem_cons h2]
  have e1 := get31 h
  have e2 := get32 h
  rw [List.getElem?_eq_getElem h1, Option.some.injEq] at e1
  rw [List.getElem?_eq_getElem h2, Option.some.injEq] at e2
  rw [e1, e2]
  simp
theorem put31 {a : Int} (h : i < l.length) : (l.map enc3).flatten.take (i * 3 + 1) ++ [.int .i64 a] ++ (l.map enc3).flatten.drop (i * 3 + 1 + 1) = ((l.set i ((l.getD i (0, 0, 0)).1, a, (l.getD i (0, 0, 0)).2.2)).map enc3).flatten := by
  rw [← put3 h]
  have h2 : i * 3 + 1 + 1 < (l.map enc3).flatten.length := by rw [len3]; omega
  rw [List.drop_eq_getElem_cons h2]
  have e2 := get32 h
  rw [List.getElem?_eq_getElem h2, Option.some.injEq] at e2
  rw [e2, List.take_add_one, get30 h]
  simp
theorem put32 {a : Int} (h : i < l.length) : (l.map enc3).flatten.take (i * 3 + 2) ++ [.int .i64 a] ++ (l.map enc3).flatten.drop (i * 3 + 2 + 1) = ((l.set i ((l.getD i (0, 0, 0)).1, (l.getD i (0, 0, 0)).2.1, a)).map enc3).flatten := by
  rw [← put3 h, show i * 3 + 2 = i * 3 + 1 + 1 from rfl]
  rw [List.take_add_one, List.take_add_one, get30 h, get31 h]
  simp
end
def ownE (lo : Nat) (v : AV) : Prop := ∀ c, hits v c → lo ≤ c

theorem setGet {η : List Blk} {b : Nat} {x : Blk} (h : b < η.length) : (η.set b x)[b]? = some x := set_eq h

def mkI (q : Int) : Nat → Int := fun i : Nat => q + 1 * i

def SMarkI (lo : Nat) : List AV → List Blk → (AV → List Blk → Prop) → Prop
  | [v, .int .i64 q], η, K => ∃ l : List (Int), RowEI η v l ∧ ownE lo v ∧ l.length ≤ 1048576 ∧ 0 ≤ q ∧ q ≤ 1099511627776 ∧ ∀ H, Touch (hits v) η H → RowEI H v ((List.range l.length).map (mkI q)) → K (.int .i64 (q + 1 * l.length)) H
  | _, _, _ => False

def invMkI (η : List Blk) (l : List (Int)) (v : AV) (b ver : Nat) (q : Int) (st : St) : Prop := ∃ i : Nat, (i ≤ l.length) ∧ st.n = 19 ∧ st.τ 0 = v ∧ st.τ 1 = .int .i64 (q + 1 * i) ∧ st.τ 5 = .int .i64 i ∧ st.lam = lam0 ∧ st.η = η.set b ⟨ver, 3, 1, (mixed (mkI q) l i).map (.int .i64)⟩

def invMnI (η : List Blk) (v : AV) (q : Int) (st : St) : Prop := ∃ i : Nat, (i = 0) ∧ st.n = 19 ∧ st.τ 0 = v ∧ st.τ 1 = .int .i64 q ∧ st.τ 5 = .int .i64 i ∧ st.lam = lam0 ∧ st.η = η

/- laws.markIntS -/
theorem f48_ok {lo : Nat} {args : List AV} {η : List Blk} {K : AV → List Blk → Prop} (h : SMarkI lo args η K) : AF Tryz.prog lo 48 args η K := by
  unfold SMarkI at h
  split at h
  · obtain ⟨l, hr, hown, hl, q0, q1, hK⟩ := h
    rename_i v q
    rcases hr with ⟨hv, rfl⟩ | ⟨b, ver, rfl, hb⟩
    · have hv' : v = .nils ∨ v = .emp := hv
      have hn : noLoc1 v = true := by rcases hv with rfl | rfl <;> rfl
      have hK' : K (.int .i64 q) η := by
        have := hK η ((Ext.refl η).touch _) (.inl ⟨hv', rfl⟩)
        simpa using this
      refine AF_run noSp_ok D0 [] [.tmp 4] hm Tryz.func48 rfl (by decide) Tryz.ntmps48 rfl (by kernel_rfl) (Nat.le_of_ble_eq_true rfl) ?_; intro hlo
      repeat' (first | with_reducible refine iteI (fun _ => ?_) (fun _ => ?_) | ((first | unfold AOpsC | unfold AOpsD | skip); simp (maxSteps := 1000000) (disch := (first | omega | assumption | (simp only [List.length_append, List.length_cons, List.length_nil, List.length_set]; omega))) only [go_sem, AOpsD, ↓hn]))
      refine ⟨invMnI η v q, fun st => ctr 0 st 5, .inl ⟨0, rfl, rfl, (by first | (simp [upd]; done) | (simp [upd, *]; done) | rfl), (by first | (simp [upd]; done) | (simp [upd, *]; done) | rfl), (by first | (simp [upd]; done) | (simp [upd, *]; done) | rfl), rfl, rfl⟩, ?_⟩
      rintro ⟨n, τ, lam, η'⟩ ⟨i, g0, hn, t0, t1, t5, hlam, hη⟩; simp only at hn t0 t1 t5 hlam hη; subst hn hlam hη
      subst g0
      rcases hv with rfl | rfl
      · repeat' (first | with_reducible refine iteI (fun _ => ?_) (fun _ => ?_) | ((first | unfold AOpsC | unfold AOpsD | skip); simp (maxSteps := 1000000) (disch := (first | omega | assumption | (simp only [List.length_append, List.length_cons, List.length_nil, List.length_set]; omega))) only [go_sem, AOpsD, t0, t1, t5]))
        exact hK'
      · repeat' (first | with_reducible refine iteI (fun _ => ?_) (fun _ => ?_) | ((first | unfold AOpsC | unfold AOpsD | skip); simp (maxSteps := 1000000) (disch := (first | omega | assumption | (simp only [List.length_append, List.length_cons, List.length_nil, List.length_set]; omega))) only [go_sem, AOpsD, t0, t1, t5]))
        exact hK'
    · have hbl := blt hb
      have hlb : lo ≤ b := hown b rfl
      refine AF_run noSp_ok D0 [] [.tmp 4] hm Tryz.func48 rfl (by decide) Tryz.ntmps48 rfl (by kernel_rfl) (Nat.le_of_ble_eq_true rfl) ?_; intro hlo
      repeat' (first | with_reducible refine iteI (fun _ => ?_) (fun _ => ?_) | ((first | unfold AOpsC | unfold AOpsD | skip); simp (maxSteps := 1000000) (disch := (first | omega | assumption | (simp only [List.length_append, List.length_cons, List.length_nil, List.length_set]; omega))) only [go_sem, AOpsD, hb]))
      refine ⟨invMkI η l (.sl b ver 0 l.length) b ver q, fun st => ctr l.length st 5, .inl ⟨0, Nat.zero_le _, rfl, rfl, by simp [upd], by simp [upd], rfl, by rw [mixed_0]; exact (set_same hb).symm⟩, ?_⟩
      rintro ⟨n, τ, lam, η'⟩ ⟨i, g0, hn, t0, t1, t5, hlam, hη⟩; simp only at hn t0 t1 t5 hlam hη; subst hn hlam hη
      have hml := mixed_len (mkI q) l g0
      have hsl : b < (η.set b ⟨ver, 3, 1, (mixed (mkI q) l i).map (.int .i64)⟩).length := by simpa using hbl
      by_cases hlt : i < l.length
      · have hms : (mixed (mkI q) l i).set i (q + 1 * i) = mixed (mkI q) l (i + 1) := mixed_set (mkI q) l hlt
        have hmg := mixed_get (mkI q) l 0 hlt
        repeat' (first | with_reducible refine iteI (fun _ => ?_) (fun _ => ?_) | ((first | unfold AOpsC | unfold AOpsD | skip); simp (maxSteps := 1000000) (disch := (first | omega | assumption | (simp only [List.length_append, List.length_cons, List.length_nil, List.length_set]; omega))) only [go_sem, AOpsD, t0, t1, t5, List.set_set, List.length_set, hml, hmg, putI, setGet, getSet]))
        refine ⟨⟨i + 1, hlt, rfl, by simp [upd, t0], by simp [upd]; omega, by simp [upd], rfl, ?_⟩, by simp [ctr, upd, t5]; omega⟩
        try dsimp only
        rw [hms]
      · obtain rfl : i = l.length := by omega
        repeat' (first | with_reducible refine iteI (fun _ => ?_) (fun _ => ?_) | ((first | unfold AOpsC | unfold AOpsD | skip); simp (maxSteps := 1000000) (disch := (first | omega | assumption | (simp only [List.length_append, List.length_cons, List.length_nil, List.length_set]; omega))) only [go_sem, AOpsD, t0, t1, t5, List.set_set]))
        rw [mixed_end]
        exact hK _ (Touch.set rfl) (.inr ⟨b, ver, by simp, set_eq hbl⟩)
  · exact h.elim

def SHeldI : List AV → List Blk → (AV → List Blk → Prop) → Prop
  | [v, .int .i64 q], η, K => ∃ m : Nat, RowEI η v ((List.range m).map (mkI q)) ∧ m ≤ 1048576 ∧ 0 ≤ q ∧ q ≤ 1099511627776 ∧ K (.int .i64 (q + 1 * m)) η
  | _, _, _ => False
theorem mkDI {q : Int} {m i : Nat} (h : i < m) : ((List.range m).map (mkI q)).getD i 0 = mkI q i := by
  simp [List.getD_eq_getElem?_getD, h]

def invHdI (η : List Blk) (m : Nat) (v : AV) (q : Int) (st : St) : Prop := ∃ i : Nat, (i ≤ m) ∧ st.n = 21 ∧ st.τ 0 = v ∧ st.τ 1 = .int .i64 (q + 1 * i) ∧ st.τ 5 = .int .i64 i ∧ st.lam = lam0 ∧ st.η = η

/- laws.heldIntS -/
theorem f51_ok {lo : Nat} {args : List AV} {η : List Blk} {K : AV → List Blk → Prop} (h : SHeldI args η K) : AF Tryz.prog lo 51 args η K := by
  unfold SHeldI at h
  split at h
  · obtain ⟨m, hr, hl, q0, q1, hK⟩ := h
    rename_i v q
    have hn : noLoc1 v = true := hr.noLoc.1
    refine AF_run noSp_ok D0 [] [.tmp 4] hm Tryz.func51 rfl (by decide) Tryz.ntmps51 rfl (by kernel_rfl) (Nat.le_of_ble_eq_true rfl) ?_; intro hlo
    repeat' (first | with_reducible refine iteI (fun _ => ?_) (fun _ => ?_) | ((first | unfold AOpsC | unfold AOpsD | skip); simp (maxSteps := 1000000) (disch := (first | omega | assumption | (simp only [List.length_append, List.length_cons, List.length_nil, List.length_set]; omega))) only [go_sem, AOpsD, ↓hn]))
    refine ⟨invHdI η m v q, fun st => ctr m st 5, .inl ⟨0, Nat.zero_le _, rfl, (by first | (simp [upd]; done) | (simp [upd, *]; done) | rfl), (by first | (simp [upd]; done) | (simp [upd, *]; done) | rfl), (by first | (simp [upd]; done) | (simp [upd, *]; done) | rfl), rfl, rfl⟩, ?_⟩
    rintro ⟨n, τ, lam, η'⟩ ⟨i, g0, hn, t0, t1, t5, hlam, hη⟩; simp only at hn t0 t1 t5 hlam hη; subst hn hlam hη
    rcases hr with ⟨hv, hm0⟩ | ⟨b, ver, rfl, hb⟩
    · obtain rfl : m = 0 := by simpa using hm0
      obtain rfl : i = 0 := by omega
      rcases hv with rfl | rfl
      · repeat' (first | with_reducible refine iteI (fun _ => ?_) (fun _ => ?_) | ((first | unfold AOpsC | unfold AOpsD | skip); simp (maxSteps := 1000000) (disch := (first | omega | assumption | (simp only [List.length_append, List.length_cons, List.length_nil, List.length_set]; omega))) only [go_sem, AOpsD, t0, t1, t5]))
        exact KI hK (by simp)
      · repeat' (first | with_reducible refine iteI (fun _ => ?_) (fun _ => ?_) | ((first | unfold AOpsC | unfold AOpsD | skip); simp (maxSteps := 1000000) (disch := (first | omega | assumption | (simp only [List.length_append, List.length_cons, List.length_nil, List.length_set]; omega))) only [go_sem, AOpsD, t0, t1, t5]))
        exact KI hK (by simp)
    · simp only [List.length_map, List.length_range] at t0
      have hlm : ((List.range m).map (mkI q)).length = m := by simp
      by_cases hlt : i < m
      · have hmd := mkDI (q := q) hlt
        unfold mkI at hmd hb hlm
        repeat' (first | with_reducible refine iteI (fun _ => ?_) (fun _ => ?_) | ((first | unfold AOpsC | unfold AOpsD | skip); simp (maxSteps := 1000000) (disch := (first | omega | assumption | (simp only [List.length_append, List.length_cons, List.length_nil, List.length_set]; omega))) only [go_sem, AOpsD, hb, t0, t1, t5, hmd, hlm, List.length_range]))
        refine ⟨⟨i + 1, hlt, rfl, by simp [upd, t0], by simp [upd]; omega, by simp [upd], rfl, rfl⟩, by simp [ctr, upd, t5]; omega⟩
      · obtain rfl : i = m := by omega
        repeat' (first | with_reducible refine iteI (fun _ => ?_) (fun _ => ?_) | ((first | unfold AOpsC | unfold AOpsD | skip); simp (maxSteps := 1000000) (disch := (first | omega | assumption | (simp only [List.length_append, List.length_cons, List.length_nil, List.length_set]; omega))) only [go_sem, AOpsD, hb, t0, t1, t5, hlm, List.length_range]))
        exact hK
  · exact h.elim

/- laws.eqIntS -/
theorem Touch.blk {S : Nat → Prop} {η H : List Blk} (h : Touch S η H) {b : Nat} (hs : ¬ S b) {x : Blk} (hb : η[b]? = some x) : H[b]? = some x := by rw [h.2 b (blt hb) hs]; exact hb

def mkId (q : Int) : Nat → Int × Int × Int := fun i : Nat => (q + 3 * i, q + 3 * i + 1, q + 3 * i + 1 + 1)

def SMarkId (lo : Nat) : List AV → List Blk → (AV → List Blk → Prop) → Prop
  | [v, .int .i64 q], η, K => ∃ l : List (Int × Int × Int), RowER 69 3 enc3 η v l ∧ ownE lo v ∧ l.length ≤ 1048576 ∧ 0 ≤ q ∧ q ≤ 1099511627776 ∧ ∀ H, Touch (hits v) η H → RowER 69 3 enc3 H v ((List.range l.length).map (mkId q)) → K (.int .i64 (q + 3 * l.length)) H
  | _, _, _ => False

def invMkId (η : List Blk) (l : List (Int × Int × Int)) (v : AV) (b ver : Nat) (q : Int) (st : St) : Prop := ∃ i : Nat, (i ≤ l.length) ∧ st.n = 34 ∧ st.τ 0 = v ∧ st.τ 1 = .int .i64 (q + 3 * i) ∧ st.τ 5 = .int .i64 i ∧ st.lam = lam0 ∧ st.η = η.set b ⟨ver, 69, 3, ((mixed (mkId q) l i).map enc3).flatten⟩

def invMnId (η : List Blk) (v : AV) (q : Int) (st : St) : Prop := ∃ i : Nat, (i = 0) ∧ st.n = 34 ∧ st.τ 0 = v ∧ st.τ 1 = .int .i64 q ∧ st.τ 5 = .int .i64 i ∧ st.lam = lam0 ∧ st.η = η

/- laws.markIdS -/
theorem f49_ok {lo : Nat} {args : List AV} {η : List Blk} {K : AV → List Blk → Prop} (h : SMarkId lo args η K) : AF Tryz.prog lo 49 args η K := by
  unfold SMarkId at h
  split at h
  · obtain ⟨l, hr, hown, hl, q0, q1, hK⟩ := h
    rename_i v q
    rcases hr with ⟨hv, rfl⟩ | ⟨b, ver, rfl, hb⟩
    · have hv' : v = .nils ∨ v = .emp := hv
      have hn : noLoc1 v = true := by rcases hv with rfl | rfl <;> rfl
      have hK' : K (.int .i64 q) η := by
        have := hK η ((Ext.refl η).touch _) (.inl ⟨hv', rfl⟩)
        simpa using this
      refine AF_run noSp_ok D0 [] [.tmp 4] hm Tryz.func49 rfl (by decide) Tryz.ntmps49 rfl (by kernel_rfl) (Nat.le_of_ble_eq_true rfl) ?_; intro hlo
      repeat' (first | with_reducible refine iteI (fun _ => ?_) (fun _ => ?_) | ((first | unfold AOpsC | unfold AOpsD | skip); simp (maxSteps := 1000000) (disch := (first | omega | assumption | (simp only [List.length_append, List.length_cons, List.length_nil, List.length_set]; omega))) only [go_sem, AOpsD, ↓hn]))
      refine ⟨invMnId η v q, fun st => ctr 0 st 5, .inl ⟨0, rfl, rfl, (by first | (simp [upd]; done) | (simp [upd, *]; done) | rfl), (by first | (simp [upd]; done) | (simp [upd, *]; done) | rfl), (by first | (simp [upd]; done) | (simp [upd, *]; done) | rfl), rfl, rfl⟩, ?_⟩
      rintro ⟨n, τ, lam, η'⟩ ⟨i, g0, hn, t0, t1, t5, hlam, hη⟩; simp only at hn t0 t1 t5 hlam hη; subst hn hlam hη
      subst g0
      rcases hv with rfl | rfl
      · repeat' (first | with_reducible refine iteI (fun _ => ?_) (fun _ => ?_) | ((first | unfold AOpsC | unfold AOpsD | skip); simp (maxSteps := 1000000) (disch := (first | omega | assumption | (simp only [List.length_append, List.length_cons, List.length_nil, List.length_set]; omega))) only [go_sem, AOpsD, t0, t1, t5]))
        exact hK'
      · repeat' (first | with_reducible refine iteI (fun _ => ?_) (fun _ => ?_) | ((first | unfold AOpsC | unfold AOpsD | skip); simp (maxSteps := 1000000) (disch := (first | omega | assumption | (simp only [List.length_append, List.length_cons, List.length_nil, List.length_set]; omega))) only [go_sem, AOpsD, t0, t1, t5]))
        exact hK'
    · have hbl := blt hb
      have hlb : lo ≤ b := hown b rfl
      refine AF_run noSp_ok D0 [] [.tmp 4] hm Tryz.func49 rfl (by decide) Tryz.ntmps49 rfl (by kernel_rfl) (Nat.le_of_ble_eq_true rfl) ?_; intro hlo
      repeat' (first | with_reducible refine iteI (fun _ => ?_) (fun _ => ?_) | ((first | unfold AOpsC | unfold AOpsD | skip); simp (maxSteps := 1000000) (disch := (first | omega | assumption | (simp only [List.length_append, List.length_cons, List.length_nil, List.length_set]; omega))) only [go_sem, AOpsD, hb]))
      refine ⟨invMkId η l (.sl b ver 0 l.length) b ver q, fun st => ctr l.length st 5, .inl ⟨0, Nat.zero_le _, rfl, rfl, by simp [upd], by simp [upd], rfl, by rw [mixed_0]; exact (set_same hb).symm⟩, ?_⟩
      rintro ⟨n, τ, lam, η'⟩ ⟨i, g0, hn, t0, t1, t5, hlam, hη⟩; simp only at hn t0 t1 t5 hlam hη; subst hn hlam hη
      have hml := mixed_len (mkId q) l g0
      have hsl : b < (η.set b ⟨ver, 69, 3, ((mixed (mkId q) l i).map enc3).flatten⟩).length := by simpa using hbl
      by_cases hlt : i < l.length
      · have hms : (mixed (mkId q) l i).set i (q + 3 * i, q + 3 * i + 1, q + 3 * i + 1 + 1) = mixed (mkId q) l (i + 1) := mixed_set (mkId q) l hlt
        have hmg := mixed_get (mkId q) l (0, 0, 0) hlt
        repeat' (first | with_reducible refine iteI (fun _ => ?_) (fun _ => ?_) | ((first | unfold AOpsC | unfold AOpsD | skip); simp (maxSteps := 1000000) (disch := (first | omega | assumption | (simp only [List.length_append, List.length_cons, List.length_nil, List.length_set]; omega))) only [go_sem, AOpsD, t0, t1, t5, List.set_set, List.length_set, hml, hmg, put30, put31, put32, setGet, getSet]))
        refine ⟨⟨i + 1, hlt, rfl, by simp [upd, t0], by simp [upd]; omega, by simp [upd], rfl, ?_⟩, by simp [ctr, upd, t5]; omega⟩
        try dsimp only
        rw [hms]
      · obtain rfl : i = l.length := by omega
        repeat' (first | with_reducible refine iteI (fun _ => ?_) (fun _ => ?_) | ((first | unfold AOpsC | unfold AOpsD | skip); simp (maxSteps := 1000000) (disch := (first | omega | assumption | (simp only [List.length_append, List.length_cons, List.length_nil, List.length_set]; omega))) only [go_sem, AOpsD, t0, t1, t5, List.set_set]))
        rw [mixed_end]
        exact hK _ (Touch.set rfl) (.inr ⟨b, ver, by simp, set_eq hbl⟩)
  · exact h.elim

def SHeldId : List AV → List Blk → (AV → List Blk → Prop) → Prop
  | [v, .int .i64 q], η, K => ∃ m : Nat, RowER 69 3 enc3 η v ((List.range m).map (mkId q)) ∧ m ≤ 1048576 ∧ 0 ≤ q ∧ q ≤ 1099511627776 ∧ K (.int .i64 (q + 3 * m)) η
  | _, _, _ => False
theorem mkDId {q : Int} {m i : Nat} (h : i < m) : ((List.range m).map (mkId q)).getD i (0, 0, 0) = mkId q i := by
  simp [List.getD_eq_getElem?_getD, h]

def invHdId (η : List Blk) (m : Nat) (v : AV) (q : Int) (st : St) : Prop := ∃ i : Nat, (i ≤ m) ∧ st.n = 40 ∧ st.τ 0 = v ∧ st.τ 1 = .int .i64 (q + 3 * i) ∧ st.τ 5 = .int .i64 i ∧ st.lam = lam0 ∧ st.η = η

/- laws.heldIdS -/
theorem f86_ok {lo : Nat} {args : List AV} {η : List Blk} {K : AV → List Blk → Prop} (h : SHeldId args η K) : AF Tryz.prog lo 86 args η K := by
  unfold SHeldId at h
  split at h
  · obtain ⟨m, hr, hl, q0, q1, hK⟩ := h
    rename_i v q
    have hn : noLoc1 v = true := hr.noLoc.1
    refine AF_run noSp_ok D0 [] [.tmp 4] hm Tryz.func86 rfl (by decide) Tryz.ntmps86 rfl (by kernel_rfl) (Nat.le_of_ble_eq_true rfl) ?_; intro hlo
    repeat' (first | with_reducible refine iteI (fun _ => ?_) (fun _ => ?_) | ((first | unfold AOpsC | unfold AOpsD | skip); simp (maxSteps := 1000000) (disch := (first | omega | assumption | (simp only [List.length_append, List.length_cons, List.length_nil, List.length_set]; omega))) only [go_sem, AOpsD, ↓hn]))
    refine ⟨invHdId η m v q, fun st => ctr m st 5, .inl ⟨0, Nat.zero_le _, rfl, (by first | (simp [upd]; done) | (simp [upd, *]; done) | rfl), (by first | (simp [upd]; done) | (simp [upd, *]; done) | rfl), (by first | (simp [upd]; done) | (simp [upd, *]; done) | rfl), rfl, rfl⟩, ?_⟩
    rintro ⟨n, τ, lam, η'⟩ ⟨i, g0, hn, t0, t1, t5, hlam, hη⟩; simp only at hn t0 t1 t5 hlam hη; subst hn hlam hη
    rcases hr with ⟨hv, hm0⟩ | ⟨b, ver, rfl, hb⟩
    · obtain rfl : m = 0 := by simpa using hm0
      obtain rfl : i = 0 := by omega
      rcases hv with rfl | rfl
      · repeat' (first | with_reducible refine iteI (fun _ => ?_) (fun _ => ?_) | ((first | unfold AOpsC | unfold AOpsD | skip); simp (maxSteps := 1000000) (disch := (first | omega | assumption | (simp only [List.length_append, List.length_cons, List.length_nil, List.length_set]; omega))) only [go_sem, AOpsD, t0, t1, t5]))
        exact KI hK (by simp)
      · repeat' (first | with_reducible refine iteI (fun _ => ?_) (fun _ => ?_) | ((first | unfold AOpsC | unfold AOpsD | skip); simp (maxSteps := 1000000) (disch := (first | omega | assumption | (simp only [List.length_append, List.length_cons, List.length_nil, List.length_set]; omega))) only [go_sem, AOpsD, t0, t1, t5]))
        exact KI hK (by simp)
    · simp only [List.length_map, List.length_range] at t0
      have hlm : ((List.range m).map (mkId q)).length = m := by simp
      by_cases hlt : i < m
      · have hmd := mkDId (q := q) hlt
        unfold mkId at hmd hb hlm
        repeat' (first | with_reducible refine iteI (fun _ => ?_) (fun _ => ?_) | ((first | unfold AOpsC | unfold AOpsD | skip); simp (maxSteps := 1000000) (disch := (first | omega | assumption | (simp only [List.length_append, List.length_cons, List.length_nil, List.length_set]; omega))) only [go_sem, AOpsD, hb, t0, t1, t5, hmd, hlm, List.length_range]))
        refine ⟨⟨i + 1, hlt, rfl, by simp [upd, t0], by simp [upd]; omega, by simp [upd], rfl, rfl⟩, by simp [ctr, upd, t5]; omega⟩
      · obtain rfl : i = m := by omega
        repeat' (first | with_reducible refine iteI (fun _ => ?_) (fun _ => ?_) | ((first | unfold AOpsC | unfold AOpsD | skip); simp (maxSteps := 1000000) (disch := (first | omega | assumption | (simp only [List.length_append, List.length_cons, List.length_nil, List.length_set]; omega))) only [go_sem, AOpsD, hb, t0, t1, t5, hlm, List.length_range]))
        exact hK
  · exact h.elim

end Go.Proofs.YtaalpmbopkbdiaaGreat
