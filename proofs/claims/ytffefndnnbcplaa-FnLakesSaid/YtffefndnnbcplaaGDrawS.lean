/- What functions of the program compute, said in the abstract logic; no conditions. -/
import Derived.Test.YtffefndnnbcplaaGBalw
import Derived.Test.YtffefndnnbcplaaGResS
import Derived.Test.YtffefndnnbcplaaGOwn

namespace Go.Proofs.Ytffefndnnbcplaa
open Go
set_option linter.unusedSimpArgs false
set_option linter.unusedVariables false
set_option maxRecDepth 100000
set_option maxHeartbeats 8000000
attribute [local go_sem] st0 AC thenA andC locLoadB KsSW_same KsSW_grow oldLoadB KsOS_same KsOS_grow pv ev put upd dstOk cv cvc binI setB Value.oneCell' EndA resA resA1 List.mapM_cons List.mapM_nil Option.pure_def Option.bind_eq_bind noLocV noLoc1 noLoc noLocs plainV cellsA newVarA putCells condA lam0 inBlockA cur lenA rowA avoidsB avoidB clearB Array.toList_append Op.operands Call.operands newSlot Nat.zero_add Nat.add_zero Nat.succ_ne_self Nat.lt_add_one Nat.zero_lt_succ true_and and_true true_or or_true false_or or_false and_self true_implies forall_const Bool.false_eq_true Bool.true_eq_false false_implies implies_true imp_self ne_eq not_false_eq_true not_true_eq_false false_and and_false List.getElem?_toArray List.getElem?_cons_succ List.getElem?_cons_zero Option.bind_some Option.map_some Bool.not_true Bool.not_false List.getD_cons_zero List.getD_cons_succ Option.some.injEq exists_eq_left' AV.bool.injEq List.map_cons List.map_nil List.all_cons List.all_nil Bool.and_self Bool.and_true Bool.true_and List.append_nil List.cons_append List.nil_append List.length_cons List.length_nil List.drop_zero List.take_zero List.drop_succ_cons List.take_succ_cons List.take_nil List.drop_nil List.not_mem_nil List.mem_cons List.contains_nil List.contains_cons Bool.or_self Bool.or_true Bool.true_or Bool.false_or Bool.or_false Bool.and_false Bool.false_and KsS_same KsS_grow skipV KsS_ext KsSW_ext KsOS_ext rep1 rep2 rep3 rep4 rep5 List.flatten_cons List.flatten_nil partsA isPtr fillA List.size_toArray ltT ltF leT leF ltTn ltFn leTn leFn eqTi eqFi wrapId toNat1 intGet boolGet memD app_get app_last app_lst app_set app_setL app_setF set_ne set_eq gt_iff_lt ge_iff_le decide_eq_true_eq len2 len3 get20 get21 drop2 put2 get30 get31 get32 drop3 put3 putI pairEta bneTi bneFi beqTi beqFi bne_eq_false_iff_eq beq_eq_false_iff_ne beq_iff_eq bne_iff_ne Int.toNat_natCast Nat.mul_one List.length_map Bool.not_eq_true Bool.not_eq_false Bool.decide_eq_true decide_true decide_false Bool.not_eq_true' Bool.not_eq_false' decide_eq_false_iff_not eq_self Decidable.not_not

theorem CurAt.ksw {lo : Nat} {η : List Blk} {c : Nat} {v : AV} (h : CurAt lo η c v) (i k : Int) (n n' : Nat) (τ τ' : Nat → AV) (lam : Nat → LB) : KsSW ⟨n, τ, lam, η⟩ ⟨n', τ', lam, η.set c (curB v i k)⟩ = True := by
  obtain ⟨_, _, _, _, _, _, _, _, hb⟩ := h
  exact KsSW_set hb rfl rfl
theorem CurAt.ne {lo : Nat} {η : List Blk} {c b : Nat} {v : AV} (h : CurAt lo η c v) {B : Blk} (hb : η[b]? = some B) (ht : B.ty ≠ 125) : c ≠ b := by
  rintro rfl
  obtain ⟨_, _, _, _, _, _, _, _, h'⟩ := h
  rw [hb] at h'
  cases h'
  exact ht rfl
/-- A slice of whole numbers under way. -/
def SlI (nb : Nat) (η : List Blk) (x : AV) (l : List Int) : Prop := (x = .nils ∧ l = []) ∨ ∃ b w, x = .sl b w 0 l.length ∧ nb ≤ b ∧ η[b]? = some ⟨w, 3, 1, l.map (.int .i64)⟩
theorem SlI.cur {lo nb c : Nat} {η : List Blk} {x v : AV} {l : List Int} (h : SlI nb η x l) (hc : CurAt lo η c v) (i k : Int) : SlI nb (η.set c (curB v i k)) x l := by
  rcases h with h | ⟨b, w, rfl, h1, h2⟩
  · exact .inl h
  · exact .inr ⟨b, w, rfl, h1, by rw [set_ne (hc.ne h2 (by simp))]; exact h2⟩
theorem New4.cur {lo n c : Nat} {η : List Blk} {v : AV} {b0 b1 b2 b3 v0 v1 v2 v3 : Nat} {l : List Id3} {ms ts bs : List Int} (h : New4 n η b0 b1 b2 b3 v0 v1 v2 v3 l ms ts bs) (hc : CurAt lo η c v) (i k : Int) : New4 n (η.set c (curB v i k)) b0 b1 b2 b3 v0 v1 v2 v3 l ms ts bs :=
  ⟨setBlk h.g0 (hc.ne h.g0 (by simp)), setBlk h.g1 (hc.ne h.g1 (by simp)), setBlk h.g2 (hc.ne h.g2 (by simp)), setBlk h.g3 (hc.ne h.g3 (by simp)), h.n0, h.n1, h.n2, h.n3, h.d01, h.d02, h.d03, h.d12, h.d13, h.d23⟩
theorem New4.app {n : Nat} {η : List Blk} {b0 b1 b2 b3 v0 v1 v2 v3 : Nat} {l : List Id3} {ms ts bs : List Int} (h : New4 n η b0 b1 b2 b3 v0 v1 v2 v3 l ms ts bs) (B : Blk) : New4 n (η ++ [B]) b0 b1 b2 b3 v0 v1 v2 v3 l ms ts bs := h.ext ⟨_, rfl⟩
theorem New4.psh1 {n : Nat} {η : List Blk} {b0 b1 b2 b3 v0 v1 v2 v3 : Nat} {l : List Id3} {ms ts bs : List Int} (h : New4 n η b0 b1 b2 b3 v0 v1 v2 v3 l ms ts bs) (ms' : List Int) (w : Nat) : New4 n (η.set b1 ⟨w, 3, 1, ms'.map (.int .i64)⟩) b0 b1 b2 b3 v0 w v2 v3 l ms' ts bs :=
  ⟨setBlk h.g0 h.d01.symm, set_eq (blt h.g1), setBlk h.g2 h.d12, setBlk h.g3 h.d13, h.n0, h.n1, h.n2, h.n3, h.d01, h.d02, h.d03, h.d12, h.d13, h.d23⟩
theorem New4.psh2 {n : Nat} {η : List Blk} {b0 b1 b2 b3 v0 v1 v2 v3 : Nat} {l : List Id3} {ms ts bs : List Int} (h : New4 n η b0 b1 b2 b3 v0 v1 v2 v3 l ms ts bs) (ts' : List Int) (w : Nat) : New4 n (η.set b2 ⟨w, 3, 1, ts'.map (.int .i64)⟩) b0 b1 b2 b3 v0 v1 w v3 l ms ts' bs :=
  ⟨setBlk h.g0 h.d02.symm, setBlk h.g1 h.d12.symm, set_eq (blt h.g2), setBlk h.g3 h.d23, h.n0, h.n1, h.n2, h.n3, h.d01, h.d02, h.d03, h.d12, h.d13, h.d23⟩
theorem New4.psh1e {n : Nat} {η : List Blk} {b0 b1 b2 b3 v0 v1 v2 v3 : Nat} {l : List Id3} {ms ts bs : List Int} (h : New4 n η b0 b1 b2 b3 v0 v1 v2 v3 l ms ts bs) (ms' : List Int) (w : Nat) {L : List AV} (hL : L = ms'.map (.int .i64)) : New4 n (η.set b1 ⟨w, 3, 1, L⟩) b0 b1 b2 b3 v0 w v2 v3 l ms' ts bs := by
  subst hL
  exact h.psh1 ms' w
theorem New4.psh2e {n : Nat} {η : List Blk} {b0 b1 b2 b3 v0 v1 v2 v3 : Nat} {l : List Id3} {ms ts bs : List Int} (h : New4 n η b0 b1 b2 b3 v0 v1 v2 v3 l ms ts bs) (ts' : List Int) (w : Nat) {L : List AV} (hL : L = ts'.map (.int .i64)) : New4 n (η.set b2 ⟨w, 3, 1, L⟩) b0 b1 b2 b3 v0 v1 w v3 l ms ts' bs := by
  subst hL
  exact h.psh2 ts' w
/-- Cells drawn so far. -/
def celP (ms ts : List Int) : Prop := ts.length = ms.length ∧ ∀ i, i < ms.length → 0 ≤ ms.getD i 0 ∧ ms.getD i 0 ≤ 20000 ∧ 0 ≤ ts.getD i 0 ∧ ts.getD i 0 ≤ 200 * ms.getD i 0
theorem celP.cells {ms ts : List Int} (h : celP ms ts) : cellsB ms ts = true := by
  unfold cellsB
  rw [List.all_eq_true]
  intro i hi
  have := h.2 i (List.mem_range.1 hi)
  simp only [cellB, inB, Bool.and_eq_true, decide_eq_true_eq]
  omega
theorem sum_le {l : List Int} {X : Int} (h : ∀ i, i < l.length → l.getD i 0 ≤ X) : l.sum ≤ X * l.length := by
  induction l with
  | nil => simp
  | cons x l ih =>
    have h1 := h 0 (by simp)
    have h2 := ih fun i hi => by have := h (i + 1) (by simp; omega); simpa using this
    simp only [List.getD_cons_zero] at h1
    simp only [List.sum_cons, List.length_cons, Int.natCast_add, Int.mul_add]
    omega
/-- The cells' slices under way. -/
def CelH (nb : Nat) (H : List Blk) (b0 w0 : Nat) (l : List Id3) (b3 w3 : Nat) (bs ms ts : List Int) (x1 x2 : AV) : Prop :=
  (ms = [] ∧ ts = [] ∧ x1 = .nils ∧ x2 = .nils ∧ H[b0]? = some ⟨w0, 45, 3, (l.map enc3).flatten⟩ ∧ H[b3]? = some ⟨w3, 3, 1, bs.map (.int .i64)⟩) ∨ ∃ b1 w1 b2 w2, x1 = .sl b1 w1 0 ms.length ∧ x2 = .sl b2 w2 0 ts.length ∧ New4 nb H b0 b1 b2 b3 w0 w1 w2 w3 l ms ts bs
theorem CelH.cur {lo nb : Nat} {H : List Blk} {b0 w0 : Nat} {l : List Id3} {b3 w3 : Nat} {bs ms ts : List Int} {x1 x2 v : AV} {c : Nat} (h : CelH nb H b0 w0 l b3 w3 bs ms ts x1 x2) (hc : CurAt lo H c v) (i k : Int) : CelH nb (H.set c (curB v i k)) b0 w0 l b3 w3 bs ms ts x1 x2 := by
  rcases h with ⟨h1, h2, h3, h4, h5, h6⟩ | ⟨b1, w1, b2, w2, h1, h2, h3⟩
  · exact .inl ⟨h1, h2, h3, h4, setBlk h5 (hc.ne h5 (by simp)), setBlk h6 (hc.ne h6 (by simp))⟩
  · exact .inr ⟨b1, w1, b2, w2, h1, h2, h3.cur hc i k⟩
/-- A drawn state: valid, small. -/
def drawnB (r : Int) (l : List Id3) (ms ts bs : List Int) : Prop := okB r l ms ts bs = true ∧ r ≤ 3 ∧ celP ms ts ∧ ms.sum ≤ 1000000 ∧ ∀ x ∈ bs, 0 ≤ x ∧ x ≤ 15000
theorem drawn_of {r : Int} {l : List Id3} {ms ts bs : List Int} (h1 : balB r l = true) (h2 : r ≤ 3) (h3 : celP ms ts) (h4 : ms.length = l.length) (h5 : (bs.length : Int) = r) (h6 : ∀ x ∈ bs, 0 ≤ x ∧ x ≤ 15000) : drawnB r l ms ts bs := by
  have hm : meshB r l = true := by
    simp only [balB, Bool.and_eq_true] at h1
    exact h1.1
  have hl := mesh_len hm
  have hs := sum_le (l := ms) (X := 20000) fun i hi => (h3.2 i hi).2.1
  have hs' : ms.sum ≤ 1000000 := by omega
  refine ⟨?_, h2, h3, hs', h6⟩
  have hb : bs.all bedB = true := by
    rw [List.all_eq_true]
    intro x hx
    have := h6 x hx
    simp [bedB, inB]; omega
  simp only [okB, celB, Bool.and_eq_true, decide_eq_true_eq]
  exact ⟨h1, h4, by rw [h3.1, h4], h5, hb, h3.cells, by omega⟩
/- spec.l07State -/
/- spec.DrawState -/
end Go.Proofs.Ytffefndnnbcplaa
