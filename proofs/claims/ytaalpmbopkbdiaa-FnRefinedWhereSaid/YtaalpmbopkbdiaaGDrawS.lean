/- What functions of the program compute, said in the abstract logic; no conditions. -/
import Derived.Test.YtaalpmbopkbdiaaGBalw
import Derived.Test.YtaalpmbopkbdiaaGResS
import Derived.Test.YtaalpmbopkbdiaaGOwn

namespace Go.Proofs.Ytaalpmbopkbdiaa
open Go
set_option linter.unusedSimpArgs false
set_option linter.unusedVariables false
set_option maxRecDepth 100000
set_option maxHeartbeats 8000000
attribute [local go_sem] st0 AC thenA andC locLoadB KsSW_same KsSW_grow oldLoadB noBlkB KsSL_same KsOS_same KsOS_grow pv ev put upd dstOk cv cvc binI setB Value.oneCell' EndA resA resA1 List.mapM_cons List.mapM_nil Option.pure_def Option.bind_eq_bind noLocV noLoc1 noLoc noLocs plainV cellsA newVarA putCells condA lam0 inBlockA cur lenA rowA writeA dstA appendC appendZ mapPut mapGet avoidsB avoidB clearB Array.toList_append Op.operands Call.operands newSlot Nat.zero_add Nat.add_zero Nat.succ_ne_self Nat.lt_add_one Nat.zero_lt_succ true_and and_true true_or or_true false_or or_false and_self true_implies forall_const Bool.false_eq_true Bool.true_eq_false false_implies implies_true imp_self ne_eq not_false_eq_true not_true_eq_false false_and and_false List.getElem?_toArray List.getElem?_cons_succ List.getElem?_cons_zero Option.bind_some Option.map_some Bool.not_true Bool.not_false List.getD_cons_zero List.getD_cons_succ Option.some.injEq exists_eq_left' AV.bool.injEq List.map_cons List.map_nil List.all_cons List.all_nil Bool.and_self Bool.and_true Bool.true_and List.append_nil List.cons_append List.nil_append List.length_cons List.length_nil List.drop_zero List.take_zero List.drop_succ_cons List.take_succ_cons List.take_nil List.drop_nil List.not_mem_nil List.mem_cons List.contains_nil List.contains_cons Bool.or_self Bool.or_true Bool.true_or Bool.false_or Bool.or_false Bool.and_false Bool.false_and KsS_same KsS_grow skipV KsS_ext KsSW_ext KsOS_ext rep1 rep2 rep3 rep4 rep5 List.flatten_cons List.flatten_nil partsA isPtr fillA List.size_toArray ltT ltF leT leF ltTn ltFn leTn leFn eqTi eqFi wrapId toNat1 intGet boolGet memD app_get app_last app_lst app_set app_setL app_setF set_ne set_eq gt_iff_lt ge_iff_le decide_eq_true_eq len2 len3 get20 get21 drop2 put2 get30 get31 get32 drop3 put3 putI pairEta bneTi bneFi beqTi beqFi bne_eq_false_iff_eq beq_eq_false_iff_ne beq_iff_eq bne_iff_ne Int.toNat_natCast Nat.mul_one List.length_map Bool.not_eq_true Bool.not_eq_false Bool.decide_eq_true decide_true decide_false Bool.not_eq_true' Bool.not_eq_false' decide_eq_false_iff_not eq_self Decidable.not_not
attribute [local go_sem ↓] skipC exitC retC seqC blockC condC regC drawC drawStep AOpC AOpF AOpE AEff contE_at contC_at keepC_at keepW_at keepO_at keepL_at map_parts
attribute [local go_sem] reduceCtorEq Nat.reduceLT Nat.reduceEqDiff Nat.reduceAdd Nat.reduceMul Nat.reduceLeDiff Nat.reduceSub Nat.reduceBEq Nat.reduceBNe Nat.reduceBneDiff Nat.reduceBeqDiff
attribute [local go_sem ↓] reduceIte
attribute [local go_sem] ag_24 ag_26 ag_27 ag_29 ag_3 ag_63 by_24 by_26 by_27 by_29 by_3 by_63 el_24 el_27 en_3 fi_26_0 fi_26_1 fi_29_1 fi_29_2 fi_29_3 in_3 nf_26 nf_29 nf_63 pl_26 pl_29 pl_63 ps_26 ps_29 ps_63 sz_24 sz_26 sz_27 sz_29 sz_3 sz_63 ze_24 ze_26 ze_27 ze_29 ze_3 ze_63

theorem CurAt.ksw {lo : Nat} {η : List Blk} {c : Nat} {v : AV} (h : CurAt lo η c v) (i k : Int) (n n' : Nat) (τ τ' : Nat → AV) (lam : Nat → LB) : KsSW ⟨n, τ, lam, η⟩ ⟨n', τ', lam, η.set c (curB v i k)⟩ = True := by
  obtain ⟨_, _, _, _, _, _, _, _, hb⟩ := h
  exact KsSW_set hb rfl rfl
theorem CurAt.ne {lo : Nat} {η : List Blk} {c b : Nat} {v : AV} (h : CurAt lo η c v) {B : Blk} (hb : η[b]? = some B) (ht : B.ty ≠ 105) : c ≠ b := by
  rintro rfl
  obtain ⟨_, _, _, _, _, _, _, _, h'⟩ := h
  rw [hb] at h'
  cases h'
  exact ht rfl
/-- A slice of whole numbers under way. -/
def SlI (nb : Nat) (η : List Blk) (x : AV) (l : List Int) : Prop := (x = .nils ∧ l = []) ∨ ∃ b w, x = .sl b w 0 l.length ∧ nb ≤ b ∧ η[b]? = some ⟨w, 3, 1, l.map (.int .i64)⟩
theorem SlI.cur {lo nb c : Nat} {η : List Blk} {x v : AV} {l : List Int} (h : SlI nb η x l) (hc : CurAt lo η c v) (i k : Int) : SlI nb (η.set c (curB v i k)) x l := by
  rcases h with h | ⟨b, w, rfl, h1, h2⟩
  · exact .inl h
  · exact .inr ⟨b, w, rfl, h1, by rw [set_ne (hc.ne h2 (by simp))]; exact h2⟩
theorem New4.cur {lo n c : Nat} {η : List Blk} {v : AV} {b0 b1 b2 b3 v0 v1 v2 v3 : Nat} {l : List Id3} {ms ts bs : List Int} (h : New4 n η b0 b1 b2 b3 v0 v1 v2 v3 l ms ts bs) (hc : CurAt lo η c v) (i k : Int) : New4 n (η.set c (curB v i k)) b0 b1 b2 b3 v0 v1 v2 v3 l ms ts bs :=
  ⟨setBlk h.g0 (hc.ne h.g0 (by simp)), setBlk h.g1 (hc.ne h.g1 (by simp)), setBlk h.g2 (hc.ne h.g2 (by simp)), setBlk h.g3 (hc.ne h.g3 (by simp)), h.n0, h.n1, h.n2, h.n3, h.d01, h.d02, h.d03, h.d12, h.d13, h.d23⟩
theorem New4.app {n : Nat} {η : List Blk} {b0 b1 b2 b3 v0 v1 v2 v3 : Nat} {l : List Id3} {ms ts bs : List Int} (h : New4 n η b0 b1 b2 b3 v0 v1 v2 v3 l ms ts bs) (B : Blk) : New4 n (η ++ [B]) b0 b1 b2 b3 v0 v1 v2 v3 l ms ts bs := h.ext ⟨_, rfl⟩
theorem New4.psh1 {n : Nat} {η : List Blk} {b0 b1 b2 b3 v0 v1 v2 v3 : Nat} {l : List Id3} {ms ts bs : List Int} (h : New4 n η b0 b1 b2 b3 v0 v1 v2 v3 l ms ts bs) (ms' : List Int) (w : Nat) : New4 n (η.set b1 ⟨w, 3, 1, ms'.map (.int .i64)⟩) b0 b1 b2 b3 v0 w v2 v3 l ms' ts bs :=
  ⟨setBlk h.g0 h.d01.symm, set_eq (blt h.g1), setBlk h.g2 h.d12, setBlk h.g3 h.d13, h.n0, h.n1, h.n2, h.n3, h.d01, h.d02, h.d03, h.d12, h.d13, h.d23⟩
theorem New4.psh2 {n : Nat} {η : List Blk} {b0 b1 b2 b3 v0 v1 v2 v3 : Nat} {l : List Id3} {ms ts bs : List Int} (h : New4 n η b0 b1 b2 b3 v0 v1 v2 v3 l ms ts bs) (ts' : List Int) (w : Nat) : New4 n (η.set b2 ⟨w, 3, 1, ts'.map (.int .i64)⟩) b0 b1 b2 b3 v0 v1 w v3 l ms ts' bs :=
  ⟨setBlk h.g0 h.d02.symm, setBlk h.g1 h.d12.symm, set_eq (blt h.g2), setBlk h.g3 h.d23, h.n0, h.n1, h.n2, h.n3, h.d01, h.d02, h.d03, h.d12, h.d13, h.d23⟩
theorem New4.psh1e {n : Nat} {η : List Blk} {b0 b1 b2 b3 v0 v1 v2 v3 : Nat} {l : List Id3} {ms ts bs : List Int} (h : New4 n η b0 b1 b2 b3 v0 v1 v2 v3 l ms ts bs) (ms' : List Int) (w : Nat) {L : List AV} (hL : L = ms'.map (.int .i64)) : New4 n (η.set b1 ⟨w, 3, 1, L⟩) b0 b1 b2 b3 v0 w v2 v3 l ms' ts bs := by
  subst hL
  exact h.psh1 ms' w
theorem New4.psh2e {n : Nat} {η : List Blk} {b0 b1 b2 b3 v0 v1 v2 v3 : Nat} {l : List Id3} {ms ts bs : List Int} (h : New4 n η b0 b1 b2 b3 v0 v1 v2 v3 l ms ts bs) (ts' : List Int) (w : Nat) {L : List AV} (hL : L = ts'.map (.int .i64)) : New4 n (η.set b2 ⟨w, 3, 1, L⟩) b0 b1 b2 b3 v0 v1 w v3 l ms ts' bs := by
  subst hL
  exact h.psh2 ts' w
/-- Cells drawn so far. -/
def celP (ms ts : List Int) : Prop := ts.length = ms.length ∧ ∀ i, i < ms.length → 0 ≤ ms.getD i 0 ∧ ms.getD i 0 ≤ 20000 ∧ 0 ≤ ts.getD i 0 ∧ ts.getD i 0 ≤ 200 * ms.getD i 0
theorem getD_snoc (l : List Int) (x : Int) (i : Nat) : (l ++ [x]).getD i 0 = if i < l.length then l.getD i 0 else if i = l.length then x else 0 := by
  simp only [List.getD_eq_getElem?_getD]
  by_cases h : i < l.length
  · rw [if_pos h, List.getElem?_append_left h]
  · rw [if_neg h]
    by_cases h2 : i = l.length
    · subst h2; simp
    · rw [if_neg h2, List.getElem?_eq_none (by simp; omega)]; rfl
theorem celP.snoc {ms ts : List Int} (h : celP ms ts) {x t : Int} (h1 : 0 ≤ x ∧ x ≤ 20000) (h2 : 0 ≤ t ∧ t ≤ 200 * x) : celP (ms ++ [x]) (ts ++ [t]) := by
  obtain ⟨k1, k2⟩ := h
  refine ⟨by simp [k1], fun i hi => ?_⟩
  rw [getD_snoc, getD_snoc, k1]
  by_cases hlt : i < ms.length
  · simp only [if_pos hlt]; exact k2 i hlt
  · have : i = ms.length := by simp at hi; omega
    simp only [if_neg hlt, if_pos this]; omega
theorem celP.cells {ms ts : List Int} (h : celP ms ts) : cellsB ms ts = true := by
  unfold cellsB
  rw [List.all_eq_true]
  intro i hi
  have := h.2 i (List.mem_range.1 hi)
  simp only [cellB, inB, Bool.and_eq_true, decide_eq_true_eq]
  omega
theorem sum_le {l : List Int} {X : Int} (h : ∀ i, i < l.length → l.getD i 0 ≤ X) : l.sum ≤ X * l.length := by
  induction l with
  | nil => simp
  | cons x l ih =>
    have h1 := h 0 (by simp)
    have h2 := ih fun i hi => by have := h (i + 1) (by simp; omega); simpa using this
    simp only [List.getD_cons_zero] at h1
    simp only [List.sum_cons, List.length_cons, Int.natCast_add, Int.mul_add]
    omega
/-- The cells' slices under way. -/
def CelH (nb : Nat) (H : List Blk) (b0 w0 : Nat) (l : List Id3) (b3 w3 : Nat) (bs ms ts : List Int) (x1 x2 : AV) : Prop :=
  (ms = [] ∧ ts = [] ∧ x1 = .nils ∧ x2 = .nils ∧ H[b0]? = some ⟨w0, 63, 3, (l.map enc3).flatten⟩ ∧ H[b3]? = some ⟨w3, 3, 1, bs.map (.int .i64)⟩) ∨ ∃ b1 w1 b2 w2, x1 = .sl b1 w1 0 ms.length ∧ x2 = .sl b2 w2 0 ts.length ∧ New4 nb H b0 b1 b2 b3 w0 w1 w2 w3 l ms ts bs
theorem CelH.cur {lo nb : Nat} {H : List Blk} {b0 w0 : Nat} {l : List Id3} {b3 w3 : Nat} {bs ms ts : List Int} {x1 x2 v : AV} {c : Nat} (h : CelH nb H b0 w0 l b3 w3 bs ms ts x1 x2) (hc : CurAt lo H c v) (i k : Int) : CelH nb (H.set c (curB v i k)) b0 w0 l b3 w3 bs ms ts x1 x2 := by
  rcases h with ⟨h1, h2, h3, h4, h5, h6⟩ | ⟨b1, w1, b2, w2, h1, h2, h3⟩
  · exact .inl ⟨h1, h2, h3, h4, setBlk h5 (hc.ne h5 (by simp)), setBlk h6 (hc.ne h6 (by simp))⟩
  · exact .inr ⟨b1, w1, b2, w2, h1, h2, h3.cur hc i k⟩
theorem CelH.leaves {nb : Nat} {H : List Blk} {b0 w0 : Nat} {l : List Id3} {b3 w3 : Nat} {bs ms ts : List Int} {x1 x2 : AV} (h : CelH nb H b0 w0 l b3 w3 bs ms ts x1 x2) : H[b0]? = some ⟨w0, 63, 3, (l.map enc3).flatten⟩ := by
  rcases h with ⟨h1, h2, h3, h4, h5, h6⟩ | ⟨b1, w1, b2, w2, h1, h2, h3⟩
  · exact h5
  · exact h3.g0
theorem mul200 {X y z : Int} (h : 0 ≤ X ∧ X ≤ 20000) (hy0 : 0 ≤ y) (hy1 : y < 200) (hz0 : 0 ≤ z) (hz1 : z < X + 1) : (0 ≤ X * y ∧ X * y ≤ 4000000) ∧ 0 ≤ X * y + z ∧ X * y + z ≤ 200 * X := by
  have a1 : 0 ≤ X * y := Int.mul_nonneg h.1 hy0
  have a2 : X * y ≤ X * 199 := Int.mul_le_mul_of_nonneg_left (by omega) h.1
  omega
/-- A drawn state: valid, small. -/
def drawnB (r : Int) (l : List Id3) (ms ts bs : List Int) : Prop := okB r l ms ts bs = true ∧ r ≤ 3 ∧ celP ms ts ∧ ms.sum ≤ 1000000 ∧ ∀ x ∈ bs, 0 ≤ x ∧ x ≤ 15000
theorem drawn_of {r : Int} {l : List Id3} {ms ts bs : List Int} (h1 : balB r l = true) (h2 : r ≤ 3) (h3 : celP ms ts) (h4 : ms.length = l.length) (h5 : (bs.length : Int) = r) (h6 : ∀ x ∈ bs, 0 ≤ x ∧ x ≤ 15000) : drawnB r l ms ts bs := by
  have hm : meshB r l = true := by
    simp only [balB, Bool.and_eq_true] at h1
    exact h1.1
  have hl := mesh_len hm
  have hs := sum_le (l := ms) (X := 20000) fun i hi => (h3.2 i hi).2.1
  have hs' : ms.sum ≤ 1000000 := by omega
  refine ⟨?_, h2, h3, hs', h6⟩
  have hb : bs.all bedB = true := by
    rw [List.all_eq_true]
    intro x hx
    have := h6 x hx
    simp [bedB, inB]; omega
  simp only [okB, celB, Bool.and_eq_true, decide_eq_true_eq]
  exact ⟨h1, h4, by rw [h3.1, h4], h5, hb, h3.cells, by omega⟩
def SStD (lo : Nat) : List AV → List Blk → (AV → List Blk → Prop) → Prop
  | [.ptr c 0 0], η, K => ∃ (nb : Nat) (v : AV), lo ≤ nb ∧ nb ≤ c ∧ CurAt lo η c v ∧ ∀ H (r : Int) (l : List Id3) (ms ts bs : List Int) (b0 b1 b2 b3 v0 v1 v2 v3 : Nat), drawnB r l ms ts bs → CurAt lo H c v → New4 nb H b0 b1 b2 b3 v0 v1 v2 v3 l ms ts bs → FrN nb η H →
      K (.agg [.int .i64 r, .sl b0 v0 0 l.length, .sl b1 v1 0 ms.length, .sl b2 v2 0 ts.length, .sl b3 v3 0 bs.length]) H
  | _, _, _ => False
def SDrawS (lo : Nat) : List AV → List Blk → (AV → List Blk → Prop) → Prop
  | [v], η, K => ∃ g, Row8 5 η v g ∧ g.length ≤ maxLen ∧ ∀ H (r : Int) (l : List Id3) (ms ts bs : List Int) (b0 b1 b2 b3 v0 v1 v2 v3 : Nat), drawnB r l ms ts bs → New4 η.length H b0 b1 b2 b3 v0 v1 v2 v3 l ms ts bs → Ext η H →
      K (.agg [.int .i64 r, .sl b0 v0 0 l.length, .sl b1 v1 0 ms.length, .sl b2 v2 0 ts.length, .sl b3 v3 0 bs.length]) H
  | _, _, _ => False

def invSb (lo nb : Nat) (η : List Blk) (c : Nat) (v : AV) (r : Int) (l : List Id3) (b0 w0 : Nat) (st : St) : Prop := ∃ i : Nat, ∃ H : List Blk, ∃ bs : List Int, ∃ x : AV, (i ≤ r.toNat) ∧ (bs.length = i ∧ ∀ x ∈ bs, 0 ≤ x ∧ x ≤ 15000) ∧ (CurAt lo H c v) ∧ (H[b0]? = some ⟨w0, 63, 3, (l.map enc3).flatten⟩) ∧ (SlI nb H x bs) ∧ (FrN nb η H) ∧ st.n = 67 ∧ st.τ 0 = .ptr c 0 0 ∧ st.τ 2 = .loc 2 1 0 ∧ st.τ 3 = .loc 3 1 0 ∧ st.τ 4 = .loc 4 1 0 ∧ st.τ 5 = .int .i64 i ∧ st.lam 2 = ⟨1, [.int .i64 0, .nils, .nils, .nils, .nils]⟩ ∧ st.lam 3 = ⟨1, [.int .i64 r, .sl b0 w0 0 l.length]⟩ ∧ st.lam 4 = ⟨1, [.int .i64 r, .sl b0 w0 0 l.length, .nils, .nils, x]⟩ ∧ st.η = H

def invSc (lo nb : Nat) (η : List Blk) (c : Nat) (v : AV) (r : Int) (l : List Id3) (b0 w0 b3 w3 : Nat) (bs : List Int) (d : Int) (st : St) : Prop := ∃ i : Nat, ∃ H : List Blk, ∃ ms : List Int, ∃ ts : List Int, ∃ x1 : AV, ∃ x2 : AV, (i ≤ l.length) ∧ (celP ms ts ∧ ms.length = i) ∧ (CurAt lo H c v) ∧ (CelH nb H b0 w0 l b3 w3 bs ms ts x1 x2) ∧ (FrN nb η H) ∧ st.n = 67 ∧ st.τ 0 = .ptr c 0 0 ∧ st.τ 2 = .loc 2 1 0 ∧ st.τ 3 = .loc 3 1 0 ∧ st.τ 4 = .loc 4 1 0 ∧ st.τ 6 = .int .i64 d ∧ st.τ 7 = .int .i64 i ∧ st.lam 2 = ⟨1, [.int .i64 0, .nils, .nils, .nils, .nils]⟩ ∧ st.lam 3 = ⟨1, [.int .i64 r, .sl b0 w0 0 l.length]⟩ ∧ st.lam 4 = ⟨1, [.int .i64 r, .sl b0 w0 0 l.length, x1, x2, .sl b3 w3 0 bs.length]⟩ ∧ st.η = H

/- spec.l07State -/
def Sp39 (lo : Nat) : Spec := fun g args η K => match g with | 41 => SBelow lo args η K | 83 => SRootB lo args η K | 84 => SOnce lo args η K | _ => False
theorem Sp39_ok {lo : Nat} : Sound Try.prog lo (Sp39 lo) := by
  intro g args η K h
  unfold Sp39 at h
  split at h
  · exact .inl (f41_ok h)
  · exact .inl (f83_ok h)
  · exact .inl (f84_ok h)
  · exact h.elim
def Dr39 : Draws := fun id => match id with | 6 => ([0, 1, 0, 4, 0, 28, 60, 124, 255, 511, 1023], [7, 1003, 1005], [(1001, 0)], (.one 0 (.one 1 (.one 2 (.one 4 (.one 3 (.one 5 (.one 6 (.one 7 (.one 8 (.one 9 (.one 10 .nil)))))))))))) | 15 => ([0, 1, 0, 0, 8, 28, 0, 0, 128, 472, 1020, 2044, 4095, 8191, 16383], [11, 1004, 1009], [(1001, 0)], (.one 0 (.one 1 (.one 2 (.one 3 (.one 6 (.one 7 (.one 8 (.one 4 (.one 5 (.one 9 (.one 10 (.one 11 (.one 12 (.one 13 (.one 14 .nil)))))))))))))))) | _ => ([], [], [], .nil)
theorem f39_ok {lo : Nat} {args : List AV} {η : List Blk} {K : AV → List Blk → Prop} (h : SStD lo args η K) : AF Try.prog lo 39 args η K := by
  unfold SStD at h
  split at h
  · obtain ⟨nb, v, k1, k2, k3, hK⟩ := h
    rename_i c
    refine AF_run Sp39_ok Dr39 [] [.cell 2 29] hm Try.func39 rfl (by decide) Try.ntmps39 rfl (by kernel_rfl) (Nat.le_of_ble_eq_true rfl) ?_; intro hlo
    repeat' (first | with_reducible refine iteI (fun _ => ?_) (fun _ => ?_) | ((first | unfold AOpsC | unfold AOpsD | skip); simp (maxSteps := 1000000) (disch := (first | omega | assumption | (simp only [List.length_append, List.length_cons, List.length_nil, List.length_set]; omega))) only [go_sem, Sp39, Dr39]))
    unfold SRootB
    refine ⟨nb, v, k1, k2, k3, fun H0 r l b0 w0 p1 p0 p2 p3 p4 p5 => ?_⟩
    have hmesh : meshB r l = true := by
      simp only [balB, Bool.and_eq_true] at p1
      exact p1.1
    have hml := mesh_len hmesh
    have hne := mesh_ne hmesh
    repeat' (first | with_reducible refine iteI (fun _ => ?_) (fun _ => ?_) | ((first | unfold AOpsC | unfold AOpsD | skip); simp (maxSteps := 1000000) (disch := (first | omega | assumption | (simp only [List.length_append, List.length_cons, List.length_nil, List.length_set]; omega))) only [go_sem, Sp39, Dr39]))
    refine ⟨invSb lo nb η c v r l b0 w0, fun st => ctr r.toNat st 5, .inl ⟨0, _, [], .nils, Nat.zero_le _, ⟨rfl, by simp⟩, p2, p4, .inl ⟨rfl, rfl⟩, p5, rfl, (by first | (simp [upd]; done) | (simp [upd, *]; done) | rfl), (by first | (simp [upd]; done) | (simp [upd, *]; done) | rfl), (by first | (simp [upd]; done) | (simp [upd, *]; done) | rfl), (by first | (simp [upd]; done) | (simp [upd, *]; done) | rfl), (by first | (simp [upd]; done) | (simp [upd, *]; done) | rfl), (by first | (simp [upd]; done) | (simp [upd, *]; done) | rfl), (by first | (simp [upd]; done) | (simp [upd, *]; done) | rfl), (by first | (simp [upd]; done) | (simp [upd, *]; done) | rfl), rfl⟩, ?_⟩
    rintro ⟨n, τ, lam, η'⟩ ⟨i, H, bs, x, g0, g1, g2, g3, g4, g5, hn, t0, t2, t3, t4, t5, l2, l3, l4, hη⟩; simp only at hn t0 t2 t3 t4 t5 l2 l3 l4 hη; subst hn hη
    by_cases hlt : i < r.toNat
    · have hlt' : (i : Int) < r := by omega
      repeat' (first | with_reducible refine iteI (fun _ => ?_) (fun _ => ?_) | ((first | unfold AOpsC | unfold AOpsD | skip); simp (maxSteps := 1000000) (disch := (first | omega | assumption | (simp only [List.length_append, List.length_cons, List.length_nil, List.length_set]; omega))) only [go_sem, Sp39, Dr39, t0, t2, t3, t4, t5, l2, l3, l4]))
      unfold SBelow
      refine ⟨v, g2, by omega, fun y1 i1 e1 hy0 hy1 _ hcu => ?_⟩
      have hy1 := hy1 (by omega)
      have hw := g2.ksw i1 e1
      replace g4 := g4.cur g2 i1 e1
      replace g3 : (η'.set c (curB v i1 e1))[b0]? = _ := setBlk g3 (g2.ne g3 (by simp))
      replace g5 := g5.set k2 (curB v i1 e1)
      generalize η'.set c (curB v i1 e1) = H1 at *
      repeat' (first | with_reducible refine iteI (fun _ => ?_) (fun _ => ?_) | ((first | unfold AOpsC | unfold AOpsD | skip); simp (maxSteps := 1000000) (disch := (first | omega | assumption | (simp only [List.length_append, List.length_cons, List.length_nil, List.length_set]; omega))) only [go_sem, Sp39, Dr39, t0, t2, t3, t4, t5, l2, l3, l4, hw]))
      unfold SBelow
      refine ⟨v, hcu, by omega, fun y2 i2 e2 hz0 hz1 _ hcu2 => ?_⟩
      have hz1 := hz1 (by omega)
      replace hw := hcu.ksw i2 e2
      replace g4 := g4.cur hcu i2 e2
      replace g3 : (H1.set c (curB v i2 e2))[b0]? = _ := setBlk g3 (hcu.ne g3 (by simp))
      replace g5 := g5.set k2 (curB v i2 e2)
      generalize H1.set c (curB v i2 e2) = H2 at *
      have hn2 : nb ≤ H2.length := by have := blt g3; omega
      have hp : 0 ≤ y1 * y2 ∧ y1 * y2 ≤ 15000 := by
        refine ⟨Int.mul_nonneg hy0 hz0, ?_⟩
        have a1 : y1 * y2 ≤ 3 * y2 := Int.mul_le_mul_of_nonneg_right (by omega) hz0
        omega
      rcases g4 with ⟨rfl, rfl⟩ | ⟨b, w, rfl, q1, q2⟩
      · repeat' (first | with_reducible refine iteI (fun _ => ?_) (fun _ => ?_) | ((first | unfold AOpsC | unfold AOpsD | skip); simp (maxSteps := 1000000) (disch := (first | omega | assumption | (simp only [List.length_append, List.length_cons, List.length_nil, List.length_set]; omega))) only [go_sem, Sp39, Dr39, t0, t2, t3, t4, t5, l2, l3, l4, hw]))
        refine ⟨⟨i + 1, _, [y1 * y2], .sl (H2 ++ [(⟨0, 3, 1, [.int .i64 (y1 * y2)]⟩ : Blk)]).length 0 0 1, hlt, ⟨by have := g1.1; simp at this ⊢; omega, fun x hx => by simp at hx; subst hx; exact hp⟩, (hcu2.app _).app _, old_get (old_get g3 _) _, .inr ⟨(H2 ++ [(⟨0, 3, 1, [.int .i64 (y1 * y2)]⟩ : Blk)]).length, 0, rfl, by simp; omega, by simp⟩, (g5.app hn2 _).app (by simp; omega) _, rfl, by simp [upd, t0], by simp [upd, t2], by simp [upd, t3], by simp [upd, t4], by simp [upd], by simp [upd, l2], by simp [upd, l3], by simp [upd], rfl⟩, by simp [ctr, upd, t5]; omega⟩
      · have hbl := blt q2
        have hb0 : b ≠ b0 := by rintro rfl; rw [q2] at g3; simp at g3
        repeat' (first | with_reducible refine iteI (fun _ => ?_) (fun _ => ?_) | ((first | unfold AOpsC | unfold AOpsD | skip); simp (maxSteps := 1000000) (disch := (first | omega | assumption | (simp only [List.length_append, List.length_cons, List.length_nil, List.length_set]; omega))) only [go_sem, Sp39, Dr39, t0, t2, t3, t4, t5, l2, l3, l4, hw, q2, takeMap, hbl]))
        refine ⟨⟨i + 1, _, bs ++ [y1 * y2], .sl b (w + 1) 0 (bs.length + 1), hlt, ⟨by simp [g1.1], fun x hx => (List.mem_append.1 hx).elim (g1.2 x) fun hx => by simp at hx; subst hx; exact hp⟩, (hcu2.oth q2 (by simp) (by simp) _).app _, old_get (setBlk g3 hb0) _, .inr ⟨b, w + 1, by simp, q1, old_get (x := ⟨w + 1, 3, 1, (bs ++ [y1 * y2]).map (.int .i64)⟩) (by rw [set_eq hbl]; simp) _⟩, (g5.set q1 _).app (by simp; omega) _, rfl, by simp [upd, t0], by simp [upd, t2], by simp [upd, t3], by simp [upd, t4], by simp [upd], by simp [upd, l2], by simp [upd, l3], by simp [upd], rfl⟩, by simp [ctr, upd, t5]; omega⟩
    · obtain rfl : i = r.toNat := by omega
      rcases g4 with ⟨rfl, rfl⟩ | ⟨b3, w3, rfl, q1, q2⟩
      · exfalso
        have := g1.1
        simp at this
        omega
      repeat' (first | with_reducible refine iteI (fun _ => ?_) (fun _ => ?_) | ((first | unfold AOpsC | unfold AOpsD | skip); simp (maxSteps := 1000000) (disch := (first | omega | assumption | (simp only [List.length_append, List.length_cons, List.length_nil, List.length_set]; omega))) only [go_sem, Sp39, Dr39, t0, t2, t3, t4, t5, l2, l3, l4]))
      unfold SBelow
      refine ⟨v, g2, by omega, fun d i1 e1 hd0 hd1 _ hcu => ?_⟩
      have hd1 := hd1 (by omega)
      replace q2 : (η'.set c (curB v i1 e1))[b3]? = _ := setBlk q2 (g2.ne q2 (by simp))
      replace g3 : (η'.set c (curB v i1 e1))[b0]? = _ := setBlk g3 (g2.ne g3 (by simp))
      replace g5 := g5.set k2 (curB v i1 e1)
      generalize η'.set c (curB v i1 e1) = H1 at *
      repeat' (first | with_reducible refine iteI (fun _ => ?_) (fun _ => ?_) | ((first | unfold AOpsC | unfold AOpsD | skip); simp (maxSteps := 1000000) (disch := (first | omega | assumption | (simp only [List.length_append, List.length_cons, List.length_nil, List.length_set]; omega))) only [go_sem, Sp39, Dr39, t0, t2, t3, t4, t5, l2, l3, l4]))
      refine ⟨invSc lo nb η c v r l b0 w0 b3 w3 bs (1 + d), fun st => ctr l.length st 7, .inl ⟨0, _, [], [], .nils, .nils, Nat.zero_le _, ⟨⟨rfl, by simp⟩, rfl⟩, hcu, .inl ⟨rfl, rfl, rfl, rfl, g3, q2⟩, g5, rfl, (by first | (simp [upd]; done) | (simp [upd, *]; done) | rfl), (by first | (simp [upd]; done) | (simp [upd, *]; done) | rfl), (by first | (simp [upd]; done) | (simp [upd, *]; done) | rfl), (by first | (simp [upd]; done) | (simp [upd, *]; done) | rfl), (by first | (simp [upd]; done) | (simp [upd, *]; done) | rfl), (by first | (simp [upd]; done) | (simp [upd, *]; done) | rfl), (by first | (simp [upd]; done) | (simp [upd, *]; done) | rfl), (by first | (simp [upd]; done) | (simp [upd, *]; done) | rfl), (by first | (simp [upd]; done) | (simp [upd, *]; done) | rfl), rfl⟩, ?_⟩
      generalize hD : 1 + d = D at *
      have hD1 : 1 ≤ D ∧ D ≤ 20000 := by omega
      have hbs := g1
      have hb3n := q1
      clear hcu g5 g3 q2 hD g1
      rintro ⟨n, τ, lam, η'⟩ ⟨i, H, ms, ts, x1, x2, g0, g1, g2, g3, g4, hn, t0, t2, t3, t4, t6, t7, l2, l3, l4, hη⟩; simp only at hn t0 t2 t3 t4 t6 t7 l2 l3 l4 hη; subst hn hη
      have hn0 : nb ≤ η'.length := by have := blt g3.leaves; omega
      by_cases hlt : i < l.length
      · have hlt' : (i : Int) < l.length := by omega
        have gl := g3.leaves
        repeat' (first | with_reducible refine iteI (fun _ => ?_) (fun _ => ?_) | ((first | unfold AOpsC | unfold AOpsD | skip); simp (maxSteps := 1000000) (disch := (first | omega | assumption | (simp only [List.length_append, List.length_cons, List.length_nil, List.length_set]; omega))) only [go_sem, Sp39, Dr39, t0, t2, t3, t4, t6, t7, l2, l3, l4, gl]))
        unfold SBelow
        refine ⟨v, g2, by omega, fun x i1 e1 hx0 hx1 _ hcu => ?_⟩
        have hx1 := hx1 (by omega)
        replace g3 := g3.cur g2 i1 e1
        replace g4 := g4.set k2 (curB v i1 e1)
        generalize η'.set c (curB v i1 e1) = H1 at *
        repeat' (first | with_reducible refine iteI (fun _ => ?_) (fun _ => ?_) | ((first | unfold AOpsC | unfold AOpsD | skip); simp (maxSteps := 1000000) (disch := (first | omega | assumption | (simp only [List.length_append, List.length_cons, List.length_nil, List.length_set]; omega))) only [go_sem, Sp39, Dr39, t0, t2, t3, t4, t6, t7, l2, l3, l4]))
        unfold SOnce
        refine ⟨v, hcu, by omega, fun y i2 e2 hcu2 => ?_⟩
        replace g3 := g3.cur hcu i2 e2
        replace g4 := g4.set k2 (curB v i2 e2)
        generalize H1.set c (curB v i2 e2) = H2 at *
        cases y
        · generalize hX : x = X at *
          have hX1 : 0 ≤ X ∧ X ≤ 20000 := by omega
          rcases g3 with ⟨rfl, rfl, rfl, rfl, gA, gB⟩ | ⟨b1, w1, b2, w2, rfl, rfl, hN⟩
          · have hn2 : nb ≤ H2.length := by have := blt gA; omega
            repeat' (first | with_reducible refine iteI (fun _ => ?_) (fun _ => ?_) | ((first | unfold AOpsC | unfold AOpsD | skip); simp (maxSteps := 1000000) (disch := (first | omega | assumption | (simp only [List.length_append, List.length_cons, List.length_nil, List.length_set]; omega))) only [go_sem, Sp39, Dr39, t0, t2, t3, t4, t6, t7, l2, l3, l4]))
            have c4 := (hcu2.app (⟨0, 3, 1, [.int .i64 X]⟩ : Blk)).app (⟨0, 3, 1, [.int .i64 X]⟩ : Blk)
            replace gA := old_get (old_get gA [(⟨0, 3, 1, [.int .i64 X]⟩ : Blk)]) [(⟨0, 3, 1, [.int .i64 X]⟩ : Blk)]
            have hq3 := blt gB
            replace gB := old_get (old_get gB [(⟨0, 3, 1, [.int .i64 X]⟩ : Blk)]) [(⟨0, 3, 1, [.int .i64 X]⟩ : Blk)]
            have qm := last_get (H2 ++ [(⟨0, 3, 1, [.int .i64 X]⟩ : Blk)]) (⟨0, 3, 1, [.int .i64 X]⟩ : Blk)
            have hq2 := blt gB
            replace g4 := (g4.app hn2 (⟨0, 3, 1, [.int .i64 X]⟩ : Blk)).app (by simp; omega) (⟨0, 3, 1, [.int .i64 X]⟩ : Blk)
            have hbn : nb ≤ (H2 ++ [(⟨0, 3, 1, [.int .i64 X]⟩ : Blk)]).length := by simp; omega
            have hb3 : b3 ≠ (H2 ++ [(⟨0, 3, 1, [.int .i64 X]⟩ : Blk)]).length := by simp; omega
            generalize (H2 ++ [(⟨0, 3, 1, [.int .i64 X]⟩ : Blk)]).length = bm at *
            generalize H2 ++ [(⟨0, 3, 1, [.int .i64 X]⟩ : Blk)] ++ [(⟨0, 3, 1, [.int .i64 X]⟩ : Blk)] = H4 at *
            unfold SBelow
            refine ⟨v, c4, by omega, fun y1 i4 e4 u0 u1 _ c5 => ?_⟩
            replace u1 := u1 (by omega)
            have hw := c4.ksw i4 e4
            replace gA := setBlk (x := curB v i4 e4) gA (c4.ne gA (by simp))
            replace gB := setBlk (x := curB v i4 e4) gB (c4.ne gB (by simp))
            replace qm := setBlk (x := curB v i4 e4) qm (c4.ne qm (by simp))
            replace g4 := g4.set k2 (curB v i4 e4)
            generalize H4.set c (curB v i4 e4) = H5 at *
            repeat' (first | with_reducible refine iteI (fun _ => ?_) (fun _ => ?_) | ((first | unfold AOpsC | unfold AOpsD | skip); simp (maxSteps := 1000000) (disch := (first | omega | assumption | (simp only [List.length_append, List.length_cons, List.length_nil, List.length_set]; omega))) only [go_sem, Sp39, Dr39, t0, t2, t3, t4, t6, t7, l2, l3, l4, hw]))
            unfold SBelow
            refine ⟨v, c5, by omega, fun y2 i5 e5 z0 z1 _ c6 => ?_⟩
            replace z1 := z1 (by omega)
            replace hw := c5.ksw i5 e5
            replace gA := setBlk (x := curB v i5 e5) gA (c5.ne gA (by simp))
            replace gB := setBlk (x := curB v i5 e5) gB (c5.ne gB (by simp))
            replace qm := setBlk (x := curB v i5 e5) qm (c5.ne qm (by simp))
            replace g4 := g4.set k2 (curB v i5 e5)
            generalize H5.set c (curB v i5 e5) = H6 at *
            have mm := mul200 hX1 u0 u1 z0 z1
            repeat' (first | with_reducible refine iteI (fun _ => ?_) (fun _ => ?_) | ((first | unfold AOpsC | unfold AOpsD | skip); simp (maxSteps := 1000000) (disch := (first | omega | assumption | (simp only [List.length_append, List.length_cons, List.length_nil, List.length_set]; omega))) only [go_sem, Sp39, Dr39, t0, t2, t3, t4, t6, t7, l2, l3, l4, hw]))
            have hl6 := blt qm
            have hl7 := blt gA
            have hl8 := blt gB
            refine ⟨⟨i + 1, _, [X], [X * y1 + y2], .sl bm 0 0 1, .sl (H6 ++ [(⟨0, 3, 1, [.int .i64 (X * y1 + y2)]⟩ : Blk)]).length 0 0 1, hlt, ⟨g1.1.snoc hX1 mm.2, by have := g1.2; simp at this ⊢; omega⟩, (c6.app _).app _, .inr ⟨bm, 0, (H6 ++ [(⟨0, 3, 1, [.int .i64 (X * y1 + y2)]⟩ : Blk)]).length, 0, rfl, rfl, ⟨old_get (old_get gA _) _, old_get (old_get qm _) _, last_get _ _, old_get (old_get gB _) _, p3, hbn, by simp; omega, hb3n, fun e => by rw [e, qm] at gA; simp at gA, by simp; omega, fun e => by rw [e, gB] at gA; simp at gA, by simp; omega, Ne.symm hb3, by simp; omega⟩⟩, (g4.app (by omega) _).app (by simp; omega) _, rfl, by simp [upd, t0], by simp [upd, t2], by simp [upd, t3], by simp [upd, t4], by simp [upd, t6], by simp [upd], by simp [upd, l2], by simp [upd, l3], by simp [upd], rfl⟩, by simp [ctr, upd, t7]; omega⟩
          · have hg1 := hN.g1
            have hl1 := blt hg1
            have hn1 := hN.n1
            have hts := g1.1.1
            have hms := g1.2
            repeat' (first | with_reducible refine iteI (fun _ => ?_) (fun _ => ?_) | ((first | unfold AOpsC | unfold AOpsD | skip); simp (maxSteps := 1000000) (disch := (first | omega | assumption | (simp only [List.length_append, List.length_cons, List.length_nil, List.length_set]; omega))) only [go_sem, Sp39, Dr39, t0, t2, t3, t4, t6, t7, l2, l3, l4, hg1, hl1, takeMap]))
            have c4 := (hcu2.oth hg1 (by simp) (by simp) ⟨w1 + 1, 3, 1, ms.map (.int .i64) ++ [.int .i64 X]⟩).app (⟨0, 3, 1, [.int .i64 X]⟩ : Blk)
            have hN4 := (hN.psh1e (ms ++ [X]) (w1 + 1) (L := ms.map (.int .i64) ++ [.int .i64 X]) (by simp)).app (⟨0, 3, 1, [.int .i64 X]⟩ : Blk)
            replace g4 := (g4.set hn1 ⟨w1 + 1, 3, 1, ms.map (.int .i64) ++ [.int .i64 X]⟩).app (by simp; omega) (⟨0, 3, 1, [.int .i64 X]⟩ : Blk)
            generalize H2.set b1 ⟨w1 + 1, 3, 1, ms.map (.int .i64) ++ [.int .i64 X]⟩ ++ [(⟨0, 3, 1, [.int .i64 X]⟩ : Blk)] = H4 at *
            unfold SBelow
            refine ⟨v, c4, by omega, fun y1 i4 e4 u0 u1 _ c5 => ?_⟩
            replace u1 := u1 (by omega)
            have hw := c4.ksw i4 e4
            replace hN4 := hN4.cur c4 i4 e4
            replace g4 := g4.set k2 (curB v i4 e4)
            generalize H4.set c (curB v i4 e4) = H5 at *
            repeat' (first | with_reducible refine iteI (fun _ => ?_) (fun _ => ?_) | ((first | unfold AOpsC | unfold AOpsD | skip); simp (maxSteps := 1000000) (disch := (first | omega | assumption | (simp only [List.length_append, List.length_cons, List.length_nil, List.length_set]; omega))) only [go_sem, Sp39, Dr39, t0, t2, t3, t4, t6, t7, l2, l3, l4, hw]))
            unfold SBelow
            refine ⟨v, c5, by omega, fun y2 i5 e5 z0 z1 _ c6 => ?_⟩
            replace z1 := z1 (by omega)
            replace hw := c5.ksw i5 e5
            replace hN4 := hN4.cur c5 i5 e5
            replace g4 := g4.set k2 (curB v i5 e5)
            generalize H5.set c (curB v i5 e5) = H6 at *
            have mm := mul200 hX1 u0 u1 z0 z1
            have hg2 := hN4.g2
            have hl2 := blt hg2
            have hn2 := hN4.n2
            repeat' (first | with_reducible refine iteI (fun _ => ?_) (fun _ => ?_) | ((first | unfold AOpsC | unfold AOpsD | skip); simp (maxSteps := 1000000) (disch := (first | omega | assumption | (simp only [List.length_append, List.length_cons, List.length_nil, List.length_set]; omega))) only [go_sem, Sp39, Dr39, t0, t2, t3, t4, t6, t7, l2, l3, l4, hw, hg2, hl2, takeMap]))
            refine ⟨⟨i + 1, _, ms ++ [X], ts ++ [X * y1 + y2], .sl b1 (w1 + 1) 0 (ms.length + 1), .sl b2 (w2 + 1) 0 (ts.length + 1), hlt, ⟨g1.1.snoc hX1 mm.2, by have := g1.2; simp; omega⟩, (c6.oth hg2 (by simp) (by simp) _).app _, .inr ⟨b1, w1 + 1, b2, w2 + 1, by simp, by simp, (hN4.psh2e (ts ++ [X * y1 + y2]) (w2 + 1) (by simp)).app _⟩, (g4.set hn2 _).app (by simp; omega) _, rfl, by simp [upd, t0], by simp [upd, t2], by simp [upd, t3], by simp [upd, t4], by simp [upd, t6], by simp [upd], by simp [upd, l2], by simp [upd, l3], by simp [upd], rfl⟩, by simp [ctr, upd, t7]; omega⟩
        · repeat' (first | with_reducible refine iteI (fun _ => ?_) (fun _ => ?_) | ((first | unfold AOpsC | unfold AOpsD | skip); simp (maxSteps := 1000000) (disch := (first | omega | assumption | (simp only [List.length_append, List.length_cons, List.length_nil, List.length_set]; omega))) only [go_sem, Sp39, Dr39, t0, t2, t3, t4, t6, t7, l2, l3, l4]))
          unfold SBelow
          refine ⟨v, hcu2, by omega, fun X i3 e3 hz0 hz1 _ hcu3 => ?_⟩
          have hz1 := hz1 (by omega)
          replace g3 := g3.cur hcu2 i3 e3
          replace g4 := g4.set k2 (curB v i3 e3)
          generalize H2.set c (curB v i3 e3) = H3 at *
          have hX1 : 0 ≤ X ∧ X ≤ 20000 := by omega
          rcases g3 with ⟨rfl, rfl, rfl, rfl, gA, gB⟩ | ⟨b1, w1, b2, w2, rfl, rfl, hN⟩
          · have hn2 : nb ≤ H3.length := by have := blt gA; omega
            repeat' (first | with_reducible refine iteI (fun _ => ?_) (fun _ => ?_) | ((first | unfold AOpsC | unfold AOpsD | skip); simp (maxSteps := 1000000) (disch := (first | omega | assumption | (simp only [List.length_append, List.length_cons, List.length_nil, List.length_set]; omega))) only [go_sem, Sp39, Dr39, t0, t2, t3, t4, t6, t7, l2, l3, l4]))
            have c4 := (hcu3.app (⟨0, 3, 1, [.int .i64 X]⟩ : Blk)).app (⟨0, 3, 1, [.int .i64 X]⟩ : Blk)
            replace gA := old_get (old_get gA [(⟨0, 3, 1, [.int .i64 X]⟩ : Blk)]) [(⟨0, 3, 1, [.int .i64 X]⟩ : Blk)]
            have hq3 := blt gB
            replace gB := old_get (old_get gB [(⟨0, 3, 1, [.int .i64 X]⟩ : Blk)]) [(⟨0, 3, 1, [.int .i64 X]⟩ : Blk)]
            have qm := last_get (H3 ++ [(⟨0, 3, 1, [.int .i64 X]⟩ : Blk)]) (⟨0, 3, 1, [.int .i64 X]⟩ : Blk)
            have hq2 := blt gB
            replace g4 := (g4.app hn2 (⟨0, 3, 1, [.int .i64 X]⟩ : Blk)).app (by simp; omega) (⟨0, 3, 1, [.int .i64 X]⟩ : Blk)
            have hbn : nb ≤ (H3 ++ [(⟨0, 3, 1, [.int .i64 X]⟩ : Blk)]).length := by simp; omega
            have hb3 : b3 ≠ (H3 ++ [(⟨0, 3, 1, [.int .i64 X]⟩ : Blk)]).length := by simp; omega
            generalize (H3 ++ [(⟨0, 3, 1, [.int .i64 X]⟩ : Blk)]).length = bm at *
            generalize H3 ++ [(⟨0, 3, 1, [.int .i64 X]⟩ : Blk)] ++ [(⟨0, 3, 1, [.int .i64 X]⟩ : Blk)] = H4 at *
            unfold SBelow
            refine ⟨v, c4, by omega, fun y1 i4 e4 u0 u1 _ c5 => ?_⟩
            replace u1 := u1 (by omega)
            have hw := c4.ksw i4 e4
            replace gA := setBlk (x := curB v i4 e4) gA (c4.ne gA (by simp))
            replace gB := setBlk (x := curB v i4 e4) gB (c4.ne gB (by simp))
            replace qm := setBlk (x := curB v i4 e4) qm (c4.ne qm (by simp))
            replace g4 := g4.set k2 (curB v i4 e4)
            generalize H4.set c (curB v i4 e4) = H5 at *
            repeat' (first | with_reducible refine iteI (fun _ => ?_) (fun _ => ?_) | ((first | unfold AOpsC | unfold AOpsD | skip); simp (maxSteps := 1000000) (disch := (first | omega | assumption | (simp only [List.length_append, List.length_cons, List.length_nil, List.length_set]; omega))) only [go_sem, Sp39, Dr39, t0, t2, t3, t4, t6, t7, l2, l3, l4, hw]))
            unfold SBelow
            refine ⟨v, c5, by omega, fun y2 i5 e5 z0 z1 _ c6 => ?_⟩
            replace z1 := z1 (by omega)
            replace hw := c5.ksw i5 e5
            replace gA := setBlk (x := curB v i5 e5) gA (c5.ne gA (by simp))
            replace gB := setBlk (x := curB v i5 e5) gB (c5.ne gB (by simp))
            replace qm := setBlk (x := curB v i5 e5) qm (c5.ne qm (by simp))
            replace g4 := g4.set k2 (curB v i5 e5)
            generalize H5.set c (curB v i5 e5) = H6 at *
            have mm := mul200 hX1 u0 u1 z0 z1
            repeat' (first | with_reducible refine iteI (fun _ => ?_) (fun _ => ?_) | ((first | unfold AOpsC | unfold AOpsD | skip); simp (maxSteps := 1000000) (disch := (first | omega | assumption | (simp only [List.length_append, List.length_cons, List.length_nil, List.length_set]; omega))) only [go_sem, Sp39, Dr39, t0, t2, t3, t4, t6, t7, l2, l3, l4, hw]))
            have hl6 := blt qm
            have hl7 := blt gA
            have hl8 := blt gB
            refine ⟨⟨i + 1, _, [X], [X * y1 + y2], .sl bm 0 0 1, .sl (H6 ++ [(⟨0, 3, 1, [.int .i64 (X * y1 + y2)]⟩ : Blk)]).length 0 0 1, hlt, ⟨g1.1.snoc hX1 mm.2, by have := g1.2; simp at this ⊢; omega⟩, (c6.app _).app _, .inr ⟨bm, 0, (H6 ++ [(⟨0, 3, 1, [.int .i64 (X * y1 + y2)]⟩ : Blk)]).length, 0, rfl, rfl, ⟨old_get (old_get gA _) _, old_get (old_get qm _) _, last_get _ _, old_get (old_get gB _) _, p3, hbn, by simp; omega, hb3n, fun e => by rw [e, qm] at gA; simp at gA, by simp; omega, fun e => by rw [e, gB] at gA; simp at gA, by simp; omega, Ne.symm hb3, by simp; omega⟩⟩, (g4.app (by omega) _).app (by simp; omega) _, rfl, by simp [upd, t0], by simp [upd, t2], by simp [upd, t3], by simp [upd, t4], by simp [upd, t6], by simp [upd], by simp [upd, l2], by simp [upd, l3], by simp [upd], rfl⟩, by simp [ctr, upd, t7]; omega⟩
          · have hg1 := hN.g1
            have hl1 := blt hg1
            have hn1 := hN.n1
            have hts := g1.1.1
            have hms := g1.2
            repeat' (first | with_reducible refine iteI (fun _ => ?_) (fun _ => ?_) | ((first | unfold AOpsC | unfold AOpsD | skip); simp (maxSteps := 1000000) (disch := (first | omega | assumption | (simp only [List.length_append, List.length_cons, List.length_nil, List.length_set]; omega))) only [go_sem, Sp39, Dr39, t0, t2, t3, t4, t6, t7, l2, l3, l4, hg1, hl1, takeMap]))
            have c4 := (hcu3.oth hg1 (by simp) (by simp) ⟨w1 + 1, 3, 1, ms.map (.int .i64) ++ [.int .i64 X]⟩).app (⟨0, 3, 1, [.int .i64 X]⟩ : Blk)
            have hN4 := (hN.psh1e (ms ++ [X]) (w1 + 1) (L := ms.map (.int .i64) ++ [.int .i64 X]) (by simp)).app (⟨0, 3, 1, [.int .i64 X]⟩ : Blk)
            replace g4 := (g4.set hn1 ⟨w1 + 1, 3, 1, ms.map (.int .i64) ++ [.int .i64 X]⟩).app (by simp; omega) (⟨0, 3, 1, [.int .i64 X]⟩ : Blk)
            generalize H3.set b1 ⟨w1 + 1, 3, 1, ms.map (.int .i64) ++ [.int .i64 X]⟩ ++ [(⟨0, 3, 1, [.int .i64 X]⟩ : Blk)] = H4 at *
            unfold SBelow
            refine ⟨v, c4, by omega, fun y1 i4 e4 u0 u1 _ c5 => ?_⟩
            replace u1 := u1 (by omega)
            have hw := c4.ksw i4 e4
            replace hN4 := hN4.cur c4 i4 e4
            replace g4 := g4.set k2 (curB v i4 e4)
            generalize H4.set c (curB v i4 e4) = H5 at *
            repeat' (first | with_reducible refine iteI (fun _ => ?_) (fun _ => ?_) | ((first | unfold AOpsC | unfold AOpsD | skip); simp (maxSteps := 1000000) (disch := (first | omega | assumption | (simp only [List.length_append, List.length_cons, List.length_nil, List.length_set]; omega))) only [go_sem, Sp39, Dr39, t0, t2, t3, t4, t6, t7, l2, l3, l4, hw]))
            unfold SBelow
            refine ⟨v, c5, by omega, fun y2 i5 e5 z0 z1 _ c6 => ?_⟩
            replace z1 := z1 (by omega)
            replace hw := c5.ksw i5 e5
            replace hN4 := hN4.cur c5 i5 e5
            replace g4 := g4.set k2 (curB v i5 e5)
            generalize H5.set c (curB v i5 e5) = H6 at *
            have mm := mul200 hX1 u0 u1 z0 z1
            have hg2 := hN4.g2
            have hl2 := blt hg2
            have hn2 := hN4.n2
            repeat' (first | with_reducible refine iteI (fun _ => ?_) (fun _ => ?_) | ((first | unfold AOpsC | unfold AOpsD | skip); simp (maxSteps := 1000000) (disch := (first | omega | assumption | (simp only [List.length_append, List.length_cons, List.length_nil, List.length_set]; omega))) only [go_sem, Sp39, Dr39, t0, t2, t3, t4, t6, t7, l2, l3, l4, hw, hg2, hl2, takeMap]))
            refine ⟨⟨i + 1, _, ms ++ [X], ts ++ [X * y1 + y2], .sl b1 (w1 + 1) 0 (ms.length + 1), .sl b2 (w2 + 1) 0 (ts.length + 1), hlt, ⟨g1.1.snoc hX1 mm.2, by have := g1.2; simp; omega⟩, (c6.oth hg2 (by simp) (by simp) _).app _, .inr ⟨b1, w1 + 1, b2, w2 + 1, by simp, by simp, (hN4.psh2e (ts ++ [X * y1 + y2]) (w2 + 1) (by simp)).app _⟩, (g4.set hn2 _).app (by simp; omega) _, rfl, by simp [upd, t0], by simp [upd, t2], by simp [upd, t3], by simp [upd, t4], by simp [upd, t6], by simp [upd], by simp [upd, l2], by simp [upd, l3], by simp [upd], rfl⟩, by simp [ctr, upd, t7]; omega⟩
      · obtain rfl : i = l.length := by omega
        rcases g3 with ⟨rfl, rfl, rfl, rfl, q1, q2⟩ | ⟨b1, w1, b2, w2, rfl, rfl, hN⟩
        · exfalso
          have := g1.2
          simp at this
          omega
        have gl := hN.g0
        repeat' (first | with_reducible refine iteI (fun _ => ?_) (fun _ => ?_) | ((first | unfold AOpsC | unfold AOpsD | skip); simp (maxSteps := 1000000) (disch := (first | omega | assumption | (simp only [List.length_append, List.length_cons, List.length_nil, List.length_set]; omega))) only [go_sem, Sp39, Dr39, t0, t2, t3, t4, t6, t7, l2, l3, l4, gl]))
        exact hK η' r l ms ts bs b0 b1 b2 b3 w0 w1 w2 w3 (drawn_of p1 p0 g1.1 g1.2 (by omega) hbs.2) g2 hN g4
  · exact h.elim

/- spec.DrawState -/
def Sp9 (lo : Nat) : Spec := fun g args η K => match g with | 39 => SStD lo args η K | 40 => SNew lo args η K | _ => False
theorem Sp9_ok {lo : Nat} : Sound Try.prog lo (Sp9 lo) := by
  intro g args η K h
  unfold Sp9 at h
  split at h
  · exact .inl (f39_ok h)
  · exact .inl (f40_ok h)
  · exact h.elim
theorem f9_ok {lo : Nat} {args : List AV} {η : List Blk} {K : AV → List Blk → Prop} (h : SDrawS lo args η K) : AF Try.prog lo 9 args η K := by
  unfold SDrawS at h
  split at h
  · obtain ⟨g, hr, hml, hK⟩ := h
    rename_i v
    have hn := (noLoc8 hr).1
    refine AF_run Sp9_ok D0 [] [.cell 2 29] hm Try.func9 rfl (by decide) Try.ntmps9 rfl (by kernel_rfl) (Nat.le_of_ble_eq_true rfl) ?_; intro hlo
    repeat' (first | with_reducible refine iteI (fun _ => ?_) (fun _ => ?_) | ((first | unfold AOpsC | unfold AOpsD | skip); simp (maxSteps := 1000000) (disch := (first | omega | assumption | (simp only [List.length_append, List.length_cons, List.length_nil, List.length_set]; omega))) only [go_sem, Sp9, SNew, ↓hn]))
    refine ⟨g, hr, hml, fun h0 => ?_⟩
    repeat' (first | with_reducible refine iteI (fun _ => ?_) (fun _ => ?_) | ((first | unfold AOpsC | unfold AOpsD | skip); simp (maxSteps := 1000000) (disch := (first | omega | assumption | (simp only [List.length_append, List.length_cons, List.length_nil, List.length_set]; omega))) only [go_sem, Sp9, SNew]))
    refine ⟨η.length, v, hlo, Nat.le_refl _, ⟨hlo, g, 0, h0, hr.app _, hml, by omega, by omega, by simp⟩, fun H r l ms ts bs b0 b1 b2 b3 v0 v1 v2 v3 hd hc hN hF => ?_⟩
    repeat' (first | with_reducible refine iteI (fun _ => ?_) (fun _ => ?_) | ((first | unfold AOpsC | unfold AOpsD | skip); simp (maxSteps := 1000000) (disch := (first | omega | assumption | (simp only [List.length_append, List.length_cons, List.length_nil, List.length_set]; omega))) only [go_sem, Sp9, SNew]))
    exact hK H r l ms ts bs b0 b1 b2 b3 v0 v1 v2 v3 hd hN hF.ext0
  · exact h.elim

end Go.Proofs.Ytaalpmbopkbdiaa
