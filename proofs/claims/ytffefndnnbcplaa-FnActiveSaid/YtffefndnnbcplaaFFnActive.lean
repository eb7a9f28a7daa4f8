/- What functions of the program compute, said in the abstract logic; no conditions. -/
import Derived.Test.YtffefndnnbcplaaGBase
import Derived.Test.YtffefndnnbcplaaGIn
import Derived.Test.YtffefndnnbcplaaGDraw
import Derived.Test.YtffefndnnbcplaaGMesh
import Derived.Test.YtffefndnnbcplaaGIds
import Derived.Test.YtffefndnnbcplaaGEv
import Derived.Test.YtffefndnnbcplaaGRes
import Derived.Test.YtffefndnnbcplaaGBal
import Derived.Test.YtffefndnnbcplaaGCost
import Derived.Test.YtffefndnnbcplaaGMeshN
import Derived.Test.YtffefndnnbcplaaGDrawM
import Derived.Test.YtffefndnnbcplaaGDrawN
import Derived.Test.YtffefndnnbcplaaGIdx
import Derived.Test.YtffefndnnbcplaaGState
import Derived.Test.YtffefndnnbcplaaGCopy
import Derived.Test.YtffefndnnbcplaaGBalc
import Derived.Test.YtffefndnnbcplaaGBalw
import Derived.Test.YtffefndnnbcplaaGInts
import Derived.Test.YtffefndnnbcplaaGStTo
import Derived.Test.YtffefndnnbcplaaGResS
import Derived.Test.YtffefndnnbcplaaGOwn
import Derived.Test.YtffefndnnbcplaaGDrawS
import Derived.Test.YtffefndnnbcplaaGDLaw
import Derived.Test.YtffefndnnbcplaaGAct

namespace Go.Proofs.Ytffefndnnbcplaa
open Go
set_option linter.unusedSimpArgs false
set_option linter.unusedVariables false
set_option maxRecDepth 100000
set_option maxHeartbeats 8000000
attribute [local go_sem] st0 AC thenA andC locLoadB KsSW_same KsSW_grow pv ev put upd dstOk cv cvc binI setB Value.oneCell' EndA resA resA1 List.mapM_cons List.mapM_nil Option.pure_def Option.bind_eq_bind noLocV noLoc1 noLoc noLocs plainV cellsA newVarA putCells condA lam0 inBlockA cur lenA rowA avoidsB avoidB clearB Array.toList_append Op.operands Call.operands newSlot Nat.zero_add Nat.add_zero Nat.succ_ne_self Nat.lt_add_one Nat.zero_lt_succ true_and and_true true_or or_true false_or or_false and_self true_implies forall_const Bool.false_eq_true Bool.true_eq_false false_implies implies_true imp_self ne_eq not_false_eq_true not_true_eq_false false_and and_false List.getElem?_toArray List.getElem?_cons_succ List.getElem?_cons_zero Option.bind_some Option.map_some Bool.not_true Bool.not_false List.getD_cons_zero List.getD_cons_succ Option.some.injEq exists_eq_left' AV.bool.injEq List.map_cons List.map_nil List.all_cons List.all_nil Bool.and_self Bool.and_true Bool.true_and List.append_nil List.cons_append List.nil_append List.length_cons List.length_nil List.drop_zero List.take_zero List.drop_succ_cons List.take_succ_cons List.take_nil List.drop_nil List.not_mem_nil List.mem_cons List.contains_nil List.contains_cons Bool.or_self Bool.or_true Bool.true_or Bool.false_or Bool.or_false Bool.and_false Bool.false_and KsS_same KsS_grow skipV KsS_ext KsSW_ext rep1 rep2 rep3 rep4 rep5 List.flatten_cons List.flatten_nil partsA isPtr fillA List.size_toArray ltT ltF leT leF ltTn ltFn leTn leFn eqTi eqFi wrapId toNat1 intGet boolGet memD app_get app_last app_lst app_set app_setL app_setF set_ne set_eq gt_iff_lt ge_iff_le decide_eq_true_eq len2 len3 get20 get21 drop2 put2 get30 get31 get32 drop3 put3 putI pairEta bneTi bneFi beqTi beqFi bne_eq_false_iff_eq beq_eq_false_iff_ne beq_iff_eq bne_iff_ne Int.toNat_natCast Nat.mul_one List.length_map Bool.not_eq_true Bool.not_eq_false Bool.decide_eq_true decide_true decide_false Bool.not_eq_true' Bool.not_eq_false' decide_eq_false_iff_not eq_self Decidable.not_not
/-- The active faces of the first k ticks from a on. -/
def actS (l : List Id3) (a : Int) (n : Nat) : Nat → Int
  | 0 => 0
  | k + 1 => actS l a n k + ((actN l (a + (k : Int)) n).length : Int)
def cntA (a f : Int) : Nat → Int
  | 0 => 0
  | k + 1 => cntA a f k + (if actB (a + (k : Int)) f = true then 1 else 0)
theorem actN_len1 (l : List Id3) (t : Int) (n : Nat) : ((actN l t (n + 1)).length : Int) = (actN l t n).length + (if actB t (faceI l n) = true then 1 else 0) := by
  rw [actN]
  split <;> simp
theorem actS_succ (l : List Id3) (a : Int) (n : Nat) : ∀ k, actS l a (n + 1) k = actS l a n k + cntA a (faceI l n) k
  | 0 => by simp [actS, cntA]
  | k + 1 => by
    rw [actS, actS, cntA, actS_succ l a n k, actN_len1]
    omega
theorem actS_zero (l : List Id3) (a : Int) : ∀ k, actS l a 0 k = 0
  | 0 => rfl
  | k + 1 => by rw [actS, actS_zero l a k]; simp [actN]
theorem actB_mod {q f w : Int} {k : Nat} (hq : 0 ≤ q) (hf : 0 ≤ f ∧ f ≤ 4) (hw : wdI f = w) : actB (16 * q + (k : Int)) f = decide ((16 * q + (k : Int)) % w = 0) := by
  unfold actB
  rw [hw, Int.tmod_eq_emod_of_nonneg (by omega)]
  have h1 : inB f 0 4 = true := by simp [inB]; omega
  rw [h1, decide_eq_true (show 0 ≤ 16 * q + (k : Int) by omega)]
  simp
theorem cnt_step {a f : Int} {k : Nat} {x y : Int} (h : cntA a f k = x) (hb : actB (a + (k : Int)) f = true ∧ y = x + 1 ∨ actB (a + (k : Int)) f = false ∧ y = x) : cntA a f (k + 1) = y := by
  rw [cntA, h]
  rcases hb with ⟨hb, rfl⟩ | ⟨hb, rfl⟩
  · rw [if_pos hb]
  · rw [if_neg (by rw [hb]; simp)]; omega
def cntP (p : Nat → Bool) : Nat → Int
  | 0 => 0
  | k + 1 => cntP p k + (if p k = true then 1 else 0)
theorem cnt_congr {a f : Int} {p : Nat → Bool} (e : ∀ k : Nat, actB (a + (k : Int)) f = p k) : ∀ n, cntA a f n = cntP p n
  | 0 => rfl
  | n + 1 => by rw [cntA, cntP, cnt_congr e n, e n]
theorem cnt16 {q f : Int} (hq : 0 ≤ q) (hf : 0 ≤ f ∧ f ≤ 4) : cntA (16 * q) f 16 = 2 ^ f.toNat := by
  have key : ∀ w : Int, wdI f = w → ∀ k : Nat, actB (16 * q + (k : Int)) f = decide ((16 * q + (k : Int)) % w = 0) := fun w hw k => actB_mod hq hf hw
  rcases lv5 hf with rfl | rfl | rfl | rfl | rfl
  · have e : ∀ k : Nat, actB (16 * q + (k : Int)) 0 = decide ((k : Int) % 16 = 0) := fun k => by rw [key 16 (by decide) k]; congr 1; simp only [eq_iff_iff]; omega
    rw [cnt_congr e]; decide
  · have e : ∀ k : Nat, actB (16 * q + (k : Int)) 1 = decide ((k : Int) % 8 = 0) := fun k => by rw [key 8 (by decide) k]; congr 1; simp only [eq_iff_iff]; omega
    rw [cnt_congr e]; decide
  · have e : ∀ k : Nat, actB (16 * q + (k : Int)) 2 = decide ((k : Int) % 4 = 0) := fun k => by rw [key 4 (by decide) k]; congr 1; simp only [eq_iff_iff]; omega
    rw [cnt_congr e]; decide
  · have e : ∀ k : Nat, actB (16 * q + (k : Int)) 3 = decide ((k : Int) % 2 = 0) := fun k => by rw [key 2 (by decide) k]; congr 1; simp only [eq_iff_iff]; omega
    rw [cnt_congr e]; decide
  · have e : ∀ k : Nat, actB (16 * q + (k : Int)) 4 = true := fun k => by rw [key 1 (by decide) k]; simp
    rw [cnt_congr e]; decide
theorem actS_full {l : List Id3} (h : levs l) {q : Int} (hq : 0 ≤ q) : ∀ n : Nat, n + 1 ≤ l.length → actS l (16 * q) n 16 = costN l n
  | 0, _ => actS_zero _ _ _
  | n + 1, hn => by
    rw [actS_succ, actS_full h hq n (by omega), cnt16 hq (face_bd h (by omega)), costN]
theorem act_act (l : List Id3) (t : Int) : ∀ n : Nat, ∀ x ∈ actN l t n, 0 ≤ x ∧ x < n ∧ actB t (faceI l x.toNat) = true
  | 0, x, h => by simp [actN] at h
  | n + 1, x, h => by
    rw [actN] at h
    split at h
    · rename_i hb
      rcases List.mem_append.1 h with h | h
      · have := act_act l t n x h
        exact ⟨this.1, by omega, this.2.2⟩
      · obtain rfl : x = (n : Int) := by simpa using h
        exact ⟨by omega, by omega, by rw [Int.toNat_natCast]; exact hb⟩
    · have := act_act l t n x h
      exact ⟨this.1, by omega, this.2.2⟩
theorem actS_bd (l : List Id3) (a : Int) (n : Nat) : ∀ k, 0 ≤ actS l a n k ∧ actS l a n k ≤ k * n
  | 0 => by simp [actS]
  | k + 1 => by
    have h1 := actS_bd l a n k
    have h2 := act_len l (a + (k : Int)) n
    rw [actS, show ((k + 1 : Nat) : Int) * n = k * n + n by rw [Int.natCast_add, Int.add_mul]; simp]
    omega
theorem actS_bd2 (l : List Id3) (a : Int) {n k : Nat} (hk : k ≤ 16) (hn : n ≤ 128) : 0 ≤ actS l a n k ∧ actS l a n k ≤ 2048 := by
  have h1 := actS_bd l a n k
  have h2 : (k : Int) * n ≤ 16 * 128 := Int.mul_le_mul (by omega) (by omega) (by omega) (by omega)
  omega

def SFLv : List AV → List Blk → (AV → List Blk → Prop) → Prop
  | [.agg [.int .i64 r, v], .int .i64 i], η, K => (ok3 45 η v ∧ meshB r (dec3 45 η v) = true ∧ 0 ≤ i ∧ i + 1 < (dec3 45 η v).length) ∧ K (.int .i64 (faceI (dec3 45 η v) i.toNat)) η
  | _, _, _ => False

/- spec.FaceLevel -/
def Sp27 (lo : Nat) : Spec := fun g args η K => match g with | 94 => SMesh args η K | 95 => SIn args η K | 96 => SFace args η K | _ => False
theorem Sp27_ok {lo : Nat} : Sound Try.prog lo (Sp27 lo) := by
  intro g args η K h
  unfold Sp27 at h
  split at h
  · exact f94_ok h
  · exact f95_ok h
  · exact f96_ok h
  · exact h.elim
theorem f27_ok {lo : Nat} {args : List AV} {η : List Blk} {K : AV → List Blk → Prop} (h : SFLv args η K) : AF Try.prog lo 27 args η K := by
  unfold SFLv at h
  split at h
  · obtain ⟨⟨⟨l, hr, hl⟩, hm1, i0, i1⟩, hK⟩ := h
    rename_i r _ i
    have d1 := hr.dec3
    have o1 : ok3 45 _ _ := ⟨l, hr, hl⟩
    simp only [d1] at hK hm1 i1
    have hlv := mesh_levs hm1
    obtain ⟨b, ver, rfl, hb⟩ := hr
    have hin : inB i 0 ((l.length : Int) - 2) = true := by simp only [inB, Bool.and_eq_true, decide_eq_true_eq]; omega
    refine AF_run Sp27_ok D0 [] [.tmp 4] hm Try.func27 rfl (by decide) Try.ntmps27 rfl (by kernel_rfl) (Nat.le_of_ble_eq_true rfl) ?_; intro hlo
    repeat' (first | with_reducible refine iteI (fun _ => ?_) (fun _ => ?_) | ((first | unfold AOpsC | unfold AOpsD | skip); simp (maxSteps := 1000000) (disch := (first | omega | assumption | (simp only [List.length_append, List.length_cons, List.length_nil, List.length_set]; omega))) only [go_sem, ↓skipC, ↓exitC, ↓retC, ↓seqC, ↓blockC, ↓condC, ↓regC, ↓drawC, ↓drawStep, ↓AOpC, ↓AOpF, ↓AOpE, ↓AEff, ↓contE_at, ↓contC_at, ↓keepC_at, ↓keepW_at, ↓map_parts, ↓reduceIte, reduceCtorEq, Nat.reduceLT, Nat.reduceEqDiff, Nat.reduceAdd, Nat.reduceMul, Nat.reduceLeDiff, Nat.reduceSub, Nat.reduceBEq, Nat.reduceBNe, Nat.reduceBneDiff, Nat.reduceBeqDiff, ag_24, ag_26, ag_45, by_24, by_26, by_45, el_24, fi_26_1, nf_26, nf_45, pl_26, pl_45, ps_26, ps_45, sz_24, sz_26, sz_45, ze_24, ze_26, ze_45, Sp27, SMesh, SIn, SFace, hb, d1, o1, hm1, hlv, hin]))
    exact hK
  · exact h.elim

def invTk (η : List Blk) (r : Int) (l : List Id3) (b0 v0 bp wp : Nat) (ps : List Int) (q : Int) (st : St) : Prop := ∃ i : Nat, ∃ H : List Blk, (i ≤ 16) ∧ (Ext η H) ∧ st.n = 79 ∧ st.τ 3 = .loc 3 1 0 ∧ st.τ 4 = .sl bp wp 0 ps.length ∧ st.τ 5 = .int .i64 (actS l (16 * q) (l.length - 1) i) ∧ st.τ 6 = .int .i64 (16 * q + i) ∧ st.lam 3 = ⟨1, [.int .i64 r, .sl b0 v0 0 l.length]⟩ ∧ st.η = H

def invUk (η : List Blk) (r : Int) (l : List Id3) (b0 v0 bp wp : Nat) (ps : List Int) (q : Int) (k : Nat) (u : AV) (L : List Int) (st : St) : Prop := ∃ i : Nat, (i ≤ L.length) ∧ st.n = 79 ∧ st.τ 3 = .loc 3 1 0 ∧ st.τ 4 = .sl bp wp 0 ps.length ∧ st.τ 5 = .int .i64 (actS l (16 * q) (l.length - 1) k) ∧ st.τ 6 = .int .i64 (16 * q + k) ∧ st.τ 7 = u ∧ st.τ 8 = .int .i64 i ∧ st.lam 3 = ⟨1, [.int .i64 r, .sl b0 v0 0 l.length]⟩ ∧ st.η = η

def invCk (η : List Blk) (r : Int) (l : List Id3) (b0 v0 : Nat) (n : Int) (st : St) : Prop := ∃ i : Nat, (i ≤ l.length - 1) ∧ st.n = 79 ∧ st.τ 3 = .loc 3 1 0 ∧ st.τ 5 = .int .i64 n ∧ st.τ 9 = .int .i64 (costN l i) ∧ st.τ 10 = .int .i64 i ∧ st.lam 3 = ⟨1, [.int .i64 r, .sl b0 v0 0 l.length]⟩ ∧ st.η = η

/- laws.FnActive -/
def Sp3 (lo : Nat) : Spec := fun g args η K => match g with | 22 => SBig lo args η K | 23 => SDrawM lo args η K | 24 => SPlaces lo args η K | 25 => SActR args η K | 26 => SIsAct args η K | 27 => SFLv args η K | _ => False
theorem Sp3_ok {lo : Nat} : Sound Try.prog lo (Sp3 lo) := by
  intro g args η K h
  unfold Sp3 at h
  split at h
  · exact f22_ok h
  · exact f23_ok h
  · exact f24_ok h
  · exact f25_ok h
  · exact f26_ok h
  · exact f27_ok h
  · exact h.elim
def D3 : Draws := fun id => match id with | 13 => ([0, 0, 0, 0, 12, 28, 62, 127, 255], [6], [], (.one 0 (.one 1 (.one 2 (.one 3 (.one 4 (.one 5 (.one 6 (.one 7 (.one 8 .nil)))))))))) | _ => ([], [], [], .nil)
theorem f3_ok {lo : Nat} {args : List AV} {η : List Blk} {K : AV → List Blk → Prop} (h : SDL lo args η K) : AF Try.prog lo 3 args η K := by
  unfold SDL at h
  split at h
  · obtain ⟨g, hr, hml, hK⟩ := h
    have hn := (noLoc8 hr).1
    refine AF_run Sp3_ok D3 [] [.tmp 2] hm Try.func3 rfl (by decide) Try.ntmps3 rfl (by kernel_rfl) (Nat.le_of_ble_eq_true rfl) ?_; intro hlo
    repeat' (first | with_reducible refine iteI (fun _ => ?_) (fun _ => ?_) | ((first | unfold AOpsC | unfold AOpsD | skip); simp (maxSteps := 1000000) (disch := (first | omega | assumption | (simp only [List.length_append, List.length_cons, List.length_nil, List.length_set]; omega))) only [go_sem, ↓skipC, ↓exitC, ↓retC, ↓seqC, ↓blockC, ↓condC, ↓regC, ↓drawC, ↓drawStep, ↓AOpC, ↓AOpF, ↓AOpE, ↓AEff, ↓contE_at, ↓contC_at, ↓keepC_at, ↓keepW_at, ↓map_parts, ↓reduceIte, reduceCtorEq, Nat.reduceLT, Nat.reduceEqDiff, Nat.reduceAdd, Nat.reduceMul, Nat.reduceLeDiff, Nat.reduceSub, Nat.reduceBEq, Nat.reduceBNe, Nat.reduceBneDiff, Nat.reduceBeqDiff, ag_24, ag_26, ag_28, ag_3, ag_45, by_24, by_26, by_28, by_3, by_45, el_24, el_28, fi_26_1, in_3, in_33, nf_26, nf_45, pl_26, pl_45, ps_26, ps_45, sz_24, sz_26, sz_28, sz_3, sz_45, ze_24, ze_26, ze_28, ze_3, ze_45, Sp3, SIsAct, SFLv, D3, ↓hn]))
    unfold SBig
    refine ⟨g, hr, hml, ?_⟩
    by_cases hl : (1048576 : Int) < g.length
    · repeat' (first | with_reducible refine iteI (fun _ => ?_) (fun _ => ?_) | ((first | unfold AOpsC | unfold AOpsD | skip); simp (maxSteps := 1000000) (disch := (first | omega | assumption | (simp only [List.length_append, List.length_cons, List.length_nil, List.length_set]; omega))) only [go_sem, ↓skipC, ↓exitC, ↓retC, ↓seqC, ↓blockC, ↓condC, ↓regC, ↓drawC, ↓drawStep, ↓AOpC, ↓AOpF, ↓AOpE, ↓AEff, ↓contE_at, ↓contC_at, ↓keepC_at, ↓keepW_at, ↓map_parts, ↓reduceIte, reduceCtorEq, Nat.reduceLT, Nat.reduceEqDiff, Nat.reduceAdd, Nat.reduceMul, Nat.reduceLeDiff, Nat.reduceSub, Nat.reduceBEq, Nat.reduceBNe, Nat.reduceBneDiff, Nat.reduceBeqDiff, ag_24, ag_26, ag_28, ag_3, ag_45, by_24, by_26, by_28, by_3, by_45, el_24, el_28, fi_26_1, in_3, in_33, nf_26, nf_45, pl_26, pl_45, ps_26, ps_45, sz_24, sz_26, sz_28, sz_3, sz_45, ze_24, ze_26, ze_28, ze_3, ze_45, Sp3, SIsAct, SFLv, D3, ↓hn, hl]))
      exact hK _
    repeat' (first | with_reducible refine iteI (fun _ => ?_) (fun _ => ?_) | ((first | unfold AOpsC | unfold AOpsD | skip); simp (maxSteps := 1000000) (disch := (first | omega | assumption | (simp only [List.length_append, List.length_cons, List.length_nil, List.length_set]; omega))) only [go_sem, ↓skipC, ↓exitC, ↓retC, ↓seqC, ↓blockC, ↓condC, ↓regC, ↓drawC, ↓drawStep, ↓AOpC, ↓AOpF, ↓AOpE, ↓AEff, ↓contE_at, ↓contC_at, ↓keepC_at, ↓keepW_at, ↓map_parts, ↓reduceIte, reduceCtorEq, Nat.reduceLT, Nat.reduceEqDiff, Nat.reduceAdd, Nat.reduceMul, Nat.reduceLeDiff, Nat.reduceSub, Nat.reduceBEq, Nat.reduceBNe, Nat.reduceBneDiff, Nat.reduceBeqDiff, ag_24, ag_26, ag_28, ag_3, ag_45, by_24, by_26, by_28, by_3, by_45, el_24, el_28, fi_26_1, in_3, in_33, nf_26, nf_45, pl_26, pl_45, ps_26, ps_45, sz_24, sz_26, sz_28, sz_3, sz_45, ze_24, ze_26, ze_28, ze_3, ze_45, Sp3, SIsAct, SFLv, D3, ↓hn, hl]))
    unfold SDrawM
    refine ⟨g, hr, hml, fun HS r l b0 v0 k1 hr3 hb0n w0 hx => ?_⟩
    have hln := mesh_len k1
    have hne := mesh_ne k1
    have hlv := mesh_levs k1
    replace hr := hr.ext hx
    repeat' (first | with_reducible refine iteI (fun _ => ?_) (fun _ => ?_) | ((first | unfold AOpsC | unfold AOpsD | skip); simp (maxSteps := 1000000) (disch := (first | omega | assumption | (simp only [List.length_append, List.length_cons, List.length_nil, List.length_set]; omega))) only [go_sem, ↓skipC, ↓exitC, ↓retC, ↓seqC, ↓blockC, ↓condC, ↓regC, ↓drawC, ↓drawStep, ↓AOpC, ↓AOpF, ↓AOpE, ↓AEff, ↓contE_at, ↓contC_at, ↓keepC_at, ↓keepW_at, ↓map_parts, ↓reduceIte, reduceCtorEq, Nat.reduceLT, Nat.reduceEqDiff, Nat.reduceAdd, Nat.reduceMul, Nat.reduceLeDiff, Nat.reduceSub, Nat.reduceBEq, Nat.reduceBNe, Nat.reduceBneDiff, Nat.reduceBeqDiff, ag_24, ag_26, ag_28, ag_3, ag_45, by_24, by_26, by_28, by_3, by_45, el_24, el_28, fi_26_1, in_3, in_33, nf_26, nf_45, pl_26, pl_45, ps_26, ps_45, sz_24, sz_26, sz_28, sz_3, sz_45, ze_24, ze_26, ze_28, ze_3, ze_45, Sp3, SIsAct, SFLv, D3, ↓hn, w0]))
    unfold SPlaces
    refine ⟨g, hr, hml, fun vp HP ps hps hall hi hext => ?_⟩
    obtain ⟨bp, wp, rfl, hbp⟩ := hi
    replace hr := hr.ext hext
    have hpx : ∀ i, i < 12 → 0 ≤ ps.getD i 0 ∧ ps.getD i 0 < 10000 := fun i hi => hall _ (of_eq_true (memD (by omega)))
    replace w0 := hext.blk w0
    have D1 : dec3 45 HP (.sl b0 v0 0 l.length) = l := IsR.dec3 ⟨b0, v0, rfl, w0⟩
    have O1 : ok3 45 HP (.sl b0 v0 0 l.length) := ⟨l, ⟨b0, v0, rfl, w0⟩, by omega⟩
    have x0 := hpx 0 (by omega)
    have y0 := tmod_bd (b := 9) x0.1 (by omega)
    repeat' (first | with_reducible refine iteI (fun _ => ?_) (fun _ => ?_) | ((first | unfold AOpsC | unfold AOpsD | skip); simp (maxSteps := 1000000) (disch := (first | omega | assumption | (simp only [List.length_append, List.length_cons, List.length_nil, List.length_set]; omega))) only [go_sem, ↓skipC, ↓exitC, ↓retC, ↓seqC, ↓blockC, ↓condC, ↓regC, ↓drawC, ↓drawStep, ↓AOpC, ↓AOpF, ↓AOpE, ↓AEff, ↓contE_at, ↓contC_at, ↓keepC_at, ↓keepW_at, ↓map_parts, ↓reduceIte, reduceCtorEq, Nat.reduceLT, Nat.reduceEqDiff, Nat.reduceAdd, Nat.reduceMul, Nat.reduceLeDiff, Nat.reduceSub, Nat.reduceBEq, Nat.reduceBNe, Nat.reduceBneDiff, Nat.reduceBeqDiff, ag_24, ag_26, ag_28, ag_3, ag_45, by_24, by_26, by_28, by_3, by_45, el_24, el_28, fi_26_1, in_3, in_33, nf_26, nf_45, pl_26, pl_45, ps_26, ps_45, sz_24, sz_26, sz_28, sz_3, sz_45, ze_24, ze_26, ze_28, ze_3, ze_45, Sp3, SIsAct, SFLv, D3, w0, D1, O1, hbp, Int.reduceToNat, Int.toNat_zero, Int.toNat_one, Nat.zero_mul, Nat.one_mul]))
    generalize hq : (ps.getD 0 0).tmod 9 = q at *
    refine ⟨invTk HP r l b0 v0 bp wp ps q, fun st => ctr (16 * q + 16).toNat st 6, .inl ⟨0, _, Nat.zero_le _, Ext.refl _, rfl, (by first | (simp [upd]; done) | (simp [upd, *]; done) | rfl), (by first | (simp [upd]; done) | (simp [upd, *]; done) | rfl), (by first | (simp [upd]; done) | (simp [upd, *]; done) | rfl), (by first | (simp [upd]; done) | (simp [upd, *]; done) | rfl), (by first | (simp [upd]; done) | (simp [upd, *]; done) | rfl), rfl⟩, ?_⟩
    rintro ⟨n, τ, lam, η'⟩ ⟨i, H, g0, g1, hn, t3, t4, t5, t6, l3, hη⟩; simp only at hn t3 t4 t5 t6 l3 hη; subst hn hη
    have w0' := g1.blk w0
    have hbp' := g1.blk hbp
    have D1' : dec3 45 η' (.sl b0 v0 0 l.length) = l := IsR.dec3 ⟨b0, v0, rfl, w0'⟩
    have O1' : ok3 45 η' (.sl b0 v0 0 l.length) := ⟨l, ⟨b0, v0, rfl, w0'⟩, by omega⟩
    have sb := actS_bd2 l (16 * q) (n := l.length - 1) (k := i) (by omega) (by omega)
    by_cases hk : i < 16
    · repeat' (first | with_reducible refine iteI (fun _ => ?_) (fun _ => ?_) | ((first | unfold AOpsC | unfold AOpsD | skip); simp (maxSteps := 1000000) (disch := (first | omega | assumption | (simp only [List.length_append, List.length_cons, List.length_nil, List.length_set]; omega))) only [go_sem, ↓skipC, ↓exitC, ↓retC, ↓seqC, ↓blockC, ↓condC, ↓regC, ↓drawC, ↓drawStep, ↓AOpC, ↓AOpF, ↓AOpE, ↓AEff, ↓contE_at, ↓contC_at, ↓keepC_at, ↓keepW_at, ↓map_parts, ↓reduceIte, reduceCtorEq, Nat.reduceLT, Nat.reduceEqDiff, Nat.reduceAdd, Nat.reduceMul, Nat.reduceLeDiff, Nat.reduceSub, Nat.reduceBEq, Nat.reduceBNe, Nat.reduceBneDiff, Nat.reduceBeqDiff, ag_24, ag_26, ag_28, ag_3, ag_45, by_24, by_26, by_28, by_3, by_45, el_24, el_28, fi_26_1, in_3, in_33, nf_26, nf_45, pl_26, pl_45, ps_26, ps_45, sz_24, sz_26, sz_28, sz_3, sz_45, ze_24, ze_26, ze_28, ze_3, ze_45, Sp3, SIsAct, SFLv, D3, hbp', Int.reduceToNat, Int.toNat_zero, Nat.zero_mul, hq, t3, t4, t5, t6, l3]))
      unfold SActR
      refine ⟨O1', fun H1 u hu xu => ?_⟩
      rw [D1'] at hu
      have hL0 : actR r l (16 * q + (i : Int)) = actN l (16 * q + (i : Int)) (l.length - 1) := if_pos k1
      rw [hL0] at hu
      have hmem := act_act l (16 * q + (i : Int)) (l.length - 1)
      have hlen := act_len l (16 * q + (i : Int)) (l.length - 1)
      have hLl : (actN l (16 * q + (i : Int)) (l.length - 1)).length = (actN l (16 * q + (i : Int)) (l.length - 1)).length := rfl
      clear hL0
      generalize hL : actN l (16 * q + (i : Int)) (l.length - 1) = L at hu hmem hlen
      have hn1 := hu.1.noLoc.1
      obtain ⟨hu, _⟩ := hu
      have w0 := xu.blk w0'
      have D1 : dec3 45 H1 (.sl b0 v0 0 l.length) = l := IsR.dec3 ⟨b0, v0, rfl, w0⟩
      have O1 : ok3 45 H1 (.sl b0 v0 0 l.length) := ⟨l, ⟨b0, v0, rfl, w0⟩, by omega⟩
      have hS : actS l (16 * q) (l.length - 1) (i + 1) = actS l (16 * q) (l.length - 1) i + L.length := by rw [actS, hL]
      have gg := g1.trans xu
      clear hLl g1 w0' D1' O1' sb
      have t6o := t6
      generalize i = k at *
      rcases hu with ⟨hu, rfl⟩ | ⟨bf, wf, rfl, hbf⟩
      · rcases hu with rfl | rfl
        all_goals
          repeat' (first | with_reducible refine iteI (fun _ => ?_) (fun _ => ?_) | ((first | unfold AOpsC | unfold AOpsD | skip); simp (maxSteps := 1000000) (disch := (first | omega | assumption | (simp only [List.length_append, List.length_cons, List.length_nil, List.length_set]; omega))) only [go_sem, ↓skipC, ↓exitC, ↓retC, ↓seqC, ↓blockC, ↓condC, ↓regC, ↓drawC, ↓drawStep, ↓AOpC, ↓AOpF, ↓AOpE, ↓AEff, ↓contE_at, ↓contC_at, ↓keepC_at, ↓keepW_at, ↓map_parts, ↓reduceIte, reduceCtorEq, Nat.reduceLT, Nat.reduceEqDiff, Nat.reduceAdd, Nat.reduceMul, Nat.reduceLeDiff, Nat.reduceSub, Nat.reduceBEq, Nat.reduceBNe, Nat.reduceBneDiff, Nat.reduceBeqDiff, ag_24, ag_26, ag_28, ag_3, ag_45, by_24, by_26, by_28, by_3, by_45, el_24, el_28, fi_26_1, in_3, in_33, nf_26, nf_45, pl_26, pl_45, ps_26, ps_45, sz_24, sz_26, sz_28, sz_3, sz_45, ze_24, ze_26, ze_28, ze_3, ze_45, Sp3, SIsAct, SFLv, D3, ↓hn1, t3, t4, t5, t6, l3]))
          refine ⟨invUk H1 r l b0 v0 bp wp ps q k _ [], fun st => ctr 0 st 8, .inl ⟨0, Nat.zero_le _, rfl, (by first | (simp [upd]; done) | (simp [upd, *]; done) | rfl), (by first | (simp [upd]; done) | (simp [upd, *]; done) | rfl), (by first | (simp [upd]; done) | (simp [upd, *]; done) | rfl), (by first | (simp [upd]; done) | (simp [upd, *]; done) | rfl), (by first | (simp [upd]; done) | (simp [upd, *]; done) | rfl), (by first | (simp [upd]; done) | (simp [upd, *]; done) | rfl), (by first | (simp [upd]; done) | (simp [upd, *]; done) | rfl), rfl⟩, ?_⟩
          rintro ⟨n, τ, lam, η'⟩ ⟨i, g0, hn, t3, t4, t5, t6, t7, t8, l3, hη⟩; simp only at hn t3 t4 t5 t6 t7 t8 l3 hη; subst hn hη
          have sb := actS_bd2 l (16 * q) (n := l.length - 1) (k := k) (by omega) (by omega)
          obtain rfl : i = 0 := by simpa using g0
          repeat' (first | with_reducible refine iteI (fun _ => ?_) (fun _ => ?_) | ((first | unfold AOpsC | unfold AOpsD | skip); simp (maxSteps := 1000000) (disch := (first | omega | assumption | (simp only [List.length_append, List.length_cons, List.length_nil, List.length_set]; omega))) only [go_sem, ↓skipC, ↓exitC, ↓retC, ↓seqC, ↓blockC, ↓condC, ↓regC, ↓drawC, ↓drawStep, ↓AOpC, ↓AOpF, ↓AOpE, ↓AEff, ↓contE_at, ↓contC_at, ↓keepC_at, ↓keepW_at, ↓map_parts, ↓reduceIte, reduceCtorEq, Nat.reduceLT, Nat.reduceEqDiff, Nat.reduceAdd, Nat.reduceMul, Nat.reduceLeDiff, Nat.reduceSub, Nat.reduceBEq, Nat.reduceBNe, Nat.reduceBneDiff, Nat.reduceBeqDiff, ag_24, ag_26, ag_28, ag_3, ag_45, by_24, by_26, by_28, by_3, by_45, el_24, el_28, fi_26_1, in_3, in_33, nf_26, nf_45, pl_26, pl_45, ps_26, ps_45, sz_24, sz_26, sz_28, sz_3, sz_45, ze_24, ze_26, ze_28, ze_3, ze_45, Sp3, SIsAct, SFLv, D3, t3, t4, t5, t6, t7, t8, l3]))
          refine ⟨⟨k + 1, _, hk, gg, rfl, by simp [upd, t3], by simp [upd, t4], by simp [upd, t5, hS], by simp [upd, t6]; omega, by simp [upd, l3], rfl⟩, by simp [ctr, upd, t6, t6o]; omega⟩
      · repeat' (first | with_reducible refine iteI (fun _ => ?_) (fun _ => ?_) | ((first | unfold AOpsC | unfold AOpsD | skip); simp (maxSteps := 1000000) (disch := (first | omega | assumption | (simp only [List.length_append, List.length_cons, List.length_nil, List.length_set]; omega))) only [go_sem, ↓skipC, ↓exitC, ↓retC, ↓seqC, ↓blockC, ↓condC, ↓regC, ↓drawC, ↓drawStep, ↓AOpC, ↓AOpF, ↓AOpE, ↓AEff, ↓contE_at, ↓contC_at, ↓keepC_at, ↓keepW_at, ↓map_parts, ↓reduceIte, reduceCtorEq, Nat.reduceLT, Nat.reduceEqDiff, Nat.reduceAdd, Nat.reduceMul, Nat.reduceLeDiff, Nat.reduceSub, Nat.reduceBEq, Nat.reduceBNe, Nat.reduceBneDiff, Nat.reduceBeqDiff, ag_24, ag_26, ag_28, ag_3, ag_45, by_24, by_26, by_28, by_3, by_45, el_24, el_28, fi_26_1, in_3, in_33, nf_26, nf_45, pl_26, pl_45, ps_26, ps_45, sz_24, sz_26, sz_28, sz_3, sz_45, ze_24, ze_26, ze_28, ze_3, ze_45, Sp3, SIsAct, SFLv, D3, ↓hn1, hbf, t3, t4, t5, t6, l3]))
        refine ⟨invUk H1 r l b0 v0 bp wp ps q k (.sl bf wf 0 L.length) L, fun st => ctr L.length st 8, .inl ⟨0, Nat.zero_le _, rfl, (by first | (simp [upd]; done) | (simp [upd, *]; done) | rfl), (by first | (simp [upd]; done) | (simp [upd, *]; done) | rfl), (by first | (simp [upd]; done) | (simp [upd, *]; done) | rfl), (by first | (simp [upd]; done) | (simp [upd, *]; done) | rfl), (by first | (simp [upd]; done) | (simp [upd, *]; done) | rfl), (by first | (simp [upd]; done) | (simp [upd, *]; done) | rfl), (by first | (simp [upd]; done) | (simp [upd, *]; done) | rfl), rfl⟩, ?_⟩
        rintro ⟨n, τ, lam, η'⟩ ⟨i, g0, hn, t3, t4, t5, t6, t7, t8, l3, hη⟩; simp only at hn t3 t4 t5 t6 t7 t8 l3 hη; subst hn hη
        have sb := actS_bd2 l (16 * q) (n := l.length - 1) (k := k) (by omega) (by omega)
        by_cases hlt : i < L.length
        · obtain ⟨m1, m2, m3⟩ := hmem _ (getD_mem (d := 0) hlt)
          repeat' (first | with_reducible refine iteI (fun _ => ?_) (fun _ => ?_) | ((first | unfold AOpsC | unfold AOpsD | skip); simp (maxSteps := 1000000) (disch := (first | omega | assumption | (simp only [List.length_append, List.length_cons, List.length_nil, List.length_set]; omega))) only [go_sem, ↓skipC, ↓exitC, ↓retC, ↓seqC, ↓blockC, ↓condC, ↓regC, ↓drawC, ↓drawStep, ↓AOpC, ↓AOpF, ↓AOpE, ↓AEff, ↓contE_at, ↓contC_at, ↓keepC_at, ↓keepW_at, ↓map_parts, ↓reduceIte, reduceCtorEq, Nat.reduceLT, Nat.reduceEqDiff, Nat.reduceAdd, Nat.reduceMul, Nat.reduceLeDiff, Nat.reduceSub, Nat.reduceBEq, Nat.reduceBNe, Nat.reduceBneDiff, Nat.reduceBeqDiff, ag_24, ag_26, ag_28, ag_3, ag_45, by_24, by_26, by_28, by_3, by_45, el_24, el_28, fi_26_1, in_3, in_33, nf_26, nf_45, pl_26, pl_45, ps_26, ps_45, sz_24, sz_26, sz_28, sz_3, sz_45, ze_24, ze_26, ze_28, ze_3, ze_45, Sp3, SIsAct, SFLv, D3, t3, t4, t5, t6, t7, t8, l3, hbf, D1, O1, w0, k1, m3]))
          refine ⟨⟨i + 1, hlt, rfl, (by simp [upd, t3, t4, t5, t6, t7, t8]), (by simp [upd, t3, t4, t5, t6, t7, t8]), (by simp [upd, t3, t4, t5, t6, t7, t8]), (by simp [upd, t3, t4, t5, t6, t7, t8]), (by simp [upd, t3, t4, t5, t6, t7, t8]), (by simp [upd, t3, t4, t5, t6, t7, t8]), (by simp [upd, l3]), rfl⟩, (by simp [ctr, upd, t3, t4, t5, t6, t7, t8]; omega)⟩
        · obtain rfl : i = L.length := by omega
          repeat' (first | with_reducible refine iteI (fun _ => ?_) (fun _ => ?_) | ((first | unfold AOpsC | unfold AOpsD | skip); simp (maxSteps := 1000000) (disch := (first | omega | assumption | (simp only [List.length_append, List.length_cons, List.length_nil, List.length_set]; omega))) only [go_sem, ↓skipC, ↓exitC, ↓retC, ↓seqC, ↓blockC, ↓condC, ↓regC, ↓drawC, ↓drawStep, ↓AOpC, ↓AOpF, ↓AOpE, ↓AEff, ↓contE_at, ↓contC_at, ↓keepC_at, ↓keepW_at, ↓map_parts, ↓reduceIte, reduceCtorEq, Nat.reduceLT, Nat.reduceEqDiff, Nat.reduceAdd, Nat.reduceMul, Nat.reduceLeDiff, Nat.reduceSub, Nat.reduceBEq, Nat.reduceBNe, Nat.reduceBneDiff, Nat.reduceBeqDiff, ag_24, ag_26, ag_28, ag_3, ag_45, by_24, by_26, by_28, by_3, by_45, el_24, el_28, fi_26_1, in_3, in_33, nf_26, nf_45, pl_26, pl_45, ps_26, ps_45, sz_24, sz_26, sz_28, sz_3, sz_45, ze_24, ze_26, ze_28, ze_3, ze_45, Sp3, SIsAct, SFLv, D3, t3, t4, t5, t6, t7, t8, l3, hbf]))
          refine ⟨⟨k + 1, _, hk, gg, rfl, by simp [upd, t3], by simp [upd, t4], by simp [upd, t5, hS], by simp [upd, t6]; omega, by simp [upd, l3], rfl⟩, by simp [ctr, upd, t6, t6o]; omega⟩
    · obtain rfl : i = 16 := by omega
      repeat' (first | with_reducible refine iteI (fun _ => ?_) (fun _ => ?_) | ((first | unfold AOpsC | unfold AOpsD | skip); simp (maxSteps := 1000000) (disch := (first | omega | assumption | (simp only [List.length_append, List.length_cons, List.length_nil, List.length_set]; omega))) only [go_sem, ↓skipC, ↓exitC, ↓retC, ↓seqC, ↓blockC, ↓condC, ↓regC, ↓drawC, ↓drawStep, ↓AOpC, ↓AOpF, ↓AOpE, ↓AEff, ↓contE_at, ↓contC_at, ↓keepC_at, ↓keepW_at, ↓map_parts, ↓reduceIte, reduceCtorEq, Nat.reduceLT, Nat.reduceEqDiff, Nat.reduceAdd, Nat.reduceMul, Nat.reduceLeDiff, Nat.reduceSub, Nat.reduceBEq, Nat.reduceBNe, Nat.reduceBneDiff, Nat.reduceBeqDiff, ag_24, ag_26, ag_28, ag_3, ag_45, by_24, by_26, by_28, by_3, by_45, el_24, el_28, fi_26_1, in_3, in_33, nf_26, nf_45, pl_26, pl_45, ps_26, ps_45, sz_24, sz_26, sz_28, sz_3, sz_45, ze_24, ze_26, ze_28, ze_3, ze_45, Sp3, SIsAct, SFLv, D3, hbp', Int.reduceToNat, Int.toNat_zero, Nat.zero_mul, hq, t3, t4, t5, t6, l3]))
      have hcn := actS_full hlv (q := q) y0.1 (l.length - 1) (by omega)
      refine ⟨invCk η' r l b0 v0 (costN l (l.length - 1)), fun st => ctr l.length st 10, .inl ⟨0, Nat.zero_le _, rfl, (by first | (simp [upd]; done) | (simp [upd, *]; done) | rfl), (by first | (simp [upd]; done) | (simp [upd, *]; done) | rfl), (by first | (simp [upd]; done) | (simp [upd, *]; done) | rfl), (by first | (simp [upd]; done) | (simp [upd, *]; done) | rfl), (by first | (simp [upd]; done) | (simp [upd, *]; done) | rfl), rfl⟩, ?_⟩
      clear sb
      rintro ⟨n, τ, lam, η'⟩ ⟨i, g0, hn, t3, t5, t9, t10, l3, hη⟩; simp only at hn t3 t5 t9 t10 l3 hη; subst hn hη
      by_cases hlt : i + 1 < l.length
      · have hlt1 := hlt
        have f1 := face_bd hlv (i := i) hlt
        have f2 := cost_bd hlv i (by omega)
        have hco : costN l (i + 1) = costN l i + 2 ^ (faceI l i).toNat := rfl
        rcases lv5 f1 with x4 | x4 | x4 | x4 | x4
        all_goals
          rw [x4] at hco
          simp only [Int.reduceToNat, Nat.min_eq_left, Int.reducePow, IntKind.bits, Int.reduceMul, Int.reduceSub, Int.reduceAdd, Int.reduceFDiv, wrapU, Int.one_mul] at hco
          repeat' (first | with_reducible refine iteI (fun _ => ?_) (fun _ => ?_) | ((first | unfold AOpsC | unfold AOpsD | skip); simp (maxSteps := 1000000) (disch := (first | omega | assumption | (simp only [List.length_append, List.length_cons, List.length_nil, List.length_set]; omega))) only [go_sem, ↓skipC, ↓exitC, ↓retC, ↓seqC, ↓blockC, ↓condC, ↓regC, ↓drawC, ↓drawStep, ↓AOpC, ↓AOpF, ↓AOpE, ↓AEff, ↓contE_at, ↓contC_at, ↓keepC_at, ↓keepW_at, ↓map_parts, ↓reduceIte, reduceCtorEq, Nat.reduceLT, Nat.reduceEqDiff, Nat.reduceAdd, Nat.reduceMul, Nat.reduceLeDiff, Nat.reduceSub, Nat.reduceBEq, Nat.reduceBNe, Nat.reduceBneDiff, Nat.reduceBeqDiff, ag_24, ag_26, ag_28, ag_3, ag_45, by_24, by_26, by_28, by_3, by_45, el_24, el_28, fi_26_1, in_3, in_33, nf_26, nf_45, pl_26, pl_45, ps_26, ps_45, sz_24, sz_26, sz_28, sz_3, sz_45, ze_24, ze_26, ze_28, ze_3, ze_45, Sp3, SIsAct, SFLv, D3, w0', D1', O1', k1, t3, t5, t9, t10, l3, x4, Int.reduceToNat, Nat.min_eq_left, Int.reducePow, IntKind.bits, Int.reduceMul, Int.reduceSub, Int.reduceAdd, Int.reduceFDiv, wrapU, Int.one_mul]))
          try rw [← hco]
          refine ⟨⟨i + 1, by omega, rfl, (by simp [upd, t3, t5, t9, t10]), (by simp [upd, t3, t5, t9, t10]), (by simp [upd, t3, t5, t9, t10]), (by simp [upd, t3, t5, t9, t10]), (by simp [upd, l3]), rfl⟩, (by simp [ctr, upd, t3, t5, t9, t10]; omega)⟩
      · obtain rfl : i = l.length - 1 := by omega
        have a1 : actB (-16) 0 = false := by decide
        have a2 : actB 16 0 = true := by decide
        repeat' (first | with_reducible refine iteI (fun _ => ?_) (fun _ => ?_) | ((first | unfold AOpsC | unfold AOpsD | skip); simp (maxSteps := 1000000) (disch := (first | omega | assumption | (simp only [List.length_append, List.length_cons, List.length_nil, List.length_set]; omega))) only [go_sem, ↓skipC, ↓exitC, ↓retC, ↓seqC, ↓blockC, ↓condC, ↓regC, ↓drawC, ↓drawStep, ↓AOpC, ↓AOpF, ↓AOpE, ↓AEff, ↓contE_at, ↓contC_at, ↓keepC_at, ↓keepW_at, ↓map_parts, ↓reduceIte, reduceCtorEq, Nat.reduceLT, Nat.reduceEqDiff, Nat.reduceAdd, Nat.reduceMul, Nat.reduceLeDiff, Nat.reduceSub, Nat.reduceBEq, Nat.reduceBNe, Nat.reduceBneDiff, Nat.reduceBeqDiff, ag_24, ag_26, ag_28, ag_3, ag_45, by_24, by_26, by_28, by_3, by_45, el_24, el_28, fi_26_1, in_3, in_33, nf_26, nf_45, pl_26, pl_45, ps_26, ps_45, sz_24, sz_26, sz_28, sz_3, sz_45, ze_24, ze_26, ze_28, ze_3, ze_45, Sp3, SIsAct, SFLv, D3, w0', D1', O1', k1, t3, t5, t9, t10, l3, a1, a2]))
        exact hK _
  · exact h.elim

/- the law -/
theorem law_ok {blks : List Blk} {x0 : AV} (s0 : AvSh blks (.rows 5 1 .u8) x0) : AF Try.prog blks.length 3 [x0] blks fun v _ => v = .bool true := by
  obtain ⟨l, hl, hlm⟩ := row8 s0
  exact f3_ok (show SDL blks.length _ _ _ from ⟨l, hl, hlm, fun _ => rfl⟩)

end Go.Proofs.Ytffefndnnbcplaa
