/- What functions of the program compute, said in the abstract logic; no conditions. -/
import Derived.Test.YtaalpmbopkbdiaaGreatGMove

namespace Go.Proofs.YtaalpmbopkbdiaaGreat
open Go
set_option linter.unusedSimpArgs false
set_option linter.unusedVariables false
set_option maxRecDepth 100000
set_option maxHeartbeats 8000000
attribute [local go_sem] st0 AC thenA andC locLoadB KsSW_same KsSW_grow oldLoadB noBlkB KsSL_same KsOS_same KsOS_grow pv ev put upd dstOk cv cvc binI setB Value.oneCell' EndA resA resA1 List.mapM_cons List.mapM_nil Option.pure_def Option.bind_eq_bind noLocV noLoc1 noLoc noLocs plainV cellsA newVarA putCells condA lam0 inBlockA cur lenA rowA writeA dstA appendC appendZ mapPut mapGet avoidsB avoidB clearB Array.toList_append Op.operands Call.operands newSlot Nat.zero_add Nat.add_zero Nat.succ_ne_self Nat.lt_add_one Nat.zero_lt_succ true_and and_true true_or or_true false_or or_false and_self true_implies forall_const Bool.false_eq_true Bool.true_eq_false false_implies implies_true imp_self ne_eq not_false_eq_true not_true_eq_false false_and and_false List.getElem?_toArray List.getElem?_cons_succ List.getElem?_cons_zero Option.bind_some Option.map_some Bool.not_true Bool.not_false List.getD_cons_zero List.getD_cons_succ Option.some.injEq exists_eq_left' AV.bool.injEq List.map_cons List.map_nil List.all_cons List.all_nil Bool.and_self Bool.and_true Bool.true_and List.append_nil List.cons_append List.nil_append List.length_cons List.length_nil List.drop_zero List.take_zero List.drop_succ_cons List.take_succ_cons List.take_nil List.drop_nil List.not_mem_nil List.mem_cons List.contains_nil List.contains_cons Bool.or_self Bool.or_true Bool.true_or Bool.false_or Bool.or_false Bool.and_false Bool.false_and KsS_same KsS_grow skipV KsS_ext KsSW_ext KsOS_ext rep1 rep2 rep3 rep4 rep5 List.flatten_cons List.flatten_nil partsA isPtr fillA List.size_toArray ltT ltF leT leF ltTn ltFn leTn leFn eqTi eqFi wrapId toNat1 intGet boolGet memD app_get app_last app_lst app_set app_setL app_setF set_ne set_eq gt_iff_lt ge_iff_le decide_eq_true_eq len2 len3 get20 get21 drop2 put2 get30 get31 get32 drop3 put3 putI pairEta bneTi bneFi beqTi beqFi bne_eq_false_iff_eq beq_eq_false_iff_ne beq_iff_eq bne_iff_ne Int.toNat_natCast Nat.mul_one List.length_map Bool.not_eq_true Bool.not_eq_false Bool.decide_eq_true decide_true decide_false Bool.not_eq_true' Bool.not_eq_false' decide_eq_false_iff_not eq_self Decidable.not_not
attribute [local go_sem ↓] skipC exitC retC seqC blockC condC regC drawC drawStep AOpC AOpF AOpE AEff contE_at contC_at keepC_at keepW_at keepO_at keepL_at map_parts
attribute [local go_sem] reduceCtorEq Nat.reduceLT Nat.reduceEqDiff Nat.reduceAdd Nat.reduceMul Nat.reduceLeDiff Nat.reduceSub Nat.reduceBEq Nat.reduceBNe Nat.reduceBneDiff Nat.reduceBeqDiff
attribute [local go_sem ↓] reduceIte
attribute [local go_sem] ag_25 ag_3 ag_34 by_25 by_3 by_34 el_25 en_3 fi_34_1 fi_34_2 in_3 nf_34 pl_34 ps_34 sz_25 sz_3 sz_34 ze_25 ze_3 ze_34

def SMov (lo : Nat) : List AV → List Blk → (AV → List Blk → Prop) → Prop
  | [.ptr p 0 0, .sl bf wf 0 na], η, K => ∃ (n : Nat) (r : Int) (b0 b1 b2 b3 v0 v1 v2 v3 : Nat) (l : List Id3) (ms ts bs A : List Int), lo ≤ n ∧ PtrS n p η r b0 b1 b2 b3 v0 v1 v2 v3 l ms ts bs ∧ okB r l ms ts bs = true ∧ (na = A.length ∧ η[bf]? = some ⟨wf, 3, 1, A.map (.int .i64)⟩ ∧ A.length ≤ 1048576) ∧ facesB ms.length A ∧
      ∀ H, PtrS n p H r b0 b1 b2 b3 v0 v1 v2 v3 l (nM l ms bs A) (nT l ms ts bs A) bs → Touch (hit5 p b0 b1 b2 b3) η H → K (.tup []) H
  | _, _, _ => False
theorem KsOS_app {N n n' : Nat} {τ τ' : Nat → AV} {lam : Nat → LB} {η L1 L2 : List Blk} (h : L1.map (fun B => (B.ver, B.sz)) = L2.map (fun B => (B.ver, B.sz))) (hN : N ≤ η.length) : KsOS N ⟨n, τ, lam, η ++ L1⟩ ⟨n', τ', lam, η ++ L2⟩ := by
  refine ⟨⟨⟨fun s hs => ⟨rfl, fun _ => rfl⟩, fun b blk hb => ?_⟩, fun _ _ => rfl⟩, fun b blk hb hblk => ?_⟩
  · show ∃ blk' : Blk, (η ++ L2)[b]? = some blk' ∧ _
    replace hb : (η ++ L1)[b]? = some blk := hb
    by_cases hl : b < η.length
    · rw [List.getElem?_append_left hl] at hb ⊢
      exact ⟨blk, hb, rfl, rfl, fun e => by cases e⟩
    · rw [List.getElem?_append_right (by omega)] at hb ⊢
      have h1 : (L1.map (fun B => (B.ver, B.sz)))[b - η.length]? = some (blk.ver, blk.sz) := by rw [List.getElem?_map, hb]; rfl
      rw [h, List.getElem?_map] at h1
      cases hb2 : L2[b - η.length]? with
      | none => rw [hb2] at h1; cases h1
      | some blk' =>
        rw [hb2] at h1
        simp only [Option.map_some, Option.some.injEq, Prod.mk.injEq] at h1
        exact ⟨blk', rfl, h1.1, h1.2, fun e => by cases e⟩
  · show (η ++ L2)[b]? = some blk
    replace hblk : (η ++ L1)[b]? = some blk := hblk
    rw [List.getElem?_append_left (by omega)] at hblk ⊢
    exact hblk
theorem shareL {I C : St → Prop} {G : Prop} (loop : ∀ st', I st' → C st') (main : (∀ st', I st' → C st') → G) : G := main loop
theorem Keep.blk {n : Nat} {η H : List Blk} (h : Keep n η H) {c : Nat} {x : Blk} (hc : c < n) (hb : η[c]? = some x) : H[c]? = some x := by rw [h.2 c hc]; exact hb
theorem Keep.set {n : Nat} {η H : List Blk} (h : Keep n η H) {b : Nat} (hb : n ≤ b) (x : Blk) : Keep n η (H.set b x) := ⟨by simpa using h.1, fun c hc => by rw [set_ne (by omega)]; exact h.2 c hc⟩
theorem faces_nat {n : Nat} {A : List Int} (h : facesB n A) {i : Nat} (hi : i < A.length) : ∃ j : Nat, A.getD i 0 = (j : Int) ∧ j + 1 < n := by
  have := h _ (getD_mem (d := 0) hi)
  exact ⟨(A.getD i 0).toNat, by omega, by omega⟩

def invMv1 (η : List Blk) (p bf wf : Nat) (l : List Id3) (ms bs A : List Int) (st : St) : Prop := ∃ i : Nat, ∃ bR : Nat, ∃ bL : Nat, ∃ H : List Blk, (i ≤ A.length) ∧ ((η.length ≤ bR ∧ η.length ≤ bL ∧ bR ≠ bL) ∧ Keep η.length η H) ∧ (H[bR]? = some (rowB 0 (fR l ms bs A i) ms.length)) ∧ (H[bL]? = some (rowB 0 (fL l ms bs A i) ms.length)) ∧ st.n = 155 ∧ st.τ 0 = .ptr p 0 0 ∧ st.τ 4 = .sl bR 0 0 ms.length ∧ st.τ 5 = .sl bL 0 0 ms.length ∧ st.τ 28 = .sl bf wf 0 A.length ∧ st.τ 29 = .int .i64 A.length ∧ st.τ 30 = .int .i64 i ∧ st.lam = lam0 ∧ st.η = H

def invMv2 (η : List Blk) (p : Nat) (l : List Id3) (ms ts bs A : List Int) (st : St) : Prop := ∃ i : Nat, ∃ bR : Nat, ∃ bL : Nat, ∃ pm : Nat, ∃ pt : Nat, ∃ bm : Nat, ∃ bt : Nat, ∃ H : List Blk, (i ≤ ms.length) ∧ ((η.length ≤ bR ∧ η.length ≤ bL ∧ bR < bm ∧ bR < bt ∧ bL < bm ∧ bL < bt ∧ bm ≠ bt ∧ η.length ≤ pm ∧ η.length ≤ pt) ∧ Keep η.length η H) ∧ (H[bR]? = some (rowB 0 (rgt l ms bs A) ms.length)) ∧ (H[bL]? = some (rowB 0 (lft l ms bs A) ms.length)) ∧ (H[pm]? = some ⟨0, 25, 1, [.sl bm 0 0 ms.length]⟩) ∧ (H[pt]? = some ⟨0, 25, 1, [.sl bt 0 0 ms.length]⟩) ∧ (H[bm]? = some (rowB 0 (dV (rgt l ms bs A) (lft l ms bs A) i) ms.length)) ∧ (H[bt]? = some (rowB 0 (dV (outA l ms ts bs A) (outB l ms ts bs A) i) ms.length)) ∧ st.n = 155 ∧ st.τ 0 = .ptr p 0 0 ∧ st.τ 4 = .sl bR 0 0 ms.length ∧ st.τ 5 = .sl bL 0 0 ms.length ∧ st.τ 9 = .ptr pm 0 0 ∧ st.τ 10 = .ptr pt 0 0 ∧ st.τ 11 = .fn 159 [.ptr pm 0 0, .ptr pt 0 0] ∧ st.τ 57 = .sl bm 0 0 ms.length ∧ st.τ 63 = .sl bt 0 0 ms.length ∧ st.τ 69 = .int .i64 ms.length ∧ st.τ 70 = .int .i64 i ∧ st.lam = lam0 ∧ st.η = H

def invMv3 (η : List Blk) (n p : Nat) (r : Int) (b0 b1 b2 b3 v0 v1 v2 v3 : Nat) (l : List Id3) (ms ts bs A : List Int) (st : St) : Prop := ∃ i : Nat, ∃ pm : Nat, ∃ pt : Nat, ∃ bm : Nat, ∃ bt : Nat, ∃ H : List Blk, (i ≤ ms.length) ∧ ((η.length ≤ bm ∧ η.length ≤ bt ∧ η.length ≤ pm ∧ η.length ≤ pt) ∧ Touch (hit5 p b0 b1 b2 b3) η H) ∧ (PtrS n p H r b0 b1 b2 b3 v0 v1 v2 v3 l (mixed (stM l ms bs A) ms i) (mixed (stT l ms ts bs A) ts i) bs) ∧ (H[pm]? = some ⟨0, 25, 1, [.sl bm 0 0 ms.length]⟩) ∧ (H[pt]? = some ⟨0, 25, 1, [.sl bt 0 0 ms.length]⟩) ∧ (H[bm]? = some (rowB 0 (dV (rgt l ms bs A) (lft l ms bs A) ms.length) ms.length)) ∧ (H[bt]? = some (rowB 0 (dV (outA l ms ts bs A) (outB l ms ts bs A) ms.length) ms.length)) ∧ st.n = 155 ∧ st.τ 0 = .ptr p 0 0 ∧ st.τ 9 = .ptr pm 0 0 ∧ st.τ 10 = .ptr pt 0 0 ∧ st.τ 124 = .int .i64 ms.length ∧ st.τ 125 = .int .i64 i ∧ st.lam = lam0 ∧ st.η = H

/- (*impl.State).move -/
def Sp140 (lo : Nat) : Spec := fun g args η K => match g with | 158 => SFlux args η K | 159 => SShift lo args η K | 160 => SLeafO args η K | _ => False
theorem Sp140_ok {lo : Nat} : Sound Tryz.prog lo (Sp140 lo) := by
  intro g args η K h
  unfold Sp140 at h
  split at h
  · exact .inl (f158_ok h)
  · exact .inl (f159_ok h)
  · exact .inl (f160_ok h)
  · exact h.elim
def Dr140 : Draws := fun id => match id with | 0 => ([0, 1, 3, 7, 15, 31, 0, 64, 192, 448, 960, 1984, 63, 8191], [5, 11], [], (.one 0 (.one 1 (.one 2 (.one 3 (.one 4 (.one 6 (.one 7 (.one 8 (.one 9 (.one 10 (.two 5 11 (.one 12 (.one 11 (.one 13 .nil))) (.one 5 (.one 12 (.one 13 .nil))))))))))))))) | 9 => ([0, 1, 3, 7, 15, 31, 0, 64, 192, 448, 960, 1984, 0, 0, 12351, 32767], [5, 11, 12, 13, 2014], [(2009, 0)], (.one 0 (.one 1 (.one 2 (.one 3 (.one 4 (.one 6 (.one 7 (.one 8 (.one 9 (.one 10 (.four 5 11 12 13 (.three 11 12 13 (.two 12 13 (.one 13 (.one 14 (.one 15 .nil))) (.one 12 (.one 14 (.one 15 .nil)))) (.two 11 13 (.one 13 (.one 14 (.one 15 .nil))) (.two 11 14 (.one 14 (.one 15 .nil)) (.one 11 (.one 15 .nil)))) (.two 11 12 (.one 12 (.one 14 (.one 15 .nil))) (.two 11 14 (.one 14 (.one 15 .nil)) (.one 11 (.one 15 .nil))))) (.three 5 12 13 (.two 12 13 (.one 13 (.one 14 (.one 15 .nil))) (.one 12 (.one 14 (.one 15 .nil)))) (.two 5 13 (.one 13 (.one 14 (.one 15 .nil))) (.one 5 (.one 14 (.one 15 .nil)))) (.two 5 12 (.one 12 (.one 14 (.one 15 .nil))) (.one 5 (.one 14 (.one 15 .nil))))) (.three 5 11 13 (.two 11 13 (.one 13 (.one 14 (.one 15 .nil))) (.two 11 14 (.one 14 (.one 15 .nil)) (.one 11 (.one 15 .nil)))) (.two 5 13 (.one 13 (.one 14 (.one 15 .nil))) (.one 5 (.one 14 (.one 15 .nil)))) (.two 5 11 (.two 11 14 (.one 14 (.one 15 .nil)) (.one 11 (.one 15 .nil))) (.one 5 (.one 14 (.one 15 .nil))))) (.three 5 11 12 (.two 11 12 (.one 12 (.one 14 (.one 15 .nil))) (.two 11 14 (.one 14 (.one 15 .nil)) (.one 11 (.one 15 .nil)))) (.two 5 12 (.one 12 (.one 14 (.one 15 .nil))) (.one 5 (.one 14 (.one 15 .nil)))) (.two 5 11 (.two 11 14 (.one 14 (.one 15 .nil)) (.one 11 (.one 15 .nil))) (.one 5 (.one 14 (.one 15 .nil))))))))))))))))) | 14 => ([0, 1, 3, 7, 0, 31, 63, 0, 128, 384, 896, 0, 3968, 8064, 0, 0, 49152, 114688, 0, 0, 786432, 1835008, 4194303, 8388607, 16777215, 16777215, 33554431, 134217727], [], [], (.one 0 (.one 1 (.one 2 (.one 3 (.one 4 (.one 5 (.one 6 (.one 7 (.one 8 (.one 9 (.one 10 (.one 11 (.one 12 (.one 13 (.one 14 (.one 15 (.one 16 (.one 17 (.one 18 (.one 19 (.one 20 (.one 21 (.one 22 (.one 23 (.one 24 (.one 25 (.one 26 (.one 27 .nil))))))))))))))))))))))))))))) | 21 => ([0, 1, 3, 7, 0, 31, 63, 0, 0, 384, 896, 2047, 4095, 8191], [], [], (.one 0 (.one 1 (.one 2 (.one 3 (.one 4 (.one 5 (.one 6 (.one 7 (.one 8 (.one 9 (.one 10 (.one 11 (.one 12 (.one 13 .nil))))))))))))))) | 22 => ([0, 1, 3, 7, 0, 31, 63, 0, 0, 384, 896, 2047, 4095, 8191], [], [], (.one 0 (.one 1 (.one 2 (.one 3 (.one 4 (.one 5 (.one 6 (.one 7 (.one 8 (.one 9 (.one 10 (.one 11 (.one 12 (.one 13 .nil))))))))))))))) | _ => ([], [], [], .nil)
theorem f140_ok {lo : Nat} {args : List AV} {η : List Blk} {K : AV → List Blk → Prop} (h : SMov lo args η K) : AF Tryz.prog lo 140 args η K := by
  unfold SMov at h
  split at h
  · obtain ⟨n, r, b0, b1, b2, b3, v0, v1, v2, v3, l, ms, ts, bs, A, hn, hP, e1, ⟨rfl, hbf, hAl⟩, hfb, hK⟩ := h
    rename_i p bf wf
    obtain ⟨k1, k2, k3, k4, k5, k6, k7, k8⟩ := okT e1
    have hl8 : l.length ≤ 128 := by have := mesh_len k1; omega
    have hb8 : bs.length ≤ 8 := by have := mesh_len k1; omega
    have hp := hP.pb
    have hg0 := hP.n4.g0
    have hg1 := hP.n4.g1
    have hg2 := hP.n4.g2
    have hg3 := hP.n4.g3
    have hpl := blt hp
    have hl0 := blt hg0
    have hl1 := blt hg1
    have hl2 := blt hg2
    have hl3 := blt hg3
    have hlf := blt hbf
    refine AF_run Sp140_ok Dr140 [9,10] [] hm Tryz.func140 rfl (by decide) Tryz.ntmps140 rfl (by kernel_rfl) (Nat.le_of_ble_eq_true rfl) ?_; intro hlo
    apply shareL (I := invMv1 η p bf wf l ms bs A)
    case main =>
      intro hs
      repeat' (first | with_reducible refine iteI (fun _ => ?_) (fun _ => ?_) | ((first | unfold AOpsC | unfold AOpsD | skip); simp (maxSteps := 1000000) (disch := (first | omega | assumption | (simp only [List.length_append, List.length_cons, List.length_nil, List.length_set] <;> omega) | (simp only [List.length_append, List.length_cons, List.length_nil, List.length_set]; omega))) only [go_sem, Sp140, SFlux, SLeafO, Dr140, hp, hg1, hbf]))
      refine ⟨?_, ?_⟩
      all_goals
        refine ⟨invMv1 η p bf wf l ms bs A, fun st => ctr A.length st 30, .inl ⟨0, _, _, _, Nat.zero_le _, ⟨⟨?_, ?_, ?_⟩, ?_⟩, ?_, ?_, rfl, by first | (simp [upd]; done) | (simp [upd]; rfl), by first | (simp [upd]; done) | (simp [upd]; rfl), by first | (simp [upd]; done) | (simp [upd]; rfl), by first | (simp [upd]; done) | (simp [upd]; rfl), by first | (simp [upd]; done) | (simp [upd]; rfl), by first | (simp [upd]; done) | (simp [upd]; rfl), rfl, rfl⟩, hs⟩
        · omega
        · omega
        · omega
        · exact (((Ext.refl η).app _).app _).keep
        · rw [rowB_0 _ _ (fun q => fR_0 q)]; simp
        · rw [rowB_0 _ _ (fun q => fL_0 q)]; simp
    rintro ⟨n, τ, lam, η'⟩ ⟨i, bR, bL, H, g0, g1, g2, g3, hn, t0, t4, t5, t28, t29, t30, hlam, hη⟩; simp only at hn t0 t4 t5 t28 t29 t30 hlam hη; subst hn hlam hη
    obtain ⟨⟨nR, nL, nRL⟩, gk⟩ := g1
    have w0 := gk.blk hl0 hg0
    have w1 := gk.blk hl1 hg1
    have w2 := gk.blk hl2 hg2
    have w3 := gk.blk hl3 hg3
    have wp := gk.blk hpl hp
    have D1 : dec3 69 η' (.sl b0 v0 0 l.length) = l := IsR.dec3 ⟨b0, v0, rfl, w0⟩
    have D2 : decI η' (.sl b1 v1 0 ms.length) = ms := IsI.dec ⟨b1, v1, rfl, w1⟩
    have D3 : decI η' (.sl b2 v2 0 ts.length) = ts := IsI.dec ⟨b2, v2, rfl, w2⟩
    have D4 : decI η' (.sl b3 v3 0 bs.length) = bs := IsI.dec ⟨b3, v3, rfl, w3⟩
    have O1 : ok3 69 η' (.sl b0 v0 0 l.length) := ⟨l, ⟨b0, v0, rfl, w0⟩, by omega⟩
    have O2 : okI η' (.sl b1 v1 0 ms.length) := ⟨ms, ⟨b1, v1, rfl, w1⟩, by omega⟩
    have O3 : okI η' (.sl b2 v2 0 ts.length) := ⟨ts, ⟨b2, v2, rfl, w2⟩, by omega⟩
    have O4 : okI η' (.sl b3 v3 0 bs.length) := ⟨bs, ⟨b3, v3, rfl, w3⟩, by omega⟩
    have wf1 := gk.blk hlf hbf
    have gl2 := blt g2
    have gl3 := blt g3
    by_cases hlt : i < A.length
    · obtain ⟨j, hj, hj2⟩ := faces_nat hfb hlt
      have fb := flux_bd e1 (i := j) (by omega)
      have m1 := cells_at k7 (i := j) (by omega)
      have m2 := cells_at k7 (i := j + 1) (by omega)
      have t1 := tdiv_bd (a := ms.getD j 0) (b := 4) (X := 10000000) (by omega) (by omega)
      have t2 := tdiv_bd (a := ms.getD (j + 1) 0) (b := 4) (X := 10000000) (by omega) (by omega)
      by_cases hF : 0 < fluxI l ms bs j
      · have eR : ((List.range ms.length).map (fR l ms bs A i)).set j (fluxI l ms bs j) = (List.range ms.length).map (fR l ms bs A (i + 1)) := by
          rw [mapSet]; exact mapEq fun q _ => fR_pos hlt hj hF q
        rw [rowB_eq 0 (fun q _ => fL_pos hlt hj hF q)] at g3
        have hMl := mapLn (fR l ms bs A i) ms.length
        unfold rowB at g2
        generalize (List.range ms.length).map (fR l ms bs A i) = M at *
        repeat' (first | with_reducible refine iteI (fun _ => ?_) (fun _ => ?_) | ((first | unfold AOpsC | unfold AOpsD | skip); simp (maxSteps := 1000000) (disch := (first | omega | assumption | (simp only [List.length_append, List.length_cons, List.length_nil, List.length_set] <;> omega) | (simp only [List.length_append, List.length_cons, List.length_nil, List.length_set]; omega))) only [go_sem, Sp140, SFlux, SLeafO, Dr140, w0, w1, w2, w3, D1, D2, D3, D4, O1, O2, O3, O4, wp, wf1, e1, t0, t4, t5, t28, t29, t30, hj, hF, g2, hMl]))
        refine ⟨⟨i + 1, bR, bL, _, hlt, ⟨⟨nR, nL, nRL⟩, gk.set nR _⟩, by rw [eR]; exact set_eq gl2, setBlk g3 nRL, rfl, by simp [upd, t0], by simp [upd, t4], by simp [upd, t5], by simp [upd, t28], by simp [upd, t29], by simp [upd], rfl, rfl⟩, by simp [ctr, upd, t30]; omega⟩
      · have eL : ((List.range ms.length).map (fL l ms bs A i)).set (j + 1) (-(fluxI l ms bs j)) = (List.range ms.length).map (fL l ms bs A (i + 1)) := by
          rw [mapSet]; exact mapEq fun q _ => fL_neg hlt hj hF q
        rw [rowB_eq 0 (fun q _ => fR_neg hlt hj hF q)] at g2
        have hMl := mapLn (fL l ms bs A i) ms.length
        unfold rowB at g3
        generalize (List.range ms.length).map (fL l ms bs A i) = M at *
        repeat' (first | with_reducible refine iteI (fun _ => ?_) (fun _ => ?_) | ((first | unfold AOpsC | unfold AOpsD | skip); simp (maxSteps := 1000000) (disch := (first | omega | assumption | (simp only [List.length_append, List.length_cons, List.length_nil, List.length_set] <;> omega) | (simp only [List.length_append, List.length_cons, List.length_nil, List.length_set]; omega))) only [go_sem, Sp140, SFlux, SLeafO, Dr140, w0, w1, w2, w3, D1, D2, D3, D4, O1, O2, O3, O4, wp, wf1, e1, t0, t4, t5, t28, t29, t30, hj, hF, g3, hMl, Int.zero_sub]))
        refine ⟨⟨i + 1, bR, bL, _, hlt, ⟨⟨nR, nL, nRL⟩, gk.set nL _⟩, setBlk g2 nRL.symm, by rw [eL]; exact set_eq gl3, rfl, by simp [upd, t0], by simp [upd, t4], by simp [upd, t5], by simp [upd, t28], by simp [upd, t29], by simp [upd], rfl, rfl⟩, by simp [ctr, upd, t30]; omega⟩
    · obtain rfl : i = A.length := by omega
      rw [rowB_eq 0 (fun q _ => fR_end q)] at g2
      rw [rowB_eq 0 (fun q _ => fL_end q)] at g3
      apply shareL (I := invMv2 η p l ms ts bs A)
      case main =>
        intro hs
        repeat' (first | with_reducible refine iteI (fun _ => ?_) (fun _ => ?_) | ((first | unfold AOpsC | unfold AOpsD | skip); simp (maxSteps := 1000000) (disch := (first | omega | assumption | (simp only [List.length_append, List.length_cons, List.length_nil, List.length_set] <;> omega) | (simp only [List.length_append, List.length_cons, List.length_nil, List.length_set]; omega))) only [go_sem, Sp140, SFlux, SLeafO, Dr140, wp, w1, t0, t4, t5, t28, t29, t30]))
        repeat' (with_reducible refine And.intro ?_ ?_)
        all_goals first
          | (simp only [List.append_assoc, List.cons_append, List.nil_append]; exact KsOS_app rfl (Nat.le_refl _))
          | (refine ⟨invMv2 η p l ms ts bs A, fun st => ctr ms.length st 70, .inl ⟨0, bR, bL, _, _, _, _, _, Nat.zero_le _, ⟨⟨nR, nL, ?_, ?_, ?_, ?_, ?_, ?_, ?_⟩, ?_⟩, ?_, ?_, ?_, ?_, ?_, ?_, rfl, by first | (simp [upd, t0, t4, t5]; done) | (simp [upd]; rfl), by first | (simp [upd, t0, t4, t5]; done) | (simp [upd]; rfl), by first | (simp [upd, t0, t4, t5]; done) | (simp [upd]; rfl), by first | (simp [upd, t0, t4, t5]; done) | (simp [upd]; rfl), by first | (simp [upd, t0, t4, t5]; done) | (simp [upd]; rfl), by first | (simp [upd, t0, t4, t5]; done) | (simp [upd]; rfl), by first | (simp [upd, t0, t4, t5]; done) | (simp [upd]; rfl), by first | (simp [upd, t0, t4, t5]; done) | (simp [upd]; rfl), by first | (simp [upd, t0, t4, t5]; done) | (simp [upd]; rfl), by first | (simp [upd, t0, t4, t5]; done) | (simp [upd]; rfl), rfl, rfl⟩, hs⟩
             all_goals first
               | (simp only [List.length_append, List.length_cons, List.length_nil]; omega)
               | omega
               | exact ((((gk.ext ⟨_, rfl⟩).ext ⟨_, rfl⟩).ext ⟨_, rfl⟩).ext ⟨_, rfl⟩)
               | (rw [rowB_0 _ _ (fun q => dV_0 _ _ q)]; simp)
               | (simp only [List.append_assoc, List.cons_append, List.nil_append]; rw [List.getElem?_append_left (by omega)]; assumption)
               | simp)
      case loop =>
        clear t0 t4 t5 t28 t29 t30 nR nL nRL g2 g3 gl2 gl3 wf1 D1 D2 D3 D4 O1 O2 O3 O4 w0 w1 w2 w3 wp gk
        have ob := fun j (h : j < ms.length) => out_bd e1 hfb h
        have cb := fun j (h : j < ms.length) => cells_at k7 h
        have hRb : ∀ j, j < ms.length → 0 ≤ rgt l ms bs A j ∧ rgt l ms bs A j ≤ 10000000 := fun j h => by have := ob j h; have := cb j h; omega
        have hLb : ∀ j, j < ms.length → 0 ≤ lft l ms bs A j ∧ lft l ms bs A j ≤ 10000000 := fun j h => by have := ob j h; have := cb j h; omega
        have hAB : ∀ j, j < ms.length → (0 ≤ outA l ms ts bs A j ∧ outA l ms ts bs A j ≤ 10000000000) ∧ 0 ≤ outB l ms ts bs A j ∧ outB l ms ts bs A j ≤ 10000000000 := fun j h => by
          have a := ob j h
          have c := cb j h
          have d := leaf_bd (t := ts.getD j 0) (m := ms.getD j 0) (q := rgt l ms bs A j) (s := lft l ms bs A j) (by omega) (by omega) (by omega)
          unfold outA outB
          omega
        have hL0 : lft l ms bs A 0 = 0 := by simp [lft]
        have hB0 : outB l ms ts bs A 0 = 0 := by unfold outB; rw [hL0, leafB_0]
        have hRm : ∀ j, j < ms.length → rgt l ms bs A j = 0 → outA l ms ts bs A j = 0 := fun j h e => by
          have := cb j h
          unfold outA; rw [e, leaf_0 _ _ _ (by omega)]
        have hLm : ∀ j, j < ms.length → lft l ms bs A j = 0 → outB l ms ts bs A j = 0 := fun j h e => by unfold outB; rw [e, leafB_0]
        rintro ⟨n, τ, lam, η'⟩ ⟨i, bR, bL, pm, pt, bm, bt, H, g0, g1, g2, g3, g4, g5, g6, g7, hn, t0, t4, t5, t9, t10, t11, t57, t63, t69, t70, hlam, hη⟩; simp only at hn t0 t4 t5 t9 t10 t11 t57 t63 t69 t70 hlam hη; subst hn hlam hη
        obtain ⟨⟨nR, nL, d1, d2, d3, d4, d5, d6, d7⟩, gk⟩ := g1
        have w0 := gk.blk hl0 hg0
        have w1 := gk.blk hl1 hg1
        have w2 := gk.blk hl2 hg2
        have w3 := gk.blk hl3 hg3
        have wp := gk.blk hpl hp
        have D1 : dec3 69 η' (.sl b0 v0 0 l.length) = l := IsR.dec3 ⟨b0, v0, rfl, w0⟩
        have D2 : decI η' (.sl b1 v1 0 ms.length) = ms := IsI.dec ⟨b1, v1, rfl, w1⟩
        have D3 : decI η' (.sl b2 v2 0 ts.length) = ts := IsI.dec ⟨b2, v2, rfl, w2⟩
        have D4 : decI η' (.sl b3 v3 0 bs.length) = bs := IsI.dec ⟨b3, v3, rfl, w3⟩
        have O1 : ok3 69 η' (.sl b0 v0 0 l.length) := ⟨l, ⟨b0, v0, rfl, w0⟩, by omega⟩
        have O2 : okI η' (.sl b1 v1 0 ms.length) := ⟨ms, ⟨b1, v1, rfl, w1⟩, by omega⟩
        have O3 : okI η' (.sl b2 v2 0 ts.length) := ⟨ts, ⟨b2, v2, rfl, w2⟩, by omega⟩
        have O4 : okI η' (.sl b3 v3 0 bs.length) := ⟨bs, ⟨b3, v3, rfl, w3⟩, by omega⟩
        have l6 := blt g6
        have l7 := blt g7
        by_cases hlt : i < ms.length
        · have m1 := cb i hlt
          have o1 := ob i hlt
          have r1 := hRb i hlt
          have r2 := hLb i hlt
          have r3 := hAB i hlt
          have eR := mapAt (rgt l ms bs A) hlt
          have eL := mapAt (lft l ms bs A) hlt
          have nRl := mapLn (rgt l ms bs A) ms.length
          have nLl := mapLn (lft l ms bs A) ms.length
          have qA : leafA (ts.getD i 0) (ms.getD i 0) (rgt l ms bs A i) (lft l ms bs A i) = outA l ms ts bs A i := rfl
          have qB : leafBq (ts.getD i 0) (ms.getD i 0) (rgt l ms bs A i) (lft l ms bs A i) = outB l ms ts bs A i := rfl
          have b1' : ∀ j, j < ms.length → -(2 * 10000000) ≤ dV (rgt l ms bs A) (lft l ms bs A) i j ∧ dV (rgt l ms bs A) (lft l ms bs A) i j ≤ 2 * 10000000 := fun j h => dV_bd hRb hLb g0 h
          have b2' : ∀ j, j < ms.length → -(2 * 10000000000) ≤ dV (outA l ms ts bs A) (outB l ms ts bs A) i j ∧ dV (outA l ms ts bs A) (outB l ms ts bs A) i j ≤ 2 * 10000000000 := fun j h => dV_bd (fun j h => (hAB j h).1) (fun j h => (hAB j h).2) g0 h
          have z1 := hRm i hlt
          have z2 := hLm i hlt
          have s1 := fun j => dV_step hL0 (R := rgt l ms bs A) i j
          have s2 := fun j => dV_step hB0 (R := outA l ms ts bs A) i j
          have g2k := g2
          have g3k := g3
          unfold rowB at g2 g3
          generalize (List.range ms.length).map (rgt l ms bs A) = MR at *
          generalize (List.range ms.length).map (lft l ms bs A) = ML at *
          generalize dV (rgt l ms bs A) (lft l ms bs A) i = f at *
          generalize dV (outA l ms ts bs A) (outB l ms ts bs A) i = g at *
          generalize hra : rgt l ms bs A i = ra at *
          generalize hla : lft l ms bs A i = la at *
          generalize hoa : outA l ms ts bs A i = oa at *
          generalize hob : outB l ms ts bs A i = ob at *
          repeat' (first | with_reducible refine iteI (fun _ => ?_) (fun _ => ?_) | ((first | unfold AOpsC | unfold AOpsD | skip); simp (maxSteps := 1000000) (disch := (first | omega | assumption | (simp only [List.length_append, List.length_cons, List.length_nil, List.length_set] <;> omega) | (simp only [List.length_append, List.length_cons, List.length_nil, List.length_set]; omega))) only [go_sem, Sp140, SFlux, SLeafO, Dr140, w0, w1, w2, w3, D1, D2, D3, D4, O1, O2, O3, O4, wp, t0, t4, t5, t9, t10, t11, t57, t63, t69, t70, g2, g3, eR, eL, nRl, nLl, qA, qB]))
          unfold SShift
          refine ⟨ms.length, bm, bt, f, g, ⟨by omega, by omega, d5⟩, g4, g5, g6, g7, ⟨⟨by omega, by omega⟩, ⟨by omega, by omega⟩, fun e => z1 e, ⟨by omega, by omega⟩, fun e => by omega⟩, fun j h => by have := b1' j h; have := b2' j h; omega, ?_⟩
          rw [Int.toNat_natCast, show ((i : Int) + 1).toNat = i + 1 by omega]
          have c1 := fun j (h : j < ms.length) => shf_bd (f := f) (i := i) (k := i + 1) (m := ra) (M := 10000000) (n := ms.length) b1' (by omega) j h
          have c2 := fun j (h : j < ms.length) => shf_bd (f := g) (i := i) (k := i + 1) (m := oa) (M := 10000000000) (n := ms.length) b2' (by omega) j h
          generalize shf f i (i + 1) ra = f1 at *
          generalize shf g i (i + 1) oa = h1 at *
          have h6 : ((η'.set bm (rowB 0 f1 ms.length)).set bt (rowB 0 h1 ms.length))[bm]? = some (rowB 0 f1 ms.length) := setBlk (set_eq l6) d5.symm
          have h7 : ((η'.set bm (rowB 0 f1 ms.length)).set bt (rowB 0 h1 ms.length))[bt]? = some (rowB 0 h1 ms.length) := set_eq (by simpa using l7)
          have hne : ∀ c, c ≠ bm → c ≠ bt → ((η'.set bm (rowB 0 f1 ms.length)).set bt (rowB 0 h1 ms.length))[c]? = η'[c]? := fun c q1 q2 => by rw [set_ne q2.symm, set_ne q1.symm]
          have hp4 : pm ≠ bm := by rintro rfl; rw [g4] at g6; cases g6
          have hp5 : pm ≠ bt := by rintro rfl; rw [g4] at g7; cases g7
          have hp6 : pt ≠ bm := by rintro rfl; rw [g5] at g6; cases g6
          have hp7 : pt ≠ bt := by rintro rfl; rw [g5] at g7; cases g7
          replace g2 := (hne bR (by omega) (by omega)).trans g2
          replace g2k := (hne bR (by omega) (by omega)).trans g2k
          replace g3k := (hne bL (by omega) (by omega)).trans g3k
          replace g3 := (hne bL (by omega) (by omega)).trans g3
          replace g4 := (hne pm hp4 hp5).trans g4
          replace g5 := (hne pt hp6 hp7).trans g5
          replace gk := (gk.set (b := bm) (by omega) (rowB 0 f1 ms.length)).set (b := bt) (by omega) (rowB 0 h1 ms.length)
          have l8 : bm < ((η'.set bm (rowB 0 f1 ms.length)).set bt (rowB 0 h1 ms.length)).length := by simpa using l6
          have l9 : bt < ((η'.set bm (rowB 0 f1 ms.length)).set bt (rowB 0 h1 ms.length)).length := by simpa using l7
          clear hne
          generalize (η'.set bm (rowB 0 f1 ms.length)).set bt (rowB 0 h1 ms.length) = H1 at *
          repeat' (first | with_reducible refine iteI (fun _ => ?_) (fun _ => ?_) | ((first | unfold AOpsC | unfold AOpsD | skip); simp (maxSteps := 1000000) (disch := (first | omega | assumption | (simp only [List.length_append, List.length_cons, List.length_nil, List.length_set] <;> omega) | (simp only [List.length_append, List.length_cons, List.length_nil, List.length_set]; omega))) only [go_sem, Sp140, SFlux, SLeafO, Dr140, t0, t4, t5, t9, t10, t11, t57, t63, t69, t70, g2, g3, eR, eL, nRl, nLl]))
          unfold SShift
          refine ⟨ms.length, bm, bt, f1, h1, ⟨by omega, by omega, d5⟩, g4, g5, h6, h7, ⟨⟨by omega, by omega⟩, ⟨by omega, by omega⟩, fun e => z2 e, ⟨by omega, by omega⟩, fun e => by omega⟩, fun j h => by have := c1 j h; have := c2 j h; omega, ?_⟩
          rw [Int.toNat_natCast, show ((i : Int) - 1).toNat = i - 1 by omega]
          rw [rowB_eq 0 (fun j _ => s1 j), rowB_eq 0 (fun j _ => s2 j)]
          repeat' (first | with_reducible refine iteI (fun _ => ?_) (fun _ => ?_) | ((first | unfold AOpsC | unfold AOpsD | skip); simp (maxSteps := 1000000) (disch := (first | omega | assumption | (simp only [List.length_append, List.length_cons, List.length_nil, List.length_set] <;> omega) | (simp only [List.length_append, List.length_cons, List.length_nil, List.length_set]; omega))) only [go_sem, Sp140, SFlux, SLeafO, Dr140, t0, t4, t5, t9, t10, t11, t57, t63, t69, t70]))
          refine ⟨⟨i + 1, bR, bL, pm, pt, bm, bt, _, hlt, ⟨⟨nR, nL, d1, d2, d3, d4, d5, d6, d7⟩, (gk.set (by omega) _).set (by omega) _⟩, setBlk (setBlk g2k (by omega)) (by omega), setBlk (setBlk g3k (by omega)) (by omega), setBlk (setBlk g4 hp4.symm) hp5.symm, setBlk (setBlk g5 hp6.symm) hp7.symm, setBlk (set_eq l8) d5.symm, set_eq (by simpa using l9), rfl, by simp [upd, t0], by simp [upd, t4], by simp [upd, t5], by simp [upd, t9], by simp [upd, t10], by simp [upd, t11], by simp [upd, t57], by simp [upd, t63], by simp [upd, t69], by simp [upd], rfl, rfl⟩, by simp [ctr, upd, t70]; omega⟩
        · obtain rfl : i = ms.length := by omega
          repeat' (first | with_reducible refine iteI (fun _ => ?_) (fun _ => ?_) | ((first | unfold AOpsC | unfold AOpsD | skip); simp (maxSteps := 1000000) (disch := (first | omega | assumption | (simp only [List.length_append, List.length_cons, List.length_nil, List.length_set] <;> omega) | (simp only [List.length_append, List.length_cons, List.length_nil, List.length_set]; omega))) only [go_sem, Sp140, SFlux, SLeafO, Dr140, wp, w1, t0, t4, t5, t9, t10, t11, t57, t63, t69, t70]))
          refine ⟨invMv3 η n p r b0 b1 b2 b3 v0 v1 v2 v3 l ms ts bs A, fun st => ctr ms.length st 125, .inl ⟨0, pm, pt, bm, bt, _, Nat.zero_le _, ⟨⟨by omega, by omega, by omega, by omega⟩, ⟨gk.1, fun c hc _ => gk.2 c hc⟩⟩, ⟨wp, ⟨w0, w1, w2, w3, hP.n4.n0, hP.n4.n1, hP.n4.n2, hP.n4.n3, hP.n4.d01, hP.n4.d02, hP.n4.d03, hP.n4.d12, hP.n4.d13, hP.n4.d23⟩, hP.np, hP.p0, hP.p1, hP.p2, hP.p3⟩, g4, g5, g6, g7, rfl, by first | (simp [upd, t0, t9, t10]; done) | (simp [upd]; rfl), by first | (simp [upd, t0, t9, t10]; done) | (simp [upd]; rfl), by first | (simp [upd, t0, t9, t10]; done) | (simp [upd]; rfl), by first | (simp [upd, t0, t9, t10]; done) | (simp [upd]; rfl), by first | (simp [upd, t0, t9, t10]; done) | (simp [upd]; rfl), rfl, rfl⟩, ?_⟩
          clear t0 t4 t5 t9 t10 t11 t57 t63 t69 t70 g4 g5 g6 g7 g2 g3 D1 D2 D3 D4 O1 O2 O3 O4 w0 w1 w2 w3 wp gk nR nL d1 d2 d3 d4 d5 d6 d7 l6 l7
          have e01 := hP.n4.d01
          have e02 := hP.n4.d02
          have e12 := hP.n4.d12
          have e13 := hP.n4.d13
          have e23 := hP.n4.d23
          have p1 := hP.p1
          have p2 := hP.p2
          have q1 := hP.n4.n1
          have q2 := hP.n4.n2
          rintro ⟨n, τ, lam, η'⟩ ⟨i, pm, pt, bm, bt, H, g0, g1, g2, g3, g4, g5, g6, hn, t0, t9, t10, t124, t125, hlam, hη⟩; simp only at hn t0 t9 t10 t124 t125 hlam hη; subst hn hlam hη
          obtain ⟨⟨d1, d2, d3, d4⟩, gt⟩ := g1
          have hm1 := mixed_len (stM l ms bs A) ms g0
          have hm2 := mixed_len (stT l ms ts bs A) ts (i := i) (by omega)
          have pp := g2.pb
          have pg1 := g2.n4.g1
          have pg2 := g2.n4.g2
          rw [hm1, hm2] at pp
          by_cases hlt : i < ms.length
          · have m1 := cb i hlt
            have b1' := dV_bd hRb hLb (Nat.le_refl ms.length) hlt
            have b2' := dV_bd (fun j h => (hAB j h).1) (fun j h => (hAB j h).2) (Nat.le_refl ms.length) hlt
            have eM := mapAt (dV (rgt l ms bs A) (lft l ms bs A) ms.length) hlt
            have eT := mapAt (dV (outA l ms ts bs A) (outB l ms ts bs A) ms.length) hlt
            have nM1 := mapLn (dV (rgt l ms bs A) (lft l ms bs A) ms.length) ms.length
            have nT1 := mapLn (dV (outA l ms ts bs A) (outB l ms ts bs A) ms.length) ms.length
            have x1 := mixed_get (stM l ms bs A) ms 0 hlt
            have x2 := mixed_get (stT l ms ts bs A) ts 0 (i := i) (by omega)
            have y1 : (mixed (stM l ms bs A) ms i).set i (ms.getD i 0 + dV (rgt l ms bs A) (lft l ms bs A) ms.length i) = mixed (stM l ms bs A) ms (i + 1) := by rw [stM_eq e1 hfb hlt]; exact mixed_set _ _ hlt
            have y2 : (mixed (stT l ms ts bs A) ts i).set i (ts.getD i 0 + dV (outA l ms ts bs A) (outB l ms ts bs A) ms.length i) = mixed (stT l ms ts bs A) ts (i + 1) := by rw [stT_eq hlt]; exact mixed_set _ _ (by omega)
            have u1 := g2.put1 (ms' := mixed (stM l ms bs A) ms (i + 1)) (by rw [mixed_len _ _ hlt, hm1])
            have u2 := u1.put2 (ts' := mixed (stT l ms ts bs A) ts (i + 1)) (by rw [mixed_len _ _ (by omega), hm2])
            have gt2 := (gt.trans (Touch.set (b := b1) (x := ⟨v1, 3, 1, (mixed (stM l ms bs A) ms (i + 1)).map (.int .i64)⟩) (.inr (.inr (.inl rfl))))).trans (Touch.set (b := b2) (x := ⟨v2, 3, 1, (mixed (stT l ms ts bs A) ts (i + 1)).map (.int .i64)⟩) (.inr (.inr (.inr (.inl rfl)))))
            have v5 := blt pg1
            have v6 := blt pg2
            have g5' := g5
            have g6' := g6
            unfold rowB at g5 g6
            generalize dV (rgt l ms bs A) (lft l ms bs A) ms.length i = dm at *
            generalize dV (outA l ms ts bs A) (outB l ms ts bs A) ms.length i = dt at *
            generalize (List.range ms.length).map (dV (rgt l ms bs A) (lft l ms bs A) ms.length) = RM at *
            generalize (List.range ms.length).map (dV (outA l ms ts bs A) (outB l ms ts bs A) ms.length) = RT at *
            generalize mixed (stM l ms bs A) ms i = Mi at *
            generalize mixed (stT l ms ts bs A) ts i = Ti at *
            generalize hMj : mixed (stM l ms bs A) ms (i + 1) = Mj at *
            generalize hTj : mixed (stT l ms ts bs A) ts (i + 1) = Tj at *
            repeat' (first | with_reducible refine iteI (fun _ => ?_) (fun _ => ?_) | ((first | unfold AOpsC | unfold AOpsD | skip); simp (maxSteps := 1000000) (disch := (first | omega | assumption | (simp only [List.length_append, List.length_cons, List.length_nil, List.length_set] <;> omega) | (simp only [List.length_append, List.length_cons, List.length_nil, List.length_set]; omega))) only [go_sem, Sp140, SFlux, SLeafO, Dr140, pp, pg1, pg2, g3, g4, g5, g6, hm1, hm2, eM, eT, nM1, nT1, x1, x2, y1, y2, t0, t9, t10, t124, t125]))
            refine ⟨⟨i + 1, pm, pt, bm, bt, _, hlt, ⟨⟨d1, d2, d3, d4⟩, gt2⟩, by rw [hMj, hTj]; exact u2, setBlk (setBlk g3 (by omega)) (by omega), setBlk (setBlk g4 (by omega)) (by omega), setBlk (setBlk g5' (by omega)) (by omega), setBlk (setBlk g6' (by omega)) (by omega), rfl, by simp [upd, t0], by simp [upd, t9], by simp [upd, t10], by simp [upd, t124], by simp [upd], rfl, rfl⟩, by simp [ctr, upd, t125]; omega⟩
          · obtain rfl : i = ms.length := by omega
            have f1 : mixed (stM l ms bs A) ms ms.length = nM l ms bs A := mixed_end _ _
            have f2 : mixed (stT l ms ts bs A) ts ms.length = nT l ms ts bs A := by
              have h := mixed_end (stT l ms ts bs A) ts
              rw [show ts.length = ms.length by omega] at h
              exact h
            rw [f1, f2] at g2
            repeat' (first | with_reducible refine iteI (fun _ => ?_) (fun _ => ?_) | ((first | unfold AOpsC | unfold AOpsD | skip); simp (maxSteps := 1000000) (disch := (first | omega | assumption | (simp only [List.length_append, List.length_cons, List.length_nil, List.length_set] <;> omega) | (simp only [List.length_append, List.length_cons, List.length_nil, List.length_set]; omega))) only [go_sem, Sp140, SFlux, SLeafO, Dr140, t0, t9, t10, t124, t125]))
            exact hK _ g2 gt
  · exact h.elim

end Go.Proofs.YtaalpmbopkbdiaaGreat
