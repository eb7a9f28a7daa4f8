/- The abstract logic: what an operation does, in the machine: looking, new variables, stores, rows that are made. -/
import Derived.Test.YtffefndnnbcplaaAbI
namespace Go.Proofs.Ytffefndnnbcplaa
open Go

/-- Behind an operation. -/
def OP (lo h0 : Nat) (S : Nat → Prop) (W : Wit) (w : World) (dst : Option Tmp) (st : St) (K : AV → (Nat → LB) → List Blk → Prop) : Act → World → Prop := fun a' w' =>
  ∃ v lam' η' W' κ', K v lam' η' ∧ Sim lo h0 S W' κ' (put dst v { st with lam := lam', η := η' }) a' w' ∧ HStep lo st.η η' W W' ∧ Fr h0 S w w'

section
variable {P : Program} {lo h0 : Nat} {S : Nat → Prop} {W : Wit} {κ : Nat → Nat} {st : St} {a : Act} {w : World} {o : Oper} {K : AV → (Nat → LB) → List Blk → Prop} {Q : Exit → Act → World → Prop}

theorem wp_value {u : Value} {w' : World} {next : Act → World → Prop} (h : (execOp a.eval o).run P w = .ok (.value u) w') (hn : next (a.put o.dst u) w') : o.wp P a w next Q := by
  unfold Oper.wp; rw [h]; exact hn
theorem wp_skipN {w' : World} {next : Act → World → Prop} (h : (execOp a.eval o).run P w = .ok .skip w') (hn : next (a.put o.dst undef) w') : o.wp P a w next Q := by
  unfold Oper.wp; rw [h]; exact hn

theorem looks_ok (s : Sim lo h0 S W κ st a w) (hd : dstOk o.dst st.n) {v : AV} (h : pv P o (ev st) st.lam st.η = some v) (hK : K v st.lam st.η) : o.wp P a w (OP lo h0 S W w o.dst st K) Q := by
  obtain ⟨u, h1, h2⟩ := pv_ok s.hs s.ls (fun x => ev_ok s x) h
  refine wp_value h1 ⟨v, st.lam, st.η, W, κ, hK, ?_, .refl _ _ _, .refl _ _ _⟩
  exact Sim_put s hd s.hs s.ls (.refl _ _ _) (.refl _ _) (Nat.le_refl _) s.oS s.lS h2

/-- A new variable. -/
theorem newVar_ok (s : Sim lo h0 S W κ st a w) (hd : dstOk o.dst st.n) {H : List Nat} {T : TypeId} {cells : List AV} {c : Value}
    (hrun : (execOp a.eval o).run P w = .ok (.value (.pointer (some ⟨w.heap.size, 0, none⟩))) (w.alloc (.cells c.cells T)))
    (hr : RL (Rc lo W st.η st.lam κ) cells c.cells) (h : newVarA H o.dst T cells st.lam st.η K) : o.wp P a w (OP lo h0 S W w o.dst st K) Q := by
  unfold newVarA at h
  refine wp_value hrun ?_
  have hg := Grows.alloc w (.cells c.cells T)
  cases hdst : o.dst with
  | none => rw [hdst] at h; exact h.elim
  | some d =>
    rw [hdst] at h hd
    simp only at h
    split at h
    · obtain ⟨hnl, hK⟩ := h
      have hr0 : ∀ (j : Nat) x, (cells[j]? = some x) → ∃ u, c.cells[j]? = some u ∧ Rc lo W st.η lam0 kap0 x u := by
        intro j x hx
        obtain ⟨u, h1, h2⟩ := hr.2 j x hx
        refine ⟨u, h1, ?_⟩
        have := List.all_eq_true.1 hnl x (List.mem_of_getElem? hx)
        cases x <;> first | exact h2 | (simp [noLoc] at this)
      have hst : HStep lo st.η (st.η ++ [⟨0, T, cells.length, cells⟩]) W (pushW W st.η.length ⟨w.heap.size, 0, none⟩ c.cells.size) := .push s.hs.lo_le _ _ _
      refine ⟨.ptr st.η.length 0 0, st.lam, _, _, κ, hK, ?_, hst, hg.fr s.h0le⟩
      refine Sim_put s hd (HSim.push (blk := ⟨0, T, cells.length, cells⟩) s.hs hr0 (by rw [hr.1]; exact Nat.le_refl _)) (s.ls.push s.hs) hst (.refl _ _) (by simp) (fun b hb hlt hp => ?_) s.lS ?_
      · simp only [List.length_append, List.length_cons, List.length_nil] at hlt
        by_cases e : b = st.η.length
        · subst e; right; rw [show (pushW W st.η.length ⟨w.heap.size, 0, none⟩ c.cells.size).ι st.η.length = _ from upd_same _ _ _]; exact s.h0le
        · rw [show (pushW W st.η.length ⟨w.heap.size, 0, none⟩ c.cells.size).ι b = _ from upd_ne _ _ e]
          rw [show (pushW W st.η.length ⟨w.heap.size, 0, none⟩ c.cells.size).cs b = _ from upd_ne _ _ e] at hp
          exact s.oS b hb (by omega) hp
      · refine Rv_mkc ⟨rfl, ⟨0, T, cells.length, cells⟩, by simp, Nat.le_refl _, fun _ => ?_⟩
        rw [show (pushW W st.η.length ⟨w.heap.size, 0, none⟩ c.cells.size).ι st.η.length = _ from upd_same _ _ _]
        rfl
    · rename_i hH
      refine ⟨.loc d ((st.lam d).ver + 1) 0, upd st.lam d ⟨(st.lam d).ver + 1, cells⟩, st.η, W, upd κ d w.heap.size, h, ?_, .refl _ _ _, hg.fr s.h0le⟩
      refine Sim_put s hd (s.hs.grow hg) (s.ls.new s.hs d hr) (.refl _ _ _) (.new d cells w.heap.size) (by simp) s.oS (fun t ht => ?_) ?_
      · by_cases e : t = d
        · subst e; rw [upd_same]; exact s.h0le
        · rw [upd_ne _ _ e] at ht ⊢; exact s.lS t ht
      · exact Rv_mkc ⟨rfl, by omega, by rw [upd_same]; exact Nat.le_refl _, fun _ => by rw [upd_same]⟩

theorem alloc_run {T : TypeId} {z : List AV} (hop : o.op = .alloc T) (hz : zeroB P T = some z) : ∃ zv, (execOp a.eval o).run P w = .ok (.value (.pointer (some ⟨w.heap.size, 0, none⟩))) (w.alloc (.cells zv.cells T)) ∧ zeroOf zv = some z := by
  obtain ⟨zv, i, h1, _, _, h2⟩ := zeroB_run (w := w) hz
  exact ⟨zv, by simp [execOp, hop, Instr.alloc, h1, newVar, newRow], h2⟩
theorem box_run {T : TypeId} {x : Operand} (hop : o.op = .box T x) : (execOp a.eval o).run P w = .ok (.value (.pointer (some ⟨w.heap.size, 0, none⟩))) (w.alloc (.cells (a.eval x).cells T)) := by
  simp [execOp, hop, Instr.box, newVar, newRow]

theorem oneCells {lam : Nat → LB} {η : List Blk} {l : List AV} {arr : Array Value} (h : RL (Rc lo W η lam κ) l arr) : ∀ u ∈ arr.toList, u.oneCell' = true := by
  intro u hu
  obtain ⟨i, hi⟩ := List.getElem?_of_mem hu
  have hi' : arr[i]? = some u := by simpa using hi
  have hlt : i < l.length := by rw [← h.1]; exact (Array.getElem?_eq_some_iff.1 hi').1
  obtain ⟨v, h1, h2⟩ := h.2 i _ (List.getElem?_eq_getElem hlt)
  rw [hi'] at h1
  obtain rfl := Option.some.inj h1
  exact h2.1

theorem spliced {R : AV → Value → Prop} {cells vs : List AV} {c v : Array Value} {off : Nat} (hc : RL R cells c) (hv : RL R vs v) (ho : off + vs.length ≤ cells.length) :
    RL R (putCells cells off vs) (c.toList.take off ++ v.toList ++ c.toList.drop (off + v.toList.length)).toArray := by
  have e1 := hc.1
  have e2 := hv.1
  refine RL_put hc hv ho (by simp; omega) fun i hi => ?_
  have hl : (c.toList.take off).length = off := by simp; omega
  simp only [List.getElem?_toArray]
  by_cases h1 : i < off
  · rw [if_neg (by omega), List.append_assoc, List.getElem?_append_left (by omega), List.getElem?_take, if_pos h1]; simp
  · by_cases h2 : i < off + v.size
    · rw [if_pos ⟨by omega, h2⟩, List.append_assoc, List.getElem?_append_right (by omega), List.getElem?_append_left (by simp; omega), hl]; simp
    · rw [if_neg (by omega), List.getElem?_append_right (by simp; omega), List.getElem?_drop]
      simp
      congr 1
      omega

/-- The same where the machine's row is longer than what is known of it. -/
theorem spliced_long {R : AV → Value → Prop} {cells vs : List AV} {c v : Array Value} {off : Nat} (hl : cells.length ≤ c.size) (hc : ∀ (j : Nat) x, cells[j]? = some x → ∃ u, c[j]? = some u ∧ R x u) (hv : RL R vs v) (ho : off + vs.length ≤ cells.length) :
    (c.toList.take off ++ v.toList ++ c.toList.drop (off + v.toList.length)).toArray.size = c.size ∧
    ∀ (j : Nat) x, (putCells cells off vs)[j]? = some x → ∃ u, (c.toList.take off ++ v.toList ++ c.toList.drop (off + v.toList.length)).toArray[j]? = some u ∧ R x u := by
  have e2 := hv.1
  refine ⟨by simp; omega, fun i x hx => ?_⟩
  have hll : (c.toList.take off).length = off := by simp; omega
  simp only [List.getElem?_toArray]
  rw [getElem?_putCells ho] at hx
  by_cases h1 : i < off
  · rw [if_neg (by omega)] at hx
    obtain ⟨u, hu, hr⟩ := hc i x hx
    refine ⟨u, ?_, hr⟩
    rw [List.append_assoc, List.getElem?_append_left (by omega), List.getElem?_take, if_pos h1]; simpa using hu
  · by_cases h2 : i < off + v.size
    · rw [if_pos ⟨by omega, by omega⟩] at hx
      obtain ⟨u, hu, hr⟩ := hv.2 _ x hx
      refine ⟨u, ?_, hr⟩
      rw [List.append_assoc, List.getElem?_append_right (by omega), List.getElem?_append_left (by simp; omega), hll]; simpa using hu
    · rw [if_neg (by omega)] at hx
      obtain ⟨u, hu, hr⟩ := hc i x hx
      refine ⟨u, ?_, hr⟩
      rw [List.getElem?_append_right (by simp; omega), List.getElem?_drop]
      simp
      rw [← hu]
      congr 1
      omega

theorem storeVar_run {t : TypeId} {k : Nat} (hk : szB P t = some k) {B off : Nat} {cur : Array Value} {T : TypeId} (hrow : w.heap[B]? = some (.cells cur T (0, 0))) {u : Value} (hu : u.cells.size = k) (hoff : off + k ≤ cur.size) (h1 : ∀ x ∈ u.cells.toList, x.oneCell' = true) :
    (storeVar t ⟨B, off, none⟩ u).run P w = .ok () (w.setRow B (cur.toList.take off ++ u.cells.toList ++ cur.toList.drop (off + u.cells.toList.length)).toArray) := by
  have := run_storeCells_at P B off T u.cells.toList 0 cur w hrow (by simp; omega) h1
  simp only [Nat.add_zero] at this
  simp [storeVar, hu, szB_run hk, this]

theorem store_ok (s : Sim lo h0 S W κ st a w) (hd : dstOk o.dst st.n) {H : List Nat} {t : TypeId} {x y : Operand} (hop : o.op = .store t x y) (h : AEff P lo H o (ev st) st.lam st.η K) : o.wp P a w (OP lo h0 S W w o.dst st K) Q := by
  unfold AEff at h
  rw [hop] at h
  simp only at h
  have hx := ev_ok s x
  have hy := ev_ok s y
  cases hk : szB P t with
  | none => rw [hk] at h; exact h.elim
  | some k =>
    rw [hk] at h
    cases hxx : ev st x <;> rw [hxx] at h hx <;> try (exact h.elim)
    · rename_i b ver off
      cases hb : st.η[b]? with
      | none => simp only [hb] at h
      | some blk =>
        simp only [hb] at h
        obtain ⟨⟨hpl, hlo, hv, hk0, hlen, hoff, hnl⟩, hK⟩ := h
        have hrel := cells_rel (Rv_1 hy (by intro e; rw [e] at hpl; simp [plainV] at hpl) (by intro l e; rw [e] at hpl; simp [plainV] at hpl))
        have hpt := ptr_open hx (by simp [cur, hb, hv])
        obtain ⟨hle, hown⟩ := s.hs.own b blk hb hlo
        obtain ⟨B, c, hB, hrow, hsz⟩ := hown (by omega)
        have hcs : (a.eval y).cells.size = k := by rw [hrel.1]; exact hlen
        rw [hB, add_zero_plain, Nat.zero_add] at hpt
        have hrun : (execOp a.eval o).run P w = .ok .skip (w.setRow B (c.toList.take off ++ (a.eval y).cells.toList ++ c.toList.drop (off + (a.eval y).cells.toList.length)).toArray) := by
          have := storeVar_run (w := w) (off := off) hk hrow hcs (by omega) (oneCells hrel)
          simp [execOp, hop, hpt, Instr.storeAt, Instr.sureAddr, this]
        have hr0 : RL (Rc lo W st.η lam0 kap0) (cellsA (ev st y)) (a.eval y).cells := by
          refine ⟨hrel.1, fun i z hz => ?_⟩
          obtain ⟨u, h1, h2⟩ := hrel.2 i z hz
          refine ⟨u, h1, ?_⟩
          have := List.all_eq_true.1 hnl z (List.mem_of_getElem? hz)
          cases z <;> first | exact h2 | (simp [noLoc] at this)
        have hcell : ∀ (j : Nat) x, blk.cells[j]? = some x → ∃ u, c[j]? = some u ∧ Rc lo W st.η lam0 kap0 x u := by
          intro j z hz
          obtain ⟨u, h1, h2⟩ := s.hs.cell b blk hb j z hz
          refine ⟨u, ?_, h2⟩
          rw [hB, add_zero_plain, Nat.zero_add] at h1
          simpa [World.cell?, hrow] using h1
        obtain ⟨hsz', hcell'⟩ := spliced_long (off := off) (by omega) hcell hr0 (by omega)
        have hos := OtherSame.setRow w B (c.toList.take off ++ (a.eval y).cells.toList ++ c.toList.drop (off + (a.eval y).cells.toList.length)).toArray
        have hlp : (putCells blk.cells off (cellsA (ev st y))).length = blk.cells.length := length_putCells (by omega)
        have hlp2 : (putCells blk.cells off (cellsA (ev st y))).length ≤ (c.toList.take off ++ (a.eval y).cells.toList ++ c.toList.drop (off + (a.eval y).cells.toList.length)).toArray.size := by rw [hlp, hsz']; omega
        have hc0 : 0 < W.cs b := by omega
        have hst : HStep lo st.η (st.η.set b { blk with cells := putCells blk.cells off (cellsA (ev st y)) }) W W := .set hb hlo (Nat.le_refl _) rfl rfl
        refine wp_skipN hrun ⟨.und, st.lam, _, W, κ, hK, ?_, hst, ⟨rfl, rfl, rfl, by simp, fun q hq hS => ?_⟩⟩
        · refine Sim_put s hd (s.hs.set hb hlo hc0 hB (Nat.le_refl _) rfl rfl hos (setRow_heap w B c _ _ _ hrow) (by rw [hsz']; exact hsz) hlp2 hcell') (s.ls.set hb hlo hc0 hB (Nat.le_refl _) rfl rfl hos) hst (.refl _ _) (by simp) (fun b' hb' hlt hp => s.oS b' hb' (by simpa using hlt) hp) s.lS (Rv_und _)
        · by_cases e : q = B
          · subst e
            have := s.oS b hlo (List.getElem?_eq_some_iff.1 hb).1 hc0
            rw [hB] at this
            rcases this with h1 | h1
            · exact absurd h1 hS
            · simp at h1; omega
          · exact hos.2.2.2.2 q e
    · rename_i b ver off
      obtain ⟨⟨hpl, hv, hlen, hoff⟩, hK⟩ := h
      have hrel := cells_rel (Rv_1 hy (by intro e; rw [e] at hpl; simp [plainV] at hpl) (by intro l e; rw [e] at hpl; simp [plainV] at hpl))
      obtain ⟨g0, g1, g2⟩ := Rv_loc hx
      have hpt := g2 hv
      have hver : 0 < (st.lam b).ver := by omega
      obtain ⟨c, T, hrow, hcr⟩ := s.ls.row b hver
      have hcs : (a.eval y).cells.size = k := by rw [hrel.1]; exact hlen
      have hrun : (execOp a.eval o).run P w = .ok .skip (w.setRow (κ b) (c.toList.take off ++ (a.eval y).cells.toList ++ c.toList.drop (off + (a.eval y).cells.toList.length)).toArray) := by
        have := storeVar_run (w := w) (off := off) hk hrow hcs (by rw [hcr.1]; omega) (oneCells hrel)
        simp [execOp, hop, hpt, Instr.storeAt, Instr.sureAddr, this]
      have hos := OtherSame.setRow w (κ b) (c.toList.take off ++ (a.eval y).cells.toList ++ c.toList.drop (off + (a.eval y).cells.toList.length)).toArray
      have hnew := spliced (off := off) hcr hrel (by omega)
      subst hv
      refine wp_skipN hrun ⟨.und, _, st.η, W, κ, hK, ?_, .refl _ _ _, ⟨rfl, rfl, rfl, by simp, fun q hq hS => ?_⟩⟩
      · refine Sim_put s hd (s.hs.local s.ls hver hos) (s.ls.write hver hos (setRow_heap w (κ b) c _ _ _ hrow) hnew) (.refl _ _ _) (.write b _) (by simp) s.oS (fun t ht => ?_) (Rv_und _)
        by_cases e : t = b
        · subst e; exact s.lS t hver
        · rw [upd_ne _ _ e] at ht; exact s.lS t ht
      · by_cases e : q = κ b
        · subst e; have := s.lS b hver; omega
        · exact hos.2.2.2.2 q e

end
end Go.Proofs.Ytffefndnnbcplaa
