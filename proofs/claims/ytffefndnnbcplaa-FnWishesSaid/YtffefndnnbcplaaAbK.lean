/- The abstract logic: slices that are made, appended to; calls; and all operations in one theorem. -/
import Derived.Test.YtffefndnnbcplaaAbJ
namespace Go.Proofs.Ytffefndnnbcplaa
open Go

section
variable {P : Program} {lo h0 : Nat} {S : Nat → Prop} {W : Wit} {κ : Nat → Nat} {st : St} {a : Act} {w : World} {o : Oper} {K : AV → (Nat → LB) → List Blk → Prop} {Q : Exit → Act → World → Prop}

theorem pushed_ok (s : Sim lo h0 S W κ st a w) (hd : dstOk o.dst st.n) {w1 : World} {cur : Array Value} {blk : Blk} {len cap : Nat} (hg1 : Grows w w1) (hsz1 : w1.heap.size = w.heap.size) (hver : blk.ver = 0)
    (hrun : (execOp a.eval o).run P w = .ok (.value (.slice (some ⟨w.heap.size, 0, none⟩) len cap)) (w1.alloc (.cells cur blk.ty)))
    (hr : ∀ (j : Nat) x, blk.cells[j]? = some x → ∃ u, cur[j]? = some u ∧ Rc lo W st.η lam0 kap0 x u) (hl : blk.cells.length ≤ cur.size) (hlc : len ≤ cap) (hcap : cap * blk.sz ≤ cur.size)
    (hK : K (.sl st.η.length 0 0 len) st.lam (st.η ++ [blk])) : o.wp P a w (OP lo h0 S W w o.dst st K) Q := by
  have hg := hg1.trans (Grows.alloc w1 (.cells cur blk.ty))
  have hst : HStep lo st.η (st.η ++ [blk]) W (pushW W st.η.length ⟨w1.heap.size, 0, none⟩ cur.size) := .push s.hs.lo_le _ _ _
  refine wp_value hrun ⟨_, st.lam, _, _, κ, hK, ?_, hst, hg.fr s.h0le⟩
  refine Sim_put s hd (HSim.push (s.hs.grow hg1) hr hl) ((s.ls.grow hg1).push (s.hs.grow hg1)) hst (.refl _ _) (by simp [hsz1]) (fun b hb hlt hp => ?_) s.lS ?_
  · simp only [List.length_append, List.length_cons, List.length_nil] at hlt
    by_cases e : b = st.η.length
    · subst e; right; rw [show (pushW W st.η.length ⟨w1.heap.size, 0, none⟩ cur.size).ι st.η.length = _ from upd_same _ _ _]; show h0 ≤ w1.heap.size; rw [hsz1]; exact s.h0le
    · rw [show (pushW W st.η.length ⟨w1.heap.size, 0, none⟩ cur.size).ι b = _ from upd_ne _ _ e]
      rw [show (pushW W st.η.length ⟨w1.heap.size, 0, none⟩ cur.size).cs b = _ from upd_ne _ _ e] at hp
      exact s.oS b hb (by omega) hp
  · refine Rv_mkc ⟨rfl, blk, by simp, by omega, fun _ => ⟨_, cap, rfl, hlc, .inr ⟨?_, fun _ => ?_⟩⟩⟩
    · rw [show (pushW W st.η.length ⟨w1.heap.size, 0, none⟩ cur.size).ι st.η.length = _ from upd_same _ _ _]
      simp [Addr.add, hsz1]
    · rw [show (pushW W st.η.length ⟨w1.heap.size, 0, none⟩ cur.size).cs st.η.length = _ from upd_same _ _ _]
      omega

theorem replicate_rel {R : AV → Value → Prop} {z : List AV} {zc : Array Value} (h : RL R z zc) (n : Nat) {k : Nat} (hk : z.length = k) : ∀ (j : Nat) x, ((List.replicate n z).flatten)[j]? = some x → ∃ u, (madeCells zc (n * k))[j]? = some u ∧ R x u := by
  intro j x hx
  have hj : j < n * k := by
    have := (List.getElem?_eq_some_iff.1 hx).1
    simpa [hk] using this
  have hk0 : 0 < k := by
    rcases Nat.eq_zero_or_pos k with h0 | h0
    · rw [h0] at hj; omega
    · exact h0
  have hzs : zc.size = k := by rw [h.1, hk]
  have hx' : z[j % k]? = some x := by
    rw [← hx]
    have : ∀ (n j : Nat), j < n * k → ((List.replicate n z).flatten)[j]? = z[j % k]? := by
      intro n
      induction n with
      | zero => intro j hj; omega
      | succ n ih =>
        intro j hj
        rw [List.replicate_succ, List.flatten_cons]
        by_cases hjk : j < k
        · rw [List.getElem?_append_left (by omega), Nat.mod_eq_of_lt hjk]
        · have hj2 : (n + 1) * k = n * k + k := Nat.succ_mul n k
          rw [List.getElem?_append_right (by omega), hk, ih (j - k) (by omega)]
          have := Nat.mod_eq_sub_mod (show j ≥ k by omega)
          rw [this]
    exact (this n j hj).symm
  obtain ⟨u, hu, hr⟩ := h.2 _ x hx'
  refine ⟨u, ?_, hr⟩
  have hlt : j % k < zc.size := by rw [hzs]; exact Nat.mod_lt _ hk0
  have e : zc[j % k] = u := by
    rw [Array.getElem?_eq_getElem hlt] at hu; exact Option.some.inj hu
  simp only [madeCells, Array.getElem?_map, Array.getElem?_range, hj, if_true, Option.map_some, hzs]
  rw [getElem!_pos zc (j % k) hlt, e]

theorem makeSlice_ok (s : Sim lo h0 S W κ st a w) (hd : dstOk o.dst st.n) {H : List Nat} {t : TypeId} {x y : Operand} (hop : o.op = .makeSlice t x y) (h : AEff P lo H o (ev st) st.lam st.η K) : o.wp P a w (OP lo h0 S W w o.dst st K) Q := by
  unfold AEff at h
  rw [hop] at h
  simp only at h
  have hx := ev_ok s x
  have hy := ev_ok s y
  split at h
  · rename_i e k n n' he hxx hyy
    obtain ⟨hte, hse⟩ := elemB_spec he
    rw [hxx] at hx; rw [hyy] at hy
    split at h
    · rename_i z by_ hz hby
      obtain ⟨⟨rfl, h1, h2, h3, h4⟩, hK⟩ := h
      obtain ⟨zv, i, hzr, hi, hiz, hzz⟩ := zeroB_run (w := w) hz
      have hsz : i.size = k := by unfold szB at hse; rw [hi] at hse; simpa using hse
      have hb' : i.bytes = by_ := by unfold bytesB at hby; rw [hi] at hby; simpa using hby
      have hb2 : (i.bytes : Int) * n ≤ 281474976710656 := by rw [hb', Int.mul_comm]; omega
      have hrun := run_make (P := P) w t e i zv hte hi hiz .i64 .i64 n n h1 (Int.le_refl _) hb2 h3
      rw [hsz] at hrun
      have hrel := zero_rel (lo := lo) (W := W) (η := st.η) (lam := lam0) (κ := kap0) hzz
      refine pushed_ok s hd (blk := ⟨0, e, k, (List.replicate n.toNat z).flatten⟩) (Grows.refl w) rfl rfl (by simp only [execOp, hop, Rv_int hx, Rv_int hy, Sem.run_bind, hrun, Result.andThen_ok, Sem.run_pure]) (replicate_rel hrel _ h4) (by simp [madeCells, h4]) (Nat.le_refl _) (by simp [madeCells]) hK
    · exact h.elim
  · exact h.elim

theorem fillA_len {place : Nat → Option (Nat × Nat)} : ∀ {parts : List (Nat × AV)} {cells res : List AV}, fillA place cells parts = some res → res.length = cells.length
  | [], cells, res, h => by simp [fillA] at h; rw [h]
  | (i, v) :: rest, cells, res, h => by
    simp only [fillA] at h
    split at h
    · cases h
    · split at h
      · rename_i hc; rw [fillA_len h, length_putCells (by omega)]
      · cases h

theorem buildSlice_ok (s : Sim lo h0 S W κ st a w) (hd : dstOk o.dst st.n) {H : List Nat} {t : TypeId} {len : Nat} {parts : Array (Nat × Operand)} (hop : o.op = .buildSlice t len parts) (h : AEff P lo H o (ev st) st.lam st.η K) : o.wp P a w (OP lo h0 S W w o.dst st K) Q := by
  unfold AEff at h
  rw [hop] at h
  simp only at h
  split at h
  · rename_i e k he
    obtain ⟨hte, hse⟩ := elemB_spec he
    split at h
    · rename_i hl0
      subst hl0
      obtain ⟨hp0, hK⟩ := h
      obtain rfl : parts = #[] := Array.eq_empty_of_size_eq_zero hp0
      have hg := Grows.alloc w (.cells #[] e)
      have hrun : (Instr.buildSlice t 0 #[]).run P w = .ok (.slice (some ⟨w.heap.size, 0, none⟩) 0 0) (w.alloc (.cells #[] e)) := by
        simp [Instr.buildSlice, run_underlying hte, szB_run hse, Instr.fill, newRow]
        have e0 : Array.range 0 = #[] := by apply Array.ext' ; simp
        rw [e0]; simp
      refine wp_value (u := .slice (some ⟨w.heap.size, 0, none⟩) 0 0) (w' := w.alloc (.cells #[] e)) (by simp [execOp, hop, hrun]) ⟨.emp, st.lam, st.η, W, κ, hK, ?_, .refl _ _ _, hg.fr s.h0le⟩
      exact Sim_put s hd (s.hs.grow hg) (s.ls.grow hg) (.refl _ _ _) (.refl _ _) (by simp) s.oS s.lS (Rv_mkc ⟨rfl, _, rfl⟩)
    · rename_i hl0
      split at h
      · rename_i z hz
        split at h
        · rename_i cells hf
          obtain ⟨⟨h1, h2, h3, h4⟩, hK⟩ := h
          obtain ⟨zv, i, hzr, hi, hiz, hzz⟩ := zeroB_run (w := w) hz
          have hrel := zero_rel (lo := lo) (W := W) (η := st.η) (lam := st.lam) (κ := κ) hzz
          have hzs : zv.cells.size = k := by rw [hrel.1, h1]
          have hrl : RL (Rc lo W st.η st.lam κ) (List.replicate len z).flatten (madeCells zv.cells (len * k)) := ⟨by simp [madeCells, h1], replicate_rel hrel len h1⟩
          obtain ⟨rc, hrc1, hrc2⟩ := fill_ok (partsc := (parts.map fun p => (p.1, a.eval p.2)).toList) (by simp [Function.comp_def]) (fun j p q hp hq => by
            rw [List.getElem?_map] at hp
            rw [Array.toList_map, List.getElem?_map] at hq
            cases hj : parts.toList[j]? with
            | none => rw [hj] at hp; cases hp
            | some x => rw [hj] at hp hq; simp at hp hq; subst hp; subst hq; exact ev_ok s x.2) hrl hf
          have hlen : cells.length = len * k := by rw [fillA_len hf]; simp [h1]
          have hrun : (Instr.buildSlice t len (parts.map fun p => (p.1, a.eval p.2))).run P w = .ok (.slice (some ⟨w.heap.size, 0, none⟩) len len) (w.alloc (.cells rc e)) := by
            have hm : (Array.range (len * k)).map (fun x => zv.cells[x % zv.cells.size]!) = madeCells zv.cells (len * k) := by simp [madeCells]
            have hne : ¬ (len * k = 0) := by
              intro e0
              rcases Nat.mul_eq_zero.1 e0 with h | h <;> omega
            have hbig : ¬ (16777216 < len * k) := by omega
            rw [Array.toList_map] at hrc1
            simp only [Instr.buildSlice, Sem.run_bind, run_underlying hte, Result.andThen_ok, szB_run hse, Sem.run_ite]
            rw [if_neg (by simpa using hbig)]
            simp only [Sem.run_pure, Result.andThen_ok]
            rw [if_neg hne]
            simp [hzr, hm, hrc1, newRow]
          refine pushed_ok s hd (blk := ⟨0, e, k, cells⟩) (Grows.refl w) rfl rfl (cur := rc) (cap := len) (by simp [execOp, hop, hrun]) (fun j x hx => ?_) (by rw [hrc2.1]; exact Nat.le_refl _) (Nat.le_refl _) (by rw [hrc2.1, hlen]; exact Nat.le_refl _) hK
          obtain ⟨u, hu1, hu2⟩ := hrc2.2 j x hx
          refine ⟨u, hu1, ?_⟩
          have := List.all_eq_true.1 h4 x (List.mem_of_getElem? hx)
          cases x <;> first | exact hu2 | (simp [noLoc] at this)
        · exact h.elim
      · exact h.elim
  · exact h.elim

/-- What an append takes from its second argument. -/
theorem row_first {lo : Nat} {W : Wit} {η : List Blk} {lam : Nat → LB} {κ : Nat → Nat} {w : World} (hs : HSim lo W η w) {x : AV} {u : Value} {k : Nat} {new : List AV} (hx : Rv lo W η lam κ x u) (h : rowA η k x = some new) :
    ∃ news : List Value, news.length = lenA x * k ∧ RL (Rc lo W η lam0 kap0) new news.toArray ∧ (∀ w1 : World, (Builtin.lenOf u).run P w1 = .ok (lenA x) w1) ∧ ∀ w1, Grows w w1 → (Builtin.firstCells k (lenA x) u).run P w1 = .ok news.toArray w1 := by
  unfold rowA at h
  cases x <;> simp only at h <;> try (cases h; done)
  · cases h
    refine ⟨[], by simp [lenA], ⟨rfl, fun i x hx => by simp at hx⟩, fun w1 => ?_, fun w1 _ => ?_⟩
    · simp [Rv_nils hx, Builtin.lenOf, lenA]
    · simp [Rv_nils hx, Builtin.firstCells]
  · cases h
    obtain ⟨a, rfl⟩ := Rv_emp hx
    refine ⟨[], by simp [lenA], ⟨rfl, fun i x hx => by simp at hx⟩, fun w1 => ?_, fun w1 _ => ?_⟩
    · simp [Builtin.lenOf, lenA]
    · simp [Builtin.firstCells, lenA, loadCells, loadCellsFrom]
  · rename_i b ver off len
    cases hb : η[b]? with
    | none => rw [hb] at h; cases h
    | some blk =>
      rw [hb] at h
      simp only at h
      split at h
      · rename_i hc
        simp only [Option.some.injEq] at h
        subst h
        obtain ⟨a, cap, rfl, hle, hcap⟩ := sl_open hx hb hc.1
        by_cases h0 : len = 0
        · subst h0
          refine ⟨[], by simp [lenA], ⟨by simp, fun i x hx => by simp at hx⟩, fun w1 => ?_, fun w1 _ => ?_⟩
          · simp [Builtin.lenOf, lenA]
          · simp [Builtin.firstCells, lenA, loadCells, loadCellsFrom]
        · have ha : a = (W.ι b).add off := by rcases hcap with hcap | hcap; omega; exact hcap.1
          obtain ⟨cs, hl, h1, h2⟩ := row_of (w := w) (R := Rc lo W η lam0 kap0) (l := (blk.cells.drop off).take (len * k)) (a := a) (fun j x hx => by
            rw [List.getElem?_take] at hx
            split at hx
            · rw [List.getElem?_drop] at hx
              obtain ⟨u, hu, hr⟩ := hs.cell b blk hb (off + j) x hx
              exact ⟨u, by rw [ha, Deep.add_add]; exact hu, hr⟩
            · cases hx)
          have hlk : cs.length = len * k := by rw [hl]; simp; omega
          refine ⟨cs, hlk, h2, fun w1 => by simp [Builtin.lenOf, lenA], fun w1 hg => ?_⟩
          have := run_firstCells_some (P := P) w1 k len a len cap cs hlk (fun j v hv => hg.cell (h1 j v hv))
          exact this
      · cases h

/-- Append, by the machine's text. -/
theorem append_fits {t t' e e' ty : TypeId} {k : Nat} (ht : P.underlying t = some (.slice e)) (ht' : P.underlying t' = some (.slice e')) (hk : szB P e = some k) {base : Option Addr} {n cap m : Nat} {u : Value} {news : List Value}
    (hlen : ∀ w1 : World, (Builtin.lenOf u).run P w1 = .ok m w1) (hf : (Builtin.firstCells k m u).run P w = .ok news.toArray w) (hroom : n + m ≤ cap) :
    (Builtin.append_ #[t, t'] ty #[.slice base n cap, u]).run P w = (match base with | some a => (storeCells (a.add (n * k)) news).run P w | none => .ok () w).andThen fun _ w' => .ok (.slice base (n + m) cap) w' := by
  cases base <;> simp [Builtin.append_, run_underlying ht, run_underlying ht', szB_run hk, hlen, hf, hroom]

theorem append_grows {t t' e e' ty : TypeId} {k by_ : Nat} (ht : P.underlying t = some (.slice e)) (ht' : P.underlying t' = some (.slice e')) {i : TypeInfo} {z : Value} (hi : P.info? e = some i) (hz : i.zero = some z) (hk : i.size = k) (hb : i.bytes = by_) {base : Option Addr} {n cap m : Nat} {u : Value} {olds news : List Value}
    (hlen : ∀ w1 : World, (Builtin.lenOf u).run P w1 = .ok m w1) (hf : (Builtin.firstCells k m u).run P w.drew = .ok news.toArray w.drew) (ho : (Builtin.firstCells k n (.slice base n cap)).run P w.drew = .ok olds.toArray w.drew)
    (hroom : cap < n + m) (h63 : n + m ≤ 4611686018427387904) (hfit : (n + m) * by_ ≤ 140737488355328) :
    (Builtin.append_ #[t, t'] ty #[.slice base n cap, u]).run P w = .ok (.slice (some ⟨w.heap.size, 0, none⟩) (n + m) (grownCap w (n + m) cap e)) (w.drew.alloc (.cells (olds.toArray ++ news.toArray ++ Builtin.zeroCells z.cells (grownCap w (n + m) cap e - (n + m))) e)) := by
  have hn : ¬ (n + m ≤ cap) := by omega
  have h63' : ¬ (9223372036854775807 < ((n : Int) + (m : Int))) := by omega
  have hfit2 := growslice_fits hroom hfit
  have h48' : ¬ (281474976710656 < Builtin.nextslicecap (n + m) cap * by_) := by omega
  subst hk hb
  simp [Builtin.append_, run_underlying ht, run_underlying ht', sizeOf, typeInfo, zeroValue, hi, hz, hlen, hn, h63', h48', Question.forced, hf, ho, newRow, grownCap]
  congr 2
  apply Array.ext'
  simp [List.append_assoc]

end
end Go.Proofs.Ytffefndnnbcplaa
