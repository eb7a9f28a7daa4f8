/- The abstract logic: append, calls, and all operations in one theorem. -/
import Derived.Test.YtffefndnnbcplaaAbK
namespace Go.Proofs.Ytffefndnnbcplaa
open Go

section
variable {P : Program} {lo h0 : Nat} {S : Nat → Prop} {W : Wit} {κ : Nat → Nat} {st : St} {a : Act} {w : World} {o : Oper} {K : AV → (Nat → LB) → List Blk → Prop} {Q : Exit → Act → World → Prop}

theorem append_rel {R : AV → Value → Prop} {l1 l2 : List AV} {c1 c2 : List Value} {r : Array Value} (h1 : RL R l1 c1.toArray) (h2 : RL R l2 c2.toArray) : ∀ (j : Nat) x, (l1 ++ l2)[j]? = some x → ∃ u, (c1.toArray ++ c2.toArray ++ r)[j]? = some u ∧ R x u := by
  intro j x hx
  have e1 : c1.length = l1.length := by have := h1.1; simpa using this
  have e2 : c2.length = l2.length := by have := h2.1; simpa using this
  by_cases hj : j < l1.length
  · rw [List.getElem?_append_left hj] at hx
    obtain ⟨u, hu, hr⟩ := h1.2 j x hx
    refine ⟨u, ?_, hr⟩
    rw [Array.append_assoc, Array.getElem?_append_left (by simpa [e1] using hj)]
    exact hu
  · rw [List.getElem?_append_right (by omega)] at hx
    obtain ⟨u, hu, hr⟩ := h2.2 _ x hx
    have hlt := (List.getElem?_eq_some_iff.1 hx).1
    refine ⟨u, ?_, hr⟩
    rw [Array.append_assoc, Array.getElem?_append_right (by simp; omega), Array.getElem?_append_left (by simp; omega)]
    simpa [e1] using hu

theorem oneCellsL {lam : Nat → LB} {η : List Blk} {l : List AV} {cs : List Value} (h : RL (Rc lo W η lam κ) l cs.toArray) : ∀ u ∈ cs, u.oneCell' = true := by
  intro u hu
  exact oneCells h u (by simpa using hu)

/-- Appended to nothing. -/
theorem append_none_ok (s : Sim lo h0 S W κ st a w) (hd : dstOk o.dst st.n) {t t' e e' ty : TypeId} {k k' by_ : Nat} (ht : elemB P t = some (e, k)) (ht' : elemB P t' = some (e', k')) (hby : bytesB P e = some by_) {z : List AV} (hz : zeroB P e = some z) (hzk : z.length = k)
    {x : AV} {u : Value} (hx : Rv lo W st.η st.lam κ x u) {new : List AV} (hrow : rowA st.η k x = some new) {base : Option Addr}
    (hrun : (execOp a.eval o).run P w = ((Builtin.append_ #[t, t'] ty #[.slice base 0 0, u]).run P w).andThen fun v w' => .ok (.value v) w')
    (h1 : lenA x * by_ ≤ 140737488355328) (h2 : lenA x ≤ 4611686018427387904) (hb : base = none → 0 < lenA x)
    (hK : K (.sl st.η.length 0 0 (lenA x)) st.lam (st.η ++ [⟨0, e, k, new⟩])) : o.wp P a w (OP lo h0 S W w o.dst st K) Q := by
  obtain ⟨hte, hse⟩ := elemB_spec ht
  obtain ⟨hte', _⟩ := elemB_spec ht'
  obtain ⟨news, hl, hrel, hlen, hf⟩ := row_first (P := P) s.hs hx hrow
  obtain ⟨zv, i, hzr, hi, hiz, hzz⟩ := zeroB_run (w := w) hz
  have hsz : i.size = k := by unfold szB at hse; rw [hi] at hse; simpa using hse
  have hb' : i.bytes = by_ := by unfold bytesB at hby; rw [hi] at hby; simpa using hby
  have hnl : new.length = news.length := by have := hrel.1; simpa using this.symm
  by_cases hm : lenA x = 0
  · cases base with
    | none => have := hb rfl; omega
    | some b0 =>
      have hr2 := append_fits (ty := ty) hte hte' hse (base := some b0) (n := 0) (cap := 0) (w := w) hlen (hf w (Grows.refl w)) (by omega)
      have hnews : news = [] := by
        rw [hm, Nat.zero_mul] at hl
        exact List.length_eq_zero_iff.1 hl
      rw [hr2] at hrun
      subst hnews
      have hnew : new = [] := List.length_eq_zero_iff.1 (by rw [hnl]; rfl)
      subst hnew
      rw [hm] at hK
      refine wp_value (u := .slice (some b0) 0 0) (w' := w) (by rw [hrun]; simp [storeCells, hm]) ⟨_, st.lam, _, pushW W st.η.length ⟨0, 0, none⟩ 0, κ, hK, ?_, .push s.hs.lo_le _ _ _, .refl _ _ _⟩
      refine Sim_put s hd (s.hs.pushV _ rfl) (s.ls.pushV s.hs _ rfl) (.push s.hs.lo_le _ _ _) (.refl _ _) (Nat.le_refl _) (fun b hb hlt hp => ?_) s.lS ?_
      · simp only [List.length_append, List.length_cons, List.length_nil] at hlt
        by_cases e : b = st.η.length
        · subst e; rw [show (pushW W st.η.length ⟨0, 0, none⟩ 0).cs st.η.length = 0 from upd_same _ _ _] at hp; omega
        · rw [show (pushW W st.η.length ⟨0, 0, none⟩ 0).ι b = _ from upd_ne _ _ e]
          rw [show (pushW W st.η.length ⟨0, 0, none⟩ 0).cs b = _ from upd_ne _ _ e] at hp
          exact s.oS b hb (by omega) hp
      · exact Rv_mkc ⟨rfl, ⟨0, e, k, []⟩, by simp, Nat.le_refl _, fun _ => ⟨b0, 0, rfl, Nat.le_refl _, .inl rfl⟩⟩
  · have hfo : (Builtin.firstCells k 0 (.slice base 0 0)).run P w.drew = .ok (([] : List Value).toArray) w.drew := by
      cases base <;> simp [Builtin.firstCells, loadCells, loadCellsFrom]
    have hr2 := append_grows (ty := ty) (base := base) (n := 0) (cap := 0) (w := w) hte hte' hi hiz hsz hb' hlen (hf w.drew (Grows.drew w)) hfo (by omega) (by omega) (by rw [Nat.zero_add]; exact h1)
    rw [hr2] at hrun
    simp only [Result.andThen_ok, Nat.zero_add] at hrun
    have hcapge := grownCap_ge w (lenA x) 0 e
    have hzc : zv.cells.size = k := by have := zero_rel (lo := lo) (W := W) (η := st.η) (lam := lam0) (κ := kap0) hzz; rw [this.1, hzk]
    refine pushed_ok s hd (blk := ⟨0, e, k, new⟩) (Grows.drew w) rfl rfl hrun (fun j y hy => ?_) ?_ hcapge ?_ hK
    · have := append_rel (l1 := []) (c1 := []) (r := Builtin.zeroCells zv.cells (grownCap w (lenA x) 0 e - lenA x)) ⟨rfl, fun i x hx => by simp at hx⟩ hrel j y (by simpa using hy)
      exact this
    · simp [hnl]
    · simp only [Array.size_append, size_zeroCells, hzc]
      simp [hl, ← Nat.add_mul]
      rw [show lenA x + (grownCap w (lenA x) 0 e - lenA x) = grownCap w (lenA x) 0 e by omega]
      exact Nat.le_refl _

/-- Appended to a row of one's own. -/
theorem append_own_ok (s : Sim lo h0 S W κ st a w) (hd : dstOk o.dst st.n) {t t' e e' ty : TypeId} {k k' by_ : Nat} (ht : elemB P t = some (e, k)) (ht' : elemB P t' = some (e', k')) (hby : bytesB P e = some by_) {z : List AV} (hz : zeroB P e = some z) (hzk : z.length = k) (hk0 : 0 < k)
    {x : AV} {u : Value} (hx : Rv lo W st.η st.lam κ x u) {new : List AV} (hrow : rowA st.η k x = some new) {b len : Nat} {blk : Blk} {us : Value} (hb : st.η[b]? = some blk) (hlo : lo ≤ b) (hus : Rv lo W st.η st.lam κ (.sl b blk.ver 0 len) us)
    (hrun : (execOp a.eval o).run P w = ((Builtin.append_ #[t, t'] ty #[us, u]).run P w).andThen fun v w' => .ok (.value v) w')
    (hbs : blk.sz = k) (hbt : blk.ty = e) (hle : len * k ≤ blk.cells.length) (h1 : (len + lenA x) * by_ ≤ 140737488355328) (h2 : len + lenA x ≤ 4611686018427387904)
    (hK : K (.sl b (blk.ver + 1) 0 (len + lenA x)) st.lam (st.η.set b { blk with ver := blk.ver + 1, cells := blk.cells.take (len * k) ++ new })) : o.wp P a w (OP lo h0 S W w o.dst st K) Q := by
  obtain ⟨hte, hse⟩ := elemB_spec ht
  obtain ⟨hte', _⟩ := elemB_spec ht'
  obtain ⟨news, hl, hrel, hlen, hf⟩ := row_first (P := P) s.hs hx hrow
  obtain ⟨zv, i, hzr, hi, hiz, hzz⟩ := zeroB_run (w := w) hz
  have hsz : i.size = k := by unfold szB at hse; rw [hi] at hse; simpa using hse
  have hb' : i.bytes = by_ := by unfold bytesB at hby; rw [hi] at hby; simpa using hby
  have hnl : new.length = news.length := by have := hrel.1; simpa using this.symm
  obtain ⟨ad, cap, rfl, hlc, hcap⟩ := sl_open hus hb rfl
  obtain ⟨hble, hown⟩ := s.hs.own b blk hb hlo
  have hblt := (List.getElem?_eq_some_iff.1 hb).1
  have hver : blk.ver ≤ blk.ver + 1 := Nat.le_succ _
  by_cases hroom : len + lenA x ≤ cap
  · -- in place
    have hr2 := append_fits (ty := ty) hte hte' hse (base := some ad) (n := len) (cap := cap) (w := w) hlen (hf w (Grows.refl w)) hroom
    rw [hr2] at hrun
    by_cases hc0 : cap = 0
    · -- nothing, appended to nothing
      have hm : lenA x = 0 := by omega
      have hl0 : len = 0 := by omega
      have hnews : news = [] := by rw [hm, Nat.zero_mul] at hl; exact List.length_eq_zero_iff.1 hl
      subst hnews
      have hnew : new = [] := List.length_eq_zero_iff.1 (by rw [hnl]; rfl)
      subst hnew
      subst hl0
      have hst : HStep lo st.η (st.η.set b { blk with ver := blk.ver + 1, cells := blk.cells.take (0 * k) ++ [] }) W W := .set hb hlo hver rfl rfl
      have hos : ∀ g, OtherSame g w w := fun g => ⟨rfl, rfl, rfl, rfl, fun _ _ => rfl⟩
      refine wp_value (u := .slice (some ad) (0 + lenA x) cap) (w' := w) (by rw [hrun]; simp [storeCells]) ⟨_, st.lam, _, W, κ, hK, ?_, hst, .refl _ _ _⟩
      have hs' : HSim lo W (st.η.set b { blk with ver := blk.ver + 1, cells := blk.cells.take (0 * k) ++ [] }) w := by
        by_cases hcs : 0 < W.cs b
        · obtain ⟨B, c, hB, hrw, hsz2⟩ := hown hcs
          exact s.hs.set hb hlo hcs hB hver rfl rfl (hos B) hrw hsz2 (by simp) (fun j y hy => by simp at hy)
        · refine ⟨by rw [List.length_set]; exact s.hs.lo_le, fun c bl hcb j y hy => ?_, fun c bl hcb hlc2 => ?_, fun c c' bl hcb hc' hlc' hp hn hcc => ?_⟩
          · rcases getElem?_set_cases hcb with ⟨rfl, rfl⟩ | ⟨hcn, hcb⟩
            · simp at hy
            · obtain ⟨u, h1, h2⟩ := s.hs.cell c bl hcb j y hy; exact ⟨u, h1, Rc_mono hst (LStep.refl _ _) h2⟩
          · rcases getElem?_set_cases hcb with ⟨rfl, rfl⟩ | ⟨hcn, hcb⟩
            · exact ⟨by simp, fun hp => absurd hp hcs⟩
            · exact s.hs.own c bl hcb hlc2
          · rw [List.length_set] at hc'
            rcases getElem?_set_cases hcb with ⟨rfl, rfl⟩ | ⟨hcn, hcb⟩
            · rw [if_pos hlo] at hcc; exact absurd hcc hcs
            · exact s.hs.sep c c' bl hcb hc' hlc' hp hn hcc
      have hls' : LSim lo W (st.η.set b { blk with ver := blk.ver + 1, cells := blk.cells.take (0 * k) ++ [] }) st.lam κ w := by
        refine ⟨fun s' hsv => let ⟨c, t, h1, h2⟩ := s.ls.row s' hsv; ⟨c, t, h1, h2.mono fun _ _ hr => Rc_mono hst (LStep.refl _ _) hr⟩, s.ls.ll, fun s' c bl hsv hcb hcc => ?_⟩
        rcases getElem?_set_cases hcb with ⟨rfl, rfl⟩ | ⟨hcn, hcb⟩
        · refine s.ls.lh s' c blk hsv hb ?_
          rw [if_pos hlo] at hcc ⊢; exact hcc
        · exact s.ls.lh s' c bl hsv hcb hcc
      refine Sim_put s hd hs' hls' hst (.refl _ _) (Nat.le_refl _) (fun b' hb' hlt hp => s.oS b' hb' (by simpa using hlt) hp) s.lS ?_
      exact Rv_mkc ⟨rfl, { blk with ver := blk.ver + 1, cells := blk.cells.take (0 * k) ++ [] }, by simp [hblt], Nat.le_refl _, fun _ => ⟨ad, cap, rfl, hroom, .inl hc0⟩⟩
    · have had : ad = (W.ι b).add 0 ∧ (lo ≤ b → 0 + cap * blk.sz ≤ W.cs b) := by rcases hcap with h | h; omega; exact h
      obtain ⟨had1, had2⟩ := had
      have hcs := had2 hlo
      have hcs0 : 0 < W.cs b := by
        have : 0 < cap * blk.sz := Nat.mul_pos (by omega) (by omega)
        omega
      obtain ⟨B, c, hB, hrw, hsz2⟩ := hown hcs0
      rw [hB] at had1
      have had3 : ad = ⟨B, 0, none⟩ := by rw [had1]; rfl
      subst had3
      have hmk : len * k + lenA x * k ≤ cap * k := by rw [← Nat.add_mul]; exact Nat.mul_le_mul_right k hroom
      have hfit : len * k + news.length ≤ c.size := by rw [hl, hsz2]; rw [hbs] at hcs; omega
      have hst0 := run_storeCells_at P B (len * k) blk.ty news 0 c w hrw (by simpa using hfit) (oneCellsL hrel)
      simp only [Nat.add_zero] at hst0
      have hcell : ∀ (j : Nat) y, (blk.cells.take (len * k) ++ new)[j]? = some y → ∃ u, (c.toList.take (len * k) ++ news ++ c.toList.drop (len * k + news.length)).toArray[j]? = some u ∧ Rc lo W st.η lam0 kap0 y u := by
        intro j y hy
        simp only [List.getElem?_toArray]
        by_cases hj : j < len * k
        · rw [List.getElem?_append_left (by simp; omega), List.getElem?_take, if_pos hj] at hy
          obtain ⟨u, h1, h2⟩ := s.hs.cell b blk hb j y hy
          rw [hB, add_zero_plain, Nat.zero_add] at h1
          refine ⟨u, ?_, h2⟩
          rw [List.append_assoc, List.getElem?_append_left (by simp; omega), List.getElem?_take, if_pos hj]
          simpa [World.cell?, hrw] using h1
        · rw [List.getElem?_append_right (by simp; omega)] at hy
          obtain ⟨u, h1, h2⟩ := hrel.2 _ y hy
          refine ⟨u, ?_, h2⟩
          have hlt := (List.getElem?_eq_some_iff.1 hy).1
          simp at hlt
          rw [List.append_assoc, List.getElem?_append_right (by simp; omega), List.getElem?_append_left (by simp; omega)]
          have e1 : min (len * k) blk.cells.length = len * k := by omega
          have e2 : min (len * k) c.size = len * k := by omega
          simpa [e1, e2] using h1
      have hos := OtherSame.setRow w B (c.toList.take (len * k) ++ news ++ c.toList.drop (len * k + news.length)).toArray
      have hst : HStep lo st.η (st.η.set b { blk with ver := blk.ver + 1, cells := blk.cells.take (len * k) ++ new }) W W := .set hb hlo hver rfl rfl
      have hsz3 : (c.toList.take (len * k) ++ news ++ c.toList.drop (len * k + news.length)).toArray.size = W.cs b := by simp; omega
      have hle3 : (blk.cells.take (len * k) ++ new).length ≤ (c.toList.take (len * k) ++ news ++ c.toList.drop (len * k + news.length)).toArray.size := by rw [hsz3]; simp; omega
      refine wp_value (u := .slice (some ⟨B, 0, none⟩) (len + lenA x) cap) (w' := w.setRow B (c.toList.take (len * k) ++ news ++ c.toList.drop (len * k + news.length)).toArray) (by
        rw [hrun]; simp only [add_zero_plain, Nat.zero_add]; rw [hst0]; simp) ⟨_, st.lam, _, W, κ, hK, ?_, hst, ⟨rfl, rfl, rfl, by simp, fun q hq hS => ?_⟩⟩
      · refine Sim_put s hd (s.hs.set hb hlo hcs0 hB hver rfl rfl hos (setRow_heap w B c _ _ _ hrw) hsz3 hle3 hcell) (s.ls.set hb hlo hcs0 hB hver rfl rfl hos) hst (.refl _ _) (by simp) (fun b' hb' hlt hp => s.oS b' hb' (by simpa using hlt) hp) s.lS ?_
        exact Rv_mkc ⟨rfl, { blk with ver := blk.ver + 1, cells := blk.cells.take (len * k) ++ new }, by simp [hblt], Nat.le_refl _, fun _ => ⟨⟨B, 0, none⟩, cap, rfl, hroom, .inr ⟨by rw [hB]; rfl, fun _ => hcs⟩⟩⟩
      · by_cases e : q = B
        · subst e
          have := s.oS b hlo hblt hcs0
          rw [hB] at this
          rcases this with h1 | h1
          · exact absurd h1 hS
          · simp at h1; omega
        · exact hos.2.2.2.2 q e
  · -- to new memory
    have hrold : ∃ olds : List Value, olds.length = len * k ∧ RL (Rc lo W st.η lam0 kap0) (blk.cells.take (len * k)) olds.toArray ∧ (Builtin.firstCells k len (.slice (some ad) len cap)).run P w.drew = .ok olds.toArray w.drew := by
      obtain ⟨news', h1, h2, _, h4⟩ := row_first (P := P) (k := k) (new := (blk.cells.drop 0).take (len * k)) s.hs hus (by simp only [rowA, hb]; rw [if_pos ⟨trivial, by omega⟩])
      refine ⟨news', by simpa [lenA] using h1, by simpa using h2, ?_⟩
      simpa [lenA] using h4 w.drew (Grows.drew w)
    obtain ⟨olds, ho1, ho2, ho3⟩ := hrold
    have hr2 := append_grows (ty := ty) (base := some ad) (n := len) (cap := cap) (w := w) hte hte' hi hiz hsz hb' hlen (hf w.drew (Grows.drew w)) ho3 (by omega) h2 h1
    rw [hr2] at hrun
    simp only [Result.andThen_ok] at hrun
    have hcapge := grownCap_ge w (len + lenA x) cap e
    have hzc : zv.cells.size = k := by have := zero_rel (lo := lo) (W := W) (η := st.η) (lam := lam0) (κ := kap0) hzz; rw [this.1, hzk]
    generalize hcur : olds.toArray ++ news.toArray ++ Builtin.zeroCells zv.cells (grownCap w (len + lenA x) cap e - (len + lenA x)) = cur at hrun
    have hcsz : cur.size = grownCap w (len + lenA x) cap e * k := by
      rw [← hcur]
      simp only [Array.size_append, size_zeroCells, hzc]
      simp [hl, ho1, ← Nat.add_mul]
      congr 1
      omega
    have hlen3 : (blk.cells.take (len * k) ++ new).length = (len + lenA x) * k := by simp [hnl, hl, Nat.add_mul]; omega
    have hle3 : (blk.cells.take (len * k) ++ new).length ≤ cur.size := by rw [hlen3, hcsz]; exact Nat.mul_le_mul_right k hcapge
    have hcell : ∀ (j : Nat) y, (blk.cells.take (len * k) ++ new)[j]? = some y → ∃ u, cur[j]? = some u ∧ Rc lo W st.η lam0 kap0 y u := by
      rw [← hcur]; exact append_rel ho2 hrel
    have hv1 : blk.ver < blk.ver + 1 := Nat.lt_succ_self _
    have hst : HStep lo st.η (st.η.set b { blk with ver := blk.ver + 1, cells := blk.cells.take (len * k) ++ new }) W (pushW W b ⟨w.drew.heap.size, 0, none⟩ cur.size) := HStep.move (blk' := { blk with ver := blk.ver + 1, cells := blk.cells.take (len * k) ++ new }) hb hlo hv1 rfl rfl _ _
    have hg := (Grows.drew w).trans (Grows.alloc w.drew (.cells cur e))
    subst hbt
    refine wp_value hrun ⟨_, st.lam, _, _, κ, hK, ?_, hst, hg.fr s.h0le⟩
    refine Sim_put s hd (HSim.move (s.hs.grow (Grows.drew w)) hb hlo hv1 rfl rfl hle3 hcell) ((s.ls.grow (Grows.drew w)).move hb hlo hv1 rfl rfl) hst (.refl _ _) (by simp) (fun b' hb2 hlt hp => ?_) s.lS ?_
    · by_cases e : b' = b
      · subst e; right; rw [show (pushW W b' ⟨w.drew.heap.size, 0, none⟩ cur.size).ι b' = _ from upd_same _ _ _]; exact s.h0le
      · rw [show (pushW W b ⟨w.drew.heap.size, 0, none⟩ cur.size).ι b' = _ from upd_ne _ _ e]
        rw [show (pushW W b ⟨w.drew.heap.size, 0, none⟩ cur.size).cs b' = _ from upd_ne _ _ e] at hp
        exact s.oS b' hb2 (by simpa using hlt) hp
    · refine Rv_mkc ⟨rfl, { blk with ver := blk.ver + 1, cells := blk.cells.take (len * k) ++ new }, by simp [hblt], Nat.le_refl _, fun _ => ⟨_, _, rfl, hcapge, .inr ⟨?_, fun _ => ?_⟩⟩⟩
      · rw [show (pushW W b ⟨w.drew.heap.size, 0, none⟩ cur.size).ι b = _ from upd_same _ _ _]; rfl
      · rw [show (pushW W b ⟨w.drew.heap.size, 0, none⟩ cur.size).cs b = _ from upd_same _ _ _, hcsz, hbs]; omega

end
end Go.Proofs.Ytffefndnnbcplaa
