/- The abstract logic: rows that are written, blocks that move. -/
import Derived.Test.YtffefndnnbcplaaAbH
namespace Go.Proofs.Ytffefndnnbcplaa
open Go

section
variable {lo : Nat} {W : Wit} {η : List Blk} {lam : Nat → LB} {κ : Nat → Nat} {w w' : World}

theorem HStep.set {b : Nat} {blk blk' : Blk} (hb : η[b]? = some blk) (hl : lo ≤ b) (hv : blk.ver ≤ blk'.ver) (hs : blk'.sz = blk.sz) (ht : blk'.ty = blk.ty) : HStep lo η (η.set b blk') W W := by
  refine ⟨fun c hc => ⟨by rw [List.getElem?_set_ne (by omega)], rfl, rfl⟩, fun c bl hc => ?_⟩
  by_cases e : c = b
  · subst e
    rw [hb] at hc
    obtain rfl := Option.some.inj hc
    exact ⟨blk', by rw [List.getElem?_set_self (List.getElem?_eq_some_iff.1 hb).1], hv, hs, ht, fun _ => ⟨rfl, rfl⟩⟩
  · exact ⟨bl, by rw [List.getElem?_set_ne (Ne.symm e)]; exact hc, Nat.le_refl _, rfl, rfl, fun _ => ⟨rfl, rfl⟩⟩

theorem getElem?_set_cases {b c : Nat} {blk' bl : Blk} (h : (η.set b blk')[c]? = some bl) : (c = b ∧ bl = blk') ∨ (c ≠ b ∧ η[c]? = some bl) := by
  by_cases e : c = b
  · subst e
    have hlt := (List.getElem?_eq_some_iff.1 h).1
    rw [List.length_set] at hlt
    rw [List.getElem?_set_self hlt] at h
    exact .inl ⟨rfl, (Option.some.inj h).symm⟩
  · rw [List.getElem?_set_ne (Ne.symm e)] at h
    exact .inr ⟨e, h⟩

/-- Worlds that differ in one block. -/
def OtherSame (g : Nat) (w w' : World) : Prop := w'.os = w.os ∧ w'.tape = w.tape ∧ w'.output = w.output ∧ w'.heap.size = w.heap.size ∧ ∀ k, k ≠ g → w'.heap[k]? = w.heap[k]?
theorem OtherSame.setRow (w : World) (g : Nat) (cs : Array Value) : OtherSame g w (w.setRow g cs) := ⟨rfl, rfl, rfl, by simp, fun k hk => setRow_other w g k cs hk⟩
theorem OtherSame.cell {g : Nat} (h : OtherSame g w w') {a : Addr} (ha : a.block ≠ g) : w'.cell? a = w.cell? a := by
  unfold World.cell?; rw [h.2.2.2.2 _ ha]

theorem add_block (a : Addr) (j : Nat) : (a.add j).block = a.block := by unfold Addr.add; split <;> rfl

/-- A block of the heap is written. -/
theorem HSim.set (h : HSim lo W η w) {b : Nat} {blk blk' : Blk} {B : Nat} {cur' : Array Value} (hb : η[b]? = some blk) (hl : lo ≤ b) (hc : 0 < W.cs b) (hB : W.ι b = ⟨B, 0, none⟩)
    (hv : blk.ver ≤ blk'.ver) (hs : blk'.sz = blk.sz) (ht : blk'.ty = blk.ty) (ho : OtherSame B w w') (hrow : w'.heap[B]? = some (.cells cur' blk.ty (0, 0))) (hsz : cur'.size = W.cs b) (hle : blk'.cells.length ≤ cur'.size)
    (hcells : ∀ (j : Nat) x, blk'.cells[j]? = some x → ∃ u, cur'[j]? = some u ∧ Rc lo W η lam0 kap0 x u) : HSim lo W (η.set b blk') w' := by
  have hst : HStep lo η (η.set b blk') W W := .set hb hl hv hs ht
  have hne : ∀ c bl, η[c]? = some bl → c ≠ b → (if lo ≤ c then 0 < W.cs c else bl.cells ≠ []) → (W.ι c).block ≠ B := by
    intro c bl hcb hcn hcc
    have := h.sep c b bl hcb (List.getElem?_eq_some_iff.1 hb).1 hl hc hcn hcc
    rw [hB] at this
    exact this
  refine ⟨by rw [List.length_set]; exact h.lo_le, fun c bl hcb j x hx => ?_, fun c bl hcb hlc => ?_, fun c c' bl hcb hc' hlc' hp hn hcc => ?_⟩
  · rcases getElem?_set_cases hcb with ⟨rfl, rfl⟩ | ⟨hcn, hcb⟩
    · obtain ⟨u, h1, h2⟩ := hcells j x hx
      refine ⟨u, ?_, Rc_mono hst (LStep.refl _ _) h2⟩
      rw [hB, add_zero_plain, Nat.zero_add]
      simp [World.cell?, hrow, h1]
    · obtain ⟨u, h1, h2⟩ := h.cell c bl hcb j x hx
      refine ⟨u, ?_, Rc_mono hst (LStep.refl _ _) h2⟩
      have hnn := hne c bl hcb hcn (by
        split
        · rename_i hlc
          have := (h.own c bl hcb hlc).1
          have hj := (List.getElem?_eq_some_iff.1 hx).1
          omega
        · intro e; rw [e] at hx; simp at hx)
      rw [ho.cell (by rw [add_block]; exact hnn)]
      exact h1
  · rcases getElem?_set_cases hcb with ⟨rfl, rfl⟩ | ⟨hcn, hcb⟩
    · exact ⟨by rw [← hsz]; exact hle, fun _ => ⟨B, cur', hB, by rw [ht]; exact hrow, hsz⟩⟩
    · refine ⟨(h.own c bl hcb hlc).1, fun hp => ?_⟩
      obtain ⟨B', cur, h1, h2, h3⟩ := (h.own c bl hcb hlc).2 hp
      have hnn := hne c bl hcb hcn (by rw [if_pos hlc]; exact hp)
      rw [h1] at hnn
      exact ⟨B', cur, h1, by rw [ho.2.2.2.2 _ hnn]; exact h2, h3⟩
  · rw [List.length_set] at hc'
    rcases getElem?_set_cases hcb with ⟨rfl, rfl⟩ | ⟨hcn, hcb⟩
    · refine h.sep c c' blk hb hc' hlc' hp hn ?_
      rw [if_pos hl] at hcc ⊢
      exact hcc
    · exact h.sep c c' bl hcb hc' hlc' hp hn hcc

theorem LSim.other (h : LSim lo W η lam κ w) {g : Nat} (ho : OtherSame g w w') (hg : ∀ s, 0 < (lam s).ver → κ s ≠ g) : LSim lo W η lam κ w' :=
  ⟨fun s hs => let ⟨c, t, h1, h2⟩ := h.row s hs; ⟨c, t, by rw [ho.2.2.2.2 _ (hg s hs)]; exact h1, h2⟩, h.ll, h.lh⟩

theorem LSim.set (h : LSim lo W η lam κ w) {b : Nat} {blk blk' : Blk} {B : Nat} (hb : η[b]? = some blk) (hl : lo ≤ b) (hc : 0 < W.cs b) (hB : W.ι b = ⟨B, 0, none⟩)
    (hv : blk.ver ≤ blk'.ver) (hs : blk'.sz = blk.sz) (ht : blk'.ty = blk.ty) (ho : OtherSame B w w') : LSim lo W (η.set b blk') lam κ w' := by
  have hst : HStep lo η (η.set b blk') W W := .set hb hl hv hs ht
  have h' := h.other ho (fun s hs e => by
    have := h.lh s b blk hs hb (by rw [if_pos hl]; exact hc)
    rw [hB] at this
    exact this e.symm)
  refine ⟨fun s hs => let ⟨c, t, h1, h2⟩ := h'.row s hs; ⟨c, t, h1, h2.mono fun _ _ hr => Rc_mono hst (LStep.refl _ _) hr⟩, h.ll, fun s c bl hsv hcb hcc => ?_⟩
  rcases getElem?_set_cases hcb with ⟨rfl, rfl⟩ | ⟨hcn, hcb⟩
  · refine h.lh s c blk hsv hb ?_
    rw [if_pos hl] at hcc ⊢
    exact hcc
  · exact h.lh s c bl hsv hcb hcc

/-- A local is written. -/
theorem HSim.local (h : HSim lo W η w) (ls : LSim lo W η lam κ w) {s : Nat} (hs : 0 < (lam s).ver) (ho : OtherSame (κ s) w w') : HSim lo W η w' := by
  have hne : ∀ c bl, η[c]? = some bl → (if lo ≤ c then 0 < W.cs c else bl.cells ≠ []) → (W.ι c).block ≠ κ s := fun c bl hcb hcc => ls.lh s c bl hs hcb hcc
  refine ⟨h.lo_le, fun c bl hcb j x hx => ?_, fun c bl hcb hlc => ⟨(h.own c bl hcb hlc).1, fun hp => ?_⟩, h.sep⟩
  · obtain ⟨u, h1, h2⟩ := h.cell c bl hcb j x hx
    refine ⟨u, ?_, h2⟩
    have hnn := hne c bl hcb (by
      split
      · rename_i hlc
        have := (h.own c bl hcb hlc).1
        have hj := (List.getElem?_eq_some_iff.1 hx).1
        omega
      · intro e; rw [e] at hx; simp at hx)
    rw [ho.cell (by rw [add_block]; exact hnn)]
    exact h1
  · obtain ⟨B', cur, h1, h2, h3⟩ := (h.own c bl hcb hlc).2 hp
    have hnn := hne c bl hcb (by rw [if_pos hlc]; exact hp)
    rw [h1] at hnn
    exact ⟨B', cur, h1, by rw [ho.2.2.2.2 _ hnn]; exact h2, h3⟩

theorem LStep.write (s : Nat) (cells : List AV) : LStep lam (upd lam s ⟨(lam s).ver, cells⟩) κ κ := by
  intro t
  by_cases e : t = s
  · subst e; rw [upd_same]; exact ⟨Nat.le_refl _, fun _ => rfl⟩
  · rw [upd_ne _ _ e]; exact ⟨Nat.le_refl _, fun _ => rfl⟩

theorem LSim.write (h : LSim lo W η lam κ w) {s : Nat} (hs : 0 < (lam s).ver) {cells : List AV} {cur' : Array Value} {T : TypeId} (ho : OtherSame (κ s) w w') (hrow : w'.heap[κ s]? = some (.cells cur' T (0, 0)))
    (hr : RL (Rc lo W η lam κ) cells cur') : LSim lo W η (upd lam s ⟨(lam s).ver, cells⟩) κ w' := by
  have hl := LStep.write (lam := lam) (κ := κ) s cells
  have hver : ∀ t, (upd lam s ⟨(lam s).ver, cells⟩ t).ver = (lam t).ver := by
    intro t
    by_cases e : t = s
    · subst e; rw [upd_same]
    · rw [upd_ne _ _ e]
  refine ⟨fun t ht => ?_, fun t t' ht ht' hn => h.ll t t' (by rwa [hver] at ht) (by rwa [hver] at ht') hn, fun t b bl ht hb hc => h.lh t b bl (by rwa [hver] at ht) hb hc⟩
  by_cases e : t = s
  · subst e
    rw [upd_same]
    exact ⟨cur', T, hrow, hr.mono fun _ _ h' => Rc_mono (HStep.refl _ _ _) hl h'⟩
  · rw [upd_ne _ _ e] at ht ⊢
    obtain ⟨c, t', h1, h2⟩ := h.row t ht
    exact ⟨c, t', by rw [ho.2.2.2.2 _ (h.ll t s ht hs e)]; exact h1, h2.mono fun _ _ h' => Rc_mono (HStep.refl _ _ _) hl h'⟩

/-- A block without memory of its own. -/
theorem HSim.pushV (h : HSim lo W η w) (blk : Blk) (hc : blk.cells = []) : HSim lo (pushW W η.length ⟨0, 0, none⟩ 0) (η ++ [blk]) w := by
  have hst : HStep lo η (η ++ [blk]) W (pushW W η.length ⟨0, 0, none⟩ 0) := .push h.lo_le blk _ _
  have e1 : ∀ b, b ≠ η.length → (pushW W η.length ⟨0, 0, none⟩ 0).ι b = W.ι b := fun b hb => upd_ne _ _ hb
  have e2 : ∀ b, b ≠ η.length → (pushW W η.length ⟨0, 0, none⟩ 0).cs b = W.cs b := fun b hb => upd_ne _ _ hb
  have e4 : (pushW W η.length ⟨0, 0, none⟩ 0).cs η.length = 0 := upd_same _ _ _
  refine ⟨by rw [List.length_append]; have := h.lo_le; omega, fun b bl hb j x hx => ?_, fun b bl hb hlb => ?_, fun b b' bl hb hb' hlb' hp hne hcc => ?_⟩
  · rcases getElem?_push hb with ⟨hlt, hb⟩ | ⟨rfl, rfl⟩
    · obtain ⟨u, h1, h2⟩ := h.cell b bl hb j x hx
      exact ⟨u, by rw [e1 b (by omega)]; exact h1, Rc_mono hst (LStep.refl _ _) h2⟩
    · rw [hc] at hx; simp at hx
  · rcases getElem?_push hb with ⟨hlt, hb⟩ | ⟨rfl, rfl⟩
    · rw [e1 b (by omega), e2 b (by omega)]
      exact h.own b bl hb hlb
    · rw [e4, hc]; exact ⟨Nat.le_refl _, fun hp => absurd hp (by omega)⟩
  · have hbn' : b' ≠ η.length := by intro e; subst e; rw [e4] at hp; omega
    simp only [List.length_append, List.length_cons, List.length_nil] at hb'
    rw [e2 b' hbn'] at hp
    rcases getElem?_push hb with ⟨hlt, hb⟩ | ⟨rfl, rfl⟩
    · rw [e2 b (by omega)] at hcc
      rw [e1 b (by omega), e1 b' hbn']
      exact h.sep b b' bl hb (by omega) hlb' hp hne hcc
    · split at hcc
      · rw [e4] at hcc; omega
      · exact absurd hc hcc
theorem LSim.pushV (h : LSim lo W η lam κ w) (hs : HSim lo W η w) (blk : Blk) (hc : blk.cells = []) : LSim lo (pushW W η.length ⟨0, 0, none⟩ 0) (η ++ [blk]) lam κ w := by
  have hst : HStep lo η (η ++ [blk]) W (pushW W η.length ⟨0, 0, none⟩ 0) := .push hs.lo_le blk _ _
  refine ⟨fun s hsv => let ⟨c, t, h1, h2⟩ := h.row s hsv; ⟨c, t, h1, h2.mono fun _ _ hr => Rc_mono hst (LStep.refl _ _) hr⟩, h.ll, fun s b bl hsv hb hcc => ?_⟩
  rcases getElem?_push hb with ⟨hlt, hb⟩ | ⟨rfl, rfl⟩
  · rw [show (pushW W η.length ⟨0, 0, none⟩ 0).ι b = W.ι b from upd_ne _ _ (by omega)]
    rw [show (pushW W η.length ⟨0, 0, none⟩ 0).cs b = W.cs b from upd_ne _ _ (by omega)] at hcc
    exact h.lh s b bl hsv hb hcc
  · split at hcc
    · rw [show (pushW W η.length ⟨0, 0, none⟩ 0).cs η.length = 0 from upd_same _ _ _] at hcc; omega
    · exact absurd hc hcc

/-- A block that moves to new memory. -/
theorem HStep.move {b : Nat} {blk blk' : Blk} (hb : η[b]? = some blk) (hl : lo ≤ b) (hv : blk.ver < blk'.ver) (hs : blk'.sz = blk.sz) (ht : blk'.ty = blk.ty) (a : Addr) (c : Nat) : HStep lo η (η.set b blk') W (pushW W b a c) := by
  refine ⟨fun d hd => ⟨by rw [List.getElem?_set_ne (by omega)], upd_ne _ _ (by omega), upd_ne _ _ (by omega)⟩, fun d bl hd => ?_⟩
  by_cases e : d = b
  · subst e
    rw [hb] at hd
    obtain rfl := Option.some.inj hd
    exact ⟨blk', by rw [List.getElem?_set_self (List.getElem?_eq_some_iff.1 hb).1], by omega, hs, ht, fun e => by omega⟩
  · exact ⟨bl, by rw [List.getElem?_set_ne (Ne.symm e)]; exact hd, Nat.le_refl _, rfl, rfl, fun _ => ⟨upd_ne _ _ e, upd_ne _ _ e⟩⟩

theorem HSim.move (h : HSim lo W η w) {b : Nat} {blk blk' : Blk} {cur : Array Value} (hb : η[b]? = some blk) (hl : lo ≤ b) (hv : blk.ver < blk'.ver) (hs : blk'.sz = blk.sz) (ht : blk'.ty = blk.ty) (hle : blk'.cells.length ≤ cur.size)
    (hcells : ∀ (j : Nat) x, blk'.cells[j]? = some x → ∃ u, cur[j]? = some u ∧ Rc lo W η lam0 kap0 x u) :
    HSim lo (pushW W b ⟨w.heap.size, 0, none⟩ cur.size) (η.set b blk') (w.alloc (.cells cur blk.ty)) := by
  have hst : HStep lo η (η.set b blk') W (pushW W b ⟨w.heap.size, 0, none⟩ cur.size) := .move hb hl hv hs ht _ _
  have hrow : (w.alloc (.cells cur blk.ty)).heap[w.heap.size]? = some (.cells cur blk.ty (0, 0)) := by show (w.heap.push _)[w.heap.size]? = _; simp
  have hg := Grows.alloc w (.cells cur blk.ty)
  have e1 : ∀ c, c ≠ b → (pushW W b ⟨w.heap.size, 0, none⟩ cur.size).ι c = W.ι c := fun c hc => upd_ne _ _ hc
  have e2 : ∀ c, c ≠ b → (pushW W b ⟨w.heap.size, 0, none⟩ cur.size).cs c = W.cs c := fun c hc => upd_ne _ _ hc
  have e3 : (pushW W b ⟨w.heap.size, 0, none⟩ cur.size).ι b = ⟨w.heap.size, 0, none⟩ := upd_same _ _ _
  have e4 : (pushW W b ⟨w.heap.size, 0, none⟩ cur.size).cs b = cur.size := upd_same _ _ _
  refine ⟨by rw [List.length_set]; exact h.lo_le, fun c bl hcb j x hx => ?_, fun c bl hcb hlc => ?_, fun c c' bl hcb hc' hlc' hp hn hcc => ?_⟩
  · rcases getElem?_set_cases hcb with ⟨rfl, rfl⟩ | ⟨hcn, hcb⟩
    · obtain ⟨u, h1, h2⟩ := hcells j x hx
      refine ⟨u, ?_, Rc_mono hst (LStep.refl _ _) h2⟩
      rw [e3, add_zero_plain, Nat.zero_add, World.cell?_alloc_new]
      exact h1
    · obtain ⟨u, h1, h2⟩ := h.cell c bl hcb j x hx
      exact ⟨u, by rw [e1 c hcn]; exact hg.cell h1, Rc_mono hst (LStep.refl _ _) h2⟩
  · rcases getElem?_set_cases hcb with ⟨rfl, rfl⟩ | ⟨hcn, hcb⟩
    · rw [e3, e4]
      exact ⟨hle, fun _ => ⟨_, cur, rfl, by rw [ht]; exact hrow, rfl⟩⟩
    · rw [e1 c hcn, e2 c hcn]
      exact ⟨(h.own c bl hcb hlc).1, fun hp => let ⟨B, cc, h1, h2, h3⟩ := (h.own c bl hcb hlc).2 hp; ⟨B, cc, h1, hg.row h2, h3⟩⟩
  · rw [List.length_set] at hc'
    rcases getElem?_set_cases hcb with ⟨rfl, rfl⟩ | ⟨hcn, hcb⟩
    · have hcn' : c' ≠ c := fun e => hn e.symm
      rw [e3, e1 c' hcn']
      rw [e2 c' hcn'] at hp
      have := h.lt (List.getElem?_eq_getElem hc') (by rw [if_pos hlc']; exact hp)
      exact fun e => by simp at e; omega
    · rw [e2 c hcn] at hcc
      rw [e1 c hcn]
      have hlt := h.lt hcb hcc
      by_cases e : c' = b
      · subst e; rw [e3]; exact Nat.ne_of_lt hlt
      · rw [e1 c' e]
        rw [e2 c' e] at hp
        exact h.sep c c' bl hcb hc' hlc' hp hn hcc

theorem LSim.move (h : LSim lo W η lam κ w) {b : Nat} {blk blk' : Blk} {cur : Array Value} {T : TypeId} (hb : η[b]? = some blk) (hl : lo ≤ b) (hv : blk.ver < blk'.ver) (hs : blk'.sz = blk.sz) (ht : blk'.ty = blk.ty) :
    LSim lo (pushW W b ⟨w.heap.size, 0, none⟩ cur.size) (η.set b blk') lam κ (w.alloc (.cells cur T)) := by
  have hst : HStep lo η (η.set b blk') W (pushW W b ⟨w.heap.size, 0, none⟩ cur.size) := .move hb hl hv hs ht _ _
  have hg := Grows.alloc w (.cells cur T)
  refine ⟨fun s hsv => let ⟨c, t, h1, h2⟩ := h.row s hsv; ⟨c, t, hg.row h1, h2.mono fun _ _ hr => Rc_mono hst (LStep.refl _ _) hr⟩, h.ll, fun s c bl hsv hcb hcc => ?_⟩
  rcases getElem?_set_cases hcb with ⟨rfl, rfl⟩ | ⟨hcn, hcb⟩
  · rw [show (pushW W c ⟨w.heap.size, 0, none⟩ cur.size).ι c = ⟨w.heap.size, 0, none⟩ from upd_same _ _ _]
    have := h.lt hsv
    exact fun e => by simp at e; omega
  · rw [show (pushW W b ⟨w.heap.size, 0, none⟩ cur.size).ι c = W.ι c from upd_ne _ _ hcn]
    rw [show (pushW W b ⟨w.heap.size, 0, none⟩ cur.size).cs c = W.cs c from upd_ne _ _ hcn] at hcc
    exact h.lh s c bl hsv hcb hcc

end
end Go.Proofs.Ytffefndnnbcplaa
