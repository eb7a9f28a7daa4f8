/- The abstract logic: new blocks, new locals, worlds that grow. -/
import Derived.Test.YtffefndnnbcplaaAbG
namespace Go.Proofs.Ytffefndnnbcplaa
open Go

/-- Nothing that was there has turned. -/
def Grows (w w' : World) : Prop := w'.os = w.os ∧ w'.tape = w.tape ∧ w'.output = w.output ∧ w.heap.size ≤ w'.heap.size ∧ ∀ k, k < w.heap.size → w'.heap[k]? = w.heap[k]?
theorem Grows.refl (w : World) : Grows w w := ⟨rfl, rfl, rfl, Nat.le_refl _, fun _ _ => rfl⟩
theorem Grows.drew (w : World) : Grows w w.drew := ⟨rfl, rfl, rfl, Nat.le_refl _, fun _ _ => rfl⟩
theorem Grows.alloc (w : World) (o : Obj) : Grows w (w.alloc o) := ⟨rfl, rfl, rfl, by simp, fun k hk => by
  show (w.heap.push o)[k]? = _
  rw [Array.getElem?_push, if_neg (by omega)]⟩
theorem Grows.trans {a b c : World} (h : Grows a b) (k : Grows b c) : Grows a c :=
  ⟨k.1.trans h.1, k.2.1.trans h.2.1, k.2.2.1.trans h.2.2.1, Nat.le_trans h.2.2.2.1 k.2.2.2.1, fun i hi => (k.2.2.2.2 i (Nat.lt_of_lt_of_le hi h.2.2.2.1)).trans (h.2.2.2.2 i hi)⟩
theorem Grows.cell {w w' : World} (h : Grows w w') {a : Addr} {u : Value} (hc : w.cell? a = some u) : w'.cell? a = some u := by
  have hb := World.block_lt_of_cell? w a hc
  rw [← hc]
  unfold World.cell?
  rw [h.2.2.2.2 _ hb]
theorem Grows.row {w w' : World} (h : Grows w w') {B : Nat} {o : Obj} (hc : w.heap[B]? = some o) : w'.heap[B]? = some o := by
  rw [h.2.2.2.2 B (Array.getElem?_eq_some_iff.1 hc).1]; exact hc
theorem Grows.fr {w w' : World} (h : Grows w w') {h0 : Nat} {S : Nat → Prop} (hh : h0 ≤ w.heap.size) : Fr h0 S w w' := ⟨h.1, h.2.1, h.2.2.1, h.2.2.2.1, fun k hk _ => h.2.2.2.2 k (by omega)⟩

section
variable {lo : Nat} {W : Wit} {η : List Blk} {lam : Nat → LB} {κ : Nat → Nat} {w w' : World}

theorem HSim.grow (h : HSim lo W η w) (g : Grows w w') : HSim lo W η w' :=
  ⟨h.lo_le, fun b blk hb j x hx => let ⟨u, h1, h2⟩ := h.cell b blk hb j x hx; ⟨u, g.cell h1, h2⟩,
   fun b blk hb hl => ⟨(h.own b blk hb hl).1, fun hp => let ⟨B, cur, h1, h2, h3⟩ := (h.own b blk hb hl).2 hp; ⟨B, cur, h1, g.row h2, h3⟩⟩, h.sep⟩

theorem LSim.grow (h : LSim lo W η lam κ w) (g : Grows w w') : LSim lo W η lam κ w' :=
  ⟨fun s hs => let ⟨cur, T, h1, h2⟩ := h.row s hs; ⟨cur, T, g.row h1, h2⟩, h.ll, h.lh⟩

/-- A block's number in the machine lies below the heap's size. -/
theorem HSim.lt (h : HSim lo W η w) {b : Nat} {blk : Blk} (hb : η[b]? = some blk) (hc : if lo ≤ b then 0 < W.cs b else blk.cells ≠ []) : (W.ι b).block < w.heap.size := by
  split at hc
  · rename_i hl
    obtain ⟨B, cur, h1, h2, _⟩ := (h.own b blk hb hl).2 hc
    rw [h1]
    exact (Array.getElem?_eq_some_iff.1 h2).1
  · cases hcells : blk.cells with
    | nil => exact absurd hcells hc
    | cons x r =>
      obtain ⟨u, h1, _⟩ := h.cell b blk hb 0 x (by rw [hcells]; rfl)
      have := World.block_lt_of_cell? w _ h1
      simpa [Addr.add] using this
theorem LSim.lt (h : LSim lo W η lam κ w) {s : Nat} (hs : 0 < (lam s).ver) : κ s < w.heap.size := by
  obtain ⟨cur, T, h1, _⟩ := h.row s hs
  exact (Array.getElem?_eq_some_iff.1 h1).1

def pushW (W : Wit) (n : Nat) (a : Addr) (c : Nat) : Wit := ⟨upd W.ι n a, upd W.cs n c⟩

theorem upd_same {α : Type} (f : Nat → α) (i : Nat) (v : α) : upd f i v i = v := by simp [upd]
theorem upd_ne {α : Type} (f : Nat → α) {i j : Nat} (v : α) (h : j ≠ i) : upd f i v j = f j := by simp [upd, h]

theorem HStep.push (hlo : lo ≤ η.length) (blk : Blk) (a : Addr) (c : Nat) : HStep lo η (η ++ [blk]) W (pushW W η.length a c) := by
  refine ⟨fun b hb => ⟨List.getElem?_append_left (by omega), upd_ne _ _ (by omega), upd_ne _ _ (by omega)⟩, fun b bl hb => ?_⟩
  have hlt : b < η.length := (List.getElem?_eq_some_iff.1 hb).1
  exact ⟨bl, by rw [List.getElem?_append_left hlt]; exact hb, Nat.le_refl _, rfl, rfl, fun _ => ⟨upd_ne _ _ (by omega), upd_ne _ _ (by omega)⟩⟩

theorem getElem?_push {blk bl : Blk} {b : Nat} (h : (η ++ [blk])[b]? = some bl) : (b < η.length ∧ η[b]? = some bl) ∨ (b = η.length ∧ bl = blk) := by
  have hlt := (List.getElem?_eq_some_iff.1 h).1
  simp only [List.length_append, List.length_cons, List.length_nil] at hlt
  by_cases hb : b < η.length
  · left; rw [List.getElem?_append_left hb] at h; exact ⟨hb, h⟩
  · right
    have : b = η.length := by omega
    subst this
    rw [List.getElem?_append_right (Nat.le_refl _)] at h
    simp at h
    exact ⟨rfl, h.symm⟩

theorem HSim.push (h : HSim lo W η w) {blk : Blk} {cur : Array Value} (hv : (∀ (j : Nat) x, blk.cells[j]? = some x → ∃ u, cur[j]? = some u ∧ Rc lo W η lam0 kap0 x u)) (hl : blk.cells.length ≤ cur.size) :
    HSim lo (pushW W η.length ⟨w.heap.size, 0, none⟩ cur.size) (η ++ [blk]) (w.alloc (.cells cur blk.ty)) := by
  have hst : HStep lo η (η ++ [blk]) W (pushW W η.length ⟨w.heap.size, 0, none⟩ cur.size) := .push h.lo_le blk _ _
  have hrow : (w.alloc (.cells cur blk.ty)).heap[w.heap.size]? = some (.cells cur blk.ty (0, 0)) := by show (w.heap.push _)[w.heap.size]? = _; simp
  have hg := Grows.alloc w (.cells cur blk.ty)
  refine ⟨by rw [List.length_append]; have := h.lo_le; omega, fun b bl hb j x hx => ?_, fun b bl hb hlb => ?_, fun b b' bl hb hb' hlb' hp hne hc => ?_⟩
  · rcases getElem?_push hb with ⟨hlt, hb⟩ | ⟨rfl, rfl⟩
    · obtain ⟨u, h1, h2⟩ := h.cell b bl hb j x hx
      refine ⟨u, ?_, Rc_mono hst (LStep.refl _ _) h2⟩
      rw [show (pushW W η.length ⟨w.heap.size, 0, none⟩ cur.size).ι b = W.ι b from upd_ne _ _ (by omega)]
      exact hg.cell h1
    · obtain ⟨u, h1, h2⟩ := hv j x hx
      refine ⟨u, ?_, Rc_mono hst (LStep.refl _ _) h2⟩
      rw [show (pushW W η.length ⟨w.heap.size, 0, none⟩ cur.size).ι η.length = ⟨w.heap.size, 0, none⟩ from upd_same _ _ _]
      rw [add_zero_plain, Nat.zero_add, World.cell?_alloc_new]
      exact h1
  · rcases getElem?_push hb with ⟨hlt, hb⟩ | ⟨rfl, rfl⟩
    · rw [show (pushW W η.length ⟨w.heap.size, 0, none⟩ cur.size).ι b = W.ι b from upd_ne _ _ (by omega), show (pushW W η.length ⟨w.heap.size, 0, none⟩ cur.size).cs b = W.cs b from upd_ne _ _ (by omega)]
      exact ⟨(h.own b bl hb hlb).1, fun hp => let ⟨B, c, h1, h2, h3⟩ := (h.own b bl hb hlb).2 hp; ⟨B, c, h1, hg.row h2, h3⟩⟩
    · rw [show (pushW W η.length ⟨w.heap.size, 0, none⟩ cur.size).ι η.length = ⟨w.heap.size, 0, none⟩ from upd_same _ _ _, show (pushW W η.length ⟨w.heap.size, 0, none⟩ cur.size).cs η.length = cur.size from upd_same _ _ _]
      exact ⟨hl, fun _ => ⟨_, cur, rfl, hrow, rfl⟩⟩
  · have e1 : ∀ b, b ≠ η.length → (pushW W η.length ⟨w.heap.size, 0, none⟩ cur.size).ι b = W.ι b := fun b hb => upd_ne _ _ hb
    have e2 : ∀ b, b ≠ η.length → (pushW W η.length ⟨w.heap.size, 0, none⟩ cur.size).cs b = W.cs b := fun b hb => upd_ne _ _ hb
    have e3 : (pushW W η.length ⟨w.heap.size, 0, none⟩ cur.size).ι η.length = ⟨w.heap.size, 0, none⟩ := upd_same _ _ _
    simp only [List.length_append, List.length_cons, List.length_nil] at hb'
    rcases getElem?_push hb with ⟨hlt, hb⟩ | ⟨rfl, rfl⟩
    · rw [e2 b (by omega)] at hc
      rw [e1 b (by omega)]
      have hlt2 := h.lt hb hc
      by_cases hbn : b' = η.length
      · subst hbn
        rw [e3]
        exact Nat.ne_of_lt hlt2
      · rw [e1 b' hbn]
        rw [e2 b' hbn] at hp
        exact h.sep b b' bl hb (by omega) hlb' hp hne hc
    · rw [e3]
      have hbn : b' ≠ η.length := fun e => hne e.symm
      rw [e1 b' hbn]
      rw [e2 b' hbn] at hp
      have hlt' : b' < η.length := by omega
      have := h.lt (List.getElem?_eq_getElem hlt') (by rw [if_pos hlb']; exact hp)
      exact fun e => by simp at e; omega

theorem LSim.push (h : LSim lo W η lam κ w) (hs : HSim lo W η w) {blk : Blk} {cur : Array Value} {T : TypeId} :
    LSim lo (pushW W η.length ⟨w.heap.size, 0, none⟩ cur.size) (η ++ [blk]) lam κ (w.alloc (.cells cur T)) := by
  have hst : HStep lo η (η ++ [blk]) W (pushW W η.length ⟨w.heap.size, 0, none⟩ cur.size) := .push hs.lo_le blk _ _
  have hg := Grows.alloc w (.cells cur T)
  refine ⟨fun s hsv => ?_, h.ll, fun s b bl hsv hb hc => ?_⟩
  · obtain ⟨c, t, h1, h2⟩ := h.row s hsv
    exact ⟨c, t, hg.row h1, h2.mono fun _ _ hr => Rc_mono hst (LStep.refl _ _) hr⟩
  · rcases getElem?_push hb with ⟨hlt, hb⟩ | ⟨rfl, rfl⟩
    · rw [show (pushW W η.length ⟨w.heap.size, 0, none⟩ cur.size).ι b = W.ι b from upd_ne _ _ (by omega)]
      rw [show (pushW W η.length ⟨w.heap.size, 0, none⟩ cur.size).cs b = W.cs b from upd_ne _ _ (by omega)] at hc
      exact h.lh s b bl hsv hb hc
    · rw [show (pushW W η.length ⟨w.heap.size, 0, none⟩ cur.size).ι η.length = ⟨w.heap.size, 0, none⟩ from upd_same _ _ _]
      have := h.lt hsv
      exact fun e => by simp at e; omega

/-- A new local. -/
theorem LStep.new (d : Nat) (cells : List AV) (B : Nat) : LStep lam (upd lam d ⟨(lam d).ver + 1, cells⟩) κ (upd κ d B) := by
  intro s
  by_cases e : s = d
  · subst e; rw [upd_same]; exact ⟨Nat.le_succ _, fun h => absurd h (by simp)⟩
  · rw [upd_ne _ _ e, upd_ne _ _ e]; exact ⟨Nat.le_refl _, fun _ => rfl⟩

theorem LSim.new (h : LSim lo W η lam κ w) (hs : HSim lo W η w) (d : Nat) {cells : List AV} {cur : Array Value} {T : TypeId} (hr : RL (Rc lo W η lam κ) cells cur) :
    LSim lo W η (upd lam d ⟨(lam d).ver + 1, cells⟩) (upd κ d w.heap.size) (w.alloc (.cells cur T)) := by
  have hls := LStep.new (lam := lam) (κ := κ) d cells w.heap.size
  have hg := Grows.alloc w (.cells cur T)
  have hrow : (w.alloc (.cells cur T)).heap[w.heap.size]? = some (.cells cur T (0, 0)) := by show (w.heap.push _)[w.heap.size]? = _; simp
  refine ⟨fun s hsv => ?_, fun s s' hsv hsv' hne => ?_, fun s b bl hsv hb hc => ?_⟩
  · by_cases e : s = d
    · subst e
      rw [upd_same, upd_same]
      exact ⟨cur, T, hrow, hr.mono fun _ _ h' => Rc_mono (HStep.refl _ _ _) hls h'⟩
    · rw [upd_ne _ _ e] at hsv ⊢
      rw [upd_ne _ _ e]
      obtain ⟨c, t, h1, h2⟩ := h.row s hsv
      exact ⟨c, t, hg.row h1, h2.mono fun _ _ h' => Rc_mono (HStep.refl _ _ _) hls h'⟩
  · by_cases e : s = d
    · subst e
      have e' : s' ≠ s := fun e => hne e.symm
      rw [upd_same, upd_ne _ _ e']
      rw [upd_ne _ _ e'] at hsv'
      have := h.lt hsv'
      omega
    · rw [upd_ne _ _ e] at hsv ⊢
      by_cases e' : s' = d
      · subst e'
        rw [upd_same]
        have := h.lt hsv
        omega
      · rw [upd_ne _ _ e'] at hsv' ⊢
        exact h.ll s s' hsv hsv' hne
  · by_cases e : s = d
    · subst e
      rw [upd_same]
      have := hs.lt hb hc
      omega
    · rw [upd_ne _ _ e] at hsv ⊢
      exact h.lh s b bl hsv hb hc

end

/-- What is known behind an operation. -/
theorem Sim_put {lo h0 : Nat} {S : Nat → Prop} {W W' : Wit} {κ κ' : Nat → Nat} {st : St} {a : Act} {w w' : World} {lam' : Nat → LB} {η' : List Blk} {dst : Option Tmp} {v : AV} {u : Value}
    (s : Sim lo h0 S W κ st a w) (hd : dstOk dst st.n) (hs : HSim lo W' η' w') (ls : LSim lo W' η' lam' κ' w') (hh : HStep lo st.η η' W W') (hl : LStep st.lam lam' κ κ') (hsz : w.heap.size ≤ w'.heap.size)
    (oS : ∀ b, lo ≤ b → b < η'.length → 0 < W'.cs b → S (W'.ι b).block ∨ h0 ≤ (W'.ι b).block) (lS : ∀ s, 0 < (lam' s).ver → h0 ≤ κ' s) (hv : Rv lo W' η' lam' κ' v u) :
    Sim lo h0 S W' κ' (put dst v { st with lam := lam', η := η' }) (a.put dst u) w' := by
  have hn : (put dst v { st with lam := lam', η := η' }).n = st.n := by cases dst <;> rfl
  have hη : (put dst v { st with lam := lam', η := η' }).η = η' := by cases dst <;> rfl
  have hlam : (put dst v { st with lam := lam', η := η' }).lam = lam' := by cases dst <;> rfl
  refine ⟨by rw [hη]; exact hs, by rw [hη, hlam]; exact ls, ?_, fun t ht => ?_, ?_, Nat.le_trans s.h0le hsz, by rw [hη]; exact oS, by rw [hlam]; exact lS⟩
  · rw [hn, ← s.ts]; cases dst <;> simp [Act.put]
  · rw [hη, hlam]
    rw [hn] at ht
    cases dst with
    | none => exact Rv_mono hh hl (s.tm t ht)
    | some d =>
      by_cases e : t = d
      · subst e
        simp only [put, Act.put, upd_same]
        have : (a.tmps.setIfInBounds t u).getD t undef = u := by simp [s.ts, ht]
        rw [this]; exact hv
      · simp only [put, Act.put, upd_ne _ _ e]
        have : (a.tmps.setIfInBounds d u).getD t undef = a.tmps.getD t undef := by
          simp [Array.getElem?_setIfInBounds_ne (Ne.symm e)]
        rw [this]; exact Rv_mono hh hl (s.tm t ht)
  · cases dst <;> exact s.df

end Go.Proofs.Ytffefndnnbcplaa
