/- The abstract logic: what an operation that only looks yields in the machine, kind by kind. -/
import Derived.Test.YtffefndnnbcplaaAbC
namespace Go.Proofs.Ytffefndnnbcplaa
open Go

section
variable {P : Program} {lo : Nat} {W : Wit} {η : List Blk} {lam : Nat → LB} {κ : Nat → Nat} {w : World}

/-- From cell to cell: a row in the world. -/
theorem row_of {R : AV → Value → Prop} {l : List AV} {a : Addr} (h : ∀ j x, l[j]? = some x → ∃ u, w.cell? (a.add j) = some u ∧ R x u) :
    ∃ cs : List Value, cs.length = l.length ∧ (∀ j v, cs[j]? = some v → w.cell? (a.add j) = some v) ∧ RL R l cs.toArray := by
  refine ⟨(List.range l.length).map fun j => (w.cell? (a.add j)).getD undef, by simp, fun j v hv => ?_, by simp, fun j x hx => ?_⟩
  · rw [List.getElem?_map] at hv
    by_cases hj : j < l.length
    · obtain ⟨u, hu, _⟩ := h j _ (List.getElem?_eq_getElem hj)
      simp [hj, hu] at hv ⊢
      exact hv
    · simp [hj] at hv
  · have hj : j < l.length := (List.getElem?_eq_some_iff.1 hx).1
    obtain ⟨u, hu, hr⟩ := h j x hx
    exact ⟨u, by simp [hj, hu], hr⟩

theorem isAggB_run {t : TypeId} {g : Bool} (h : isAggB P t = some g) : (isAgg t).run P w = .ok g w := by
  unfold isAggB at h
  cases hu : P.underlying t with
  | none => rw [hu] at h; cases h
  | some d =>
    rw [hu] at h
    cases d <;> simp at h <;> subst h <;> simp [isAgg, run_underlying hu]

theorem szB_run {t : TypeId} {k : Nat} (h : szB P t = some k) : (sizeOf t).run P w = .ok k w := by
  unfold szB at h
  cases hi : P.info? t with
  | none => rw [hi] at h; cases h
  | some i => rw [hi] at h; simp at h; subst h; simp [sizeOf, typeInfo, hi]

theorem loadVar_ok {t : TypeId} {g : Bool} {k : Nat} (hg : isAggB P t = some g) (hk : szB P t = some k) {cells : List AV} {a : Addr} {off : Nat}
    (hc : ∀ j x, cells[j]? = some x → ∃ u, w.cell? (a.add j) = some u ∧ Rc lo W η lam κ x u) (hoff : off + k ≤ cells.length) {v : AV}
    (h : (if g then some (.agg ((cells.drop off).take k)) else cells[off]?) = some v) : ∃ u, (loadVar t (a.add off)).run P w = .ok u w ∧ Rv lo W η lam κ v u := by
  cases g with
  | true =>
    simp only [if_true, Option.some.injEq] at h
    subst h
    obtain ⟨cs, hl, h1, h2⟩ := row_of (w := w) (R := Rc lo W η lam κ) (l := (cells.drop off).take k) (a := a.add off) (fun j x hx => by
      rw [List.getElem?_take] at hx
      split at hx
      · rw [List.getElem?_drop] at hx
        obtain ⟨u, hu, hr⟩ := hc (off + j) x hx
        exact ⟨u, by rw [Deep.add_add]; exact hu, hr⟩
      · cases hx)
    have hlk : cs.length = k := by rw [hl]; simp; omega
    refine ⟨.agg cs.toArray, ?_, Rv_mkagg h2⟩
    have hr := run_loadCells_list (P := P) w (a.add off) cs h1
    rw [hlk] at hr
    simp [loadVar, isAggB_run hg, szB_run hk, hr]
  | false =>
    simp only [Bool.false_eq_true, if_false] at h
    obtain ⟨u, hu, hr⟩ := hc off v h
    exact ⟨u, by simp [loadVar, isAggB_run hg, hu], Rv_mkc hr⟩

theorem LSim.cells (ls : LSim lo W η lam κ w) {s : Nat} (h : 0 < (lam s).ver) : ∀ j x, (lam s).cells[j]? = some x → ∃ u, w.cell? ((⟨κ s, 0, none⟩ : Addr).add j) = some u ∧ Rc lo W η lam κ x u := by
  intro j x hx
  obtain ⟨cur, T, hh, hr⟩ := ls.row s h
  obtain ⟨u, hu, hrel⟩ := hr.2 j x hx
  refine ⟨u, ?_, hrel⟩
  have : (⟨κ s, 0, none⟩ : Addr).add j = ⟨κ s, j, none⟩ := by unfold Addr.add; split <;> simp_all
  rw [this]
  simp [World.cell?, hh, hu]

theorem add_zero_plain (b o j : Nat) : (⟨b, o, none⟩ : Addr).add j = ⟨b, o + j, none⟩ := by unfold Addr.add; split <;> simp_all

theorem load_ok (hs : HSim lo W η w) (ls : LSim lo W η lam κ w) {t : TypeId} {x : AV} {u : Value} (hx : Rv lo W η lam κ x u) {dst : Option Tmp} {a : Operand} {ty : TypeId} {pos : String} {after : Array Edge} {gd : Option (Nat × Bool)} {ρ : Operand → AV} (hρ : ρ a = x) {v : AV}
    (h : pv P ⟨dst, .load t a, ty, pos, after, gd⟩ ρ lam η = some v) : ∃ r, (Instr.loadAt t u).run P w = .ok r w ∧ Rv lo W η lam κ v r := by
  simp only [pv, hρ] at h
  cases hg : isAggB P t with
  | none => simp [hg] at h
  | some g =>
    cases hk : szB P t with
    | none => simp [hg, hk] at h
    | some k =>
      simp only [hg, hk] at h
      cases x <;> try (simp at h; done)
      case loc s ver off =>
        simp only at h
        split at h
        · rename_i hc
          obtain ⟨h0, h1, h2⟩ := Rv_loc hx
          obtain rfl := h2 hc.1.1
          have hpos : 0 < (lam s).ver := by omega
          obtain ⟨r, hr, hrel⟩ := loadVar_ok (a := ⟨κ s, 0, none⟩) hg hk (ls.cells hpos) hc.2 h
          rw [add_zero_plain, Nat.zero_add] at hr
          exact ⟨r, by simp [Instr.loadAt, Instr.sureAddr, hr], hrel⟩
        · cases h
      case ptr b ver off =>
        simp only at h
        cases hb : η[b]? with
        | none => simp [hb] at h
        | some blk =>
          simp only [hb] at h
          split at h
          · rename_i hc
            obtain ⟨blk', h0, h1, h2⟩ := Rv_ptr hx
            rw [hb] at h0
            obtain rfl := Option.some.inj h0
            obtain rfl := h2 hc.1
            obtain ⟨r, hr, hrel⟩ := loadVar_ok (lam := lam) (κ := κ) (a := W.ι b) hg hk (fun j x hx => let ⟨u, h1, h2⟩ := hs.cell b blk hb j x hx; ⟨u, h1, Rc_lam0 h2⟩) hc.2 h
            exact ⟨r, by simp [Instr.loadAt, Instr.sureAddr, hr], hrel⟩
          · cases h

theorem binI_ok {op : BinOp} {k k' : IntKind} {x y : Int} {v : AV} (hk : k = k' ∨ op = .shl ∨ op = .shr) (h : binI op k x y = some v) (t : TypeId) :
    ∃ r, (binOp op t (.int k x) (.int k' y)).run P w = .ok r w ∧ Rv lo W η lam κ v r := by
  have mk : ∀ (k : IntKind) (n : Int), Rv lo W η lam κ (.int k n) (.int k n) := fun k n => Rv_mkc ⟨rfl, rfl⟩
  have mkb : ∀ (b : Bool), Rv lo W η lam κ (.bool b) (.bool b) := fun b => Rv_mkc ⟨rfl, rfl⟩
  cases op <;> simp only [binI, reduceCtorEq, or_false, or_true] at h hk
  case shl =>
    split at h
    · cases h
    · rename_i hy; cases h; exact ⟨_, by simp [Go.binOp, Op.shift, hy], mk _ _⟩
  case shr =>
    split at h
    · cases h
    · rename_i hy; cases h; exact ⟨_, by simp [Go.binOp, Op.shift, hy], mk _ _⟩
  case quo =>
    subst hk
    split at h
    · cases h
    · rename_i hy; cases h; exact ⟨_, by simp [Go.binOp, Op.intDiv, hy], mk _ _⟩
  case rem =>
    subst hk
    split at h
    · cases h
    · rename_i hy; cases h; exact ⟨_, by simp [Go.binOp, Op.intDiv, hy], mk _ _⟩
  case add | sub | mul => subst hk; cases h; exact ⟨_, by simp [Go.binOp, Op.intArith], mk _ _⟩
  case and | or | xor | andNot => subst hk; cases h; exact ⟨_, by simp only [Go.binOp, ne_eq, not_true_eq_false, if_false]; rfl, mk _ _⟩
  all_goals
    subst hk
    cases h
    exact ⟨_, by simp [Go.binOp, Op.intCmp], mkb _⟩

theorem zeroB_run {t : TypeId} {z : List AV} (h : zeroB P t = some z) : ∃ zv i, (zeroValue t).run P w = .ok zv w ∧ P.info? t = some i ∧ i.zero = some zv ∧ zeroOf zv = some z := by
  unfold zeroB at h
  cases hi : P.info? t with
  | none => rw [hi] at h; cases h
  | some i =>
    rw [hi] at h
    simp only [Option.bind_some] at h
    cases hz : i.zero with
    | none => rw [hz] at h; cases h
    | some zv =>
      rw [hz] at h
      exact ⟨zv, i, by simp [zeroValue, typeInfo, hi, hz], rfl, hz, h⟩

/-- The zero value's cells, on both sides. -/
theorem zero_rel {z : List AV} {zv : Value} (h : zeroOf zv = some z) : RL (Rc lo W η lam κ) z zv.cells := by
  have hr := Rv_cv (lo := lo) (W := W) (η := η) (lam := lam) (κ := κ) zv
  unfold zeroOf at h
  have hnt : ∀ l, cv zv ≠ .tup l := by
    intro l e
    unfold cv at e
    split at e
    · split at e <;> cases e
    · split at e
      · unfold cvc at e; split at e <;> cases e
      · cases e
  have hne : cv zv ≠ .und := by intro e; rw [e] at h; cases h
  have := cells_rel (Rv_1 hr hne hnt)
  have e : cellsA (cv zv) = z := by
    unfold cellsA
    split at h
    · rename_i h2; rw [h2]; simpa using h
    · cases h
    · rename_i h2 h3; split
      · rename_i h4; exact absurd h4 (h2 _)
      · simpa using h
  rwa [e] at this

theorem getElem?_putCells {cs vs : List AV} {off : Nat} (h : off + vs.length ≤ cs.length) (i : Nat) : (putCells cs off vs)[i]? = if off ≤ i ∧ i < off + vs.length then vs[i - off]? else cs[i]? := by
  unfold putCells
  have hl : (cs.take off).length = off := by simp; omega
  by_cases h1 : i < off
  · rw [if_neg (by omega), List.append_assoc, List.getElem?_append_left (by omega), List.getElem?_take, if_pos h1]
  · by_cases h2 : i < off + vs.length
    · rw [if_pos ⟨by omega, h2⟩, List.append_assoc, List.getElem?_append_right (by omega), List.getElem?_append_left (by omega), hl]
    · rw [if_neg (by omega), List.getElem?_append_right (by simp; omega), List.getElem?_drop]
      congr 1
      simp
      omega
theorem length_putCells {cs vs : List AV} {off : Nat} (h : off + vs.length ≤ cs.length) : (putCells cs off vs).length = cs.length := by
  unfold putCells; simp; omega

/-- Written on both sides alike. -/
theorem RL_put {R : AV → Value → Prop} {cells vs : List AV} {c v res : Array Value} {off : Nat} (hc : RL R cells c) (hv : RL R vs v) (ho : off + vs.length ≤ cells.length) (hs : res.size = c.size)
    (hr : ∀ i, i < c.size → res[i]? = if off ≤ i ∧ i < off + v.size then v[i - off]? else c[i]?) : RL R (putCells cells off vs) res := by
  refine ⟨by rw [hs, hc.1, length_putCells ho], fun i x hx => ?_⟩
  have hi : i < cells.length := by have := (List.getElem?_eq_some_iff.1 hx).1; rwa [length_putCells ho] at this
  rw [hr i (by rw [hc.1]; exact hi), hv.1]
  rw [getElem?_putCells ho] at hx
  split at hx
  · rename_i h; rw [if_pos h]; exact hv.2 _ _ hx
  · rename_i h; rw [if_neg h]; exact hc.2 _ _ hx

theorem foldl_put (off : Nat) : ∀ (vs : List Value) (n : Nat) (c : Array Value), ((vs.zipIdx n).foldl (fun cs p => cs.setIfInBounds (off + p.2) p.1) c).size = c.size ∧
    ∀ i, i < c.size → ((vs.zipIdx n).foldl (fun cs p => cs.setIfInBounds (off + p.2) p.1) c)[i]? = if off + n ≤ i ∧ i < off + n + vs.length then vs[i - (off + n)]? else c[i]?
  | [], n, c => by simp; intro i hi h1 h2; omega
  | v :: r, n, c => by
    obtain ⟨h1, h2⟩ := foldl_put off r (n + 1) (c.setIfInBounds (off + n) v)
    simp only [List.zipIdx_cons, List.foldl_cons, List.length_cons]
    refine ⟨by rw [h1]; simp, fun i hi => ?_⟩
    rw [h2 i (by simpa using hi)]
    by_cases e : i = off + n
    · subst e
      rw [if_neg (by omega), if_pos (by omega)]
      simp [hi]
    · by_cases e2 : off + (n + 1) ≤ i ∧ i < off + (n + 1) + r.length
      · rw [if_pos e2, if_pos (by omega)]
        rw [show i - (off + n) = (i - (off + (n + 1))) + 1 by omega, List.getElem?_cons_succ]
      · rw [if_neg e2, if_neg (by omega), Array.getElem?_setIfInBounds_ne (by omega)]

theorem fill_ok {place : Nat → Option (Nat × Nat)} : ∀ {parts : List (Nat × AV)} {partsc : List (Nat × Value)} {cells res : List AV} {c : Array Value},
    (partsc.map (·.1) = parts.map (·.1)) → (∀ (j : Nat) p q, parts[j]? = some p → partsc[j]? = some q → Rv lo W η lam κ p.2 q.2) → RL (Rc lo W η lam κ) cells c → fillA place cells parts = some res →
    ∃ rc, Instr.fill place c partsc = some rc ∧ RL (Rc lo W η lam κ) res rc
  | [], [], cells, res, c, _, _, hc, h => by
    simp only [fillA, Option.some.injEq] at h
    subst h
    exact ⟨c, rfl, hc⟩
  | [], _ :: _, _, _, _, hn, _, _, _ => by simp at hn
  | _ :: _, [], _, _, _, hn, _, _, _ => by simp at hn
  | (i, v) :: rest, (i', u) :: restc, cells, res, c, hn, hrel, hc, h => by
    simp only [List.map_cons, List.cons.injEq] at hn
    obtain ⟨rfl, hn⟩ := hn
    simp only [fillA] at h
    cases hp : place i' with
    | none => rw [hp] at h; cases h
    | some os =>
      obtain ⟨off, size⟩ := os
      rw [hp] at h
      simp only at h
      split at h
      · rename_i hcond
        obtain ⟨hpl, hsz, hle⟩ := hcond
        have hv := hrel 0 (i', v) (i', u) rfl rfl
        have hr1 := cells_rel (Rv_1 hv (by rintro rfl; simp [plainV] at hpl) (by rintro l rfl; simp [plainV] at hpl))
        have hus : u.cells.size = size := by rw [hr1.1]; exact hsz
        have hfold := foldl_put off u.cells.toList 0 c
        have hput : RL (Rc lo W η lam κ) (putCells cells off (cellsA v)) ((u.cells.toList.zipIdx 0).foldl (fun cs p => cs.setIfInBounds (off + p.2) p.1) c) := by
          refine RL_put hc hr1 (by omega) hfold.1 fun i hi => ?_
          rw [hfold.2 i hi]
          simp
        obtain ⟨rc, h1, h2⟩ := fill_ok hn (fun j p q hp hq => hrel (j + 1) p q (by simpa using hp) (by simpa using hq)) hput h
        refine ⟨rc, ?_, h2⟩
        have hcs : c.size = cells.length := hc.1
        have hno : ¬ (u.cells.size ≠ size ∨ off + u.cells.size > c.size) := by rw [hus]; omega
        simp only [Instr.fill, hp]
        rw [if_neg (by simpa using hno)]
        rw [← h1]
        congr 1
        rw [← Array.foldl_toList, Array.toList_zipIdx]
      · cases h

end
end Go.Proofs.Ytffefndnnbcplaa
