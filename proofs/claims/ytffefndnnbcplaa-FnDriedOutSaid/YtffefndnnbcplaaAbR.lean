/- The abstract logic: a law's arguments, as given, in the abstract heap; and the law's end. -/
import Derived.Test.YtffefndnnbcplaaAbQ
import Derived.ChangeArms
import Derived.DataReads
import Derived.DataElems
import Derived.WideShapes
import Derived.Below
namespace Go.Proofs.Ytffefndnnbcplaa
open Go Go.RowKit

inductive Sh where
  | int (k : IntKind)
  | rows (e : TypeId) (k : Nat) (q : IntKind)

def Sh.isK (q : IntKind) : Sh → Bool
  | .int q' => decide (q' = q)
  | _ => false

def shFields (P : Program) (g : TypeId → Option (List Sh)) (off : Nat) : List Field → Option (List Sh)
  | [] => some []
  | f :: r => if f.offset = off then (g f.type).bind fun l => if P.cellsOf f.type = l.length then (shFields P g (off + l.length) r).map (l ++ ·) else none else none

/-- What stands in a value's cells. -/
def shapes (P : Program) : Nat → TypeId → Option (List Sh)
  | 0, _ => none
  | m + 1, t => match P.underlying t with
    | some (.int k) => some [.int k]
    | some (.slice e) => (shapes P m e).bind fun l => match l with
      | .int q :: r => if (Sh.int q :: r).all (Sh.isK q) = true ∧ P.cellsOf e = (Sh.int q :: r).length then some [.rows e (Sh.int q :: r).length q] else none
      | _ => none
    | some (.struct fs) => (shFields P (shapes P m) 0 fs.toList).bind fun l => if P.cellsOf t = l.length then some l else none
    | _ => none

def ShC (w : World) : Sh → Value → Prop
  | .int k, v => ∃ n, v = .int k n ∧ (Lit.int k n).wf = true
  | .rows _ k q, v => v = .slice none 0 0 ∨ ∃ (a : Addr) (len cap : Nat) (zs : List Int), v = .slice (some a) len cap ∧ len ≤ cap ∧ cap ≤ maxLen ∧ zs.length = len * k ∧
      (∀ i, i < zs.length → w.cell? (a.add i) = some (.int q (zs.getD i 0))) ∧ ∀ n ∈ zs, (Lit.int q n).wf = true

def Match (w : World) (sh : List Sh) (cs : List Value) : Prop := cs.length = sh.length ∧ ∀ (i : Nat) s c, sh[i]? = some s → cs[i]? = some c → ShC w s c

section
variable {H : Type} {enc : TypeId × Value → H} {P : Program} {w : World} {base : Nat} {spare : Nat → Bool} {held : Bool}

theorem fields_ok {g : TypeId → Option (List Sh)} {cs : List Value} {n : Nat}
    (ih : ∀ t sh, g t = some sh → ∀ cs x, DataW.trod enc P w base spare held n t cs = some x → Match w sh cs) : ∀ (fs : List Field) (off : Nat) (sh : List Sh), shFields P g off fs = some sh →
    (∀ f ∈ fs, ∃ y, DataW.trod enc P w base spare held n f.type ((cs.drop f.offset).take (P.cellsOf f.type)) = some y) →
    ∀ (i : Nat) s c, sh[i]? = some s → cs[off + i]? = some c → ShC w s c
  | [], off, sh, h, _, i, s, c, hs, _ => by
    simp only [shFields, Option.some.injEq] at h
    subst h
    simp at hs
  | f :: r, off, sh, h, hf, i, s, c, hs, hc => by
    unfold shFields at h
    split at h
    · rename_i ho
      cases hg : g f.type with
      | none => rw [hg] at h; cases h
      | some l =>
        rw [hg] at h
        simp only [Option.bind_some] at h
        split at h
        · rename_i hl
          cases hr : shFields P g (off + l.length) r with
          | none => rw [hr] at h; cases h
          | some l' =>
            rw [hr] at h
            simp only [Option.map_some, Option.some.injEq] at h
            subst h
            obtain ⟨y, hy⟩ := hf f (by simp)
            have hm := ih f.type l hg _ _ hy
            by_cases hi : i < l.length
            · refine hm.2 i s c (by rwa [List.getElem?_append_left hi] at hs) ?_
              rw [List.getElem?_take, if_pos (by omega), List.getElem?_drop, ho]
              exact hc
            · refine fields_ok ih r (off + l.length) l' hr (fun f' hf' => hf f' (by simp [hf'])) (i - l.length) s c ?_ ?_
              · rwa [List.getElem?_append_right (by omega)] at hs
              · rw [show off + l.length + (i - l.length) = off + i by omega]; exact hc
        · cases h
    · cases h

theorem trod_shapes : ∀ (m : Nat) (t : TypeId) (sh : List Sh), shapes P m t = some sh → ∀ (fuel : Nat) (cs : List Value) (x : DataW H × List MemPlace), DataW.trod enc P w base spare held fuel t cs = some x → Match w sh cs
  | 0, _, _, h, _, _, _, _ => by cases h
  | m + 1, t, sh, h, fuel, cs, x, hx => by
    unfold shapes at h
    split at h
    · rename_i k ht
      simp only [Option.some.injEq] at h
      subst h
      obtain ⟨n, rfl, _, hw⟩ := DataW.trod_int ht hx
      refine ⟨rfl, fun i s c hs hc => ?_⟩
      cases i with
      | zero => simp at hs hc; subst hs; subst hc; exact ⟨n, rfl, hw⟩
      | succ i => simp at hs
    · rename_i e ht
      cases hl : shapes P m e with
      | none => rw [hl] at h; cases h
      | some l =>
        rw [hl] at h
        simp only [Option.bind_some] at h
        split at h
        case h_2 => cases h
        rename_i l0 q lr
        generalize hlq : Sh.int q :: lr = l at hl h
        split at h
        · rename_i hc
          simp only [Option.some.injEq] at h
          subst h
          rcases DataW.trod_slice ht hx with ⟨rfl, _⟩ | ⟨a, len, cap, elems, rest, n, _, rfl, _, hb, hlc, hm, hlen, hel, _, _⟩
          · refine ⟨rfl, fun i s c hs hcc => ?_⟩
            cases i with
            | zero => simp at hs hcc; subst hs; subst hcc; exact .inl rfl
            | succ i => simp at hs
          · refine ⟨rfl, fun i s c hs hcc => ?_⟩
            cases i with
            | succ i => simp at hs
            | zero =>
              simp only [List.getElem?_cons_zero, Option.some.injEq] at hs hcc
              subst hs; subst hcc
              have cell : ∀ i, i < len * l.length → ∃ n, w.cell? (a.add i) = some (.int q n) ∧ (Lit.int q n).wf = true := by
                intro i hi
                have hpos : 0 < l.length := by
                  rcases Nat.eq_zero_or_pos l.length with h0 | h0
                  · rw [h0] at hi; omega
                  · exact h0
                have hq : i / l.length < len := by rw [Nat.div_lt_iff_lt_mul hpos]; exact hi
                have h1 := hel (i / l.length) hq
                rw [List.getElem?_eq_getElem (by omega), Option.bind_eq_some_iff] at h1
                obtain ⟨cs', hcs, hy⟩ := h1
                have hmm := trod_shapes m e l hl _ _ _ hy
                obtain ⟨_, hcl, hcell⟩ := World.cells?_some hcs
                have hr : i % l.length < l.length := Nat.mod_lt _ hpos
                have h2 := hcell (i % l.length) (by rw [hc.2]; exact hr)
                rw [Addr.add_add, hc.2, Nat.mul_comm, Nat.div_add_mod] at h2
                have hlt : i % l.length < cs'.length := by rw [hmm.1]; exact hr
                rw [List.getElem?_eq_getElem hlt] at h2
                have h3 := hmm.2 (i % l.length) _ _ (List.getElem?_eq_getElem hr) (List.getElem?_eq_getElem hlt)
                have h4 := List.all_eq_true.1 hc.1 _ (List.getElem_mem hr)
                rw [h2]
                generalize l[i % l.length] = s at h3 h4
                generalize cs'[i % l.length] = v at h3
                cases s with
                | rows _ _ _ => cases h4
                | int k =>
                  obtain ⟨n, rfl, hw⟩ := h3
                  have e : k = q := of_decide_eq_true h4
                  subst e
                  exact ⟨n, rfl, hw⟩
              refine .inr ⟨a, len, cap, (List.range (len * l.length)).map fun i => match w.cell? (a.add i) with | some (.int _ n) => n | _ => 0, rfl, hlc, hm, by simp, fun i hi => ?_, fun n hn => ?_⟩
              · simp only [List.length_map, List.length_range] at hi
                obtain ⟨n, hn, _⟩ := cell i hi
                simp [List.getD_eq_getElem?_getD, hi, hn]
              · obtain ⟨i, hi, rfl⟩ := List.mem_map.1 hn
                obtain ⟨n, hn', hw⟩ := cell i (List.mem_range.1 hi)
                rw [hn']; exact hw
        · cases h
    · rename_i fs ht
      cases hl : shFields P (shapes P m) 0 fs.toList with
      | none => rw [hl] at h; cases h
      | some l =>
        rw [hl] at h
        simp only [Option.bind_some] at h
        split at h
        · rename_i hc
          simp only [Option.some.injEq] at h
          subst h
          obtain ⟨xs, n, _, _, hcl, hxl, hf⟩ := DataW.trod_struct ht hx
          refine ⟨by rw [hcl, hc], fun i s c hs hcc => ?_⟩
          refine fields_ok (n := n) (cs := cs) (fun t sh hsh cs x hx => trod_shapes m t sh hsh n cs x hx) fs.toList 0 l hl (fun f hf' => ?_) i s c hs (by rw [Nat.zero_add]; exact hcc)
          obtain ⟨j, hj⟩ := List.getElem?_of_mem hf'
          have h1 := hf j f (by rw [← Array.getElem?_toList]; exact hj)
          have hlt : j < xs.length := by
            rw [hxl]
            have := (List.getElem?_eq_some_iff.1 hj).1
            simpa using this
          exact ⟨xs[j], by rw [h1, List.getElem?_eq_getElem hlt]⟩
        · cases h
    · cases h

/-- One cell, in numbers and rows. -/
def AvSh (η : List Blk) : Sh → AV → Prop
  | .int k, x => ∃ n, x = .int k n ∧ (Lit.int k n).wf = true
  | .rows e k q, x => x = .nils ∨ ∃ (b len : Nat) (zs : List Int), x = .sl b 0 0 len ∧ η[b]? = some ⟨0, e, k, zs.map (.int q)⟩ ∧ zs.length = len * k ∧ len ≤ maxLen ∧ ∀ n ∈ zs, (Lit.int q n).wf = true

def OneC (b0 : Nat) (addrs : List Addr) (blks : List Blk) (x : AV) (c : Value) : Prop :=
  (∃ k n, x = .int k n ∧ c = .int k n) ∨ (x = .nils ∧ c = .slice none 0 0) ∨
  ∃ j a len cap, x = .sl (b0 + j) 0 0 len ∧ addrs[j]? = some a ∧ c = .slice (some a) len cap ∧ len ≤ cap ∧ ∃ blk, blks[j]? = some blk ∧ blk.ver = 0

theorem open_all : ∀ (sh : List Sh) (cs : List Value), Match w sh cs → ∀ b0, ∃ (addrs : List Addr) (blks : List Blk) (avs : List AV), addrs.length = blks.length ∧ avs.length = cs.length ∧
    (∀ (i : Nat) x c, avs[i]? = some x → cs[i]? = some c → OneC b0 addrs blks x c) ∧
    (∀ pre : List Blk, pre.length = b0 → ∀ (i : Nat) s x, sh[i]? = some s → avs[i]? = some x → AvSh (pre ++ blks) s x) ∧
    (∀ (j : Nat) a blk, addrs[j]? = some a → blks[j]? = some blk → ∀ (i : Nat) x, blk.cells[i]? = some x → ∃ q n, x = .int q n ∧ w.cell? (a.add i) = some (.int q n))
  | [], cs, h, b0 => by
    have : cs = [] := List.length_eq_zero_iff.1 h.1
    subst this
    exact ⟨[], [], [], rfl, rfl, fun i x c hx => by simp at hx, fun _ _ i s x hs => by simp at hs, fun j a blk ha => by simp at ha⟩
  | s :: sh, [], h, b0 => by have := h.1; simp at this
  | s :: sh, c :: cs, h, b0 => by
    have hh : ShC w s c := h.2 0 s c rfl rfl
    have ht : Match w sh cs := ⟨by simpa using h.1, fun i s' c' hs hc => h.2 (i + 1) s' c' (by simpa using hs) (by simpa using hc)⟩
    cases s with
    | int k =>
      obtain ⟨n, rfl, hw⟩ := hh
      obtain ⟨addrs, blks, avs, h1, h2, h3, h4, h5⟩ := open_all sh cs ht b0
      refine ⟨addrs, blks, .int k n :: avs, h1, by simp [h2], fun i x c hx hc => ?_, fun pre hp i s x hs hx => ?_, h5⟩
      · cases i with
        | zero => simp at hx hc; subst hx; subst hc; exact .inl ⟨k, n, rfl, rfl⟩
        | succ i => exact h3 i x c (by simpa using hx) (by simpa using hc)
      · cases i with
        | zero => simp at hs hx; subst hs; subst hx; exact ⟨n, rfl, hw⟩
        | succ i => exact h4 pre hp i s x (by simpa using hs) (by simpa using hx)
    | rows e k q =>
      rcases hh with rfl | ⟨a, len, cap, zs, rfl, hlc, hm, hz, hcell, hw⟩
      · obtain ⟨addrs, blks, avs, h1, h2, h3, h4, h5⟩ := open_all sh cs ht b0
        refine ⟨addrs, blks, .nils :: avs, h1, by simp [h2], fun i x c hx hc => ?_, fun pre hp i s x hs hx => ?_, h5⟩
        · cases i with
          | zero => simp at hx hc; subst hx; subst hc; exact .inr (.inl ⟨rfl, rfl⟩)
          | succ i => exact h3 i x c (by simpa using hx) (by simpa using hc)
        · cases i with
          | zero => simp at hs hx; subst hs; subst hx; exact .inl rfl
          | succ i => exact h4 pre hp i s x (by simpa using hs) (by simpa using hx)
      · obtain ⟨addrs, blks, avs, h1, h2, h3, h4, h5⟩ := open_all sh cs ht (b0 + 1)
        refine ⟨a :: addrs, ⟨0, e, k, zs.map (.int q)⟩ :: blks, .sl b0 0 0 len :: avs, by simp [h1], by simp [h2], fun i x c hx hc => ?_, fun pre hp i s x hs hx => ?_, fun j a' blk ha hb i x hx => ?_⟩
        · cases i with
          | zero =>
            simp only [List.getElem?_cons_zero, Option.some.injEq] at hx hc
            subst hx; subst hc
            exact .inr (.inr ⟨0, a, len, cap, by simp, rfl, rfl, hlc, _, rfl, rfl⟩)
          | succ i =>
            rcases h3 i x c (by simpa using hx) (by simpa using hc) with g | g | ⟨j, a', len', cap', rfl, g2, rfl, g4, blk, g5, g6⟩
            · exact .inl g
            · exact .inr (.inl g)
            · exact .inr (.inr ⟨j + 1, a', len', cap', by rw [show b0 + (j + 1) = b0 + 1 + j by omega], by simpa using g2, rfl, g4, blk, by simpa using g5, g6⟩)
        · cases i with
          | zero =>
            simp only [List.getElem?_cons_zero, Option.some.injEq] at hs hx
            subst hs; subst hx
            refine .inr ⟨b0, len, zs, rfl, ?_, hz, Nat.le_trans hlc hm, hw⟩
            rw [List.getElem?_append_right (by omega), hp, Nat.sub_self]; rfl
          | succ i =>
            have := h4 (pre ++ [⟨0, e, k, zs.map (.int q)⟩]) (by simp [hp]) i s x (by simpa using hs) (by simpa using hx)
            simpa using this
        · cases j with
          | zero =>
            simp only [List.getElem?_cons_zero, Option.some.injEq] at ha hb
            subst ha; subst hb
            simp only [List.getElem?_map] at hx
            cases hzi : zs[i]? with
            | none => rw [hzi] at hx; cases hx
            | some n =>
              rw [hzi] at hx
              simp only [Option.map_some, Option.some.injEq] at hx
              subst hx
              have hlt := (List.getElem?_eq_some_iff.1 hzi).1
              refine ⟨q, n, rfl, ?_⟩
              rw [hcell i hlt]
              simp [List.getD_eq_getElem?_getD, hzi]
          | succ j => exact h5 j a' blk (by simpa using ha) (by simpa using hb) i x hx

def witOf (addrs : List Addr) : Wit := ⟨fun b => addrs.getD b ⟨0, 0, none⟩, fun _ => 0⟩

theorem HSim_open {addrs : List Addr} {blks : List Blk} (h1 : addrs.length = blks.length)
    (h5 : ∀ (j : Nat) a blk, addrs[j]? = some a → blks[j]? = some blk → ∀ (i : Nat) x, blk.cells[i]? = some x → ∃ q n, x = .int q n ∧ w.cell? (a.add i) = some (.int q n)) :
    HSim blks.length (witOf addrs) blks w := by
  refine ⟨Nat.le_refl _, fun b blk hb j x hx => ?_, fun b blk hb hlo => ?_, fun b b' blk hb hb' hlo => by omega⟩
  · have hlt : b < addrs.length := by rw [h1]; exact (List.getElem?_eq_some_iff.1 hb).1
    obtain ⟨q, n, rfl, hc⟩ := h5 b _ blk (List.getElem?_eq_getElem hlt) hb j x hx
    refine ⟨.int q n, ?_, rfl, rfl⟩
    simp only [witOf, List.getD_eq_getElem?_getD, List.getElem?_eq_getElem hlt, Option.getD_some]
    exact hc
  · have := (List.getElem?_eq_some_iff.1 hb).1; omega

theorem Rc_open {addrs : List Addr} {blks : List Blk} {x : AV} {c : Value} (h : OneC 0 addrs blks x c) : Rc blks.length (witOf addrs) blks lam0 kap0 x c := by
  rcases h with ⟨k, n, rfl, rfl⟩ | ⟨rfl, rfl⟩ | ⟨j, a, len, cap, rfl, ha, rfl, hl, blk, hb, hv⟩
  · exact ⟨rfl, rfl⟩
  · exact ⟨rfl, rfl⟩
  · refine ⟨rfl, blk, by rw [Nat.zero_add]; exact hb, by omega, fun _ => ⟨a, cap, rfl, hl, .inr ⟨?_, fun hlo => ?_⟩⟩⟩
    · simp only [witOf, List.getD_eq_getElem?_getD, Nat.zero_add, ha, Option.getD_some]
      simp [Addr.add]
    · have := (List.getElem?_eq_some_iff.1 hb).1; omega

theorem RL_nil {R : AV → Value → Prop} : RL R [] #[] := ⟨rfl, fun i x hx => by simp at hx⟩
theorem RL_cons {R : AV → Value → Prop} {x : AV} {u : Value} {l : List AV} {us : List Value} (h : R x u) (t : RL R l us.toArray) : RL R (x :: l) (u :: us).toArray := by
  refine ⟨by simpa using t.1, fun i y hy => ?_⟩
  cases i with
  | zero => simp at hy; subst hy; exact ⟨u, rfl, h⟩
  | succ i =>
    obtain ⟨v, h1, h2⟩ := t.2 i y (by simpa using hy)
    exact ⟨v, by simpa using h1, h2⟩

/-- A law's end. -/
theorem law_end {f : FuncId} {args : List AV} {us : Array Value} {η : List Blk} {W : Wit} (h : AF P η.length f args η fun v _ => v = .bool true) (hs : HSim η.length W η w) (ha : RL (Rv η.length W η lam0 kap0) args us) :
    Calls P f us w fun e w' => e = .returned (.bool true) ∧ Below w.heap.size w w' := by
  refine (h.2 W w us hs ha).mono ?_
  rintro e w' ⟨v, η', W', u, rfl, rfl, hv, _, _, _, hf⟩
  refine ⟨by rw [Rv_bool hv], hf.os, hf.tape, hf.output, hf.size, fun k hk => hf.block k hk ?_⟩
  rintro ⟨b, hb, hb', _⟩
  omega

theorem okWide_struct {r : Reach} {t : TypeId} {v : Value} {fs : Array Field} (ht : P.underlying t = some (.struct fs)) (h : Value.okWide P w r base t v) : ∃ cs, v = .agg cs := by
  simp only [Value.okWide, ht] at h
  obtain ⟨cs, rfl, _⟩ := h
  exact ⟨cs, rfl⟩
end
end Go.Proofs.Ytffefndnnbcplaa
