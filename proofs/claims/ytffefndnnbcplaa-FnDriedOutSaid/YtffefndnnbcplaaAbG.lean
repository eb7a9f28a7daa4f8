/- The abstract logic: every operation that only looks yields in the machine what the abstract one says. -/
import Derived.Test.YtffefndnnbcplaaAbF
namespace Go.Proofs.Ytffefndnnbcplaa
open Go

section
variable {P : Program} {lo : Nat} {W : Wit} {η : List Blk} {lam : Nat → LB} {κ : Nat → Nat} {w : World}

theorem int_or {ρ : Operand → AV} {ρc : Operand → Value} (hρ : ∀ x, Rv lo W η lam κ (ρ x) (ρc x)) {l : Operand} {n : Int} (h : (match ρ l with | .int _ n => some n | _ => none) = some n) : ∃ kk, ρc l = .int kk n := by
  have := hρ l
  cases hl : ρ l <;> rw [hl] at h this <;> simp at h
  subst h
  exact ⟨_, Rv_int this⟩

theorem eq_nil_nil (d : Nat) {t e : TypeId} (ht : P.underlying t = some (.slice e)) : (Op.equalIn (d + 1) t (.slice none 0 0) (.slice none 0 0)).run P w = .ok true w := by
  simp [Op.equalIn, run_underlying ht]
theorem eq_bool (d : Nat) {t : TypeId} (ht : P.underlying t = some .bool) (a b : Bool) : (Op.equalIn (d + 1) t (.bool a) (.bool b)).run P w = .ok (a == b) w := by
  simp [Op.equalIn, run_underlying ht]
theorem boolB_spec {t : TypeId} (h : boolB P t = true) : P.underlying t = some .bool := by
  unfold boolB at h
  split at h
  · assumption
  · cases h
theorem eq_sl_nil (d : Nat) {t e : TypeId} (ht : P.underlying t = some (.slice e)) (a : Addr) (n c : Nat) : (Op.equalIn (d + 1) t (.slice (some a) n c) (.slice none 0 0)).run P w = .ok false w := by
  simp [Op.equalIn, run_underlying ht]

theorem pv_ok (hs : HSim lo W η w) (ls : LSim lo W η lam κ w) {o : Oper} {ρ : Operand → AV} {ρc : Operand → Value} (hρ : ∀ x, Rv lo W η lam κ (ρ x) (ρc x)) {v : AV}
    (h : pv P o ρ lam η = some v) : ∃ u, (execOp ρc o).run P w = .ok (.value u) w ∧ Rv lo W η lam κ v u := by
  obtain ⟨dst, op, ty, pos, after, gd⟩ := o
  cases op with
  | move x => simp only [pv, Option.some.injEq] at h; subst h; exact ⟨ρc x, by simp [execOp], hρ x⟩
  | assign x => simp only [pv, Option.some.injEq] at h; subst h; exact ⟨ρc x, by simp [execOp], hρ x⟩
  | pick c a b =>
    simp only [pv] at h
    have hc := hρ c
    cases hcc : ρ c <;> rw [hcc] at h hc <;> simp at h
    rename_i t
    have := Rv_bool hc
    subst h
    refine ⟨if t then ρc a else ρc b, by simp [execOp, this, asBool], ?_⟩
    cases t
    · exact hρ b
    · exact hρ a
  | nilCheck x =>
    simp only [pv] at h
    have hx := hρ x
    cases hxx : ρ x <;> rw [hxx] at h hx <;> simp at h
    · obtain ⟨hc, rfl⟩ := h
      exact ⟨_, by simp [execOp, ptr_open hx hc]; rfl, by rw [← ptr_open hx hc]; exact hx⟩
    · obtain ⟨hc, rfl⟩ := h
      have := (Rv_loc hx).2.2 hc.1
      exact ⟨_, by simp [execOp, this]; rfl, by rw [← this]; exact hx⟩
  | build t parts => 
    simp only [pv] at h
    cases hz : zeroB P t with
    | none => simp [hz] at h
    | some z =>
      cases hp : placesB P t with
      | none => simp [hz, hp] at h
      | some pl =>
        simp only [hz, hp] at h
        cases hf : fillA (fun (i : Nat) => pl[i]?) z (parts.toList.map fun p => (p.1, ρ p.2)) with
        | none => rw [hf] at h; cases h
        | some res =>
          rw [hf] at h
          simp at h
          subst h
          obtain ⟨u, h1, h2⟩ := build_ok (partsc := parts.map fun p => (p.1, ρc p.2)) (w := w) hz hp (by simp [Function.comp_def]) (fun j p q hp hq => by
            rw [List.getElem?_map] at hp
            rw [Array.toList_map, List.getElem?_map] at hq
            cases hj : parts.toList[j]? with
            | none => rw [hj] at hp; cases hp
            | some x => rw [hj] at hp hq; simp at hp hq; subst hp; subst hq; exact hρ x.2) hf
          exact ⟨u, by simp [execOp, h1], h2⟩
  | load t a =>
    obtain ⟨r, h1, h2⟩ := load_ok hs ls (hρ a) rfl h
    exact ⟨r, by simp [execOp, h1], h2⟩
  | unOp op t x =>
    simp only [pv] at h
    have hx := hρ x
    cases op <;> cases hxx : ρ x <;> rw [hxx] at h hx <;> simp at h
    · subst h
      exact ⟨_, by simp [execOp, Rv_int hx, Op.unary, Op.intArith], Rv_mkc ⟨rfl, rfl⟩⟩
    · subst h
      exact ⟨_, by simp [execOp, Rv_bool hx, Op.unary], Rv_mkc ⟨rfl, rfl⟩⟩
  | convert src dst x =>
    simp only [pv] at h
    have hx := hρ x
    cases hi : intB P src with
    | none => simp [hi] at h
    | some k1 =>
      cases hj : intB P dst with
      | none => simp [hi, hj] at h
      | some k2 =>
        cases hxx : ρ x <;> rw [hxx] at h hx <;> simp [hi, hj] at h
        subst h
        unfold intB at hi hj
        split at hi
        · split at hj
          · rename_i hu _ _ hu'
            cases hj
            refine ⟨_, ?_, Rv_mkc ⟨rfl, rfl⟩⟩
            simp [execOp, convert, run_underlying hu, run_underlying hu', Rv_int hx, Conv.intToInt]
          · cases hj
        · cases hi
  | fieldAddr t x f =>
    simp only [pv] at h
    have hx := hρ x
    cases hf : fieldB P t f with
    | none => simp [hf] at h
    | some os =>
      obtain ⟨off, s⟩ := os
      obtain ⟨fs, fx, hu, hfx, hsz, rfl⟩ := fieldB_spec hf
      cases hxx : ρ x <;> rw [hxx] at h hx <;> simp [hf] at h
      · rename_i b ver o
        obtain ⟨⟨hs0, hc⟩, rfl⟩ := h
        have hp := ptr_open hx hc
        refine ⟨.pointer (some ((W.ι b).add (o + fx.offset))), ?_, ?_⟩
        · simp [execOp, Instr.fieldAt, run_underlying hu, hfx, hp, Instr.sureAddr, fieldPlace, szB_run hsz, hs0, Deep.add_add]
        · obtain ⟨blk, h0, h1, _⟩ := Rv_ptr hx
          exact Rv_mkc ⟨rfl, blk, h0, h1, fun _ => rfl⟩
      · rename_i b ver o
        obtain ⟨⟨hs0, hc⟩, rfl⟩ := h
        obtain ⟨g0, g1, g2⟩ := Rv_loc hx
        have hp := g2 hc.1
        refine ⟨.pointer (some ⟨κ b, o + fx.offset, none⟩), ?_, Rv_mkc ⟨rfl, g0, g1, fun _ => rfl⟩⟩
        simp [execOp, Instr.fieldAt, run_underlying hu, hfx, hp, Instr.sureAddr, fieldPlace, szB_run hsz, hs0, add_zero_plain]
  | indexAddr t x i =>
    simp only [pv] at h
    have hx := hρ x
    have hi := hρ i
    cases he : elemB P t with
    | none => simp [he] at h
    | some ek =>
      obtain ⟨e, k⟩ := ek
      obtain ⟨hte, hse⟩ := elemB_spec he
      cases hxx : ρ x <;> rw [hxx] at h hx <;> simp [he] at h
      rename_i b ver off len
      cases hii : ρ i <;> rw [hii] at h hi <;> simp at h
      rename_i kk n
      cases hb : η[b]? with
      | none => simp [hb] at h
      | some blk =>
        simp [hb] at h
        obtain ⟨⟨hv, h0, hn⟩, rfl⟩ := h
        obtain ⟨a, cap, hxc, hle, hcap⟩ := sl_open hx hb hv
        refine ⟨_, ?_, Rv_mkc ⟨rfl, blk, hb, by omega, fun _ => rfl⟩⟩
        have ha : a = (W.ι b).add off := by rcases hcap with hc | hc; omega; exact hc.1
        simp [execOp, Instr.indexAt, run_underlying hte, hxc, Rv_int hi, asIntOf, h0, hn, szB_run hse, ha, Deep.add_add]
  | extract x i =>
    simp only [pv] at h
    have hx := hρ x
    cases hxx : ρ x <;> rw [hxx] at h hx <;> simp at h
    obtain ⟨arr, hc, hr⟩ := Rv_tup hx
    obtain ⟨u, hu, hrel⟩ := hr.2 i v h
    exact ⟨u, by simp [execOp, hc, Instr.extract, hu], .inr (.inr hrel)⟩
  | slice t x l hh m =>
    cases m with
    | some m => simp [pv] at h
    | none =>
      simp only [pv] at h
      have hx := hρ x
      cases he : elemB P t with
      | none => simp [he] at h
      | some ek =>
        obtain ⟨e, k⟩ := ek
        cases hxx : ρ x <;> rw [hxx] at h hx <;> simp [he] at h
        rename_i b ver off len
        cases hb : η[b]? with
        | none => simp [hb] at h
        | some blk =>
          simp only [hb] at h
          split at h
          · rename_i hc
            split at h
            · rename_i i j hi hj
              split at h
              · rename_i hbd
                simp only [Option.some.injEq] at h
                subst h
                obtain ⟨r, h1, h2⟩ := slice_ok (w := w) (lc := l.map ρc) (hc := hh.map ρc) he hb hc.1 hc.2 hx hbd.1 hbd.2.1 hbd.2.2 (by
                  cases l with
                  | none => left; simp at hi; exact ⟨rfl, hi.symm⟩
                  | some l => right; obtain ⟨kk, hk⟩ := int_or hρ hi; exact ⟨kk, by simp [hk]⟩) (by
                  cases hh with
                  | none => left; simp at hj; exact ⟨rfl, hj.symm⟩
                  | some l => right; obtain ⟨kk, hk⟩ := int_or hρ hj; exact ⟨kk, by simp [hk]⟩)
                exact ⟨r, by simp [execOp, h1], h2⟩
              · cases h
            · cases h
          · cases h
  | makeFunc fn first caps =>
    simp only [pv] at h
    cases fn with
    | func g =>
      simp only at h
      split at h
      · rename_i hall
        obtain ⟨hf, hall⟩ := hall
        obtain rfl : first = #[] := Array.eq_empty_of_size_eq_zero hf
        simp only [Option.some.injEq] at h
        subst h
        refine ⟨.func (.func g) #[] (caps.map ρc), by simp [execOp, Instr.makeFunc], Rv_mkc ⟨rfl, _, rfl, by simp, fun i x hx => ?_⟩⟩
        rw [List.getElem?_map, Array.getElem?_toList] at hx
        cases hc : caps[i]? with
        | none => rw [hc] at hx; cases hx
        | some c =>
          rw [hc] at hx
          simp only [Option.map_some, Option.some.injEq] at hx
          have hm := List.all_eq_true.1 hall (ρ c) (List.mem_map.2 ⟨c, by simpa using Array.mem_of_getElem? hc, rfl⟩)
          refine ⟨ρc c, by simp [hc], ?_⟩
          have hr := hρ c
          subst hx
          cases hcc : ρ c <;> rw [hcc] at hm hr <;> simp [isPtr] at hm
          exact ⟨Rv_one hr rfl, Rv_ptr hr⟩
      · cases h
    | _ => cases h
  | binOp op t x y t' =>
    simp only [pv] at h
    have hx := hρ x
    have hy := hρ y
    split at h
    · rename_i k a k' b hxx hyy
      rw [hxx] at hx; rw [hyy] at hy
      split at h
      · rename_i hk
        obtain ⟨r, h1, h2⟩ := binI_ok (P := P) (w := w) (lo := lo) (W := W) (η := η) (lam := lam) (κ := κ) hk h t
        refine ⟨r, ?_, h2⟩
        have hg : (eqGuard op t x y (.int k a) (.int k' b)).run P w = .ok () w := by
          unfold eqGuard; simp only [Sem.run_ite]; split <;> simp
        simp [execOp, Rv_int hx, Rv_int hy, hg, h1]
      · cases h
    · rename_i p q hxx hyy
      rw [hxx] at hx; rw [hyy] at hy
      split at h
      · rename_i ht
        have hg : (eqGuard op t x y (.bool p) (.bool q)).run P w = .ok () w := by
          unfold eqGuard; simp only [Sem.run_ite]; split <;> simp
        have heq : (Op.equal t (.bool p) (.bool q)).run P w = .ok (p == q) w := eq_bool 9999 (boolB_spec ht) p q
        cases op <;> simp only [reduceCtorEq, Option.some.injEq] at h
        · subst h
          exact ⟨_, by simp [execOp, Rv_bool hx, Rv_bool hy, hg, binOp, heq], Rv_mkc ⟨rfl, rfl⟩⟩
        · subst h
          exact ⟨.bool (!(p == q)), by simp [execOp, Rv_bool hx, Rv_bool hy, hg, binOp, heq], Rv_mkc ⟨rfl, rfl⟩⟩
      · cases h
    · rename_i hxx hyy
      rw [hxx] at hx; rw [hyy] at hy
      have hg : (eqGuard op t x y (.slice none 0 0) (.slice none 0 0)).run P w = .ok () w := by
        unfold eqGuard; simp only [Sem.run_ite]; split <;> simp
      cases op <;> simp at h
      all_goals
        obtain ⟨he, rfl⟩ := h
        obtain ⟨⟨e, k⟩, he⟩ := Option.isSome_iff_exists.1 he
        obtain ⟨hte, _⟩ := elemB_spec he
        have heq : (Op.equal t (.slice none 0 0) (.slice none 0 0)).run P w = .ok true w := eq_nil_nil 9999 hte
        exact ⟨_, by simp [execOp, Rv_nils hx, Rv_nils hy, hg, binOp, heq], Rv_mkc ⟨rfl, rfl⟩⟩
    · rename_i b ver off len hxx hyy
      rw [hxx] at hx; rw [hyy] at hy
      cases hb : η[b]? with
      | none => rw [hb] at h; cases h
      | some blk =>
        simp only [hb] at h
        split at h
        · rename_i hv
          obtain ⟨a, cap, hxc, _⟩ := sl_open hx hb hv
          have hg : (eqGuard op t x y (.slice (some a) len cap) (.slice none 0 0)).run P w = .ok () w := by
            unfold eqGuard; simp only [Sem.run_ite]; split <;> simp
          cases op <;> simp at h
          all_goals
            obtain ⟨he, rfl⟩ := h
            obtain ⟨⟨e, k⟩, he⟩ := Option.isSome_iff_exists.1 he
            obtain ⟨hte, _⟩ := elemB_spec he
            have heq : (Op.equal t (.slice (some a) len cap) (.slice none 0 0)).run P w = .ok false w := eq_sl_nil 9999 hte _ _ _
            exact ⟨_, by simp [execOp, hxc, Rv_nils hy, hg, binOp, heq], Rv_mkc ⟨rfl, rfl⟩⟩
        · cases h
    · rename_i l l' hxx hyy
      rw [hxx] at hx; rw [hyy] at hy
      obtain ⟨u, hxc, hr⟩ := Rv_agg hx
      obtain ⟨u', hyc, hr'⟩ := Rv_agg hy
      split at h
      · rename_i hp
        split at h
        · rename_i a b ha hb
          split at h
          · rename_i hc
            obtain ⟨h1, h2⟩ := structEq_ok (w := w) hp hr hr' ha hb hc.1 hc.2
            have hg : (eqGuard .eql t x y (.agg u) (.agg u')).run P w = .ok () w := by
              unfold eqGuard; simp [h2]
            simp only [Option.some.injEq] at h
            subst h
            exact ⟨_, by simp [execOp, hxc, hyc, hg, binOp, h1], Rv_mkc ⟨rfl, rfl⟩⟩
          · cases h
        · rename_i a b ha hb
          split at h
          · rename_i hc
            obtain ⟨h1, h2⟩ := structEq_ok (w := w) hp hr hr' ha hb hc.1 hc.2
            have hg : (eqGuard .neq t x y (.agg u) (.agg u')).run P w = .ok () w := by
              unfold eqGuard; simp [h2]
            simp only [Option.some.injEq] at h
            subst h
            exact ⟨_, by simp [execOp, hxc, hyc, hg, binOp, h1], Rv_mkc ⟨rfl, rfl⟩⟩
          · cases h
        · cases h
      · cases h
    · cases h
  | call c =>
    obtain ⟨callee, args, argTypes⟩ := c
    obtain ⟨args⟩ := args
    obtain ⟨argTypes⟩ := argTypes
    simp only [pv] at h
    split at h
    · rename_i x t rest
      have hx := hρ x
      cases he : elemB P t with
      | none => simp [he] at h
      | some ek =>
        obtain ⟨e, k⟩ := ek
        obtain ⟨hte, hse⟩ := elemB_spec he
        cases hxx : ρ x <;> rw [hxx] at h hx <;> simp [he] at h
        · subst h
          exact ⟨_, by simp [execOp, resolve, invoke, builtin, Builtin.len_, run_underlying hte, Rv_nils hx, goInt], Rv_mkc ⟨rfl, rfl⟩⟩
        · subst h
          obtain ⟨a, hxc⟩ := Rv_emp hx
          exact ⟨_, by simp [execOp, resolve, invoke, builtin, Builtin.len_, run_underlying hte, hxc, goInt], Rv_mkc ⟨rfl, rfl⟩⟩
        · rename_i b ver off len
          cases hb : η[b]? with
          | none => simp [hb] at h
          | some blk =>
            simp [hb] at h
            obtain ⟨hv, rfl⟩ := h
            obtain ⟨a, cap, hxc, _⟩ := sl_open hx hb hv
            exact ⟨_, by simp [execOp, resolve, invoke, builtin, Builtin.len_, run_underlying hte, hxc, goInt], Rv_mkc ⟨rfl, rfl⟩⟩
    · rename_i x r
      obtain ⟨k, a, e1, k', n, rfl, hrun⟩ := foldl_max (P := P) (w := w) hρ r _ v (fun y hy => by
        cases hx : ρ x <;> rw [hx] at hy <;> simp at hy
        exact ⟨_, _, hy.symm⟩) h
      have hx := hρ x
      have hxc : ρc x = .int k a := by
        cases hxx : ρ x <;> rw [hxx] at e1 hx <;> simp at e1
        obtain ⟨rfl, rfl⟩ := e1
        exact Rv_int hx
      exact ⟨_, by simp [execOp, resolve, invoke, builtin, Builtin.max_, hxc, hrun], Rv_mkc ⟨rfl, rfl⟩⟩
    · rename_i x r
      obtain ⟨k, a, e1, k', n, rfl, hrun⟩ := foldl_min (P := P) (w := w) hρ r _ v (fun y hy => by
        cases hx : ρ x <;> rw [hx] at hy <;> simp at hy
        exact ⟨_, _, hy.symm⟩) h
      have hx := hρ x
      have hxc : ρc x = .int k a := by
        cases hxx : ρ x <;> rw [hxx] at e1 hx <;> simp at e1
        obtain ⟨rfl, rfl⟩ := e1
        exact Rv_int hx
      exact ⟨_, by simp [execOp, resolve, invoke, builtin, Builtin.min_, hxc, hrun], Rv_mkc ⟨rfl, rfl⟩⟩
    · cases h
  | _ => simp [pv] at h

end
end Go.Proofs.Ytffefndnnbcplaa
