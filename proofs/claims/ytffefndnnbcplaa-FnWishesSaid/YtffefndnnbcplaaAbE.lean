/- The abstract logic: every operation that only looks, in one theorem. -/
import Derived.Test.YtffefndnnbcplaaAbD
import Derived.Laws.StructEq
namespace Go.Proofs.Ytffefndnnbcplaa
open Go

section
variable {P : Program} {lo : Nat} {W : Wit} {η : List Blk} {lam : Nat → LB} {κ : Nat → Nat} {w : World}

theorem elemB_spec {t e : TypeId} {k : Nat} (h : elemB P t = some (e, k)) : P.underlying t = some (.slice e) ∧ szB P e = some k := by
  unfold elemB at h
  split at h
  · rename_i e' hu
    cases hs : szB P e' with
    | none => rw [hs] at h; cases h
    | some s => rw [hs] at h; simp at h; obtain ⟨rfl, rfl⟩ := h; exact ⟨hu, hs⟩
  · cases h

theorem fieldB_spec {t : TypeId} {f o s : Nat} (h : fieldB P t f = some (o, s)) : ∃ fs x, P.underlying t = some (.struct fs) ∧ fs[f]? = some x ∧ szB P x.type = some s ∧ x.offset = o := by
  unfold fieldB at h
  split at h
  · rename_i fs hu
    cases hx : fs[f]? with
    | none => rw [hx] at h; cases h
    | some x =>
      rw [hx] at h
      simp only [Option.bind_some] at h
      cases hs : szB P x.type with
      | none => rw [hs] at h; cases h
      | some s' => rw [hs] at h; simp at h; exact ⟨fs, x, hu, hx, by rw [hs, h.2], h.1⟩
  · cases h

theorem mapM_run {α β : Type} (f : α → Sem β) (g : α → Option β) (hf : ∀ x y, g x = some y → (f x).run P w = .ok y w) : ∀ (l : List α) (r : List β), l.mapM g = some r → (l.mapM f).run P w = .ok r w
  | [], r, h => by simp at h; subst h; simp
  | x :: l, r, h => by
    rw [List.mapM_cons] at h ⊢
    cases hx : g x with
    | none => rw [hx] at h; simp at h
    | some y =>
      rw [hx] at h
      cases hl : l.mapM g with
      | none => rw [hl] at h; simp at h
      | some r' =>
        rw [hl] at h
        simp at h
        subst h
        have ih := mapM_run f g hf l r' hl
        simp [hf x y hx, ih]

theorem build_ok {t : TypeId} {z : List AV} {pl : List (Nat × Nat)} {parts : List (Nat × AV)} {partsc : Array (Nat × Value)} {res : List AV} (hz : zeroB P t = some z) (hp : placesB P t = some pl)
    (hn : partsc.toList.map (·.1) = parts.map (·.1)) (hrel : ∀ (j : Nat) p q, parts[j]? = some p → partsc.toList[j]? = some q → Rv lo W η lam κ p.2 q.2) (h : fillA (fun (i : Nat) => pl[i]?) z parts = some res) :
    ∃ u, (Instr.build t partsc).run P w = .ok u w ∧ Rv lo W η lam κ (.agg res) u := by
  obtain ⟨zv, i, hzr, _, _, hzz⟩ := zeroB_run (w := w) hz
  unfold placesB at hp
  split at hp
  · rename_i fs hu
    have hm := mapM_run (P := P) (w := w) (fun f : Field => (do pure (f.offset, ← sizeOf f.type) : Sem (Nat × Nat))) _ (fun f y hy => by
      cases hs : szB P f.type with
      | none => rw [hs] at hy; cases hy
      | some s => rw [hs] at hy; simp at hy; subst hy; simp [szB_run hs]) fs.toList pl hp
    obtain ⟨rc, h1, h2⟩ := fill_ok hn hrel (zero_rel hzz) h
    refine ⟨.agg rc, ?_, Rv_mkagg h2⟩
    have hm' : (fs.mapM fun f => (do pure (f.offset, ← sizeOf f.type) : Sem (Nat × Nat))).run P w = .ok pl.toArray w := by
      rw [Array.mapM_eq_mapM_toList]
      simp only [Sem.run_map, hm, Result.andThen_ok]
    have hg : (fun x => pl.toArray[x]?) = (fun (i : Nat) => pl[i]?) := by funext x; simp
    simp only [Instr.build, Sem.run_bind, hzr, Result.andThen_ok, run_underlying hu, hm', hg, h1, Sem.run_pure]
  · cases hp

theorem intsOf_rel : ∀ {l : List AV} {a : List (IntKind × Int)} {arr : List Value}, intsOf l = some a → (∀ (i : Nat) (x : AV), l[i]? = some x → ∃ u, arr[i]? = some u ∧ Rc lo W η lam κ x u) → arr.length = l.length → arr = a.map fun p => .int p.1 p.2
  | [], a, [], h, _, _ => by simp [intsOf] at h; subst h; rfl
  | [], _, _ :: _, _, _, hl => by simp at hl
  | _ :: _, _, [], _, _, hl => by simp at hl
  | x :: l, a, u :: arr, h, hr, hl => by
    cases x <;> simp only [intsOf] at h <;> try (cases h; done)
    rename_i k n
    cases hi : intsOf l with
    | none => rw [hi] at h; cases h
    | some a' =>
      rw [hi] at h
      simp at h
      subst h
      obtain ⟨u', hu', hrel⟩ := hr 0 _ rfl
      simp at hu'
      subst hu'
      obtain rfl : u = .int k n := hrel.2
      rw [intsOf_rel hi (fun i x hx => hr (i + 1) x (by simpa using hx)) (by simpa using hl)]
      rfl

theorem eqFields_ok (d : Nat) {a b : List (IntKind × Int)} (hk : a.map (·.1) = b.map (·.1)) : ∀ (fs : List Field) (i : Nat), (∀ (j : Nat) f, fs[j]? = some f → f.offset = i + j ∧ f.name ≠ "_" ∧ ∃ k, P.underlying f.type = some (.int k)) →
    a.length = i + fs.length → (Op.eqFields (d + 1) (a.map fun p => Value.int p.1 p.2).toArray (b.map fun p => Value.int p.1 p.2).toArray fs).run P w = .ok (sameInts (a.drop i) (b.drop i)) w
  | [], i, _, hl => by
    have hlb : b.length = a.length := by have := congrArg List.length hk; simpa using this.symm
    rw [List.drop_of_length_le (by simp at hl; omega), List.drop_of_length_le (by simp at hl; omega)]
    rfl
  | f :: fs, i, hf, hl => by
    have hlb : b.length = a.length := by have := congrArg List.length hk; simpa using this.symm
    obtain ⟨ho, hn, k, hu⟩ := hf 0 f rfl
    simp only [List.length_cons] at hl
    have hia : i < a.length := by omega
    have hib : i < b.length := by omega
    have hg : (isAgg f.type).run P w = .ok false w := by simp [isAgg, run_underlying hu]
    have pa : (part f.type (a.map fun p => Value.int p.1 p.2).toArray f.offset).run P w = .ok (.int a[i].1 a[i].2) w := by
      simp [part, hg, ho, hia]
    have pb : (part f.type (b.map fun p => Value.int p.1 p.2).toArray f.offset).run P w = .ok (.int a[i].1 b[i].2) w := by
      have : a[i].1 = b[i].1 := by
        have := congrArg (fun l => l[i]?) hk
        simpa [hia, hib] using this
      simp [part, hg, ho, hib, this]
    have ih := eqFields_ok d hk fs (i + 1) (fun j g hg => by obtain ⟨h1, h2⟩ := hf (j + 1) g (by simpa using hg); exact ⟨by omega, h2⟩) (by omega)
    simp only [Op.eqFields, hn, ne_eq, not_false_eq_true, if_true, Sem.run_bind, pa, pb, Result.andThen_ok, run_equalIn_int _ _ _ _ _ _ _ hu, Sem.run_ite, Sem.run_pure, ih]
    rw [List.drop_eq_getElem_cons hia, List.drop_eq_getElem_cons hib]
    simp only [sameInts, List.map_cons]
    by_cases e : a[i].2 = b[i].2
    · simp [e]
    · simp [e]

theorem structEq_ok {t : TypeId} (hp : plainStructB P t = true) {l l' : List AV} {a b : List (IntKind × Int)} {u u' : Array Value} (hr : RL (Rc lo W η lam κ) l u) (hr' : RL (Rc lo W η lam κ) l' u') (ha : intsOf l = some a) (hb : intsOf l' = some b)
    (hn : nfieldsB P t = some a.length) (hk : a.map (·.1) = b.map (·.1)) : (Op.equal t (.agg u) (.agg u')).run P w = .ok (sameInts a b) w ∧ P.eqGuardType P.depth t = false := by
  unfold plainStructB at hp
  split at hp
  · rename_i fs hu
    simp only [Bool.and_eq_true, Bool.not_eq_true'] at hp
    obtain ⟨⟨h1, h2⟩, h3⟩ := hp
    refine ⟨?_, h3⟩
    have eu : u = (a.map fun p => Value.int p.1 p.2).toArray := by
      have := intsOf_rel (arr := u.toList) ha (fun i x hx => by obtain ⟨v, hv, hr⟩ := hr.2 i x hx; exact ⟨v, by simpa using hv, hr⟩) (by simpa using hr.1)
      rw [← this]
    have eu' : u' = (b.map fun p => Value.int p.1 p.2).toArray := by
      have := intsOf_rel (arr := u'.toList) hb (fun i x hx => by obtain ⟨v, hv, hr⟩ := hr'.2 i x hx; exact ⟨v, by simpa using hv, hr⟩) (by simpa using hr'.1)
      rw [← this]
    have hfs : P.fieldsOf t = fs := by simp [Program.fieldsOf, hu]
    unfold nfieldsB at hn
    rw [hu] at hn
    simp only [Option.some.injEq] at hn
    unfold Op.equal Op.maxDepth
    rw [run_equalIn_struct w 9999 t u u' (by rw [hfs]; exact hu) h2, eu, eu', hfs]
    have := eqFields_ok (P := P) (w := w) 9998 hk fs.toList 0 (fun j f hj => by
      have hj' : fs[j]? = some f := by simpa using hj
      have hlt : j < fs.size := (Array.getElem?_eq_some_iff.1 hj').1
      have := List.all_eq_true.1 h1 j (List.mem_range.2 hlt)
      simp only [hj', Bool.and_eq_true, beq_iff_eq, bne_iff_ne] at this
      obtain ⟨⟨g1, g2⟩, g3⟩ := this
      refine ⟨by omega, g2, ?_⟩
      split at g3
      · rename_i k hk; exact ⟨k, hk⟩
      · cases g3) (by simp [← hn])
    simpa using this
  · cases hp

end
end Go.Proofs.Ytffefndnnbcplaa
