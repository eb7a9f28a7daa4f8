/- The abstract logic: calls; all operations in one theorem; regions in the order of the text; functions. -/
import Derived.Test.YtffefndnnbcplaaAbL
namespace Go.Proofs.Ytffefndnnbcplaa
open Go

section
variable {P : Program} {lo h0 : Nat} {S : Nat → Prop} {W : Wit} {κ : Nat → Nat} {st : St} {a : Act} {w : World} {o : Oper} {K : AV → (Nat → LB) → List Blk → Prop} {Q : Exit → Act → World → Prop}

theorem Rv_noLoc {η : List Blk} {lam : Nat → LB} {x : AV} {u : Value} (h : Rv lo W η lam κ x u) (hx : noLocV x = true) : Rv lo W η lam0 kap0 x u := by
  have one : ∀ (y : AV) (v : Value), noLoc y = true → Rc lo W η lam κ y v → Rc lo W η lam0 kap0 y v := by
    intro y v hy hr
    cases y <;> first | exact hr | (simp [noLoc] at hy)
  have one1 : ∀ (y : AV) (v : Value), noLoc1 y = true → R1 lo W η lam κ y v → R1 lo W η lam0 kap0 y v := by
    intro y v hy hr
    rcases hr with ⟨l, arr, rfl, rfl, ha⟩ | hr
    · refine .inl ⟨l, arr, rfl, rfl, ha.1, fun i z hz => ?_⟩
      obtain ⟨u, h1, h2⟩ := ha.2 i z hz
      exact ⟨u, h1, one z u (List.all_eq_true.1 (by simpa [noLoc1] using hy) z (List.mem_of_getElem? hz)) h2⟩
    · refine .inr ?_
      cases y <;> first | exact hr | (simp [noLoc1] at hy; done) | exact hr.2.elim
  rcases h with rfl | ⟨l, arr, rfl, rfl, ha⟩ | h
  · exact .inl rfl
  · refine .inr (.inl ⟨l, arr, rfl, rfl, ha.1, fun i z hz => ?_⟩)
    obtain ⟨u, h1, h2⟩ := ha.2 i z hz
    exact ⟨u, h1, one1 z u (List.all_eq_true.1 (by simpa [noLocV] using hx) z (List.mem_of_getElem? hz)) h2⟩
  · refine .inr (.inr (one1 _ _ ?_ h))
    cases x <;> first | exact hx | (rcases h with ⟨_, _, h, _⟩ | h; cases h; exact h.2.elim)

theorem call_ok (s : Sim lo h0 S W κ st a w) (hd : dstOk o.dst st.n) {c : Call} {f : Operand} (hop : o.op = .call c) (hc : c.callee = .value f) {g : Nat} {caps : List AV} (hf : ev st f = .fn g caps)
    (hn : (c.args.toList.map (ev st)).all noLoc1 = true) (h : AF P lo g (c.args.toList.map (ev st) ++ caps) st.η fun v η' => K v st.lam η') : o.wp P a w (OP lo h0 S W w o.dst st K) Q := by
  obtain ⟨⟨fn, hfn, hname, hbody⟩, hAF⟩ := h
  have hfr := ev_ok s f
  rw [hf] at hfr
  obtain ⟨arr, hfc, harr⟩ := Rv_fn hfr
  have hrun : (execOp a.eval o).run P w = .ok (.enter g (c.args.map a.eval ++ arr)) w := by
    have hname' : ¬ (fn.name = "runtime.NumGoroutine") := by simpa using hname
    have hbody' : ¬ (fn.body = none) := by intro e; rw [e] at hbody; cases hbody
    simp [execOp, hop, resolve, hc, hfc, Deferred.ofValue, invoke, callFunc, hfn, hname', hbody']
  have hargs : RL (Rv lo W st.η lam0 kap0) (c.args.toList.map (ev st) ++ caps) (c.args.map a.eval ++ arr) := by
    refine ⟨by simp [harr.1], fun i x hx => ?_⟩
    by_cases hi : i < c.args.size
    · rw [List.getElem?_append_left (by simpa using hi), List.getElem?_map, Array.getElem?_toList] at hx
      rw [Array.getElem?_eq_getElem hi] at hx
      simp only [Option.map_some, Option.some.injEq] at hx
      refine ⟨a.eval c.args[i], by rw [Array.getElem?_append_left (by simpa using hi)]; simp [hi], ?_⟩
      subst hx
      have h1 := List.all_eq_true.1 hn (ev st c.args[i]) (List.mem_map.2 ⟨c.args[i], by simp, rfl⟩)
      refine Rv_noLoc (ev_ok s _) ?_
      cases hx : ev st c.args[i] <;> rw [hx] at h1 <;> first | exact h1 | (simp [noLoc1] at h1)
    · rw [List.getElem?_append_right (by simpa using hi)] at hx
      simp only [List.length_map, Array.length_toList] at hx
      obtain ⟨u, h1, h2⟩ := harr.2 _ x hx
      refine ⟨u, by rw [Array.getElem?_append_right (by simpa using hi)]; simpa using h1, ?_⟩
      cases x <;> first | exact h2.2.elim | skip
      exact Rv_mkc h2
  unfold Oper.wp
  rw [hrun]
  refine (hAF W w _ s.hs hargs).mono ?_
  rintro e w' ⟨v, η', W', u, rfl, hK, hv, hs', hst, hown, hfr'⟩
  have hlt : ∀ t, 0 < (st.lam t).ver → w'.heap[κ t]? = w.heap[κ t]? := fun t ht => hfr'.block _ (s.ls.lt ht) (by
    rintro ⟨b, hb, hbl, hcs, he⟩
    exact s.ls.lh t b _ ht (List.getElem?_eq_getElem hbl) (by rw [if_pos hb]; exact hcs) he)
  have hls' : LSim lo W' η' st.lam κ w' := by
    refine ⟨fun t ht => ?_, s.ls.ll, fun t b bl ht hb hcc => ?_⟩
    · obtain ⟨cr, T, h1, h2⟩ := s.ls.row t ht
      exact ⟨cr, T, by rw [hlt t ht]; exact h1, h2.mono fun _ _ hr => Rc_mono hst (.refl _ _) hr⟩
    · split at hcc
      · rename_i hlb
        rcases hown b hlb (List.getElem?_eq_some_iff.1 hb).1 hcc with ⟨b0, h1, h2, h3, h4⟩ | h5
        · rw [← h4]; exact s.ls.lh t b0 _ ht (List.getElem?_eq_getElem h2) (by rw [if_pos h1]; exact h3)
        · have := s.ls.lt ht; omega
      · rename_i hlb
        obtain ⟨p1, p2, p3⟩ := hst.pre b (by omega)
        rw [p2]
        rw [p1] at hb
        exact s.ls.lh t b bl ht hb (by rw [if_neg hlb]; exact hcc)
  refine ⟨v, st.lam, η', W', κ, hK, ?_, hst, ⟨hfr'.os, hfr'.tape, hfr'.output, hfr'.size, fun k hk hS => hfr'.block k (Nat.lt_of_lt_of_le hk s.h0le) ?_⟩⟩
  · refine Sim_put s hd hs' hls' hst (.refl _ _) hfr'.size (fun b hb hbl hcs => ?_) s.lS (Rv_lam0 hv)
    rcases hown b hb hbl hcs with ⟨b0, h1, h2, h3, h4⟩ | h5
    · rw [← h4]; exact s.oS b0 h1 h2 h3
    · right; exact Nat.le_trans s.h0le h5
  · rintro ⟨b, hb, hbl, hcs, rfl⟩
    rcases s.oS b hb hbl hcs with h1 | h1
    · exact hS h1
    · omega

theorem AEff_ok (s : Sim lo h0 S W κ st a w) (hd : dstOk o.dst st.n) {H : List Nat} (h : AEff P lo H o (ev st) st.lam st.η K) : o.wp P a w (OP lo h0 S W w o.dst st K) Q := by
  have dflt : (match pv P o (ev st) st.lam st.η with | some v => K v st.lam st.η | none => False) → o.wp P a w (OP lo h0 S W w o.dst st K) Q := by
    intro h
    split at h
    · rename_i v hv; exact looks_ok s hd hv h
    · exact h.elim
  cases hop : o.op with
  | alloc T =>
    unfold AEff at h
    rw [hop] at h
    simp only at h
    split at h
    · rename_i z hz
      obtain ⟨zv, h1, h2⟩ := alloc_run (a := a) (w := w) hop hz
      exact newVar_ok s hd h1 (zero_rel h2) h
    · exact h.elim
  | box T x =>
    unfold AEff at h
    rw [hop] at h
    simp only at h
    obtain ⟨hp, h⟩ := h
    exact newVar_ok s hd (box_run hop) (cells_rel (Rv_1 (ev_ok s x) (by intro e; rw [e] at hp; simp [plainV] at hp) (by intro l e; rw [e] at hp; simp [plainV] at hp))) h
  | store t x y => exact store_ok s hd hop h
  | makeSlice t x y => exact makeSlice_ok s hd hop h
  | buildSlice t n ps => exact buildSlice_ok s hd hop h
  | call c =>
    unfold AEff at h
    rw [hop] at h
    simp only at h
    split at h
    · rename_i f hcf
      split at h
      · rename_i g caps hg
        exact call_ok s hd hop hcf hg h.1 h.2
      · exact h.elim
    · rename_i hcb
      split at h
      · rename_i sx x t t' hargs htys
        obtain ⟨callee, cargs, ctys⟩ := c
        obtain ⟨cargs⟩ := cargs
        obtain ⟨ctys⟩ := ctys
        simp only at hcb hargs htys
        subst hcb hargs htys
        split at h
        · rename_i e k e' k' he he'
          split at h
          · rename_i by_ new hby hrow
            obtain ⟨⟨h1, h2, h3, h4⟩, h⟩ := h
            cases hz : zeroB P e with
            | none => rw [hz] at h3; cases h3
            | some z =>
              rw [hz] at h3
              simp only [Option.map_some, Option.some.injEq] at h3
              have hss := ev_ok s sx
              have hrun : (execOp a.eval o).run P w = ((Builtin.append_ #[t, t'] o.type #[a.eval sx, a.eval x]).run P w).andThen fun v w' => .ok (.value v) w' := by
                simp [execOp, hop, resolve, invoke, builtin]
              split at h
              · rename_i hemp
                rw [hemp] at hss
                obtain ⟨b0, hb0⟩ := Rv_emp hss
                rw [hb0] at hrun
                exact append_none_ok s hd he he' hby hz h3 (ev_ok s x) hrow hrun h.1.1 h.1.2 (fun e => by cases e) h.2
              · rename_i hemp
                rw [hemp] at hss
                rw [Rv_nils hss] at hrun
                exact append_none_ok s hd he he' hby hz h3 (ev_ok s x) hrow hrun h.1.2.1 h.1.2.2 (fun _ => h.1.1) h.2
              · rename_i b ver off len hsl
                rw [hsl] at hss
                split at h
                · rename_i blk hb
                  obtain ⟨⟨g1, rfl, rfl, g4, g5, g6, g7, g8⟩, h⟩ := h
                  exact append_own_ok s hd he he' hby hz h3 h2 (ev_ok s x) hrow hb g1 hss hrun g4 g5 g6 g7 g8 h
                · exact h.elim
              · exact h.elim
          · exact h.elim
        · exact h.elim
      · exact h.elim
    · exact dflt h
  | _ => (unfold AEff at h; rw [hop] at h; exact dflt h)

end
end Go.Proofs.Ytffefndnnbcplaa
