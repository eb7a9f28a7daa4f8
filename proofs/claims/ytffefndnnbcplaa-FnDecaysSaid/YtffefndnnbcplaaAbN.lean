/- The abstract logic: regions, in the order of the text. -/
import Derived.Test.YtffefndnnbcplaaAbM
namespace Go.Proofs.Ytffefndnnbcplaa
open Go

/-- Behind operations. -/
def SK (lo h0 : Nat) (S : Nat → Prop) (W0 : Wit) (η0 : List Blk) (w0 : World) (K : St → Prop) : Act → World → Prop := fun a' w' =>
  ∃ st' W' κ', K st' ∧ Sim lo h0 S W' κ' st' a' w' ∧ HStep lo η0 st'.η W0 W' ∧ Fr h0 S w0 w'

section
variable {P : Program} {lo h0 : Nat} {S : Nat → Prop} {W : Wit} {κ : Nat → Nat} {st : St} {a : Act} {w : World} {o : Oper} {Q : Exit → Act → World → Prop} {ops : Array Oper} {H : List Nat} {K : St → Prop}

theorem SK.trans {W0 W1 : Wit} {η0 η1 : List Blk} {w0 w1 : World} {a' : Act} {w' : World} (h : HStep lo η0 η1 W0 W1) (hf : Fr h0 S w0 w1) (k : SK lo h0 S W1 η1 w1 K a' w') : SK lo h0 S W0 η0 w0 K a' w' :=
  let ⟨st', W', κ', q, s, h', f'⟩ := k
  ⟨st', W', κ', q, s, h.trans h', hf.trans f'⟩
theorem SK.mono {W0 : Wit} {η0 : List Blk} {w0 : World} {a' : Act} {w' : World} {K' : St → Prop} (h : ∀ st, K st → K' st) (k : SK lo h0 S W0 η0 w0 K a' w') : SK lo h0 S W0 η0 w0 K' a' w' :=
  let ⟨st', W', κ', q, s, h', f'⟩ := k
  ⟨st', W', κ', h _ q, s, h', f'⟩

theorem put_η (dst : Option Tmp) (v : AV) (st : St) : (put dst v st).η = st.η := by cases dst <;> rfl
theorem put_lam (dst : Option Tmp) (v : AV) (st : St) : (put dst v st).lam = st.lam := by cases dst <;> rfl
theorem put_n (dst : Option Tmp) (v : AV) (st : St) : (put dst v st).n = st.n := by cases dst <;> rfl

theorem AOp_ok (s : Sim lo h0 S W κ st a w) (h : AOp P lo H o K st) : o.wp P a w (SK lo h0 S W st.η w K) Q := by
  refine Oper.wp_mono ?_ (AEff_ok s h.1 h.2)
  rintro a' w' ⟨v, lam', η', W', κ', hK, s', hh, hf⟩
  exact ⟨_, W', κ', hK, s', by rw [put_η]; exact hh, hf⟩

theorem Rv_skip : Rv lo W st.η st.lam κ skipV undef := .inr (.inl ⟨[], #[], rfl, rfl, rfl, fun i x hx => by simp at hx⟩)
theorem yielded_ok (s : Sim lo h0 S W κ st a w) {j : Nat} {want b : Bool} (h : yieldedA ops st j want = some b) : (yielded ops a.tmps j == some want) = b := by
  unfold yieldedA at h
  cases hd : (ops[j]?).bind (·.dst) with
  | none => rw [hd] at h; cases h
  | some t =>
    rw [hd] at h
    simp only at h
    by_cases ht : t < st.n
    · rw [if_pos ht] at h
      have htm := s.tm t ht
      have hlt : t < a.tmps.size := by rw [s.ts]; exact ht
      split at h
      · rename_i b' hb
        rw [hb] at htm
        have := Rv_bool htm
        unfold yielded
        rw [hd]
        have e : a.tmps[t]? = some (.bool b') := by
          rw [Array.getElem?_eq_getElem hlt]
          simpa [hlt] using this
        simp only [Option.bind_some, e]
        simp only [Option.some.injEq] at h
        rw [← h]
        cases b' <;> cases want <;> rfl
      · rename_i hb
        rw [hb] at htm
        have this : a.tmps.getD t undef = .tuple #[] := by
          rcases htm with h1 | ⟨l, arr, h1, h2, h3⟩ | h1
          · cases h1
          · injection h1 with h1
            subst h1
            have : arr = #[] := Array.size_eq_zero_iff.1 h3.1
            rw [h2, this]
          · rcases h1 with ⟨l, arr, h1, _⟩ | ⟨_, h1⟩
            · cases h1
            · exact h1.elim
        unfold yielded
        rw [hd]
        have e : a.tmps[t]? = some (.tuple #[]) := by
          rw [Array.getElem?_eq_getElem hlt]
          simpa [hlt] using this
        simp only [Option.bind_some, e]
        simp only [Option.some.injEq] at h
        rw [← h]
        rfl
      · cases h
    · rw [if_neg ht] at h
      simp at h

theorem AOpG_ok (s : Sim lo h0 S W κ st a w) {i : Nat} (hi : ops[i]? = some o) (h : AOpG P lo H ops o K st) : wpOp P ops Q i (SK lo h0 S W st.η w K) a w := by
  unfold wpOp
  rw [hi]
  simp only
  unfold AOpG at h
  cases hg : o.guard with
  | none =>
    rw [hg] at h
    have : Region.wanted o (yielded ops a.tmps) = true := by simp [Region.wanted, hg]
    rw [if_pos this]
    exact .inl (AOp_ok s h)
  | some jw =>
    obtain ⟨j, want⟩ := jw
    rw [hg] at h
    simp only at h
    cases hy : yieldedA ops st j want with
    | none => rw [hy] at h; exact h.elim
    | some b =>
      rw [hy] at h
      have hyc := yielded_ok (ops := ops) s hy
      cases b with
      | true =>
        have : Region.wanted o (yielded ops a.tmps) = true := by simp only [Region.wanted, hg, hyc]
        rw [if_pos this]
        exact .inl (AOp_ok s h)
      | false =>
        have : ¬ (Region.wanted o (yielded ops a.tmps) = true) := by simp only [Region.wanted, hg, hyc]; exact Bool.false_ne_true
        rw [if_neg this]
        refine ⟨_, W, κ, h.2, ?_, by rw [put_η]; exact .refl _ _ _, .refl _ _ _⟩
        exact Sim_put s h.1 s.hs s.ls (.refl _ _ _) (.refl _ _) (Nat.le_refl _) s.oS s.lS Rv_skip

theorem AOps_ok : ∀ (l : List Oper) (k : Nat) {st : St} {W : Wit} {κ : Nat → Nat} {a : Act} {w : World} {Q : Exit → Act → World → Prop}, (∀ j, l[j]? = ops[k + j]?) → Sim lo h0 S W κ st a w → AOps P lo H ops K l st →
    (∀ a' w', SK lo h0 S W st.η w K a' w' → Q .normal a' w') → wpOps P ops Q (List.range' k l.length) a w
  | [], k, st, W, κ, a, w, Q, _, s, h, hq => by
    simp only [List.length_nil, List.range'_zero, wpOps]
    exact hq _ _ ⟨st, W, κ, h, s, .refl _ _ _, .refl _ _ _⟩
  | o :: l, k, st, W, κ, a, w, Q, hl, s, h, hq => by
    have h0 : ops[k]? = some o := by simpa using (hl 0).symm
    rw [List.length_cons, List.range'_succ, wpOps_cons]
    refine wpOp_mono ?_ (AOpG_ok s h0 h)
    rintro a' w' ⟨st', W', κ', hK, s', hh, hf⟩
    exact AOps_ok l (k + 1) (fun j => by have := hl (j + 1); simpa [Nat.add_assoc, Nat.add_comm 1 j] using this) s' hK (fun a'' w'' hk => hq _ _ (hk.trans hh hf))

theorem AW_region {id : Nat} {Q : Exit → St → Prop} (h : AOps P lo H ops (Q .normal) ops.toList st) : AW P lo (.region id ops false) Q st := by
  intro h0 S W κ a w s
  refine wp_region ?_
  rw [List.range_eq_range', show ops.size = ops.toList.length by simp]
  exact AOps_ok ops.toList 0 (by simp) s h (fun a' w' ⟨st', W', κ', hK, s', hh, hf⟩ => ⟨st', W', κ', hK, s', hh, hf⟩)

theorem AW_cond {c : Operand} {x y : Code} {Q : Exit → St → Prop} {b : Bool} (hc : ev st c = .bool b) (hx : b = true → AW P lo x Q st) (hy : b = false → AW P lo y Q st) : AW P lo (.cond c x y) Q st := by
  intro h0 S W κ a w s
  have hcc := ev_ok s c
  rw [hc] at hcc
  refine wp_cond (Rv_bool hcc) ?_
  cases b
  · exact hy rfl h0 S W κ a w s
  · exact hx rfl h0 S W κ a w s

/-! ### functions -/
def resA1 (P : Program) (st : St) : ResultVar → Option AV
  | .tmp t => some (ev st (.tmp t))
  | .cell t ty => pv P ⟨none, .load ty (.tmp t), 0, "", #[], none⟩ (ev st) st.lam st.η
def resA (P : Program) (rs : List ResultVar) (st : St) : Option AV :=
  match rs.mapM (resA1 P st) with
  | some [v] => some v
  | some l => if l.all plainV then some (.tup l) else none
  | none => none

theorem resA_ok (s : Sim lo h0 S W κ st a w) {fn : Func} {v : AV} (h : resA P fn.results.toList st = some v) : ∃ u, (results fn a.tmps).run P w = .ok u w ∧ Rv lo W st.η st.lam κ v u := by
  have one : ∀ (r : ResultVar) (v : AV), resA1 P st r = some v → ∃ u, (match r with | .tmp t => pure (a.tmps.getD t undef) | .cell b t => do loadVar t (← asAddr (a.tmps.getD b undef)) : Sem Value).run P w = .ok u w ∧ Rv lo W st.η st.lam κ v u := by
    intro r v hv
    cases r with
    | tmp t =>
      simp only [resA1, Option.some.injEq] at hv
      subst hv
      exact ⟨_, rfl, ev_ok s (.tmp t)⟩
    | cell b t =>
      simp only [resA1] at hv
      obtain ⟨r, h1, h2⟩ := load_ok s.hs s.ls (ev_ok s (.tmp b)) rfl hv
      refine ⟨r, ?_, h2⟩
      have h1' : (Instr.loadAt t (a.tmps.getD b undef)).run P w = .ok r w := h1
      show (do loadVar t (← asAddr (a.tmps.getD b undef)) : Sem Value).run P w = .ok r w
      generalize a.tmps.getD b undef = ub at h1' ⊢
      cases ub <;> simp [Instr.loadAt, Instr.sureAddr, asAddr] at h1' ⊢
      rename_i p
      cases p <;> simp at h1' ⊢
      exact h1'
  have many : ∀ (l : List ResultVar) (vs : List AV), l.mapM (resA1 P st) = some vs → ∃ us : List Value, (l.mapM fun r => (match r with | .tmp t => pure (a.tmps.getD t undef) | .cell b t => do loadVar t (← asAddr (a.tmps.getD b undef)) : Sem Value)).run P w = .ok us w ∧
      us.length = vs.length ∧ ∀ (i : Nat) x, vs[i]? = some x → ∃ u, us[i]? = some u ∧ Rv lo W st.η st.lam κ x u := by
    intro l
    induction l with
    | nil => intro vs hv; simp at hv; subst hv; exact ⟨[], by simp, rfl, fun i x hx => by simp at hx⟩
    | cons r l ih =>
      intro vs hv
      rw [List.mapM_cons] at hv
      cases hr : resA1 P st r with
      | none => rw [hr] at hv; simp at hv
      | some v =>
        rw [hr] at hv
        cases hl : l.mapM (resA1 P st) with
        | none => rw [hl] at hv; simp at hv
        | some vs' =>
          rw [hl] at hv
          simp at hv
          subst hv
          obtain ⟨us, h1, h2, h3⟩ := ih vs' hl
          obtain ⟨u, h4, h5⟩ := one r v hr
          refine ⟨u :: us, ?_, by simp [h2], fun i x hx => ?_⟩
          · rw [List.mapM_cons]
            simp only [Sem.run_bind, h4, Result.andThen_ok, h1, Sem.run_pure]
          · cases i with
            | zero => simp at hx; subst hx; exact ⟨u, rfl, h5⟩
            | succ i => exact h3 i x (by simpa using hx)
  unfold resA at h
  cases hm : fn.results.toList.mapM (resA1 P st) with
  | none => rw [hm] at h; cases h
  | some vs =>
    obtain ⟨us, h1, h2, h3⟩ := many _ _ hm
    have hrun : (results fn a.tmps).run P w = .ok (if h : us.toArray.size = 1 then us.toArray[0] else .tuple us.toArray) w := by
      unfold results
      rw [Array.mapM_eq_mapM_toList]
      have h1' := h1
      simp only [Sem.run_bind, Sem.run_map]
      erw [h1']
      simp only [Result.andThen_ok, Sem.run_pure]
    refine ⟨_, hrun, ?_⟩
    rw [hm] at h
    clear hm
    match vs, h, h2, h3 with
    | [x], h, h2, h3 =>
      simp only [Option.some.injEq] at h
      subst h
      obtain ⟨u, hu, hr⟩ := h3 0 x rfl
      have hl1 : us.toArray.size = 1 := by simpa using h2
      rw [dif_pos hl1]
      have e : us.toArray[0] = u := by
        have hlt : 0 < us.length := by simp at h2; omega
        rw [List.getElem?_eq_getElem hlt] at hu
        simpa using hu
      rw [e]; exact hr
    | [], h, h2, h3 =>
      simp only [List.all_nil, if_true, Option.some.injEq] at h
      subst h
      rw [dif_neg (by simp [h2])]
      exact Rv_mktup ⟨by simp [h2], fun i x hx => by simp at hx⟩
    | x :: y :: r, h, h2, h3 =>
      simp only at h
      split at h
      · rename_i hall
        simp only [Option.some.injEq] at h
        subst h
        rw [dif_neg (by simp [h2])]
        refine Rv_mktup ⟨by simp [h2], fun i z hz => ?_⟩
        obtain ⟨u, hu, hr⟩ := h3 i z hz
        refine ⟨u, by simpa using hu, ?_⟩
        have hp := List.all_eq_true.1 hall z (List.mem_of_getElem? hz)
        exact Rv_1 hr (by rintro rfl; simp [plainV] at hp) (by rintro l rfl; simp [plainV] at hp)
      · cases h

/-- The state in which a function begins. -/
def st0 (n : Nat) (args : List AV) (η : List Blk) : St := ⟨n, fun t => args.getD t .und, lam0, η⟩

theorem AF_enter {f : FuncId} {fn : Func} {c : Code} {args : List AV} {η : List Blk} {R : AV → List Blk → Prop} (hf : P.funcs[f]? = some fn) (hb : fn.body = some c) (hname : (fn.name == "runtime.NumGoroutine") = false) (hn : args.length ≤ fn.ntmps)
    (h : AW P lo c (fun e st => (e = .normal ∨ e = .ret) ∧ ∃ v, resA P fn.results.toList st = some v ∧ noLocV v = true ∧ R v st.η) (st0 fn.ntmps args η)) : AF P lo f args η R := by
  refine ⟨⟨fn, hf, hname, by rw [hb]; rfl⟩, fun W w us hs hargs => ?_⟩
  refine calls_of_wp hf hb ?_
  have s : Sim lo w.heap.size (fun k => ∃ b, lo ≤ b ∧ b < η.length ∧ 0 < W.cs b ∧ (W.ι b).block = k) W kap0 (st0 fn.ntmps args η) { tmps := us ++ Array.replicate (fn.ntmps - us.size) undef, defers := [] } w := by
    refine ⟨hs, ⟨fun s hv => absurd hv (by simp [st0, lam0]), fun s _ hv => absurd hv (by simp [st0, lam0]), fun s _ _ hv => absurd hv (by simp [st0, lam0])⟩, ?_, fun t ht => ?_, rfl, Nat.le_refl _, fun b h1 h2 h3 => .inl ⟨b, h1, h2, h3, rfl⟩, fun s hv => absurd hv (by simp [st0, lam0])⟩
    · simp [st0, hargs.1]; omega
    · simp only [st0]
      by_cases hta : t < args.length
      · obtain ⟨u, hu, hr⟩ := hargs.2 t _ (List.getElem?_eq_getElem hta)
        have e : (us ++ Array.replicate (fn.ntmps - us.size) undef).getD t undef = u := by
          have hlt : t < us.size := by rw [hargs.1]; exact hta
          rw [Array.getElem?_eq_getElem hlt] at hu
          have : us[t] = u := Option.some.inj hu
          simp [Array.getElem?_append_left hlt, hlt, this]
        rw [e]
        have e2 : args.getD t .und = args[t] := by simp [List.getD, hta]
        rw [e2]; exact hr
      · have e2 : args.getD t .und = .und := by simp [List.getD, List.getElem?_eq_none (Nat.le_of_not_lt hta)]
        rw [e2]; exact Rv_und _
  refine wp_mono (h _ _ _ _ _ _ s) ?_
  rintro e a' w' ⟨st', W', κ', ⟨he, v, hv, hnl, hR⟩, s', hh, hfr⟩
  obtain ⟨u, hu1, hu2⟩ := resA_ok s' hv
  have fin : a'.defers = [] ∧ ∃ u, (results fn a'.tmps).run P w' = .ok u w' ∧ ∃ v η' W' u', Ending.returned u = .returned u' ∧ R v η' ∧ Rv lo W' η' lam0 kap0 v u' ∧ HSim lo W' η' w' ∧ HStep lo η η' W W' ∧
      (∀ b, lo ≤ b → b < η'.length → 0 < W'.cs b → (∃ b0, lo ≤ b0 ∧ b0 < η.length ∧ 0 < W.cs b0 ∧ (W.ι b0).block = (W'.ι b).block) ∨ w.heap.size ≤ (W'.ι b).block) ∧
      Fr w.heap.size (fun k => ∃ b, lo ≤ b ∧ b < η.length ∧ 0 < W.cs b ∧ (W.ι b).block = k) w w' :=
    ⟨s'.df, u, hu1, v, st'.η, W', u, rfl, hR, Rv_noLoc hu2 hnl, s'.hs, hh, s'.oS, hfr⟩
  rcases he with rfl | rfl
  · exact fin
  · exact fin

end
end Go.Proofs.Ytffefndnnbcplaa
