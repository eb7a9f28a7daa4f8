/- The abstract logic: an operation that only looks yields what the abstract one says. -/
import Derived.Test.YtffefndnnbcplaaAbE
namespace Go.Proofs.Ytffefndnnbcplaa
open Go

section
variable {P : Program} {lo : Nat} {W : Wit} {η : List Blk} {lam : Nat → LB} {κ : Nat → Nat} {w : World}

theorem sl_open {b ver off len : Nat} {u : Value} {blk : Blk} (h : Rv lo W η lam κ (.sl b ver off len) u) (hb : η[b]? = some blk) (hv : ver = blk.ver) : ∃ a cap, u = .slice (some a) len cap ∧ len ≤ cap ∧ (cap = 0 ∨ (a = (W.ι b).add off ∧ (lo ≤ b → off + cap * blk.sz ≤ W.cs b))) := by
  obtain ⟨blk', h0, _, h2⟩ := Rv_sl h
  rw [hb] at h0
  obtain rfl := Option.some.inj h0
  exact h2 hv

theorem ptr_open {b ver off : Nat} {u : Value} (h : Rv lo W η lam κ (.ptr b ver off) u) (hc : cur η b ver = true) : u = .pointer (some ((W.ι b).add off)) := by
  obtain ⟨blk, h0, _, h2⟩ := Rv_ptr h
  unfold cur at hc
  rw [h0] at hc
  exact h2 (by simpa using hc)

theorem foldl_max {ρ : Operand → AV} {ρc : Operand → Value} (hρ : ∀ x, Rv lo W η lam κ (ρ x) (ρc x)) : ∀ (r : List Operand) (acc : Option AV) (v : AV), (∀ x, acc = some x → ∃ k n, x = .int k n) →
    r.foldl (maxStep ρ) acc = some v →
    ∃ k a, acc = some (.int k a) ∧ ∃ k' n, v = .int k' n ∧ ((r.map ρc).foldlM Builtin.max2 (.int k a)).run P w = .ok (.int k' n) w
  | [], acc, v, hacc, h => by
    simp only [List.foldl_nil] at h
    obtain ⟨k, n, rfl⟩ := hacc v h
    exact ⟨k, n, h, k, n, rfl, by simp⟩
  | y :: r, acc, v, hacc, h => by
    simp only [List.foldl_cons] at h
    have nn : ∀ (r : List Operand), r.foldl (maxStep ρ) none = (none : Option AV) := by
      intro r; induction r with
      | nil => rfl
      | cons z r ih => simpa [maxStep] using ih
    cases acc with
    | none => simp only [maxStep] at h; rw [nn] at h; cases h
    | some x =>
      obtain ⟨k, a, rfl⟩ := hacc x rfl
      cases hy : ρ y with
      | int k2 b =>
        simp only [maxStep, hy] at h
        obtain ⟨k3, a3, e3, k', n, rfl, hrun⟩ := foldl_max hρ r _ v (fun x hx => by cases hx; exact ⟨_, _, rfl⟩) h
        cases e3
        have hc := hρ y
        rw [hy] at hc
        have := Rv_int hc
        refine ⟨k, a, rfl, k', n, rfl, ?_⟩
        simp only [List.map_cons, List.foldlM_cons, this, Builtin.max2]
        simpa using hrun
      | _ => simp only [maxStep, hy] at h; rw [nn] at h; cases h

theorem foldl_min {ρ : Operand → AV} {ρc : Operand → Value} (hρ : ∀ x, Rv lo W η lam κ (ρ x) (ρc x)) : ∀ (r : List Operand) (acc : Option AV) (v : AV), (∀ x, acc = some x → ∃ k n, x = .int k n) →
    r.foldl (minStep ρ) acc = some v →
    ∃ k a, acc = some (.int k a) ∧ ∃ k' n, v = .int k' n ∧ ((r.map ρc).foldlM Builtin.min2 (.int k a)).run P w = .ok (.int k' n) w
  | [], acc, v, hacc, h => by
    simp only [List.foldl_nil] at h
    obtain ⟨k, n, rfl⟩ := hacc v h
    exact ⟨k, n, h, k, n, rfl, by simp⟩
  | y :: r, acc, v, hacc, h => by
    simp only [List.foldl_cons] at h
    have nn : ∀ (r : List Operand), r.foldl (minStep ρ) none = (none : Option AV) := by
      intro r; induction r with
      | nil => rfl
      | cons z r ih => simpa [minStep] using ih
    cases acc with
    | none => simp only [minStep] at h; rw [nn] at h; cases h
    | some x =>
      obtain ⟨k, a, rfl⟩ := hacc x rfl
      cases hy : ρ y with
      | int k2 b =>
        simp only [minStep, hy] at h
        obtain ⟨k3, a3, e3, k', n, rfl, hrun⟩ := foldl_min hρ r _ v (fun x hx => by cases hx; exact ⟨_, _, rfl⟩) h
        cases e3
        have hc := hρ y
        rw [hy] at hc
        have := Rv_int hc
        refine ⟨k, a, rfl, k', n, rfl, ?_⟩
        simp only [List.map_cons, List.foldlM_cons, this, Builtin.min2]
        simpa using hrun
      | _ => simp only [minStep, hy] at h; rw [nn] at h; cases h

theorem slice_ok {t e : TypeId} {k b ver off len : Nat} {blk : Blk} {u : Value} (ht : elemB P t = some (e, k)) (hb : η[b]? = some blk) (hk : blk.sz = k) (hv : ver = blk.ver) (hu : Rv lo W η lam κ (.sl b ver off len) u)
    {i j : Int} (h0 : 0 ≤ i) (h1 : i ≤ j) (h2 : j ≤ len) {lc hc : Option Value} (hl : (lc = none ∧ i = 0) ∨ ∃ kk, lc = some (.int kk i)) (hh : (hc = none ∧ j = len) ∨ ∃ kk, hc = some (.int kk j)) :
    ∃ r, (Instr.sliceAt t u lc hc none).run P w = .ok r w ∧ Rv lo W η lam κ (.sl b ver (off + i.toNat * k) (j.toNat - i.toNat)) r := by
  obtain ⟨a, cap, rfl, hle, hcap⟩ := sl_open hu hb hv
  obtain ⟨hte, hse⟩ := elemB_spec ht
  have bound : ∀ (kk : IntKind) (x : Int) (y : Nat) (code : BoundsCode), 0 ≤ x → x ≤ y → (Instr.sliceBound (.int kk x) y code).run P w = .ok x.toNat w := by
    intro kk x y code hx hy
    simp [Instr.sliceBound, asIntOf, hx, hy]
  have hbounds : (Instr.sliceBounds true len cap lc hc none).run P w = .ok (i.toNat, j.toNat, cap) w := by
    have e1 : (match hc with | some v => Instr.sliceBound v cap (if true then BoundsCode.sliceAcap else BoundsCode.sliceAlen) | none => pure len : Sem Nat).run P w = .ok j.toNat w := by
      rcases hh with ⟨rfl, rfl⟩ | ⟨kk, rfl⟩
      · simp
      · exact bound kk j cap _ (by omega) (by omega)
    have e2 : (match lc with | some v => Instr.sliceBound v j.toNat BoundsCode.sliceB | none => pure 0 : Sem Nat).run P w = .ok i.toNat w := by
      rcases hl with ⟨rfl, rfl⟩ | ⟨kk, rfl⟩
      · simp
      · exact bound kk i j.toNat _ h0 (by omega)
    rcases hh with ⟨rfl, rfl⟩ | ⟨kk, rfl⟩ <;> rcases hl with ⟨rfl, rfl⟩ | ⟨kk', rfl⟩ <;> simp_all [Instr.sliceBounds]
  refine ⟨.slice (if cap = i.toNat then some a else (some a).map (·.add (i.toNat * k))) (j.toNat - i.toNat) (cap - i.toNat), ?_, ?_⟩
  · simp [Instr.sliceAt, Instr.slice, run_underlying hte, hbounds, szB_run hse]
  · refine Rv_mkc ⟨rfl, blk, hb, by omega, fun _ => ?_⟩
    by_cases e : cap = i.toNat
    · rw [if_pos e]
      exact ⟨a, cap - i.toNat, rfl, by omega, .inl (by omega)⟩
    · rw [if_neg e]
      refine ⟨_, cap - i.toNat, rfl, by omega, ?_⟩
      rcases hcap with rfl | ⟨rfl, hcs⟩
      · left; omega
      · right
        refine ⟨Deep.add_add _ _ _, fun hlo => ?_⟩
        have := hcs hlo
        subst hk
        have hi : i.toNat ≤ cap := by omega
        have : i.toNat * blk.sz + (cap - i.toNat) * blk.sz = cap * blk.sz := by rw [← Nat.add_mul]; congr 1; omega
        omega

end
end Go.Proofs.Ytffefndnnbcplaa
