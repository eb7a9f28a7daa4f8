/- The abstract logic: what operations do depends on their operands alone; looking operations are kept by what only adds. -/
import Derived.Test.YtffefndnnbcplaaAbN
namespace Go.Proofs.Ytffefndnnbcplaa
open Go

section congr
variable {P : Program} {lo : Nat} {H : List Nat} {o : Oper} {ρ ρ' : Operand → AV} {lam : Nat → LB} {η : List Blk}

theorem pairs_congr {ps : Array (Nat × Operand)} (hp : ∀ x ∈ ps.map (·.2), ρ x = ρ' x) : (ps.toList.map fun p => (p.1, ρ p.2)) = ps.toList.map fun p => (p.1, ρ' p.2) :=
  List.map_congr_left fun p hm => by rw [hp p.2 (Array.mem_map.2 ⟨p, by simpa using hm, rfl⟩)]
theorem args_congr {l : List Operand} (hp : ∀ x ∈ l, ρ x = ρ' x) : l.map ρ = l.map ρ' := List.map_congr_left hp
theorem max_congr : ∀ (r : List Operand) (acc : Option AV), (∀ x ∈ r, ρ x = ρ' x) → r.foldl (maxStep ρ) acc = r.foldl (maxStep ρ') acc
  | [], _, _ => rfl
  | x :: r, acc, h => by
    have e : maxStep ρ acc x = maxStep ρ' acc x := by simp only [maxStep, h x (by simp)]
    rw [List.foldl_cons, List.foldl_cons, e]
    exact max_congr r _ fun y hy => h y (by simp [hy])
theorem min_congr : ∀ (r : List Operand) (acc : Option AV), (∀ x ∈ r, ρ x = ρ' x) → r.foldl (minStep ρ) acc = r.foldl (minStep ρ') acc
  | [], _, _ => rfl
  | x :: r, acc, h => by
    have e : minStep ρ acc x = minStep ρ' acc x := by simp only [minStep, h x (by simp)]
    rw [List.foldl_cons, List.foldl_cons, e]
    exact min_congr r _ fun y hy => h y (by simp [hy])

theorem pv_congr (h : ∀ x ∈ o.op.operands, ρ x = ρ' x) : pv P o ρ lam η = pv P o ρ' lam η := by
  obtain ⟨dst, op, type, pos, after, guard⟩ := o
  cases op <;> simp only [Op.operands] at h <;> simp only [pv]
  case build t ps => rw [pairs_congr fun x hx => h x (by simpa using hx)]
  case makeFunc fn first captured => rw [args_congr (l := captured.toList) fun x hx => h x (by simp at hx; simp [hx])]
  case slice t x lo hi mx => cases lo <;> cases hi <;> cases mx <;> simp_all
  case call c =>
    have ha : ∀ x ∈ c.args.toList, ρ x = ρ' x := fun x hx => h x (by simp at hx; simp [Call.operands, hx])
    cases hc : c.callee with
    | value f => rfl
    | invoke r m => rfl
    | builtin b =>
      cases b <;> try rfl
      case len =>
        generalize c.args.toList = l at ha
        match l with
        | [] => rfl
        | [x] => cases c.argTypes.toList with
          | nil => rfl
          | cons t ts => simp only [ha x (by simp)]
        | _ :: _ :: _ => rfl
      case max =>
        generalize c.args.toList = l at ha
        match l with
        | [] => rfl
        | x :: r => simp only [ha x (by simp)]; exact max_congr r _ fun y hy => ha y (by simp [hy])
      case min =>
        generalize c.args.toList = l at ha
        match l with
        | [] => rfl
        | x :: r => simp only [ha x (by simp)]; exact min_congr r _ fun y hy => ha y (by simp [hy])
  all_goals (first | rfl | (simp_all; done))

theorem newVarA_mono {dst : Option Tmp} {t : TypeId} {cells : List AV} {K K' : AV → (Nat → LB) → List Blk → Prop} (hk : ∀ v l e, K v l e → K' v l e) (h : newVarA H dst t cells lam η K) : newVarA H dst t cells lam η K' := by
  unfold newVarA at *
  split at h
  · exact h
  · split at h
    · rename_i hd; rw [if_pos hd]; exact ⟨h.1, hk _ _ _ h.2⟩
    · rename_i hd; rw [if_neg hd]; exact hk _ _ _ h

theorem AEff_congr (K : AV → (Nat → LB) → List Blk → Prop) (h : ∀ x ∈ o.op.operands, ρ x = ρ' x) : AEff P lo H o ρ lam η K = AEff P lo H o ρ' lam η K := by
  have hpv := pv_congr (P := P) (lam := lam) (η := η) h
  obtain ⟨dst, op, type, pos, after, guard⟩ := o
  cases op <;> simp only [Op.operands] at h <;> simp only [AEff]
  case call c =>
    have ha : ∀ x ∈ c.args.toList, ρ x = ρ' x := fun x hx => h x (by simp at hx; simp [Call.operands, hx])
    cases hc : c.callee with
    | value f =>
      have hf : ρ f = ρ' f := h f (by simp [Call.operands, hc])
      simp only [hf, args_congr ha]
    | invoke r m => simp only [hpv]
    | builtin b =>
      cases b <;> try simp only [hpv]
      case append =>
        generalize c.args.toList = l at ha
        match l with
        | [] => rfl
        | [_] => rfl
        | [s, x] =>
          generalize c.argTypes.toList = ts
          match ts with
          | [] => rfl
          | [_] => rfl
          | [t, t'] => simp only [ha s (by simp), ha x (by simp)]
          | _ :: _ :: _ :: _ => rfl
        | _ :: _ :: _ :: _ => rfl
  case buildSlice t n ps => rw [pairs_congr fun x hx => h x (by simpa using hx)]
  case box t x => rw [h x (by simp)]
  case store t a x => rw [h a (by simp), h x (by simp)]
  case makeSlice t l c => rw [h l (by simp), h c (by simp)]
  all_goals (rw [hpv])
end congr

/-! ### looking operations -/
def isLook (o : Oper) : Bool :=
  match o.op with
  | .alloc _ => false
  | .box _ _ => false
  | .store _ _ _ => false
  | .makeSlice _ _ _ => false
  | .buildSlice _ n _ => n == 0
  | .call c => match c.callee with
    | .value _ => false
    | .builtin .append => false
    | _ => true
  | _ => true
def isStore (o : Oper) : Bool :=
  match o.op with
  | .store _ _ _ => true
  | _ => false
def isLoad (o : Oper) : Bool :=
  match o.op with
  | .load _ _ => true
  | _ => false

def pvL (P : Program) (o : Oper) (ρ : Operand → AV) (lam : Nat → LB) (η : List Blk) : Option AV :=
  match o.op with
  | .buildSlice t _ parts => if (elemB P t).isSome = true ∧ parts.size = 0 then some .emp else none
  | _ => pv P o ρ lam η

theorem AEff_look {P : Program} {lo : Nat} {H : List Nat} {o : Oper} {ρ : Operand → AV} {lam : Nat → LB} {η : List Blk} {K : AV → (Nat → LB) → List Blk → Prop} (hl : isLook o = true) :
    AEff P lo H o ρ lam η K ↔ ∃ v, pvL P o ρ lam η = some v ∧ K v lam η := by
  have gen : (match pv P o ρ lam η with | some v => K v lam η | none => False) ↔ ∃ v, pv P o ρ lam η = some v ∧ K v lam η := by
    cases pv P o ρ lam η <;> simp
  obtain ⟨dst, op, type, pos, after, guard⟩ := o
  cases op <;> simp only [isLook] at hl <;> simp only [AEff, pvL]
  case buildSlice t n ps =>
    have hn : n = 0 := by simpa using hl
    subst hn
    cases elemB P t with
    | none => simp
    | some ek => simp only [Option.isSome_some, true_and]; by_cases hz : ps.size = 0 <;> simp [hz]
  case call c =>
    cases hc : c.callee with
    | value f => rw [hc] at hl; cases hl
    | invoke r m => simp only; exact gen
    | builtin b => rw [hc] at hl; cases b <;> first | exact gen | (cases hl)
  all_goals first | exact gen | (cases hl)

/-- What only adds: what was there keeps its number; where 'strict', its cells as well. -/
def Ks (strict : Bool) (lam : Nat → LB) (η : List Blk) (lam' : Nat → LB) (η' : List Blk) : Prop :=
  (∀ s, 0 < (lam s).ver → (lam' s).ver = (lam s).ver ∧ (strict = true → lam' s = lam s)) ∧
  (∀ (b : Nat) (blk : Blk), η[b]? = some blk → ∃ blk' : Blk, η'[b]? = some blk' ∧ blk'.ver = blk.ver ∧ blk'.sz = blk.sz ∧ (strict = true → blk' = blk))

theorem Ks.refl (s : Bool) (lam : Nat → LB) (η : List Blk) : Ks s lam η lam η := ⟨fun _ _ => ⟨rfl, fun _ => rfl⟩, fun _ blk h => ⟨blk, h, rfl, rfl, fun _ => rfl⟩⟩
theorem Ks.cur {s : Bool} {lam lam' : Nat → LB} {η η' : List Blk} (h : Ks s lam η lam' η') {b v : Nat} (hc : cur η b v = true) : cur η' b v = true := by
  unfold Proofs.Ytffefndnnbcplaa.cur at *
  cases hb : η[b]? with
  | none => rw [hb] at hc; cases hc
  | some blk =>
    rw [hb] at hc
    obtain ⟨blk', h1, h2, _⟩ := h.2 b blk hb
    rw [h1]
    simpa [h2] using hc
theorem Ks.strict {lam lam' : Nat → LB} {η η' : List Blk} (h : Ks true lam η lam' η') : ∀ s, Ks s lam η lam' η' := fun _ =>
  ⟨fun i hi => ⟨(h.1 i hi).1, fun _ => (h.1 i hi).2 rfl⟩, fun b blk hb => let ⟨blk', h1, h2, h3, h4⟩ := h.2 b blk hb; ⟨blk', h1, h2, h3, fun _ => h4 rfl⟩⟩
theorem Ks.grow (lam : Nat → LB) (η l : List Blk) : Ks true lam η lam (η ++ l) :=
  ⟨fun _ _ => ⟨rfl, fun _ => rfl⟩, fun b blk h => ⟨blk, by rw [List.getElem?_append_left (List.getElem?_eq_some_iff.1 h).1]; exact h, rfl, rfl, fun _ => rfl⟩⟩

theorem pv_keep {P : Program} {o : Oper} {ρ : Operand → AV} {lam lam' : Nat → LB} {η η' : List Blk} {s : Bool} {v : AV} (hk : Ks s lam η lam' η') (hs : isLoad o = false ∨ s = true) (h : pv P o ρ lam η = some v) : pv P o ρ lam' η' = some v := by
  have blkc : ∀ (b : Nat) (blk : Blk), η[b]? = some blk → ∃ blk' : Blk, η'[b]? = some blk' ∧ blk'.ver = blk.ver ∧ blk'.sz = blk.sz ∧ (s = true → blk' = blk) := hk.2
  obtain ⟨dst, op, type, pos, after, guard⟩ := o
  cases op <;> simp only [pv] at h ⊢
  case nilCheck x =>
    cases hx : ρ x <;> rw [hx] at h <;> simp only at h ⊢ <;> try contradiction
    · split at h
      · rename_i hc; rw [if_pos (hk.cur hc)]; exact h
      · contradiction
    · split at h
      · rename_i hc
        rw [if_pos ⟨by rw [(hk.1 _ (by omega)).1]; exact hc.1, hc.2⟩]; exact h
      · contradiction
  case load t x =>
    have hs : s = true := by simpa [isLoad] using hs
    revert h
    cases isAggB P t with
    | none => intro h; simp at h
    | some g =>
    cases szB P t with
    | none => intro h; simp at h
    | some k =>
    intro h
    cases hx : ρ x <;> rw [hx] at h <;> simp only at h ⊢ <;> try contradiction
    · rename_i b ver off
      cases hb : η[b]? with
      | none => rw [hb] at h; contradiction
      | some blk =>
        rw [hb] at h
        obtain ⟨blk', h1, _, _, h4⟩ := blkc b blk hb
        rw [h1, h4 hs]; exact h
    · rename_i sl ver off
      by_cases hc : (ver = (lam sl).ver ∧ 0 < ver) ∧ off + k ≤ (lam sl).cells.length
      · have e := (hk.1 sl (by omega)).2 hs
        rw [e]; exact h
      · rw [if_neg hc] at h; contradiction
  case binOp op t x y z =>
    cases hx : ρ x <;> rw [hx] at h <;> cases hy : ρ y <;> rw [hy] at h <;> simp only at h ⊢ <;> try first | exact h | contradiction
    rename_i b ver _ _
    cases hb : η[b]? with
    | none => rw [hb] at h; contradiction
    | some blk =>
      rw [hb] at h
      obtain ⟨blk', h1, h2, _⟩ := blkc b blk hb
      rw [h1]
      simp only [h2] at h ⊢
      exact h
  case slice t x l hh m =>
    cases m with
    | some _ => simp at h
    | none =>
    simp only at h ⊢
    revert h
    cases elemB P t with
    | none => intro h; simp at h
    | some ek =>
    intro h
    cases hx : ρ x <;> rw [hx] at h <;> simp only at h ⊢ <;> try contradiction
    rename_i b ver _ _
    cases hb : η[b]? with
    | none => rw [hb] at h; contradiction
    | some blk =>
      rw [hb] at h
      obtain ⟨blk', h1, h2, h3, _⟩ := blkc b blk hb
      rw [h1]
      simp only [h2, h3] at h ⊢
      exact h
  case fieldAddr t x f =>
    revert h
    cases fieldB P t f with
    | none => intro h; simp at h
    | some os =>
    intro h
    cases hx : ρ x <;> rw [hx] at h <;> simp only at h ⊢ <;> try contradiction
    · split at h
      · rename_i hc; rw [if_pos ⟨hc.1, hk.cur hc.2⟩]; exact h
      · contradiction
    · split at h
      · rename_i hc
        rw [if_pos ⟨hc.1, by rw [(hk.1 _ (by omega)).1]; exact hc.2.1, hc.2.2⟩]; exact h
      · contradiction
  case indexAddr t x i =>
    revert h
    cases elemB P t with
    | none => intro h; simp at h
    | some ek =>
    intro h
    cases hx : ρ x <;> rw [hx] at h <;> cases hi : ρ i <;> rw [hi] at h <;> simp only at h ⊢ <;> try contradiction
    rename_i b ver _ _ _ _
    cases hb : η[b]? with
    | none => rw [hb] at h; contradiction
    | some blk =>
      rw [hb] at h
      obtain ⟨blk', h1, h2, _⟩ := blkc b blk hb
      rw [h1]
      simp only [h2] at h ⊢
      exact h
  case call c =>
    revert h
    cases c.callee with
    | value f => intro h; contradiction
    | invoke r m => intro h; contradiction
    | builtin b =>
      generalize c.args.toList = l
      generalize c.argTypes.toList = ts
      by_cases hb : b = .len
      case neg => cases b <;> cases l <;> first | exact id | exact absurd rfl hb
      subst hb
      match l, ts with
      | [], _ => intro h; exact h
      | [_], [] => intro h; exact h
      | _ :: _ :: _, _ => intro h; exact h
      | [x], t :: _ =>
        simp only
        cases elemB P t with
        | none => intro h; simp at h
        | some ek =>
        intro h
        cases hx : ρ x <;> rw [hx] at h <;> simp only at h ⊢ <;> try first | exact h | contradiction
        rename_i b ver _ _
        cases hb : η[b]? with
        | none => rw [hb] at h; contradiction
        | some blk =>
          rw [hb] at h
          obtain ⟨blk', h1, h2, _⟩ := blkc b blk hb
          rw [h1]
          simp only [h2] at h ⊢
          exact h
  all_goals exact h

theorem pvL_keep {P : Program} {o : Oper} {ρ : Operand → AV} {lam lam' : Nat → LB} {η η' : List Blk} {s : Bool} {v : AV} (hk : Ks s lam η lam' η') (hs : isLoad o = false ∨ s = true) (h : pvL P o ρ lam η = some v) : pvL P o ρ lam' η' = some v := by
  unfold pvL at *
  split at h
  · exact h
  · exact pv_keep hk hs h
/-- A load whose address is a local's. -/
def locLoadB (ρ : Operand → AV) (o : Oper) : Bool :=
  match o.op with
  | .load _ x => (match ρ x with
    | .loc _ _ _ => true
    | _ => false)
  | _ => false
theorem locLoadB_congr {o : Oper} {ρ ρ' : Operand → AV} (h : ∀ x ∈ o.op.operands, ρ x = ρ' x) : locLoadB ρ o = locLoadB ρ' o := by
  obtain ⟨dst, op, type, pos, after, guard⟩ := o
  cases op <;> simp only [locLoadB]
  case load t x => rw [h x (by simp [Op.operands])]
/-- What changes cells of blocks alone. -/
def KsW (lam : Nat → LB) (η : List Blk) (lam' : Nat → LB) (η' : List Blk) : Prop := Ks false lam η lam' η' ∧ ∀ s, 0 < (lam s).ver → lam' s = lam s
theorem KsW.refl (lam : Nat → LB) (η : List Blk) : KsW lam η lam η := ⟨.refl _ _ _, fun _ _ => rfl⟩
theorem pvL_keepW {P : Program} {o : Oper} {ρ : Operand → AV} {lam lam' : Nat → LB} {η η' : List Blk} {v : AV} (hk : KsW lam η lam' η') (hs : isLoad o = false ∨ locLoadB ρ o = true) (h : pvL P o ρ lam η = some v) : pvL P o ρ lam' η' = some v := by
  rcases hs with hs | hs
  · exact pvL_keep hk.1 (.inl hs) h
  obtain ⟨dst, op, type, pos, after, guard⟩ := o
  cases op <;> simp only [locLoadB, Bool.false_eq_true] at hs
  case load t x =>
    simp only [pvL, pv] at h ⊢
    revert h
    cases isAggB P t with
    | none => intro h; simp at h
    | some g =>
    cases szB P t with
    | none => intro h; simp at h
    | some k =>
    intro h
    cases hx : ρ x <;> rw [hx] at h hs <;> simp only [Bool.false_eq_true] at h hs ⊢
    rename_i sl ver off
    by_cases hc : (ver = (lam sl).ver ∧ 0 < ver) ∧ off + k ≤ (lam sl).cells.length
    · rw [hk.2 sl (by omega)]; exact h
    · rw [if_neg hc] at h; contradiction
theorem pvL_congr {P : Program} {o : Oper} {ρ ρ' : Operand → AV} {lam : Nat → LB} {η : List Blk} (h : ∀ x ∈ o.op.operands, ρ x = ρ' x) : pvL P o ρ lam η = pvL P o ρ' lam η := by
  unfold pvL
  split
  · rfl
  · exact pv_congr h

end Go.Proofs.Ytffefndnnbcplaa
