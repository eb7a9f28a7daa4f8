/- The abstract logic: regions that draw their order. One walk serves every order. -/
import Derived.Test.YtaalpmbopkbdiaaAbO
import Derived.ChangeArms
import Derived.DataReads
import Derived.DataElems
import Derived.WideShapes
import Derived.Below
import Derived.Lib.Overlaps
namespace Go.Proofs.Ytaalpmbopkbdiaa
open Go

section
variable {P : Program} {lo : Nat} {H : List Nat} {o : Oper} {ρ : Operand → AV} {lam : Nat → LB} {η : List Blk} {K K' : AV → (Nat → LB) → List Blk → Prop}

theorem AEff_mono (hk : ∀ v l e, K v l e → K' v l e) (h : AEff P lo H o ρ lam η K) : AEff P lo H o ρ lam η K' := by
  by_cases hl : isLook o = true
  · rw [AEff_look hl] at h ⊢
    obtain ⟨v, h1, h2⟩ := h
    exact ⟨v, h1, hk _ _ _ h2⟩
  obtain ⟨dst, op, type, pos, after, guard⟩ := o
  cases op <;> simp only [isLook, not_true_eq_false] at hl <;> simp only [AEff] at h ⊢
  case alloc t =>
    split at h
    · exact newVarA_mono hk h
    · exact h
  case box t x => exact ⟨h.1, newVarA_mono hk h.2⟩
  case store t a x =>
    split at h
    · exact ⟨h.1, hk _ _ _ h.2⟩
    · split at h
      · exact ⟨h.1, hk _ _ _ h.2⟩
      · exact h
    · exact h
  case makeSlice t l c =>
    split at h
    · split at h
      · exact ⟨h.1, hk _ _ _ h.2⟩
      · exact h
    · exact h
  case buildSlice t n ps =>
    split at h
    · by_cases hn : n = 0
      · rw [if_pos hn] at h ⊢; exact ⟨h.1, hk _ _ _ h.2⟩
      · rw [if_neg hn] at h ⊢
        split at h
        · split at h
          · exact ⟨h.1, hk _ _ _ h.2⟩
          · exact h
        · exact h
    · exact h
  case call c =>
    split at h
    · split at h
      · exact ⟨h.1, h.2.mono fun _ _ => hk _ _ _⟩
      · exact h
    · split at h
      · split at h
        · split at h
          · refine ⟨h.1, ?_⟩
            replace h := h.2
            split at h
            · exact ⟨h.1, hk _ _ _ h.2⟩
            · exact ⟨h.1, hk _ _ _ h.2⟩
            · split at h
              · exact ⟨h.1, hk _ _ _ h.2⟩
              · exact h
            · exact appendC_mono (fun _ _ => hk _ _ _) h
            · exact h
          · exact h
        · split at h
          · exact ⟨h.1, appendZ_mono (fun _ _ => hk _ _ _) h.2⟩
          · exact h
        · exact h
      · exact h
    · split at h
      · split at h
        · split at h
          · exact writeA_mono (fun _ => hk _ _ _) h
          · exact h
        · exact h
      · exact h
    · split at h
      · split at h
        · split at h
          · exact ⟨h.1, writeA_mono (fun _ => hk _ _ _) h.2⟩
          · exact h
        · exact h
      · exact h
    · split at h
      · exact hk _ _ _ h
      · exact h
  case makeMap t r =>
    split at h
    · exact hk _ _ _ h
    · exact h
  case mapUpdate t m k v =>
    split at h
    · exact mapPut_mono (fun _ => hk _ _ _) h
    · exact h
  case lookup t m k ok =>
    split at h
    · exact mapGet_mono (fun _ => hk _ _ _) h
    · exact h

theorem store_keep (hs : isStore o = true) (h : AEff P lo H o ρ lam η K) : AEff P lo H o ρ lam η (fun v l e => Ks false lam η l e ∧ K v l e) := by
  obtain ⟨dst, op, type, pos, after, guard⟩ := o
  cases op <;> simp only [isStore, Bool.false_eq_true] at hs
  case store t a x =>
    simp only [AEff] at h ⊢
    split at h
    · refine ⟨h.1, ⟨fun s hs => ?_, fun b blk hb => ⟨blk, hb, rfl, rfl, fun e => by cases e⟩⟩, h.2⟩
      refine ⟨?_, fun e => by cases e⟩
      unfold upd
      split
      · rename_i hss; rw [hss]; exact h.1.2.1
      · rfl
    · split at h
      · rename_i b0 _ _ _ _ _ blk0 hb0
        refine ⟨h.1, ⟨fun s hs => ⟨rfl, fun _ => rfl⟩, fun b blk hb => ?_⟩, h.2⟩
        by_cases hbb : b0 = b
        · subst hbb
          rw [hb0] at hb
          obtain rfl := Option.some.inj hb
          exact ⟨_, List.getElem?_set_self (List.getElem?_eq_some_iff.1 hb0).1, rfl, rfl, fun e => by cases e⟩
        · exact ⟨blk, by rw [List.getElem?_set_ne hbb]; exact hb, rfl, rfl, fun e => by cases e⟩
      · exact h
    · exact h
end

/-- No operand is the address of local d. -/
def clearB (d : Nat) : AV → Bool
  | .loc s _ _ => s != d
  | .mp s _ => s != d
  | _ => true
def avoidB (d : Nat) (ρ : Operand → AV) (o : Oper) : Bool := (o.op.operands.toList.map ρ).all (clearB d)

theorem avoid_of {d : Nat} {ρ : Operand → AV} {o : Oper} (h : avoidB d ρ o = true) {x : Operand} (hx : x ∈ o.op.operands) {s v k : Nat} (e : ρ x = .loc s v k) : s ≠ d := by
  have := List.all_eq_true.1 h (ρ x) (List.mem_map.2 ⟨x, by simpa using hx, rfl⟩)
  rw [e] at this
  simpa [clearB] using this

theorem avoid_ofM {d : Nat} {ρ : Operand → AV} {o : Oper} (h : avoidB d ρ o = true) {x : Operand} (hx : x ∈ o.op.operands) {s v : Nat} (e : ρ x = .mp s v) : s ≠ d := by
  have := List.all_eq_true.1 h (ρ x) (List.mem_map.2 ⟨x, by simpa using hx, rfl⟩)
  rw [e] at this
  simpa [clearB] using this

theorem upd_off {α : Type} {f : Nat → α} {i j : Nat} {v : α} (h : j ≠ i) : upd f i v j = f j := by simp [upd, h]
theorem upd_comm {α : Type} {f : Nat → α} {i j : Nat} {v u : α} (h : i ≠ j) : upd (upd f i v) j u = upd (upd f j u) i v := by
  funext t
  simp only [upd]
  by_cases h1 : t = j <;> by_cases h2 : t = i <;> simp_all

section
variable {P : Program} {lo : Nat} {H : List Nat} {o : Oper} {ρ : Operand → AV} {lam : Nat → LB} {η : List Blk} {K : AV → (Nat → LB) → List Blk → Prop} {d : Nat} {L : LB}

theorem pv_avoid (h : avoidB d ρ o = true) : pv P o ρ (upd lam d L) η = pv P o ρ lam η := by
  have av := fun {x : Operand} (hx : x ∈ o.op.operands) {s v k : Nat} (e : ρ x = .loc s v k) => avoid_of h hx e
  have avm := fun {x : Operand} (hx : x ∈ o.op.operands) {s v : Nat} (e : ρ x = .mp s v) => avoid_ofM h hx e
  clear h
  obtain ⟨dst, op, type, pos, after, guard⟩ := o
  cases op <;> try simp only [pv]
  case nilCheck x =>
    cases hx : ρ x <;> try rfl
    simp only [upd_off (av (x := x) (by simp [Op.operands]) hx)]
  case load t x =>
    cases isAggB P t <;> try rfl
    cases szB P t <;> try rfl
    cases hx : ρ x <;> try rfl
    simp only [upd_off (av (x := x) (by simp [Op.operands]) hx)]
  case fieldAddr t x f =>
    cases fieldB P t f <;> try rfl
    cases hx : ρ x <;> try rfl
    simp only [upd_off (av (x := x) (by simp [Op.operands]) hx)]
  case slice t x l h m => cases m <;> rfl

theorem pvL_avoid (h : avoidB d ρ o = true) : pvL P o ρ (upd lam d L) η = pvL P o ρ lam η := by
  unfold pvL
  split
  · rfl
  · exact pv_avoid h

theorem AEff_avoid (h : avoidB d ρ o = true) (hd : o.dst ≠ some d) (k : AEff P lo H o ρ (upd lam d L) η K) : AEff P lo H o ρ lam η (fun v l e => l d = lam d ∧ K v (upd l d L) e) := by
  by_cases hl : isLook o = true
  · rw [AEff_look hl] at k ⊢
    obtain ⟨v, h1, h2⟩ := k
    rw [pvL_avoid h] at h1
    exact ⟨v, h1, rfl, h2⟩
  have nv : ∀ t cells, newVarA H o.dst t cells (upd lam d L) η K → newVarA H o.dst t cells lam η (fun v l e => l d = lam d ∧ K v (upd l d L) e) := by
    intro t cells hh
    unfold newVarA at hh ⊢
    cases hds : o.dst with
    | none => rw [hds] at hh; exact hh
    | some i =>
      rw [hds] at hh hd
      have hne : i ≠ d := fun e => hd (by rw [e])
      simp only at hh ⊢
      split at hh
      · rename_i hi; rw [if_pos hi]; exact ⟨hh.1, by trivial, hh.2⟩
      · rename_i hi
        rw [if_neg hi]
        rw [upd_off hne, upd_comm (Ne.symm hne)] at hh
        exact ⟨upd_off (Ne.symm hne), hh⟩
  have av := fun {x : Operand} (hx : x ∈ o.op.operands) {s v k : Nat} (e : ρ x = .loc s v k) => avoid_of h hx e
  have avm := fun {x : Operand} (hx : x ∈ o.op.operands) {s v : Nat} (e : ρ x = .mp s v) => avoid_ofM h hx e
  clear h
  obtain ⟨dst, op, type, pos, after, guard⟩ := o
  cases op <;> simp only [isLook, not_true_eq_false] at hl <;> simp only [AEff] at k ⊢ <;> simp only [Op.operands] at av avm
  case alloc t =>
    split at k
    · exact nv _ _ k
    · exact k
  case box t x => exact ⟨k.1, nv _ _ k.2⟩
  case store t a x =>
    revert k
    cases szB P t with
    | none => exact id
    | some n =>
    cases ha : ρ a <;> intro k <;> simp only at k ⊢ <;> try contradiction
    · split at k
      · exact ⟨k.1, by trivial, k.2⟩
      · contradiction
    · have hne := av (x := a) (by simp) ha
      rw [upd_off hne, upd_comm (Ne.symm hne)] at k
      exact ⟨k.1, upd_off (Ne.symm hne), k.2⟩
  case makeSlice t l c =>
    split at k
    · split at k
      · exact ⟨k.1, by trivial, k.2⟩
      · exact k
    · exact k
  case buildSlice t n ps =>
    split at k
    · by_cases hn : n = 0
      · rw [if_pos hn] at k ⊢; exact ⟨k.1, by trivial, k.2⟩
      · rw [if_neg hn] at k ⊢
        split at k
        · split at k
          · exact ⟨k.1, by trivial, k.2⟩
          · exact k
        · exact k
    · exact k
  case call c =>
    split at k
    · split at k
      · exact ⟨k.1, k.2.mono fun _ _ q => ⟨trivial, q⟩⟩
      · exact k
    · split at k
      · split at k
        · split at k
          · refine ⟨k.1, ?_⟩
            replace k := k.2
            split at k
            · exact ⟨k.1, by trivial, k.2⟩
            · exact ⟨k.1, by trivial, k.2⟩
            · split at k
              · exact ⟨k.1, by trivial, k.2⟩
              · exact k
            · exact appendC_mono (fun _ _ q => ⟨by trivial, q⟩) k
            · exact k
          · exact k
        · split at k
          · exact ⟨k.1, appendZ_mono (fun _ _ q => ⟨by trivial, q⟩) k.2⟩
          · exact k
        · exact k
      · exact k
    · split at k
      · split at k
        · split at k
          · exact writeA_mono (fun _ q => ⟨by trivial, q⟩) k
          · exact k
        · exact k
      · exact k
    · split at k
      · split at k
        · split at k
          · exact ⟨k.1, writeA_mono (fun _ q => ⟨by trivial, q⟩) k.2⟩
          · exact k
        · exact k
      · exact k
    · exfalso
      rename_i hv hap hcp hcl
      revert hl
      cases hcc : c.callee with
      | value f => exact absurd hcc (hv f)
      | invoke r m => simp
      | builtin b => cases b <;> simp_all
  case makeMap t r =>
    cases r with
    | some x => exact k.elim
    | none =>
      cases dst with
      | none => exact k.elim
      | some i =>
        cases hmb : mapB P t with
        | none => rw [hmb] at k; exact k.elim
        | some kn =>
          rw [hmb] at k
          have hne : i ≠ d := fun e => hd (by rw [e])
          simp only at k ⊢
          rw [upd_off hne, upd_comm (Ne.symm hne)] at k
          exact ⟨upd_off (Ne.symm hne), k⟩
  case mapUpdate t m x v =>
    split at k
    · rename_i kt n s ver l hmb hm hx hv
      have hne := avm (x := m) (by simp) hm
      unfold mapPut at k ⊢
      rw [upd_off hne] at k
      split at k
      · rw [upd_comm (Ne.symm hne)] at k
        exact ⟨k.1, upd_off (Ne.symm hne), k.2⟩
      · exact k
    · exact k
  case lookup t m x ok =>
    split at k
    · rename_i kt n s ver l hmb hm hx
      have hne := avm (x := m) (by simp) hm
      unfold mapGet at k ⊢
      rw [upd_off hne] at k
      split at k
      · exact ⟨k.1, by trivial, k.2⟩
      · exact k
    · exact k
end

section
variable {P : Program} {lo : Nat} {H : List Nat} {ops : Array Oper} {K K' : St → Prop} {st : St} {o : Oper} {N : Nat}

def wantA (ops : Array Oper) (o : Oper) (st : St) : Option Bool :=
  match o.guard with
  | none => some true
  | some (j, want) => yieldedA ops st j want

theorem AOpG_iff : AOpG P lo H ops o K st ↔ (wantA ops o st = some true ∧ AOp P lo H o K st) ∨ (wantA ops o st = some false ∧ dstOk o.dst st.n ∧ K (put o.dst skipV st)) := by
  unfold AOpG wantA
  cases o.guard with
  | none => simp
  | some jw =>
    obtain ⟨j, want⟩ := jw
    simp only
    cases yieldedA ops st j want with
    | none => simp
    | some b => cases b <;> simp

theorem AOp_mono (hk : ∀ st, K st → K' st) (h : AOp P lo H o K st) : AOp P lo H o K' st := ⟨h.1, AEff_mono (fun _ _ _ => hk _) h.2⟩
theorem AOpG_mono (hk : ∀ st, K st → K' st) (h : AOpG P lo H ops o K st) : AOpG P lo H ops o K' st := by
  rw [AOpG_iff] at h ⊢
  exact h.imp (fun h => ⟨h.1, AOp_mono hk h.2⟩) (fun h => ⟨h.1, h.2.1, hk _ h.2.2⟩)

theorem avoidB_congr {ρ ρ' : Operand → AV} {d : Nat} (h : ∀ x ∈ o.op.operands, ρ x = ρ' x) : avoidB d ρ o = avoidB d ρ' o := by
  unfold avoidB
  rw [args_congr (l := o.op.operands.toList) fun x hx => h x (by simpa using hx)]
/-- The operation keeps clear of the locals listed for it. -/
def avoidsB (N : Nat) (av : List (Nat × Nat)) (i : Nat) (o : Oper) (st : St) : Bool := av.all fun p => (p.1 != i || avoidB p.2 (ev st) o) && (p.1 != i + 1000 || locLoadB (ev st) o) && (p.1 != i + 2000 || oldLoadB N (ev st) o) && (p.1 != i + 3000 || noBlkB (ev st) o)
theorem avoidsB_congr {av : List (Nat × Nat)} {i : Nat} {st' : St} (h : ∀ x ∈ o.op.operands, ev st x = ev st' x) : avoidsB N av i o st = avoidsB N av i o st' := by
  unfold avoidsB
  congr 1
  funext p
  rw [avoidB_congr h, locLoadB_congr h, oldLoadB_congr h, noBlkB_congr h]
/-- What an operation's listing says it keeps. -/
def keepR (N : Nat) (fl : List Nat) (i : Nat) (lam : Nat → LB) (η : List Blk) (lam' : Nat → LB) (η' : List Blk) : Prop :=
  (fl.contains i = true → Ks true lam η lam' η') ∧ (fl.contains (i + 1000) = true → KsW lam η lam' η') ∧ (fl.contains (i + 2000) = true → KsO N lam η lam' η') ∧ (fl.contains (i + 3000) = true → KsL lam lam')
theorem keepR.refl {fl : List Nat} {i : Nat} (lam : Nat → LB) (η : List Blk) : keepR N fl i lam η lam η := ⟨fun _ => .refl _ _ _, fun _ => .refl _ _, fun _ => .refl _ _ _, fun _ => .refl _⟩
theorem KsW_of {lam lam' : Nat → LB} {η η' : List Blk} (h : Ks true lam η lam' η') : KsW lam η lam' η' :=
  ⟨⟨fun s hs => ⟨(h.1 s hs).1, fun e => by cases e⟩, fun b blk hb => by
    obtain ⟨blk', h1, h2, h3, _⟩ := h.2 b blk hb
    exact ⟨blk', h1, h2, h3, fun e => by cases e⟩⟩, fun s hs => (h.1 s hs).2 rfl⟩
theorem KsO_of {N : Nat} {lam lam' : Nat → LB} {η η' : List Blk} (h : Ks true lam η lam' η') : KsO N lam η lam' η' :=
  ⟨KsW_of h, fun b blk _ hb => by
    obtain ⟨blk', h1, _, _, h2⟩ := h.2 b blk hb
    rw [h1, h2 rfl]⟩
theorem keepR.strict {fl : List Nat} {i : Nat} {lam lam' : Nat → LB} {η η' : List Blk} (h : Ks true lam η lam' η') : keepR N fl i lam η lam' η' := ⟨fun _ => h, fun _ => KsW_of h, fun _ => KsO_of h, fun _ => (KsW_of h).2⟩
theorem keepR.weak {fl : List Nat} {i : Nat} {lam lam' : Nat → LB} {η η' : List Blk} (hf : ¬ fl.contains i = true) (ho : ¬ fl.contains (i + 2000) = true) (h : KsW lam η lam' η') : keepR N fl i lam η lam' η' := ⟨fun e => absurd e hf, fun _ => h, fun e => absurd e ho, fun _ => h.2⟩
theorem keepR.old {fl : List Nat} {i : Nat} {lam lam' : Nat → LB} {η η' : List Blk} (hf : ¬ fl.contains i = true) (h : KsO N lam η lam' η') : keepR N fl i lam η lam' η' := ⟨fun e => absurd e hf, fun _ => h.1, fun _ => h, fun _ => h.1.2⟩
theorem keepR.loc {fl : List Nat} {i : Nat} {lam lam' : Nat → LB} {η η' : List Blk} (hf : ¬ fl.contains i = true) (hw : ¬ fl.contains (i + 1000) = true) (ho : ¬ fl.contains (i + 2000) = true) (h : KsL lam lam') : keepR N fl i lam η lam' η' := ⟨fun e => absurd e hf, fun e => absurd e hw, fun e => absurd e ho, fun _ => h⟩
theorem keepR.none {fl : List Nat} {i : Nat} {lam lam' : Nat → LB} {η η' : List Blk} (hf : ¬ fl.contains i = true) (hw : ¬ fl.contains (i + 1000) = true) (ho : ¬ fl.contains (i + 2000) = true) (hl : ¬ fl.contains (i + 3000) = true) : keepR N fl i lam η lam' η' := ⟨fun e => absurd e hf, fun e => absurd e hw, fun e => absurd e ho, fun e => absurd e hl⟩
theorem Ks_upd {s : Bool} {lam l : Nat → LB} {η e : List Blk} {d : Nat} {L : LB} (hl : l d = lam d) (h : Ks s (upd lam d L) η (upd l d L) e) : Ks s lam η l e := by
  refine ⟨fun j hj => ?_, h.2⟩
  by_cases hsd : j = d
  · subst hsd; rw [hl]; exact ⟨rfl, fun _ => rfl⟩
  · have := h.1 j (by rw [upd_off hsd]; exact hj)
    rw [upd_off hsd, upd_off hsd] at this
    exact this
theorem KsW_upd {lam l : Nat → LB} {η e : List Blk} {d : Nat} {L : LB} (hl : l d = lam d) (h : KsW (upd lam d L) η (upd l d L) e) : KsW lam η l e := by
  refine ⟨Ks_upd hl h.1, fun j hj => ?_⟩
  by_cases hsd : j = d
  · subst hsd; exact hl
  · have := h.2 j (by rw [upd_off hsd]; exact hj)
    rw [upd_off hsd, upd_off hsd] at this
    exact this
theorem KsL_upd {lam l : Nat → LB} {d : Nat} {L : LB} (hl : l d = lam d) (h : KsL (upd lam d L) (upd l d L)) : KsL lam l := by
  intro j hj
  by_cases hsd : j = d
  · subst hsd; exact hl
  · have := h j (by rw [upd_off hsd]; exact hj)
    rw [upd_off hsd, upd_off hsd] at this
    exact this
theorem keepR_upd {fl : List Nat} {i : Nat} {lam l : Nat → LB} {η e : List Blk} {d : Nat} {L : LB} (hl : l d = lam d) (h : keepR N fl i (upd lam d L) η (upd l d L) e) : keepR N fl i lam η l e := ⟨fun hf => Ks_upd hl (h.1 hf), fun hf => KsW_upd hl (h.2.1 hf), fun hf => ⟨KsW_upd hl (h.2.2.1 hf).1, (h.2.2.1 hf).2⟩, fun hf => KsL_upd hl (h.2.2.2 hf)⟩

/-- This looking operation has this value here. -/
def YA (P : Program) (ops : Array Oper) (N : Nat) (av : List (Nat × Nat)) (i : Nat) (o : Oper) (v : AV) (st : St) : Prop :=
  avoidsB N av i o st = true ∧ dstOk o.dst st.n ∧ ((wantA ops o st = some true ∧ pvL P o (ev st) st.lam st.η = some v) ∨ (wantA ops o st = some false ∧ v = skipV))

theorem YA_of {av : List (Nat × Nat)} {i : Nat} (ha : avoidsB N av i o st = true) (hl : isLook o = true) (h : AOpG P lo H ops o K st) : ∃ v, YA P ops N av i o v st ∧ K (put o.dst v st) := by
  rw [AOpG_iff] at h
  rcases h with ⟨hw, hd, h⟩ | ⟨hw, hd, h⟩
  · rw [AEff_look hl] at h
    obtain ⟨v, h1, h2⟩ := h
    exact ⟨v, ⟨ha, hd, .inl ⟨hw, h1⟩⟩, h2⟩
  · exact ⟨skipV, ⟨ha, hd, .inr ⟨hw, rfl⟩⟩, h⟩
theorem YA.op {av : List (Nat × Nat)} {i : Nat} {v : AV} (hl : isLook o = true) (h : YA P ops N av i o v st) (k : K (put o.dst v st)) : AOpG P lo H ops o K st := by
  rw [AOpG_iff]
  rcases h with ⟨_, hd, ⟨hw, h⟩ | ⟨hw, rfl⟩⟩
  · exact .inl ⟨hw, hd, (AEff_look hl).2 ⟨v, h, k⟩⟩
  · exact .inr ⟨hw, hd, k⟩

theorem ev_put {d : Option Tmp} {v : AV} {l : Nat → LB} {e : List Blk} {x : Operand} (h : ∀ t, d = some t → x ≠ .tmp t) : ev (put d v { st with lam := l, η := e }) x = ev st x := by
  cases d with
  | none => cases x <;> rfl
  | some t =>
    cases x with
    | tmp i =>
      have hne : i ≠ t := fun e => h t rfl (by rw [e])
      simp [ev, put, upd, hne]
    | _ => rfl
theorem yieldedA_put {d : Option Tmp} {v : AV} {l : Nat → LB} {e : List Blk} {j : Nat} {want : Bool} (h : ∀ t, d = some t → (ops[j]?).bind (·.dst) ≠ some t) : yieldedA ops (put d v { st with lam := l, η := e }) j want = yieldedA ops st j want := by
  unfold yieldedA
  cases hd : (ops[j]?).bind (·.dst) with
  | none => rfl
  | some t =>
    cases d with
    | none => rfl
    | some i =>
      have hne : t ≠ i := fun e => h i rfl (by rw [hd, e])
      simp [put, upd, hne]
theorem wantA_put {d : Option Tmp} {v : AV} {l : Nat → LB} {e : List Blk} (h : ∀ t, d = some t → t ∉ o.looksAt ops) : wantA ops o (put d v { st with lam := l, η := e }) = wantA ops o st := by
  unfold wantA
  cases hg : o.guard with
  | none => rfl
  | some jw =>
    obtain ⟨j, want⟩ := jw
    simp only
    rw [yieldedA_put fun t ht hh => h t ht (by simp [Oper.looksAt, hg, hh])]
theorem ops_put {d : Option Tmp} {v : AV} {l : Nat → LB} {e : List Blk} (h : ∀ t, d = some t → t ∉ o.looksAt ops) : ∀ x ∈ o.op.operands, ev (put d v { st with lam := l, η := e }) x = ev st x :=
  fun x hx => ev_put fun t ht hxt => h t ht (by
    subst hxt
    exact List.mem_append_left _ (List.mem_filterMap.2 ⟨.tmp t, by simpa using hx, rfl⟩))
theorem put_put {a b : Option Tmp} {v u : AV} (h : ∀ t, a = some t → b ≠ some t) (l : Nat → LB) (e : List Blk) : put b u { put a v st with lam := l, η := e } = put a v (put b u { st with lam := l, η := e }) := by
  cases a with
  | none => rfl
  | some i =>
    cases b with
    | none => rfl
    | some j =>
      have hne : i ≠ j := fun he => h i rfl (by rw [he])
      simp only [put, St.mk.injEq, true_and, and_true]
      funext t
      simp only [upd]
      by_cases h1 : t = j <;> by_cases h2 : t = i <;> simp_all
theorem put_id (a : Option Tmp) (v : AV) : put a v st = put a v { st with lam := st.lam, η := st.η } := rfl
theorem put_n' (a : Option Tmp) (v : AV) : (put a v st).n = st.n := by cases a <;> rfl

theorem YA.putP {av : List (Nat × Nat)} {i : Nat} {oj : Oper} {v w : AV} {l : Nat → LB} {e : List Blk} (h3 : ∀ d, oj.dst = some d → d ∉ o.looksAt ops) (hk : pvL P o (ev st) st.lam st.η = some v → pvL P o (ev st) l e = some v) (h : YA P ops N av i o v st) :
    YA P ops N av i o v (put oj.dst w { st with lam := l, η := e }) := by
  refine ⟨by rw [avoidsB_congr (ops_put h3)]; exact h.1, by rw [put_n']; exact h.2.1, ?_⟩
  rw [wantA_put h3]
  refine h.2.2.imp (fun h => ⟨h.1, ?_⟩) id
  rw [pvL_congr (ops_put h3), put_lam, put_η]
  exact hk h.2

/-- Behind an operation that is listed: what only adds; what changes cells of blocks alone. -/
def opD (P : Program) (lo : Nat) (H : List Nat) (ops : Array Oper) (N : Nat) (fl : List Nat) (av : List (Nat × Nat)) (i : Nat) (o : Oper) (K : St → Prop) (st : St) : Prop :=
  avoidsB N av i o st = true ∧ AOpG P lo H ops o (fun st' => keepR N fl i st.lam st.η st'.lam st'.η ∧ K st') st
theorem opD_mono {fl : List Nat} {av : List (Nat × Nat)} {i : Nat} (hk : ∀ st, K st → K' st) (h : opD P lo H ops N fl av i o K st) : opD P lo H ops N fl av i o K' st :=
  ⟨h.1, AOpG_mono (fun _ h => ⟨h.1, hk _ h.2⟩) h.2⟩
theorem opD.op {fl : List Nat} {av : List (Nat × Nat)} {i : Nat} (h : opD P lo H ops N fl av i o K st) : AOpG P lo H ops o K st := AOpG_mono (fun _ h => h.2) h.2

def compatB (ops : Array Oper) (fl : List Nat) (av : List (Nat × Nat)) (i : Nat) (oi : Oper) (j : Nat) (oj : Oper) : Bool :=
  oi.apart ops oj && (isLook oj || (isStore oj && !isLoad oi) || fl.contains j || (fl.contains (j + 1000) && (!isLoad oi || av.contains (i + 1000, 0))) || (fl.contains (j + 2000) && (!isLoad oi || av.contains (i + 2000, 0))) || (fl.contains (j + 3000) && av.contains (i + 3000, 0)))

theorem opD_put {fl : List Nat} {av : List (Nat × Nat)} {i j : Nat} {oi oj : Oper} {v : AV} (hc : compatB ops fl av i oi j oj = true) (hy : YA P ops N av i oi v st) (h : opD P lo H ops N fl av j oj K (put oi.dst v st)) :
    opD P lo H ops N fl av j oj (fun st' => YA P ops N av i oi v st' ∧ K (put oi.dst v st')) st := by
  simp only [compatB, Bool.and_eq_true, Bool.or_eq_true, Bool.not_eq_true'] at hc
  obtain ⟨hap, hc⟩ := hc
  obtain ⟨h1, h2, h3⟩ := Oper.apart_spec hap
  have eqw : wantA ops oj (put oi.dst v st) = wantA ops oj st := wantA_put (l := st.lam) (e := st.η) h1
  have eqo : ∀ x ∈ oj.op.operands, ev (put oi.dst v st) x = ev st x := ops_put (l := st.lam) (e := st.η) h1
  have eqp : ∀ (u : AV) (l : Nat → LB) (e : List Blk), put oj.dst u { put oi.dst v st with lam := l, η := e } = put oi.dst v (put oj.dst u { st with lam := l, η := e }) := fun u l e => put_put h2 l e
  unfold opD at *
  refine ⟨by rw [avoidsB_congr (fun x hx => (eqo x hx).symm)]; exact h.1, ?_⟩
  replace h := h.2
  rw [AOpG_iff] at h ⊢
  rw [eqw] at h
  rcases h with ⟨hw, hd, h⟩ | ⟨hw, hd, h⟩
  · refine .inl ⟨hw, by rw [put_n'] at hd; exact hd, ?_⟩
    rw [AEff_congr _ eqo, put_lam, put_η] at h
    have fin : ∀ (u : AV) (l : Nat → LB) (e : List Blk), (pvL P oi (ev st) st.lam st.η = some v → pvL P oi (ev st) l e = some v) →
        keepR N fl j st.lam st.η (put oj.dst u { put oi.dst v st with lam := l, η := e }).lam (put oj.dst u { put oi.dst v st with lam := l, η := e }).η ∧ K (put oj.dst u { put oi.dst v st with lam := l, η := e }) →
        keepR N fl j st.lam st.η (put oj.dst u { st with lam := l, η := e }).lam (put oj.dst u { st with lam := l, η := e }).η ∧ YA P ops N av i oi v (put oj.dst u { st with lam := l, η := e }) ∧ K (put oi.dst v (put oj.dst u { st with lam := l, η := e })) := by
      rintro u l e hp ⟨hk, hq⟩
      rw [put_lam, put_η] at hk
      refine ⟨by rw [put_lam, put_η]; exact hk, YA.putP h3 hp hy, by rw [← eqp]; exact hq⟩
    have kr : ∀ (u : AV) (l : Nat → LB) (e : List Blk), keepR N fl j st.lam st.η (put oj.dst u { put oi.dst v st with lam := l, η := e }).lam (put oj.dst u { put oi.dst v st with lam := l, η := e }).η → keepR N fl j st.lam st.η l e := by
      intro u l e hk
      rw [put_lam, put_η] at hk
      exact hk
    rcases hc with ((((hl | ⟨hst, hld⟩) | hfl) | ⟨hfw, hld⟩) | ⟨hfo, hld⟩) | ⟨hfk, hc⟩
    · rw [AEff_look hl] at h ⊢
      obtain ⟨u, g1, g2⟩ := h
      exact ⟨u, g1, fin _ _ _ id g2⟩
    · exact AEff_mono (fun u l e ⟨hk, hq⟩ => fin u l e (pvL_keep hk (.inl hld)) hq) (store_keep hst h)
    · exact AEff_mono (fun u l e hq => fin u l e (pvL_keep ((kr u l e hq.1).1 hfl) (.inr rfl)) hq) h
    · refine AEff_mono (fun u l e hq => fin u l e (pvL_keepW ((kr u l e hq.1).2.1 hfw) ?_) hq) h
      refine hld.imp id fun hc => ?_
      have := hy.1
      unfold avoidsB at this
      have := List.all_eq_true.1 this (i + 1000, 0) (by simpa using hc)
      simp only [Bool.and_eq_true, Bool.or_eq_true] at this
      rcases this.1.1.2 with h' | h'
      · simp at h'
      · exact h'
    · refine AEff_mono (fun u l e hq => fin u l e (pvL_keepO ((kr u l e hq.1).2.2.1 hfo) ?_) hq) h
      refine hld.imp id fun hc => ?_
      have := hy.1
      unfold avoidsB at this
      have := List.all_eq_true.1 this (i + 2000, 0) (by simpa using hc)
      simp only [Bool.and_eq_true, Bool.or_eq_true] at this
      rcases this.1.2 with h' | h'
      · simp at h'
      · exact h'
    · refine AEff_mono (fun u l e hq => fin u l e (pvL_keepL ((kr u l e hq.1).2.2.2 hfk) ?_) hq) h
      have := hy.1
      unfold avoidsB at this
      have := List.all_eq_true.1 this (i + 3000, 0) (by simpa using hc)
      simp only [Bool.and_eq_true, Bool.or_eq_true] at this
      rcases this.2 with h' | h'
      · simp at h'
      · exact h'
  · refine .inr ⟨hw, by rw [put_n'] at hd; exact hd, by rw [put_lam, put_η]; exact .refl _ _, YA.putP (l := st.lam) (e := st.η) h3 id hy, ?_⟩
    have := put_put (st := st) (v := v) (u := skipV) h2 st.lam st.η
    rw [put_id (st := put oj.dst skipV st), ← show put oi.dst v (put oj.dst skipV { st with lam := st.lam, η := st.η }) = _ from rfl, ← this]
    have hk := h.2
    cases hoi : oi.dst <;> rw [hoi] at hk <;> exact hk

/-! ### new locals may be taken first -/
/-- A new local, unguarded, at this slot. -/
def newSlot (H : List Nat) (o : Oper) : Option Nat :=
  match o.op, o.dst, o.guard with
  | .alloc _, some d, none => if d ∈ H then none else some d
  | _, _, _ => none
def newSt (d : Nat) (z : List AV) (st : St) : St := put (some d) (.loc d ((st.lam d).ver + 1) 0) { st with lam := upd st.lam d ⟨(st.lam d).ver + 1, z⟩, η := st.η }

theorem newSlot_op {d : Nat} (h : newSlot H o = some d) : o.dst = some d ∧ (∀ st (K : St → Prop), AOpG P lo H ops o K st ↔ d < st.n ∧ ∃ t z, o.op = .alloc t ∧ zeroB P t = some z ∧ K (newSt d z st)) := by
  obtain ⟨dst, op, type, pos, after, guard⟩ := o
  unfold newSlot at h
  split at h
  · rename_i t d' h1 h2 h3
    simp only at h1 h2 h3
    subst h1 h2 h3
    split at h
    · cases h
    · rename_i hd
      simp only [Option.some.injEq] at h
      subst h
      refine ⟨rfl, fun st K => ?_⟩
      simp only [AOpG, AOp, AEff, dstOk]
      cases hz : zeroB P t with
      | none => simp [hz]
      | some z =>
        simp only [newVarA, if_neg hd, newSt]
        constructor
        · rintro ⟨g1, g2⟩; exact ⟨g1, t, z, rfl, hz, g2⟩
        · rintro ⟨g1, t', z', e, hz', g2⟩
          obtain rfl : t = t' := by simpa using e
          rw [hz] at hz'
          obtain rfl := Option.some.inj hz'
          exact ⟨g1, g2⟩
  · cases h

def compatN (ops : Array Oper) (av : List (Nat × Nat)) (oi : Oper) (d : Nat) (j : Nat) (oj : Oper) : Bool := oi.apart ops oj && av.contains (j, d)

theorem opD_new {fl : List Nat} {av : List (Nat × Nat)} {j : Nat} {oi oj : Oper} {d : Nat} {z : List AV} (hi : oi.dst = some d) (hc : compatN ops av oi d j oj = true) (h : opD P lo H ops N fl av j oj K (newSt d z st)) :
    opD P lo H ops N fl av j oj (fun st' => st'.n = st.n ∧ K (newSt d z st')) st := by
  simp only [compatN, Bool.and_eq_true] at hc
  obtain ⟨hap, hav⟩ := hc
  obtain ⟨h1, h2, h3⟩ := Oper.apart_spec hap
  rw [hi] at h1 h2
  have eqw : wantA ops oj (newSt d z st) = wantA ops oj st := wantA_put h1
  have eqo : ∀ x ∈ oj.op.operands, ev (newSt d z st) x = ev st x := ops_put h1
  have hne : oj.dst ≠ some d := h2 d rfl
  have hn : (newSt d z st).n = st.n := put_n' _ _
  unfold opD at *
  have ha : avoidsB N av j oj st = true := by rw [avoidsB_congr (fun x hx => (eqo x hx).symm)]; exact h.1
  refine ⟨ha, ?_⟩
  have hav' : avoidB d (ev st) oj = true := by
    unfold avoidsB at ha
    have := List.all_eq_true.1 ha (j, d) (by simpa using hav)
    simp only [Bool.and_eq_true, Bool.or_eq_true] at this
    rcases this.1.1.1 with h' | h'
    · simp at h'
    · exact h'
  replace h := h.2
  have same : ∀ (u : AV) (l : Nat → LB) (e : List Blk), l d = st.lam d → put oj.dst u { newSt d z st with lam := upd l d ⟨(st.lam d).ver + 1, z⟩, η := e } = newSt d z (put oj.dst u { st with lam := l, η := e }) := by
    intro u l e hl
    unfold newSt
    rw [put_lam, put_η]
    simp only [hl]
    have := put_put (st := { st with lam := upd st.lam d ⟨(st.lam d).ver + 1, z⟩, η := st.η }) (a := some d) (b := oj.dst) (v := .loc d ((st.lam d).ver + 1) 0) (u := u) h2 (upd l d ⟨(st.lam d).ver + 1, z⟩) e
    rw [this]
    cases oj.dst <;> rfl
  have eff : ∀ (K : AV → (Nat → LB) → List Blk → Prop), AEff P lo H oj (ev (newSt d z st)) (newSt d z st).lam (newSt d z st).η K → AEff P lo H oj (ev st) st.lam st.η (fun v l e => l d = st.lam d ∧ K v (upd l d ⟨(st.lam d).ver + 1, z⟩) e) := by
    intro K h
    rw [AEff_congr _ eqo] at h
    have e1 : (newSt d z st).lam = upd st.lam d ⟨(st.lam d).ver + 1, z⟩ := put_lam _ _ _
    have e2 : (newSt d z st).η = st.η := put_η _ _ _
    rw [e1, e2] at h
    exact AEff_avoid hav' hne h
  have e1 : (newSt d z st).lam = upd st.lam d ⟨(st.lam d).ver + 1, z⟩ := put_lam _ _ _
  have e2 : (newSt d z st).η = st.η := put_η _ _ _
  rw [AOpG_iff] at h ⊢
  rw [eqw, hn] at h
  rcases h with ⟨hw, hd, h⟩ | ⟨hw, hd, h⟩
  · rw [hn] at hd
    refine .inl ⟨hw, hd, AEff_mono (fun u l e ⟨hl, hk, hq⟩ => ?_) (eff _ h)⟩
    rw [put_lam, put_η, e1, e2] at hk
    refine ⟨?_, put_n' _ _, by rw [← same u l e hl]; exact hq⟩
    rw [put_lam, put_η]
    exact keepR_upd hl hk
  · refine .inr ⟨hw, hd, by rw [put_lam, put_η]; exact .refl _ _, put_n' _ _, ?_⟩
    have := same skipV st.lam st.η rfl
    have e : put oj.dst skipV (newSt d z st) = newSt d z (put oj.dst skipV st) := by
      refine Eq.trans ?_ this
      unfold newSt
      cases oj.dst <;> rfl
    rw [← e]; exact h.2

/-- Whatever order is picked. -/
def AnyD (P : Program) (lo : Nat) (H : List Nat) (ops : Array Oper) (N : Nat) (fl : List Nat) (av : List (Nat × Nat)) (K : St → Prop) : Nat → Array Bool → St → Prop
  | 0, listed, st => Region.ready .any ops listed = [] ∧ K st
  | fuel + 1, listed, st => (Region.ready .any ops listed = [] → K st) ∧
    ∀ i ∈ Region.ready .any ops listed, ∀ o, ops[i]? = some o → opD P lo H ops N fl av i o (AnyD P lo H ops N fl av K fuel (listed.setIfInBounds i true)) st

theorem AnyD_ok {fl : List Nat} {av : List (Nat × Nat)} {h0 : Nat} {S : Nat → Prop} {Q : Exit → Act → World → Prop} : ∀ (fuel : Nat) (listed : Array Bool) {st : St} {W : Wit} {κ : Nat → Nat} {a : Act} {w : World}, Sim lo h0 S W κ st a w → AnyD P lo H ops N fl av K fuel listed st →
    (∀ a' w', SK lo h0 S W st.η w K a' w' → Q .normal a' w') → wpAny P .any ops Q fuel listed a w
  | 0, listed, st, W, κ, a, w, s, h, hq => ⟨h.1, hq _ _ ⟨st, W, κ, h.2, s, .refl _ _ _, .refl _ _ _⟩⟩
  | fuel + 1, listed, st, W, κ, a, w, s, h, hq => by
    refine ⟨fun hr => hq _ _ ⟨st, W, κ, h.1 hr, s, .refl _ _ _, .refl _ _ _⟩, fun i hi => ?_⟩
    obtain ⟨_, o, ho, _⟩ := mem_ready.1 hi
    have h2 := h.2 i hi o ho
    have h3 : AOpG P lo H ops o (AnyD P lo H ops N fl av K fuel (listed.setIfInBounds i true)) st := opD.op h2
    refine wpOp_mono ?_ (AOpG_ok s ho h3)
    rintro a' w' ⟨st', W', κ', hK, s', hh, hf⟩
    exact AnyD_ok fuel _ s' hK fun a'' w'' hk => hq _ _ (hk.trans hh hf)

/-! ### ancestors -/
def ancOf (A : List Nat) (o : Oper) : Nat := o.after.toList.foldl (fun m e => if Region.binds .any e = true then m ||| (2 ^ e.on ||| A.getD e.on 0) else m) 0
def validB (ops : Array Oper) (A : List Nat) : Bool := (List.range ops.size).all fun j => match ops[j]? with
  | some o => (o.after.all fun e => !Region.binds .any e || decide (e.on < j)) && A.getD j 0 == ancOf A o
  | none => true

theorem fold_bit (A : List Nat) (i : Nat) : ∀ (l : List Edge) (m : Nat), (l.foldl (fun m e => if Region.binds .any e = true then m ||| (2 ^ e.on ||| A.getD e.on 0) else m) m).testBit i = true →
    m.testBit i = true ∨ ∃ e ∈ l, Region.binds .any e = true ∧ (e.on = i ∨ (A.getD e.on 0).testBit i = true)
  | [], _, h => .inl h
  | e :: l, m, h => by
    rw [List.foldl_cons] at h
    rcases fold_bit A i l _ h with h1 | ⟨e', he, h2⟩
    · split at h1
      · rename_i hb
        simp only [Nat.testBit_or, Nat.testBit_two_pow, Bool.or_eq_true, decide_eq_true_eq] at h1
        rcases h1 with h1 | h1 | h1
        · exact .inl h1
        · exact .inr ⟨e, by simp, hb, .inl h1⟩
        · exact .inr ⟨e, by simp, hb, .inr h1⟩
      · exact .inl h1
    · exact .inr ⟨e', by simp [he], h2⟩

def Closed (ops : Array Oper) (listed : Array Bool) : Prop := ∀ j o, ops[j]? = some o → listed.getD j false = true → ∀ e ∈ o.after, Region.binds .any e = true → listed.getD e.on false = true

theorem anc_listed {A : List Nat} (hv : validB ops A = true) {listed : Array Bool} (hc : Closed ops listed) {i : Nat} : ∀ (n j : Nat), j < n → ∀ o, ops[j]? = some o →
    (∀ e ∈ o.after, Region.binds .any e = true → listed.getD e.on false = true) → (A.getD j 0).testBit i = true → listed.getD i false = true
  | 0, j, hj, _, _, _, _ => by omega
  | n + 1, j, hj, o, ho, hall, hb => by
    have hlt : j < ops.size := (Array.getElem?_eq_some_iff.1 ho).1
    have h1 := List.all_eq_true.1 hv j (List.mem_range.2 hlt)
    simp only [ho, Bool.and_eq_true, beq_iff_eq] at h1
    rw [h1.2] at hb
    rcases fold_bit A i _ _ hb with h2 | ⟨e, he, hbe, h2⟩
    · simp at h2
    · have hee : e ∈ o.after := by simpa using he
      have hl := hall e hee hbe
      rcases h2 with rfl | h2
      · exact hl
      · have hej : e.on < j := by
          have := Array.all_eq_true_iff_forall_mem.1 h1.1 e hee
          simpa [hbe] using this
        have hlt' : e.on < ops.size := by omega
        exact anc_listed hv hc n e.on (by omega) ops[e.on] (Array.getElem?_eq_getElem hlt') (hc e.on _ (Array.getElem?_eq_getElem hlt') hl) h2

theorem Closed.set {listed : Array Bool} (hc : Closed ops listed) {i : Nat} {oi : Oper} (hi : ops[i]? = some oi) (hall : ∀ e ∈ oi.after, Region.binds .any e = true → listed.getD e.on false = true) : Closed ops (listed.setIfInBounds i true) := by
  intro j o ho hl e he hb
  by_cases hij : i = j
  · subst hij
    rw [hi] at ho
    obtain rfl := Option.some.inj ho
    exact getD_set_true (hall e he hb)
  · rw [getD_set_ne false hij] at hl
    exact getD_set_true (hc j o ho hl e he hb)

/-- A looking operation may be taken first. -/
theorem AnyD_first {A : List Nat} {fl : List Nat} {av : List (Nat × Nat)} (hv : validB ops A = true) {i : Nat} {oi : Oper} {v : AV} (hi : ops[i]? = some oi) (hl : isLook oi = true) :
    ∀ (fuel : Nat) (listed : Array Bool) (st : St), Closed ops listed →
      (∀ j oj, ops[j]? = some oj → j ≠ i → listed.getD j true = false → (A.getD j 0).testBit i = false → compatB ops fl av i oi j oj = true) →
      i ∈ Region.ready .any ops listed → YA P ops N av i oi v st →
      AnyD P lo H ops N fl av K fuel (listed.setIfInBounds i true) (put oi.dst v st) → AnyD P lo H ops N fl av K (fuel + 1) listed st := by
  have here : ∀ (K : St → Prop) (st : St), YA P ops N av i oi v st → K (put oi.dst v st) → opD P lo H ops N fl av i oi K st := fun K st hy hk => by
    refine ⟨hy.1, hy.op hl ⟨?_, hk⟩⟩
    rw [put_lam, put_η]
    exact .refl _ _
  intro fuel
  induction fuel with
  | zero =>
    intro listed st _ _ hr hy hK
    refine ⟨fun h => (by rw [h] at hr; cases hr), fun j hj oj hoj => ?_⟩
    by_cases hji : j = i
    · subst hji
      rw [hi] at hoj
      obtain rfl := Option.some.inj hoj
      exact here _ _ hy hK
    · have := ready_mono hj hji
      rw [hK.1] at this
      cases this
  | succ fuel ih =>
    intro listed st hcl hfree hr hy hK
    refine ⟨fun h => (by rw [h] at hr; cases hr), fun j hj oj hoj => ?_⟩
    by_cases hji : j = i
    · subst hji
      rw [hi] at hoj
      obtain rfl := Option.some.inj hoj
      exact here _ _ hy hK
    · have h1 := hK.2 j (ready_mono hj hji) oj hoj
      obtain ⟨hjun, oj', hoj', hall⟩ := mem_ready.1 hj
      rw [hoj] at hoj'
      obtain rfl := Option.some.inj hoj'
      have hbit : (A.getD j 0).testBit i = false := by
        cases hb : (A.getD j 0).testBit i with
        | false => rfl
        | true =>
          have hl' := anc_listed hv hcl (j + 1) j (by omega) oj hoj hall hb
          have h0 := (mem_ready.1 hr).1
          rcases Nat.lt_or_ge i listed.size with h' | h'
          · simp [h'] at h0 hl'; rw [h0] at hl'; cases hl'
          · simp [Array.getElem?_eq_none h'] at hl'
      have h2 := opD_put (hfree j oj hoj hji hjun hbit) hy h1
      have hfree' : ∀ k ok, ops[k]? = some ok → k ≠ i → (listed.setIfInBounds j true).getD k true = false → (A.getD k 0).testBit i = false → compatB ops fl av i oi k ok = true := fun k ok hk hki hun hno => by
        refine hfree k ok hk hki ?_ hno
        by_cases hjk : j = k
        · subst hjk; exact hjun
        · rw [getD_set_ne true hjk] at hun; exact hun
      refine opD_mono (fun st' h3 => ih (listed.setIfInBounds j true) st' (hcl.set hoj hall) hfree' (ready_mono hr (Ne.symm hji)) h3.1 ?_) h2
      rw [Array.setIfInBounds_comm _ _ hji]
      exact h3.2

/-- A new local may be taken first. -/
theorem AnyD_new {A : List Nat} {fl : List Nat} {av : List (Nat × Nat)} (hv : validB ops A = true) {i : Nat} {oi : Oper} {d : Nat} {t : TypeId} {z : List AV} (hi : ops[i]? = some oi) (hs : newSlot H oi = some d) (ht : oi.op = .alloc t) (hz : zeroB P t = some z) (hfi : fl.contains i = false) (hfw : fl.contains (i + 1000) = false) (hfo : fl.contains (i + 2000) = false) (hfl : fl.contains (i + 3000) = false) (hfa : (av.all fun p => p.1 != i + 1000 && p.1 != i + 2000 && p.1 != i + 3000) = true) :
    ∀ (fuel : Nat) (listed : Array Bool) (st : St), Closed ops listed → d < st.n →
      (∀ j oj, ops[j]? = some oj → j ≠ i → listed.getD j true = false → (A.getD j 0).testBit i = false → compatN ops av oi d j oj = true) →
      i ∈ Region.ready .any ops listed →
      AnyD P lo H ops N fl av K fuel (listed.setIfInBounds i true) (newSt d z st) → AnyD P lo H ops N fl av K (fuel + 1) listed st := by
  have here : ∀ (K : St → Prop) (st : St), d < st.n → K (newSt d z st) → opD P lo H ops N fl av i oi K st := fun K st hd hk => by
    unfold opD
    refine ⟨?_, ?_⟩
    · unfold avoidsB avoidB
      rw [ht, List.all_eq_true]
      intro p hp
      have := List.all_eq_true.1 hfa p hp
      simp only [Bool.and_eq_true] at this
      rw [this.1.1, this.1.2, this.2]
      simp [Op.operands]
    · exact ((newSlot_op hs).2 st _).2 ⟨hd, t, z, ht, hz, .none (by rw [hfi]; simp) (by rw [hfw]; simp) (by rw [hfo]; simp) (by rw [hfl]; simp), hk⟩
  intro fuel
  induction fuel with
  | zero =>
    intro listed st _ hd _ hr hK
    refine ⟨fun h => (by rw [h] at hr; cases hr), fun j hj oj hoj => ?_⟩
    by_cases hji : j = i
    · subst hji
      rw [hi] at hoj
      obtain rfl := Option.some.inj hoj
      exact here _ _ hd hK
    · have := ready_mono hj hji
      rw [hK.1] at this
      cases this
  | succ fuel ih =>
    intro listed st hcl hd hfree hr hK
    refine ⟨fun h => (by rw [h] at hr; cases hr), fun j hj oj hoj => ?_⟩
    by_cases hji : j = i
    · subst hji
      rw [hi] at hoj
      obtain rfl := Option.some.inj hoj
      exact here _ _ hd hK
    · have h1 := hK.2 j (ready_mono hj hji) oj hoj
      obtain ⟨hjun, oj', hoj', hall⟩ := mem_ready.1 hj
      rw [hoj] at hoj'
      obtain rfl := Option.some.inj hoj'
      have hbit : (A.getD j 0).testBit i = false := by
        cases hb : (A.getD j 0).testBit i with
        | false => rfl
        | true =>
          have hl' := anc_listed hv hcl (j + 1) j (by omega) oj hoj hall hb
          have h0 := (mem_ready.1 hr).1
          rcases Nat.lt_or_ge i listed.size with h' | h'
          · simp [h'] at h0 hl'; rw [h0] at hl'; cases hl'
          · simp [Array.getElem?_eq_none h'] at hl'
      have h2 := opD_new (newSlot_op (P := P) (lo := lo) (ops := ops) hs).1 (hfree j oj hoj hji hjun hbit) h1
      have hfree' : ∀ k ok, ops[k]? = some ok → k ≠ i → (listed.setIfInBounds j true).getD k true = false → (A.getD k 0).testBit i = false → compatN ops av oi d k ok = true := fun k ok hk hki hun hno => by
        refine hfree k ok hk hki ?_ hno
        by_cases hjk : j = k
        · subst hjk; exact hjun
        · rw [getD_set_ne true hjk] at hun; exact hun
      refine opD_mono (fun st' h3 => ih (listed.setIfInBounds j true) st' (hcl.set hoj hall) (by rw [h3.1]; exact hd) hfree' (ready_mono hr (Ne.symm hji)) ?_) h2
      rw [Array.setIfInBounds_comm _ _ hji]
      exact h3.2

/-! ### one walk -/
/-- An order in which operations are walked; at 'two' either may come first. -/
inductive OT where
  | nil
  | one (i : Nat) (r : OT)
  | two (i j : Nat) (p q : OT)
  | three (i j k : Nat) (p q r : OT)
  | four (i j k m : Nat) (p q r s : OT)
def OT.len : OT → Nat
  | .nil => 0
  | .one _ r => r.len + 1
  | .two _ _ p _ => p.len + 1
  | .three _ _ _ p _ _ => p.len + 1
  | .four _ _ _ _ p _ _ _ => p.len + 1
def walkB (H : List Nat) (ops : Array Oper) (A fl : List Nat) (av : List (Nat × Nat)) : OT → Array Bool → Bool
  | .nil, listed => (Region.ready .any ops listed).isEmpty
  | .two i j p q, listed => Region.ready .any ops listed == [i, j] && p.len == q.len && walkB H ops A fl av p (listed.setIfInBounds i true) && walkB H ops A fl av q (listed.setIfInBounds j true)
  | .three i j k p q r, listed => Region.ready .any ops listed == [i, j, k] && p.len == q.len && p.len == r.len && walkB H ops A fl av p (listed.setIfInBounds i true) && walkB H ops A fl av q (listed.setIfInBounds j true) && walkB H ops A fl av r (listed.setIfInBounds k true)
  | .four i j k m p q r s, listed => Region.ready .any ops listed == [i, j, k, m] && p.len == q.len && p.len == r.len && p.len == s.len && walkB H ops A fl av p (listed.setIfInBounds i true) && walkB H ops A fl av q (listed.setIfInBounds j true) && walkB H ops A fl av r (listed.setIfInBounds k true) && walkB H ops A fl av s (listed.setIfInBounds m true)
  | .one i r, listed => (match ops[i]? with
      | none => false
      | some oi => match newSlot H oi with
        | some d => !fl.contains i && !fl.contains (i + 1000) && !fl.contains (i + 2000) && !fl.contains (i + 3000) && (av.all fun p => p.1 != i + 1000 && p.1 != i + 2000 && p.1 != i + 3000) && (Region.ready .any ops listed).contains i && ((List.range ops.size).all fun j => j == i || listed.getD j true || (A.getD j 0).testBit i || match ops[j]? with
            | some oj => compatN ops av oi d j oj
            | none => true)
        | none => if isLook oi then (Region.ready .any ops listed).contains i && ((List.range ops.size).all fun j => j == i || listed.getD j true || (A.getD j 0).testBit i || match ops[j]? with
            | some oj => compatB ops fl av i oi j oj
            | none => true)
          else Region.ready .any ops listed == [i]) && walkB H ops A fl av r (listed.setIfInBounds i true)

def AOpsI (P : Program) (lo : Nat) (H : List Nat) (ops : Array Oper) (N : Nat) (fl : List Nat) (av : List (Nat × Nat)) (K : St → Prop) : OT → St → Prop
  | .nil, st => K st
  | .two i j p q, st => (match ops[i]? with
    | some o => opD P lo H ops N fl av i o (AOpsI P lo H ops N fl av K p) st
    | none => False) ∧ (match ops[j]? with
    | some o => opD P lo H ops N fl av j o (AOpsI P lo H ops N fl av K q) st
    | none => False)
  | .three i j k p q r, st => (match ops[i]? with
    | some o => opD P lo H ops N fl av i o (AOpsI P lo H ops N fl av K p) st
    | none => False) ∧ (match ops[j]? with
    | some o => opD P lo H ops N fl av j o (AOpsI P lo H ops N fl av K q) st
    | none => False) ∧ (match ops[k]? with
    | some o => opD P lo H ops N fl av k o (AOpsI P lo H ops N fl av K r) st
    | none => False)
  | .four i j k m p q r s, st => (match ops[i]? with
    | some o => opD P lo H ops N fl av i o (AOpsI P lo H ops N fl av K p) st
    | none => False) ∧ (match ops[j]? with
    | some o => opD P lo H ops N fl av j o (AOpsI P lo H ops N fl av K q) st
    | none => False) ∧ (match ops[k]? with
    | some o => opD P lo H ops N fl av k o (AOpsI P lo H ops N fl av K r) st
    | none => False) ∧ (match ops[m]? with
    | some o => opD P lo H ops N fl av m o (AOpsI P lo H ops N fl av K s) st
    | none => False)
  | .one i r, st => match ops[i]? with
    | some o => opD P lo H ops N fl av i o (AOpsI P lo H ops N fl av K r) st
    | none => False

theorem walk_ok {A fl : List Nat} {av : List (Nat × Nat)} (hv : validB ops A = true) : ∀ (ord : OT) (listed : Array Bool) (st : St), Closed ops listed → walkB H ops A fl av ord listed = true → AOpsI P lo H ops N fl av K ord st → AnyD P lo H ops N fl av K ord.len listed st
  | .nil, listed, st, _, hB, h => ⟨by simpa [walkB] using hB, h⟩
  | .two i j p q, listed, st, hcl, hB, h => by
    simp only [walkB, Bool.and_eq_true, beq_iff_eq] at hB
    obtain ⟨⟨⟨hr, hlen⟩, hB1⟩, hB2⟩ := hB
    unfold AOpsI at h
    refine ⟨fun h0 => (by rw [hr] at h0; cases h0), fun k hk ok hok => ?_⟩
    have hk' := hk
    rw [hr] at hk
    obtain ⟨_, o', ho', hall⟩ := mem_ready.1 hk'
    rw [hok] at ho'
    obtain rfl := Option.some.inj ho'
    rcases List.mem_cons.1 hk with rfl | hk
    · replace h := h.1
      rw [hok] at h
      exact opD_mono (fun st' h' => walk_ok hv p _ _ (hcl.set hok hall) hB1 h') h
    · obtain rfl := List.mem_singleton.1 hk
      replace h := h.2
      rw [hok] at h
      show opD P lo H ops N fl av k ok (AnyD P lo H ops N fl av K p.len (listed.setIfInBounds k true)) st
      rw [hlen]
      exact opD_mono (fun st' h' => walk_ok hv q _ _ (hcl.set hok hall) hB2 h') h
  | .three i j m p q r, listed, st, hcl, hB, h => by
    simp only [walkB, Bool.and_eq_true, beq_iff_eq] at hB
    obtain ⟨⟨⟨⟨⟨hr, hlen⟩, hlen2⟩, hB1⟩, hB2⟩, hB3⟩ := hB
    unfold AOpsI at h
    refine ⟨fun h0 => (by rw [hr] at h0; cases h0), fun k hk ok hok => ?_⟩
    have hk' := hk
    rw [hr] at hk
    obtain ⟨_, o', ho', hall⟩ := mem_ready.1 hk'
    rw [hok] at ho'
    obtain rfl := Option.some.inj ho'
    rcases List.mem_cons.1 hk with rfl | hk
    · replace h := h.1
      rw [hok] at h
      exact opD_mono (fun st' h' => walk_ok hv p _ _ (hcl.set hok hall) hB1 h') h
    · rcases List.mem_cons.1 hk with rfl | hk
      · replace h := h.2.1
        rw [hok] at h
        show opD P lo H ops N fl av k ok (AnyD P lo H ops N fl av K p.len (listed.setIfInBounds k true)) st
        rw [hlen]
        exact opD_mono (fun st' h' => walk_ok hv q _ _ (hcl.set hok hall) hB2 h') h
      · obtain rfl := List.mem_singleton.1 hk
        replace h := h.2.2
        rw [hok] at h
        show opD P lo H ops N fl av k ok (AnyD P lo H ops N fl av K p.len (listed.setIfInBounds k true)) st
        rw [hlen2]
        exact opD_mono (fun st' h' => walk_ok hv r _ _ (hcl.set hok hall) hB3 h') h
  | .four i j m m' p q r s, listed, st, hcl, hB, h => by
    simp only [walkB, Bool.and_eq_true, beq_iff_eq] at hB
    obtain ⟨⟨⟨⟨⟨⟨⟨hr, hlen⟩, hlen2⟩, hlen3⟩, hB1⟩, hB2⟩, hB3⟩, hB4⟩ := hB
    unfold AOpsI at h
    refine ⟨fun h0 => (by rw [hr] at h0; cases h0), fun k hk ok hok => ?_⟩
    have hk' := hk
    rw [hr] at hk
    obtain ⟨_, o', ho', hall⟩ := mem_ready.1 hk'
    rw [hok] at ho'
    obtain rfl := Option.some.inj ho'
    rcases List.mem_cons.1 hk with rfl | hk
    · replace h := h.1
      rw [hok] at h
      exact opD_mono (fun st' h' => walk_ok hv p _ _ (hcl.set hok hall) hB1 h') h
    · rcases List.mem_cons.1 hk with rfl | hk
      · replace h := h.2.1
        rw [hok] at h
        show opD P lo H ops N fl av k ok (AnyD P lo H ops N fl av K p.len (listed.setIfInBounds k true)) st
        rw [hlen]
        exact opD_mono (fun st' h' => walk_ok hv q _ _ (hcl.set hok hall) hB2 h') h
      · rcases List.mem_cons.1 hk with rfl | hk
        · replace h := h.2.2.1
          rw [hok] at h
          show opD P lo H ops N fl av k ok (AnyD P lo H ops N fl av K p.len (listed.setIfInBounds k true)) st
          rw [hlen2]
          exact opD_mono (fun st' h' => walk_ok hv r _ _ (hcl.set hok hall) hB3 h') h
        · obtain rfl := List.mem_singleton.1 hk
          replace h := h.2.2.2
          rw [hok] at h
          show opD P lo H ops N fl av k ok (AnyD P lo H ops N fl av K p.len (listed.setIfInBounds k true)) st
          rw [hlen3]
          exact opD_mono (fun st' h' => walk_ok hv s _ _ (hcl.set hok hall) hB4 h') h
  | .one i r, listed, st, hcl, hB, h => by
    simp only [walkB, Bool.and_eq_true] at hB
    obtain ⟨hB, hB'⟩ := hB
    unfold AOpsI at h
    cases hi : ops[i]? with
    | none => rw [hi] at hB; cases hB
    | some oi =>
      rw [hi] at hB h
      simp only at hB h
      cases hs : newSlot H oi with
      | some d =>
        rw [hs] at hB
        simp only [Bool.and_eq_true, Bool.not_eq_true'] at hB
        obtain ⟨⟨⟨⟨⟨⟨hfi, hfw⟩, hfo⟩, hfl⟩, hfa⟩, hr⟩, hfree⟩ := hB
        have hr' : i ∈ Region.ready .any ops listed := by simpa using hr
        obtain ⟨_, o', ho', hall⟩ := mem_ready.1 hr'
        rw [hi] at ho'
        obtain rfl := Option.some.inj ho'
        have h' : AOpG P lo H ops oi (AOpsI P lo H ops N fl av K r) st := opD.op h
        obtain ⟨hd, t, z, ht, hz, hK⟩ := ((newSlot_op hs).2 st _).1 h'
        refine AnyD_new hv hi hs ht hz hfi hfw hfo hfl hfa r.len listed st hcl hd (fun j oj hj hne hun hbit => ?_) hr' (walk_ok hv r _ _ (hcl.set hi hall) hB' hK)
        have h1 := List.all_eq_true.1 hfree j (List.mem_range.2 (Array.getElem?_eq_some_iff.1 hj).1)
        simpa only [hj, Bool.or_eq_true, beq_iff_eq, hne, false_or, hun, hbit, Bool.false_eq_true] using h1
      | none =>
      rw [hs] at hB
      simp only at hB
      by_cases hl : isLook oi = true
      · rw [if_pos hl] at hB
        simp only [Bool.and_eq_true] at hB
        obtain ⟨hr, hfree⟩ := hB
        have hr' : i ∈ Region.ready .any ops listed := by simpa using hr
        obtain ⟨_, o', ho', hall⟩ := mem_ready.1 hr'
        rw [hi] at ho'
        obtain rfl := Option.some.inj ho'
        have h' : AOpG P lo H ops oi (AOpsI P lo H ops N fl av K r) st := opD.op h
        obtain ⟨v, hy, hK⟩ := YA_of (av := av) (i := i) (by unfold opD at h; exact h.1) hl h'
        refine AnyD_first hv hi hl r.len listed st hcl (fun j oj hj hne hun hbit => ?_) hr' hy (walk_ok hv r _ _ (hcl.set hi hall) hB' hK)
        have h1 := List.all_eq_true.1 hfree j (List.mem_range.2 (Array.getElem?_eq_some_iff.1 hj).1)
        simpa only [hj, Bool.or_eq_true, beq_iff_eq, hne, false_or, hun, hbit, Bool.false_eq_true] using h1
      · rw [if_neg hl] at hB
        have hr : Region.ready .any ops listed = [i] := by simpa using hB
        have hr' : i ∈ Region.ready .any ops listed := by rw [hr]; simp
        obtain ⟨_, o', ho', hall⟩ := mem_ready.1 hr'
        rw [hi] at ho'
        obtain rfl := Option.some.inj ho'
        refine ⟨fun h0 => (by rw [hr] at h0; cases h0), fun j hj oj hoj => ?_⟩
        rw [hr] at hj
        obtain rfl := List.mem_singleton.1 hj
        rw [hi] at hoj
        obtain rfl := Option.some.inj hoj
        exact opD_mono (fun st' h' => walk_ok hv r _ _ (hcl.set hi hall) hB' h') h

def drawB (H : List Nat) (ops : Array Oper) (A fl : List Nat) (av : List (Nat × Nat)) (ord : OT) : Bool := validB ops A && ord.len == ops.size && walkB H ops A fl av ord (Array.replicate ops.size false)

theorem Sim.drew {h0 : Nat} {S : Nat → Prop} {W : Wit} {κ : Nat → Nat} {a : Act} {w : World} (s : Sim lo h0 S W κ st a w) : Sim lo h0 S W κ st a { w with drawn := w.drawn + 1 } :=
  ⟨⟨s.hs.lo_le, s.hs.cell, s.hs.own, s.hs.sep⟩, ⟨s.ls.row, s.ls.ll, s.ls.lh⟩, s.ts, s.tm, s.df, s.h0le, s.oS, s.lS⟩

theorem AW_any {id : Nat} {fl : List Nat} {av : List (Nat × Nat)} {Q : Exit → St → Prop} (hm : P.follows .mixedOrders = true) (h : AnyD P lo H ops N fl av (Q .normal) ops.size (Array.replicate ops.size false) st) : AW P lo (.region id ops true) Q st := by
  intro h0 S W κ a w s
  refine wp_region_any hm (AnyD_ok _ _ s.drew h ?_)
  rintro a' w' ⟨st', W', κ', hK, s', hh, hf⟩
  exact ⟨st', W', κ', hK, s', hh, ⟨hf.os, hf.tape, hf.output, hf.size, hf.block⟩⟩

theorem AW_draw {id : Nat} {A fl : List Nat} {ord : OT} {av : List (Nat × Nat)} {Q : Exit → St → Prop} (hm : P.follows .mixedOrders = true) (hB : drawB H ops A fl av ord = true) (h : AOpsI P lo H ops N fl av (Q .normal) ord st) : AW P lo (.region id ops true) Q st := by
  simp only [drawB, Bool.and_eq_true, beq_iff_eq] at hB
  refine AW_any (H := H) (N := N) (fl := fl) (av := av) hm ?_
  rw [← hB.1.2]
  exact walk_ok hB.1.1 ord _ st (fun j o ho hl e he hb => by simp [Array.getD] at hl) (by rw [hB.1.2]; exact hB.2) h

end
end Go.Proofs.Ytaalpmbopkbdiaa
/- The abstract logic: code, taken apart by its form. -/
namespace Go.Proofs.Ytaalpmbopkbdiaa
open Go

section
variable {P : Program} {lo : Nat} {H : List Nat}

def setB (t : Tmp) (b : Bool) (st : St) : St := { st with τ := upd st.τ t (.bool b) }
theorem setB_same {t : Tmp} {b : Bool} {st : St} (h : ev st (.tmp t) = .bool b) : setB t b st = st := by
  obtain ⟨n, τ, lam, η⟩ := st
  simp only [ev] at h
  by_cases ht : t < n
  · rw [if_pos ht] at h
    simp only [setB, St.mk.injEq, and_true, true_and]
    funext i
    simp only [upd]
    by_cases hi : i = t
    · rw [if_pos hi, hi, h]
    · rw [if_neg hi]
  · rw [if_neg ht] at h; cases h

/-- What is known of calls. -/
abbrev Spec := FuncId → List AV → List Blk → (AV → List Blk → Prop) → Prop
def Sound (P : Program) (lo : Nat) (Sp : Spec) : Prop := ∀ g args η K, Sp g args η K → AFX P lo g args η K

/-- What follows an operation, as a named function: nothing is worked out before its value is there. -/
def contE (K : St → Prop) (dst : Option Tmp) (st : St) : AV → (Nat → LB) → List Blk → Prop := fun v lam' η' => K (put dst v { st with lam := lam', η := η' })
def contC (K : St → Prop) (dst : Option Tmp) (st : St) : AV → List Blk → Prop := fun v η' => K (put dst v { st with lam := st.lam, η := η' })
theorem contE_at (K : St → Prop) (dst : Option Tmp) (st : St) (v : AV) (l : Nat → LB) (e : List Blk) : contE K dst st v l e = K (put dst v ⟨st.n, st.τ, l, e⟩) := rfl
theorem contC_at (K : St → Prop) (dst : Option Tmp) (st : St) (v : AV) (e : List Blk) : contC K dst st v e = K (put dst v ⟨st.n, st.τ, st.lam, e⟩) := rfl
def AOpE (P : Program) (lo : Nat) (H : List Nat) (o : Oper) (K : St → Prop) (st : St) : Prop := dstOk o.dst st.n ∧ AEff P lo H o (ev st) st.lam st.η (contE K o.dst st)

def AOpF (P : Program) (lo : Nat) (H : List Nat) (Sp : Spec) (o : Oper) (K : St → Prop) (st : St) : Prop :=
  match o.op with
  | .call c => match c.callee with
    | .value f => match ev st f with
      | .fn g caps => dstOk o.dst st.n ∧ (c.args.toList.map (ev st)).all noLoc1 = true ∧ Sp g (c.args.toList.map (ev st) ++ caps) st.η (contC K o.dst st)
      | _ => False
    | _ => AOpE P lo H o K st
  | _ => AOpE P lo H o K st

theorem AOpF_ok {Sp : Spec} (hs : Sound P lo Sp) {o : Oper} {K : St → Prop} {st : St} (h : AOpF P lo H Sp o K st) : AOp P lo H o K st := by
  unfold AOpF at h
  split at h
  · rename_i c hc
    split at h
    · rename_i f hf
      split at h
      · rename_i g caps hg
        refine ⟨h.1, ?_⟩
        unfold AEff
        rw [hc]
        simp only [hf, hg]
        exact ⟨h.2.1, hs _ _ _ _ h.2.2⟩
      · exact h.elim
    · exact h
  · exact h

/-- An operation behind its guard; in each branch the guard's value is written out. -/
def AOpC (P : Program) (lo : Nat) (H : List Nat) (Sp : Spec) (ops : Array Oper) (o : Oper) (K : St → Prop) (st : St) : Prop :=
  match o.guard with
  | none => AOpF P lo H Sp o K st
  | some (j, want) => match (ops[j]?).bind (·.dst) with
    | some t => match ev st (.tmp t) with
      | .bool b => if b = want then AOpF P lo H Sp o K (setB t want st) else dstOk o.dst st.n ∧ K (put o.dst skipV (setB t (!want) st))
      | .tup [] => dstOk o.dst st.n ∧ K (put o.dst skipV st)
      | _ => False
    | none => False

theorem AOpC_ok {Sp : Spec} (hs : Sound P lo Sp) {ops : Array Oper} {o : Oper} {K : St → Prop} {st : St} (h : AOpC P lo H Sp ops o K st) : AOpG P lo H ops o K st := by
  unfold AOpC at h
  unfold AOpG
  cases hg : o.guard with
  | none => rw [hg] at h; exact AOpF_ok hs h
  | some jw =>
    obtain ⟨j, want⟩ := jw
    rw [hg] at h
    simp only at h ⊢
    cases hd : (ops[j]?).bind (·.dst) with
    | none => rw [hd] at h; exact h.elim
    | some t =>
      rw [hd] at h
      simp only at h
      split at h
      · rename_i b hb
        have hy : yieldedA ops st j want = some (b == want) := by
          unfold yieldedA
          rw [hd]
          simp only [ev] at hb
          simp only [hb]
        rw [hy]
        by_cases hbw : b = want
        · rw [show (b == want) = true by simp [hbw]]
          rw [if_pos hbw] at h
          have := h
          rw [setB_same (by rw [hb, hbw])] at this
          exact AOpF_ok hs this
        · rw [show (b == want) = false by simp [hbw]]
          have hb' : b = (!want) := by cases b <;> cases want <;> simp_all
          rw [if_neg hbw] at h
          have := h
          rwa [setB_same (by rw [hb, hb'])] at this
      · rename_i hb
        have hy : yieldedA ops st j want = some false := by
          unfold yieldedA
          rw [hd]
          simp only [ev] at hb
          simp only [hb]
        rw [hy]
        exact h
      · exact h.elim

def AOpsC (P : Program) (lo : Nat) (H : List Nat) (Sp : Spec) (ops : Array Oper) (K : St → Prop) : List Oper → St → Prop
  | [] => K
  | o :: rest => AOpC P lo H Sp ops o (AOpsC P lo H Sp ops K rest)

theorem AOpsC_ok {Sp : Spec} (hs : Sound P lo Sp) {ops : Array Oper} {K : St → Prop} : ∀ (l : List Oper) {st : St}, AOpsC P lo H Sp ops K l st → AOps P lo H ops K l st
  | [], _, h => h
  | _ :: l, _, h => AOpG_mono (fun _ h => AOpsC_ok hs l h) (AOpC_ok hs h)

/-- What only adds, from one state on. -/
def KsS (st st' : St) : Prop := Ks true st.lam st.η st'.lam st'.η

theorem KsS_same {n n' : Nat} {τ τ' : Nat → AV} {lam : Nat → LB} {η : List Blk} : KsS ⟨n, τ, lam, η⟩ ⟨n', τ', lam, η⟩ = True := eq_true (Ks.refl _ _ _)
theorem KsS_grow {n n' : Nat} {τ τ' : Nat → AV} {lam : Nat → LB} {η l : List Blk} : KsS ⟨n, τ, lam, η⟩ ⟨n', τ', lam, η ++ l⟩ = True := eq_true (Ks.grow _ _ _)

def keepC (K : St → Prop) (st : St) : St → Prop := fun st' => KsS st st' ∧ K st'
/-- What changes cells of blocks alone, from one state on. -/
def KsSW (st st' : St) : Prop := KsW st.lam st.η st'.lam st'.η
theorem KsSW_same {n n' : Nat} {τ τ' : Nat → AV} {lam : Nat → LB} {η : List Blk} : KsSW ⟨n, τ, lam, η⟩ ⟨n', τ', lam, η⟩ = True := eq_true (KsW.refl _ _)
theorem KsSW_grow {n n' : Nat} {τ τ' : Nat → AV} {lam : Nat → LB} {η l : List Blk} : KsSW ⟨n, τ, lam, η⟩ ⟨n', τ', lam, η ++ l⟩ = True := eq_true (KsW_of (Ks.grow _ _ _))
/-- What changes cells of new blocks alone, from one state on. -/
def KsOS (N : Nat) (st st' : St) : Prop := KsO N st.lam st.η st'.lam st'.η
theorem KsOS_same {N n n' : Nat} {τ τ' : Nat → AV} {lam : Nat → LB} {η : List Blk} : KsOS N ⟨n, τ, lam, η⟩ ⟨n', τ', lam, η⟩ = True := eq_true (KsO.refl _ _ _)
theorem KsOS_grow {N n n' : Nat} {τ τ' : Nat → AV} {lam : Nat → LB} {η l : List Blk} : KsOS N ⟨n, τ, lam, η⟩ ⟨n', τ', lam, η ++ l⟩ = True := eq_true (KsO_of (Ks.grow _ _ _))
def keepO (N : Nat) (K : St → Prop) (st : St) : St → Prop := fun st' => KsOS N st st' ∧ K st'
theorem keepO_at (N : Nat) (K : St → Prop) (st st' : St) : keepO N K st st' = (KsOS N st st' ∧ K st') := rfl
def keepW (K : St → Prop) (st : St) : St → Prop := fun st' => KsSW st st' ∧ K st'
theorem keepW_at (K : St → Prop) (st st' : St) : keepW K st st' = (KsSW st st' ∧ K st') := rfl
/-- What keeps locals, from one state on. -/
def KsSL (st st' : St) : Prop := KsL st.lam st'.lam
theorem KsSL_same {n n' : Nat} {τ τ' : Nat → AV} {lam : Nat → LB} {η η' : List Blk} : KsSL ⟨n, τ, lam, η⟩ ⟨n', τ', lam, η'⟩ = True := eq_true (KsL.refl _)
def keepL (K : St → Prop) (st : St) : St → Prop := fun st' => KsSL st st' ∧ K st'
theorem keepL_at (K : St → Prop) (st st' : St) : keepL K st st' = (KsSL st st' ∧ K st') := rfl
theorem keepC_at (K : St → Prop) (st st' : St) : keepC K st st' = (KsS st st' ∧ K st') := rfl
def drawStep (P : Program) (lo : Nat) (H : List Nat) (Sp : Spec) (ops : Array Oper) (N : Nat) (fl : List Nat) (av : List (Nat × Nat)) (i : Nat) (K : St → Prop) (st : St) : Prop :=
  match ops[i]? with
  | some o => avoidsB N av i o st = true ∧ if fl.contains i = true then AOpC P lo H Sp ops o (keepC K st) st else if fl.contains (i + 2000) = true then AOpC P lo H Sp ops o (keepO N K st) st else if fl.contains (i + 1000) = true then AOpC P lo H Sp ops o (keepW K st) st else if fl.contains (i + 3000) = true then AOpC P lo H Sp ops o (keepL K st) st else AOpC P lo H Sp ops o K st
  | none => False

def andC (f g : St → Prop) (st : St) : Prop := f st ∧ g st
def AOpsD (P : Program) (lo : Nat) (H : List Nat) (Sp : Spec) (ops : Array Oper) (N : Nat) (fl : List Nat) (av : List (Nat × Nat)) (K : St → Prop) : OT → St → Prop
  | .nil => K
  | .two i j p q => andC (drawStep P lo H Sp ops N fl av i (AOpsD P lo H Sp ops N fl av K p)) (drawStep P lo H Sp ops N fl av j (AOpsD P lo H Sp ops N fl av K q))
  | .three i j k p q r => andC (drawStep P lo H Sp ops N fl av i (AOpsD P lo H Sp ops N fl av K p)) (andC (drawStep P lo H Sp ops N fl av j (AOpsD P lo H Sp ops N fl av K q)) (drawStep P lo H Sp ops N fl av k (AOpsD P lo H Sp ops N fl av K r)))
  | .four i j k m p q r s => andC (drawStep P lo H Sp ops N fl av i (AOpsD P lo H Sp ops N fl av K p)) (andC (drawStep P lo H Sp ops N fl av j (AOpsD P lo H Sp ops N fl av K q)) (andC (drawStep P lo H Sp ops N fl av k (AOpsD P lo H Sp ops N fl av K r)) (drawStep P lo H Sp ops N fl av m (AOpsD P lo H Sp ops N fl av K s))))
  | .one i r => drawStep P lo H Sp ops N fl av i (AOpsD P lo H Sp ops N fl av K r)

theorem drawStep_ok {N : Nat} {Sp : Spec} (hs : Sound P lo Sp) {ops : Array Oper} {fl : List Nat} {av : List (Nat × Nat)} {i : Nat} {K K' : St → Prop} {st : St} (h : drawStep P lo H Sp ops N fl av i K st) (hk : ∀ st, K st → K' st) :
    match ops[i]? with
    | some o => opD P lo H ops N fl av i o K' st
    | none => False := by
  unfold drawStep at h
  cases ho : ops[i]? with
  | none => rw [ho] at h; exact h
  | some o =>
    rw [ho] at h
    simp only at h ⊢
    unfold opD
    refine ⟨h.1, ?_⟩
    replace h := h.2
    split at h
    · exact AOpG_mono (fun _ h => ⟨.strict h.1, hk _ h.2⟩) (AOpC_ok hs h)
    · rename_i hf
      split at h
      · exact AOpG_mono (fun _ h => ⟨.old hf h.1, hk _ h.2⟩) (AOpC_ok hs h)
      · rename_i ho
        split at h
        · exact AOpG_mono (fun _ h => ⟨.weak hf ho h.1, hk _ h.2⟩) (AOpC_ok hs h)
        · rename_i hw
          split at h
          · exact AOpG_mono (fun _ h => ⟨.loc hf hw ho h.1, hk _ h.2⟩) (AOpC_ok hs h)
          · rename_i hl
            exact AOpG_mono (fun _ h => ⟨.none hf hw ho hl, hk _ h⟩) (AOpC_ok hs h)


theorem AOpsD_ok {N : Nat} {Sp : Spec} (hs : Sound P lo Sp) {ops : Array Oper} {fl : List Nat} {av : List (Nat × Nat)} {K : St → Prop} : ∀ (l : OT) {st : St}, AOpsD P lo H Sp ops N fl av K l st → AOpsI P lo H ops N fl av K l st
  | .nil, _, h => h
  | .two i j p q, st, h => by
    unfold AOpsD andC at h
    unfold AOpsI
    obtain ⟨h1, h2⟩ := h
    exact ⟨drawStep_ok hs h1 fun _ h => AOpsD_ok hs p h, drawStep_ok hs h2 fun _ h => AOpsD_ok hs q h⟩
  | .three i j k p q r, st, h => by
    unfold AOpsD andC at h
    unfold AOpsI
    obtain ⟨h1, h2, h3⟩ := h
    exact ⟨drawStep_ok hs h1 fun _ h => AOpsD_ok hs p h, drawStep_ok hs h2 fun _ h => AOpsD_ok hs q h, drawStep_ok hs h3 fun _ h => AOpsD_ok hs r h⟩
  | .four i j k m p q r s, st, h => by
    unfold AOpsD andC at h
    unfold AOpsI
    obtain ⟨h1, h2, h3, h4⟩ := h
    exact ⟨drawStep_ok hs h1 fun _ h => AOpsD_ok hs p h, drawStep_ok hs h2 fun _ h => AOpsD_ok hs q h, drawStep_ok hs h3 fun _ h => AOpsD_ok hs r h, drawStep_ok hs h4 fun _ h => AOpsD_ok hs s h⟩
  | .one i l, st, h => by
    unfold AOpsD at h
    unfold AOpsI
    exact drawStep_ok hs h fun _ h => AOpsD_ok hs l h

def condA (v : AV) (p q : Prop) : Prop :=
  match v with
  | .bool b => if b = true then p else q
  | _ => False

/-- D: for each region that draws its order, by its number: ancestors, the operations of which it is asked that they only add, which operations keep clear of which new local, the order of the walk. -/
abbrev Draws := Nat → List Nat × List Nat × List (Nat × Nat) × OT

abbrev Post := Exit → St → Prop
def skipC (Q : Post) (st : St) : Prop := Q .normal st
def exitC (id : Nat) (Q : Post) (st : St) : Prop := Q (.exit id) st
def retC (Q : Post) (st : St) : Prop := Q .ret st
def seqC (f g : Post → St → Prop) (Q : Post) (st : St) : Prop := f (thenA (g Q) Q) st
def blockC (id : Nat) (f : Post → St → Prop) (Q : Post) (st : St) : Prop := f (inBlockA id Q) st
def condC (c : Operand) (f g : Post → St → Prop) (Q : Post) (st : St) : Prop := condA (ev st c) (f Q st) (g Q st)
def regC (P : Program) (lo : Nat) (H : List Nat) (Sp : Spec) (ops : Array Oper) (Q : Post) (st : St) : Prop := AOpsC P lo H Sp ops (Q .normal) ops.toList st
def drawC (P : Program) (lo : Nat) (H : List Nat) (Sp : Spec) (D : Draws) (id : Nat) (ops : Array Oper) (Q : Post) (st : St) : Prop := AOpsD P lo H Sp ops st.η.length (D id).2.1 (D id).2.2.1 (Q .normal) (D id).2.2.2 st
def noC (_ : Post) (_ : St) : Prop := False
def stepL (I : St → Prop) (μ : St → Nat) (st : St) : St → Prop := fun st' => I st' ∧ μ st' < μ st
/-- An empty slice may be seen as a slice of an empty block. -/
def RecE (t : Nat) (e : TypeId) (k : Nat) (st : St) : St := ⟨st.n, upd st.τ t (.sl st.η.length 0 0 0), st.lam, st.η ++ [⟨0, e, k, []⟩]⟩
def InitE (I : St → Prop) (st : St) : Prop := I st ∨ ∃ t e k, t < st.n ∧ st.τ t = .emp ∧ I (RecE t e k st)
theorem Sim_recast {h0 : Nat} {S : Nat → Prop} {W : Wit} {κ : Nat → Nat} {st : St} {a : Act} {w : World} {t : Nat} {e : TypeId} {k : Nat} (s : Sim lo h0 S W κ st a w) (ht : t < st.n) (he : st.τ t = .emp) :
    Sim lo h0 S (pushW W st.η.length ⟨0, 0, none⟩ 0) κ (RecE t e k st) a w ∧ HStep lo st.η (RecE t e k st).η W (pushW W st.η.length ⟨0, 0, none⟩ 0) := by
  have hst : HStep lo st.η (st.η ++ [⟨0, e, k, []⟩]) W (pushW W st.η.length ⟨0, 0, none⟩ 0) := .push s.hs.lo_le _ _ _
  have e1 : ∀ b, b ≠ st.η.length → (pushW W st.η.length ⟨0, 0, none⟩ 0).ι b = W.ι b := fun b hb => upd_ne _ _ hb
  have e2 : ∀ b, b ≠ st.η.length → (pushW W st.η.length ⟨0, 0, none⟩ 0).cs b = W.cs b := fun b hb => upd_ne _ _ hb
  have e3 : (pushW W st.η.length ⟨0, 0, none⟩ 0).cs st.η.length = 0 := upd_same _ _ _
  refine ⟨⟨⟨?_, fun b bl hb j x hx => ?_, fun b bl hb hlb => ?_, fun b b' bl hb hb' hlb' hp hne hc => ?_⟩, ⟨fun sl hsl => ?_, s.ls.ll, fun sl b bl hsl hb hc => ?_⟩, s.ts, fun t' ht' => ?_, s.df, s.h0le, fun b hlb hb hc => ?_, s.lS⟩, hst⟩
  · have := s.hs.lo_le; simp only [RecE, List.length_append]; omega
  · rcases getElem?_push hb with ⟨hlt, hb⟩ | ⟨rfl, rfl⟩
    · obtain ⟨u, h1, h2⟩ := s.hs.cell b bl hb j x hx
      exact ⟨u, by rw [e1 b (by omega)]; exact h1, Rc_mono hst (LStep.refl _ _) h2⟩
    · simp at hx
  · rcases getElem?_push hb with ⟨hlt, hb⟩ | ⟨rfl, rfl⟩
    · rw [e1 b (by omega), e2 b (by omega)]; exact s.hs.own b bl hb hlb
    · rw [e3]; exact ⟨Nat.le_refl _, fun h => absurd h (Nat.lt_irrefl 0)⟩
  · have hb'n : b' ≠ st.η.length := by rintro rfl; rw [e3] at hp; exact absurd hp (Nat.lt_irrefl 0)
    have hb'l : b' < st.η.length := by simp only [RecE, List.length_append, List.length_cons, List.length_nil] at hb'; omega
    rw [e2 b' hb'n] at hp
    rcases getElem?_push hb with ⟨hlt, hb⟩ | ⟨rfl, rfl⟩
    · rw [e2 b (by omega)] at hc
      rw [e1 b (by omega), e1 b' hb'n]
      exact s.hs.sep b b' bl hb hb'l hlb' hp hne hc
    · rw [if_pos s.hs.lo_le, e3] at hc; exact absurd hc (Nat.lt_irrefl 0)
  · obtain ⟨cur, h1, h2⟩ := s.ls.row sl hsl
    exact ⟨cur, h1, h2.mono fun _ _ hr => Rc_mono hst (LStep.refl _ _) hr⟩
  · rcases getElem?_push hb with ⟨hlt, hb⟩ | ⟨rfl, rfl⟩
    · rw [e2 b (by omega)] at hc
      rw [e1 b (by omega)]
      exact s.ls.lh sl b bl hsl hb hc
    · rw [if_pos s.hs.lo_le, e3] at hc; exact absurd hc (Nat.lt_irrefl 0)
  · have h0 := Rv_mono hst (LStep.refl _ _) (s.tm t' ht')
    simp only [RecE]
    by_cases htt : t' = t
    · subst htt
      rw [upd_same]
      have h1 := s.tm t' ht
      rw [he] at h1
      rcases h1 with h1 | ⟨l, arr, h1, _⟩ | ⟨l, arr, h1, _⟩ | ⟨h1, a', h2⟩
      · cases h1
      · cases h1
      · cases h1
      · refine .inr (.inr (.inr ⟨h1, ⟨0, e, k, []⟩, by simp, Nat.le_refl _, fun _ => ⟨a', 0, h2, Nat.le_refl _, .inl rfl⟩⟩))
    · rw [upd_ne _ _ htt]; exact h0
  · simp only [RecE, List.length_append, List.length_cons, List.length_nil] at hb
    by_cases hbn : b = st.η.length
    · subst hbn; rw [e3] at hc; exact absurd hc (Nat.lt_irrefl 0)
    · rw [e2 b hbn] at hc
      rw [e1 b hbn]
      exact s.oS b hlb (by omega) hc
theorem AW_recast {c : Code} {Q : Exit → St → Prop} {st : St} {t : Nat} {e : TypeId} {k : Nat} (ht : t < st.n) (he : st.τ t = .emp) (h : AW P lo c Q (RecE t e k st)) : AW P lo c Q st := by
  intro h0 S W κ a w s
  obtain ⟨s', hh⟩ := Sim_recast (e := e) (k := k) s ht he
  exact wp_mono (h h0 S _ κ a w s') fun _ _ _ q => q.trans hh (.refl _ _ _)
/-- A loop: what holds at the head of each round, and what grows smaller. -/
def loopC (f : Post → St → Prop) (Q : Post) (st : St) : Prop :=
  ∃ (I : St → Prop) (μ : St → Nat), InitE I st ∧ ∀ st', I st' → f (thenA (stepL I μ st') Q) st'

def AC (P : Program) (lo : Nat) (H : List Nat) (Sp : Spec) (D : Draws) : Code → Post → St → Prop
  | .skip => skipC
  | .exit id => exitC id
  | .ret => retC
  | .seq x y => seqC (AC P lo H Sp D x) (AC P lo H Sp D y)
  | .block id c => blockC id (AC P lo H Sp D c)
  | .cond c x y => condC c (AC P lo H Sp D x) (AC P lo H Sp D y)
  | .loop c => loopC (AC P lo H Sp D c)
  | .region _ ops false => regC P lo H Sp ops
  | .region id ops true => drawC P lo H Sp D id ops
  | _ => noC

def okD (H : List Nat) (D : Draws) : Code → Bool
  | .seq x y => okD H D x && okD H D y
  | .block _ c => okD H D c
  | .cond _ x y => okD H D x && okD H D y
  | .loop c => okD H D c
  | .region id ops true => drawB H ops (D id).1 (D id).2.1 (D id).2.2.1 (D id).2.2.2
  | _ => true

theorem AC_ok {Sp : Spec} (hs : Sound P lo Sp) {D : Draws} (hm : P.follows .mixedOrders = true) : ∀ (c : Code) {Q : Exit → St → Prop} {st : St}, okD H D c = true → AC P lo H Sp D c Q st → AW P lo c Q st
  | .skip, _, _, _, h => AW_skip h
  | .exit _, _, _, _, h => AW_exit h
  | .ret, _, _, _, h => AW_ret h
  | .seq x y, Q, st, hD, h => by
    simp only [okD, Bool.and_eq_true] at hD
    refine AW_seq (AW_mono (AC_ok hs hm x hD.1 h) fun e st' h' => ?_)
    cases e <;> first | exact AC_ok hs hm y hD.2 h' | exact h'
  | .block id c, Q, st, hD, h => AW_block (AC_ok hs hm c hD h)
  | .cond c x y, Q, st, hD, h => by
    simp only [okD, Bool.and_eq_true] at hD
    simp only [AC, condC, condA] at h
    split at h
    · rename_i b hb
      exact AW_cond hb (fun e => AC_ok hs hm x hD.1 (by rw [if_pos e] at h; exact h)) (fun e => AC_ok hs hm y hD.2 (by rw [if_neg (by rw [e]; simp)] at h; exact h))
    · exact h.elim
  | .loop c, Q, st, hD, h => by
    obtain ⟨I, μ, hI, hr⟩ := h
    rcases hI with hI | ⟨t, e, k, ht, he, hI⟩
    · exact AW_loop I μ hI fun st' hi => AC_ok hs hm c hD (hr st' hi)
    · exact AW_recast ht he (AW_loop I μ hI fun st' hi => AC_ok hs hm c hD (hr st' hi))
  | .region id ops false, Q, st, hD, h => AW_region (AOpsC_ok hs _ h)
  | .region id ops true, Q, st, hD, h => AW_draw hm hD (AOpsD_ok hs _ h)

/-- At the end of a function. -/
def EndA (P : Program) (rs : List ResultVar) (R : AV → List Blk → Prop) : Exit → St → Prop := fun e st => match e with
  | .normal => ∃ v, resA P rs st = some v ∧ noLocV v = true ∧ R v st.η
  | .ret => ∃ v, resA P rs st = some v ∧ noLocV v = true ∧ R v st.η
  | _ => False

theorem AF_run {Sp : Spec} (hs : Sound P lo Sp) (D : Draws) (H : List Nat) (rs : List ResultVar) {f : FuncId} {fn : Func} {c : Code} {n : Nat} {args : List AV} {η : List Blk} {R : AV → List Blk → Prop} (hm : P.follows .mixedOrders = true) (hf : P.funcs[f]? = some fn) (hb : fn.body = some c)
    (hname : (fn.name == "runtime.NumGoroutine") = false) (hn : fn.ntmps = n) (hr : fn.results.toList = rs) (hD : okD H D c = true) (ha : args.length ≤ n) (h : lo ≤ η.length → AC P lo H Sp D c (EndA P rs R) (st0 n args η)) : AF P lo f args η R := by
  subst hn hr
  refine ⟨⟨fn, hf, hname, by rw [hb]; rfl⟩, fun W w us hsim hargs => (AF_enter hf hb hname ha (AW_mono (AC_ok hs hm c hD (h hsim.lo_le)) fun e st h => ?_)).2 W w us hsim hargs⟩
  cases e <;> first | exact ⟨.inl rfl, h⟩ | exact ⟨.inr rfl, h⟩ | exact h.elim

end
end Go.Proofs.Ytaalpmbopkbdiaa
/- The abstract logic: a law's arguments, as given, in the abstract heap; and the law's end. -/
namespace Go.Proofs.Ytaalpmbopkbdiaa
open Go Go.RowKit

inductive Sh where
  | int (k : IntKind)
  | rows (e : TypeId) (k : Nat) (q : IntKind)

def Sh.isK (q : IntKind) : Sh → Bool
  | .int q' => decide (q' = q)
  | _ => false

def shFields (P : Program) (g : TypeId → Option (List Sh)) (off : Nat) : List Field → Option (List Sh)
  | [] => some []
  | f :: r => if f.offset = off then (g f.type).bind fun l => if P.cellsOf f.type = l.length then (shFields P g (off + l.length) r).map (l ++ ·) else none else none

/-- What stands in a value's cells. -/
def shapes (P : Program) : Nat → TypeId → Option (List Sh)
  | 0, _ => none
  | m + 1, t => match P.underlying t with
    | some (.int k) => some [.int k]
    | some (.slice e) => (shapes P m e).bind fun l => match l with
      | .int q :: r => if (Sh.int q :: r).all (Sh.isK q) = true ∧ P.cellsOf e = (Sh.int q :: r).length then some [.rows e (Sh.int q :: r).length q] else none
      | _ => none
    | some (.struct fs) => (shFields P (shapes P m) 0 fs.toList).bind fun l => if P.cellsOf t = l.length then some l else none
    | _ => none

def ShC (w : World) : Sh → Value → Prop
  | .int k, v => ∃ n, v = .int k n ∧ (Lit.int k n).wf = true
  | .rows _ k q, v => v = .slice none 0 0 ∨ ∃ (a : Addr) (len cap : Nat) (zs : List Int), v = .slice (some a) len cap ∧ len ≤ cap ∧ cap ≤ maxLen ∧ zs.length = len * k ∧
      (∀ i, i < zs.length → w.cell? (a.add i) = some (.int q (zs.getD i 0))) ∧ ∀ n ∈ zs, (Lit.int q n).wf = true

def Match (w : World) (sh : List Sh) (cs : List Value) : Prop := cs.length = sh.length ∧ ∀ (i : Nat) s c, sh[i]? = some s → cs[i]? = some c → ShC w s c

section
variable {H : Type} {enc : TypeId × Value → H} {P : Program} {w : World} {base : Nat} {spare : Nat → Bool} {held : Bool}

theorem fields_ok {g : TypeId → Option (List Sh)} {cs : List Value} {n : Nat}
    (ih : ∀ t sh, g t = some sh → ∀ cs x, DataW.trod enc P w base spare held n t cs = some x → Match w sh cs) : ∀ (fs : List Field) (off : Nat) (sh : List Sh), shFields P g off fs = some sh →
    (∀ f ∈ fs, ∃ y, DataW.trod enc P w base spare held n f.type ((cs.drop f.offset).take (P.cellsOf f.type)) = some y) →
    ∀ (i : Nat) s c, sh[i]? = some s → cs[off + i]? = some c → ShC w s c
  | [], off, sh, h, _, i, s, c, hs, _ => by
    simp only [shFields, Option.some.injEq] at h
    subst h
    simp at hs
  | f :: r, off, sh, h, hf, i, s, c, hs, hc => by
    unfold shFields at h
    split at h
    · rename_i ho
      cases hg : g f.type with
      | none => rw [hg] at h; cases h
      | some l =>
        rw [hg] at h
        simp only [Option.bind_some] at h
        split at h
        · rename_i hl
          cases hr : shFields P g (off + l.length) r with
          | none => rw [hr] at h; cases h
          | some l' =>
            rw [hr] at h
            simp only [Option.map_some, Option.some.injEq] at h
            subst h
            obtain ⟨y, hy⟩ := hf f (by simp)
            have hm := ih f.type l hg _ _ hy
            by_cases hi : i < l.length
            · refine hm.2 i s c (by rwa [List.getElem?_append_left hi] at hs) ?_
              rw [List.getElem?_take, if_pos (by omega), List.getElem?_drop, ho]
              exact hc
            · refine fields_ok ih r (off + l.length) l' hr (fun f' hf' => hf f' (by simp [hf'])) (i - l.length) s c ?_ ?_
              · rwa [List.getElem?_append_right (by omega)] at hs
              · rw [show off + l.length + (i - l.length) = off + i by omega]; exact hc
        · cases h
    · cases h

theorem trod_shapes : ∀ (m : Nat) (t : TypeId) (sh : List Sh), shapes P m t = some sh → ∀ (fuel : Nat) (cs : List Value) (x : DataW H × List MemPlace), DataW.trod enc P w base spare held fuel t cs = some x → Match w sh cs
  | 0, _, _, h, _, _, _, _ => by cases h
  | m + 1, t, sh, h, fuel, cs, x, hx => by
    unfold shapes at h
    split at h
    · rename_i k ht
      simp only [Option.some.injEq] at h
      subst h
      obtain ⟨n, rfl, _, hw⟩ := DataW.trod_int ht hx
      refine ⟨rfl, fun i s c hs hc => ?_⟩
      cases i with
      | zero => simp at hs hc; subst hs; subst hc; exact ⟨n, rfl, hw⟩
      | succ i => simp at hs
    · rename_i e ht
      cases hl : shapes P m e with
      | none => rw [hl] at h; cases h
      | some l =>
        rw [hl] at h
        simp only [Option.bind_some] at h
        split at h
        case h_2 => cases h
        rename_i l0 q lr
        generalize hlq : Sh.int q :: lr = l at hl h
        split at h
        · rename_i hc
          simp only [Option.some.injEq] at h
          subst h
          rcases DataW.trod_slice ht hx with ⟨rfl, _⟩ | ⟨a, len, cap, elems, rest, n, _, rfl, _, hb, hlc, hm, hlen, hel, _, _⟩
          · refine ⟨rfl, fun i s c hs hcc => ?_⟩
            cases i with
            | zero => simp at hs hcc; subst hs; subst hcc; exact .inl rfl
            | succ i => simp at hs
          · refine ⟨rfl, fun i s c hs hcc => ?_⟩
            cases i with
            | succ i => simp at hs
            | zero =>
              simp only [List.getElem?_cons_zero, Option.some.injEq] at hs hcc
              subst hs; subst hcc
              have cell : ∀ i, i < len * l.length → ∃ n, w.cell? (a.add i) = some (.int q n) ∧ (Lit.int q n).wf = true := by
                intro i hi
                have hpos : 0 < l.length := by
                  rcases Nat.eq_zero_or_pos l.length with h0 | h0
                  · rw [h0] at hi; omega
                  · exact h0
                have hq : i / l.length < len := by rw [Nat.div_lt_iff_lt_mul hpos]; exact hi
                have h1 := hel (i / l.length) hq
                rw [List.getElem?_eq_getElem (by omega), Option.bind_eq_some_iff] at h1
                obtain ⟨cs', hcs, hy⟩ := h1
                have hmm := trod_shapes m e l hl _ _ _ hy
                obtain ⟨_, hcl, hcell⟩ := World.cells?_some hcs
                have hr : i % l.length < l.length := Nat.mod_lt _ hpos
                have h2 := hcell (i % l.length) (by rw [hc.2]; exact hr)
                rw [Addr.add_add, hc.2, Nat.mul_comm, Nat.div_add_mod] at h2
                have hlt : i % l.length < cs'.length := by rw [hmm.1]; exact hr
                rw [List.getElem?_eq_getElem hlt] at h2
                have h3 := hmm.2 (i % l.length) _ _ (List.getElem?_eq_getElem hr) (List.getElem?_eq_getElem hlt)
                have h4 := List.all_eq_true.1 hc.1 _ (List.getElem_mem hr)
                rw [h2]
                generalize l[i % l.length] = s at h3 h4
                generalize cs'[i % l.length] = v at h3
                cases s with
                | rows _ _ _ => cases h4
                | int k =>
                  obtain ⟨n, rfl, hw⟩ := h3
                  have e : k = q := of_decide_eq_true h4
                  subst e
                  exact ⟨n, rfl, hw⟩
              refine .inr ⟨a, len, cap, (List.range (len * l.length)).map fun i => match w.cell? (a.add i) with | some (.int _ n) => n | _ => 0, rfl, hlc, hm, by simp, fun i hi => ?_, fun n hn => ?_⟩
              · simp only [List.length_map, List.length_range] at hi
                obtain ⟨n, hn, _⟩ := cell i hi
                simp [List.getD_eq_getElem?_getD, hi, hn]
              · obtain ⟨i, hi, rfl⟩ := List.mem_map.1 hn
                obtain ⟨n, hn', hw⟩ := cell i (List.mem_range.1 hi)
                rw [hn']; exact hw
        · cases h
    · rename_i fs ht
      cases hl : shFields P (shapes P m) 0 fs.toList with
      | none => rw [hl] at h; cases h
      | some l =>
        rw [hl] at h
        simp only [Option.bind_some] at h
        split at h
        · rename_i hc
          simp only [Option.some.injEq] at h
          subst h
          obtain ⟨xs, n, _, _, hcl, hxl, hf⟩ := DataW.trod_struct ht hx
          refine ⟨by rw [hcl, hc], fun i s c hs hcc => ?_⟩
          refine fields_ok (n := n) (cs := cs) (fun t sh hsh cs x hx => trod_shapes m t sh hsh n cs x hx) fs.toList 0 l hl (fun f hf' => ?_) i s c hs (by rw [Nat.zero_add]; exact hcc)
          obtain ⟨j, hj⟩ := List.getElem?_of_mem hf'
          have h1 := hf j f (by rw [← Array.getElem?_toList]; exact hj)
          have hlt : j < xs.length := by
            rw [hxl]
            have := (List.getElem?_eq_some_iff.1 hj).1
            simpa using this
          exact ⟨xs[j], by rw [h1, List.getElem?_eq_getElem hlt]⟩
        · cases h
    · cases h

/-- One cell, in numbers and rows. -/
def AvSh (η : List Blk) : Sh → AV → Prop
  | .int k, x => ∃ n, x = .int k n ∧ (Lit.int k n).wf = true
  | .rows e k q, x => x = .nils ∨ ∃ (b len : Nat) (zs : List Int), x = .sl b 0 0 len ∧ η[b]? = some ⟨0, e, k, zs.map (.int q)⟩ ∧ zs.length = len * k ∧ len ≤ maxLen ∧ ∀ n ∈ zs, (Lit.int q n).wf = true

def OneC (b0 : Nat) (addrs : List Addr) (blks : List Blk) (x : AV) (c : Value) : Prop :=
  (∃ k n, x = .int k n ∧ c = .int k n) ∨ (x = .nils ∧ c = .slice none 0 0) ∨
  ∃ j a len cap, x = .sl (b0 + j) 0 0 len ∧ addrs[j]? = some a ∧ c = .slice (some a) len cap ∧ len ≤ cap ∧ ∃ blk, blks[j]? = some blk ∧ blk.ver = 0

theorem open_all : ∀ (sh : List Sh) (cs : List Value), Match w sh cs → ∀ b0, ∃ (addrs : List Addr) (blks : List Blk) (avs : List AV), addrs.length = blks.length ∧ avs.length = cs.length ∧
    (∀ (i : Nat) x c, avs[i]? = some x → cs[i]? = some c → OneC b0 addrs blks x c) ∧
    (∀ pre : List Blk, pre.length = b0 → ∀ (i : Nat) s x, sh[i]? = some s → avs[i]? = some x → AvSh (pre ++ blks) s x) ∧
    (∀ (j : Nat) a blk, addrs[j]? = some a → blks[j]? = some blk → ∀ (i : Nat) x, blk.cells[i]? = some x → ∃ q n, x = .int q n ∧ w.cell? (a.add i) = some (.int q n))
  | [], cs, h, b0 => by
    have : cs = [] := List.length_eq_zero_iff.1 h.1
    subst this
    exact ⟨[], [], [], rfl, rfl, fun i x c hx => by simp at hx, fun _ _ i s x hs => by simp at hs, fun j a blk ha => by simp at ha⟩
  | s :: sh, [], h, b0 => by have := h.1; simp at this
  | s :: sh, c :: cs, h, b0 => by
    have hh : ShC w s c := h.2 0 s c rfl rfl
    have ht : Match w sh cs := ⟨by simpa using h.1, fun i s' c' hs hc => h.2 (i + 1) s' c' (by simpa using hs) (by simpa using hc)⟩
    cases s with
    | int k =>
      obtain ⟨n, rfl, hw⟩ := hh
      obtain ⟨addrs, blks, avs, h1, h2, h3, h4, h5⟩ := open_all sh cs ht b0
      refine ⟨addrs, blks, .int k n :: avs, h1, by simp [h2], fun i x c hx hc => ?_, fun pre hp i s x hs hx => ?_, h5⟩
      · cases i with
        | zero => simp at hx hc; subst hx; subst hc; exact .inl ⟨k, n, rfl, rfl⟩
        | succ i => exact h3 i x c (by simpa using hx) (by simpa using hc)
      · cases i with
        | zero => simp at hs hx; subst hs; subst hx; exact ⟨n, rfl, hw⟩
        | succ i => exact h4 pre hp i s x (by simpa using hs) (by simpa using hx)
    | rows e k q =>
      rcases hh with rfl | ⟨a, len, cap, zs, rfl, hlc, hm, hz, hcell, hw⟩
      · obtain ⟨addrs, blks, avs, h1, h2, h3, h4, h5⟩ := open_all sh cs ht b0
        refine ⟨addrs, blks, .nils :: avs, h1, by simp [h2], fun i x c hx hc => ?_, fun pre hp i s x hs hx => ?_, h5⟩
        · cases i with
          | zero => simp at hx hc; subst hx; subst hc; exact .inr (.inl ⟨rfl, rfl⟩)
          | succ i => exact h3 i x c (by simpa using hx) (by simpa using hc)
        · cases i with
          | zero => simp at hs hx; subst hs; subst hx; exact .inl rfl
          | succ i => exact h4 pre hp i s x (by simpa using hs) (by simpa using hx)
      · obtain ⟨addrs, blks, avs, h1, h2, h3, h4, h5⟩ := open_all sh cs ht (b0 + 1)
        refine ⟨a :: addrs, ⟨0, e, k, zs.map (.int q)⟩ :: blks, .sl b0 0 0 len :: avs, by simp [h1], by simp [h2], fun i x c hx hc => ?_, fun pre hp i s x hs hx => ?_, fun j a' blk ha hb i x hx => ?_⟩
        · cases i with
          | zero =>
            simp only [List.getElem?_cons_zero, Option.some.injEq] at hx hc
            subst hx; subst hc
            exact .inr (.inr ⟨0, a, len, cap, by simp, rfl, rfl, hlc, _, rfl, rfl⟩)
          | succ i =>
            rcases h3 i x c (by simpa using hx) (by simpa using hc) with g | g | ⟨j, a', len', cap', rfl, g2, rfl, g4, blk, g5, g6⟩
            · exact .inl g
            · exact .inr (.inl g)
            · exact .inr (.inr ⟨j + 1, a', len', cap', by rw [show b0 + (j + 1) = b0 + 1 + j by omega], by simpa using g2, rfl, g4, blk, by simpa using g5, g6⟩)
        · cases i with
          | zero =>
            simp only [List.getElem?_cons_zero, Option.some.injEq] at hs hx
            subst hs; subst hx
            refine .inr ⟨b0, len, zs, rfl, ?_, hz, Nat.le_trans hlc hm, hw⟩
            rw [List.getElem?_append_right (by omega), hp, Nat.sub_self]; rfl
          | succ i =>
            have := h4 (pre ++ [⟨0, e, k, zs.map (.int q)⟩]) (by simp [hp]) i s x (by simpa using hs) (by simpa using hx)
            simpa using this
        · cases j with
          | zero =>
            simp only [List.getElem?_cons_zero, Option.some.injEq] at ha hb
            subst ha; subst hb
            simp only [List.getElem?_map] at hx
            cases hzi : zs[i]? with
            | none => rw [hzi] at hx; cases hx
            | some n =>
              rw [hzi] at hx
              simp only [Option.map_some, Option.some.injEq] at hx
              subst hx
              have hlt := (List.getElem?_eq_some_iff.1 hzi).1
              refine ⟨q, n, rfl, ?_⟩
              rw [hcell i hlt]
              simp [List.getD_eq_getElem?_getD, hzi]
          | succ j => exact h5 j a' blk (by simpa using ha) (by simpa using hb) i x hx

def witOf (addrs : List Addr) : Wit := ⟨fun b => addrs.getD b ⟨0, 0, none⟩, fun _ => 0⟩

theorem HSim_open {addrs : List Addr} {blks : List Blk} (h1 : addrs.length = blks.length)
    (h5 : ∀ (j : Nat) a blk, addrs[j]? = some a → blks[j]? = some blk → ∀ (i : Nat) x, blk.cells[i]? = some x → ∃ q n, x = .int q n ∧ w.cell? (a.add i) = some (.int q n)) :
    HSim blks.length (witOf addrs) blks w := by
  refine ⟨Nat.le_refl _, fun b blk hb j x hx => ?_, fun b blk hb hlo => ?_, fun b b' blk hb hb' hlo => by omega⟩
  · have hlt : b < addrs.length := by rw [h1]; exact (List.getElem?_eq_some_iff.1 hb).1
    obtain ⟨q, n, rfl, hc⟩ := h5 b _ blk (List.getElem?_eq_getElem hlt) hb j x hx
    refine ⟨.int q n, ?_, rfl, rfl⟩
    simp only [witOf, List.getD_eq_getElem?_getD, List.getElem?_eq_getElem hlt, Option.getD_some]
    exact hc
  · have := (List.getElem?_eq_some_iff.1 hb).1; omega

theorem Rc_open {addrs : List Addr} {blks : List Blk} {x : AV} {c : Value} (h : OneC 0 addrs blks x c) : Rc blks.length (witOf addrs) blks lam0 kap0 x c := by
  rcases h with ⟨k, n, rfl, rfl⟩ | ⟨rfl, rfl⟩ | ⟨j, a, len, cap, rfl, ha, rfl, hl, blk, hb, hv⟩
  · exact ⟨rfl, rfl⟩
  · exact ⟨rfl, rfl⟩
  · refine ⟨rfl, blk, by rw [Nat.zero_add]; exact hb, by omega, fun _ => ⟨a, cap, rfl, hl, .inr ⟨?_, fun hlo => ?_⟩⟩⟩
    · simp only [witOf, List.getD_eq_getElem?_getD, Nat.zero_add, ha, Option.getD_some]
      simp [Addr.add]
    · have := (List.getElem?_eq_some_iff.1 hb).1; omega

theorem RL_nil {R : AV → Value → Prop} : RL R [] #[] := ⟨rfl, fun i x hx => by simp at hx⟩
theorem RL_cons {R : AV → Value → Prop} {x : AV} {u : Value} {l : List AV} {us : List Value} (h : R x u) (t : RL R l us.toArray) : RL R (x :: l) (u :: us).toArray := by
  refine ⟨by simpa using t.1, fun i y hy => ?_⟩
  cases i with
  | zero => simp at hy; subst hy; exact ⟨u, rfl, h⟩
  | succ i =>
    obtain ⟨v, h1, h2⟩ := t.2 i y (by simpa using hy)
    exact ⟨v, by simpa using h1, h2⟩

/-- A law's end. -/
theorem law_end {f : FuncId} {args : List AV} {us : Array Value} {η : List Blk} {W : Wit} (h : AF P η.length f args η fun v _ => v = .bool true) (hs : HSim η.length W η w) (ha : RL (Rv η.length W η lam0 kap0) args us) :
    Calls P f us w fun e w' => e = .returned (.bool true) ∧ Below w.heap.size w w' := by
  refine (h.2 W w us hs ha).mono ?_
  rintro e w' ⟨v, η', W', u, rfl, rfl, hv, _, _, _, hf⟩
  refine ⟨by rw [Rv_bool hv], hf.os, hf.tape, hf.output, hf.size, fun k hk => hf.block k hk ?_⟩
  rintro ⟨b, hb, hb', _⟩
  omega

theorem okWide_struct {r : Reach} {t : TypeId} {v : Value} {fs : Array Field} (ht : P.underlying t = some (.struct fs)) (h : Value.okWide P w r base t v) : ∃ cs, v = .agg cs := by
  simp only [Value.okWide, ht] at h
  obtain ⟨cs, rfl, _⟩ := h
  exact ⟨cs, rfl⟩
end
end Go.Proofs.Ytaalpmbopkbdiaa
/- The abstract logic: rules for stepping through code: branches, facts about numbers, rows of whole numbers. -/
namespace Go.Proofs.Ytaalpmbopkbdiaa
open Go

theorem iteI {c : Prop} [Decidable c] {p q : Prop} (h1 : c → p) (h2 : ¬ c → q) : if c then p else q := by
  split
  · exact h1 ‹_›
  · exact h2 ‹_›
theorem ltT {a b : Int} (h : a < b) : (a < b) = True := eq_true h
theorem ltF {a b : Int} (h : b ≤ a) : (a < b) = False := eq_false (by omega)
theorem leT {a b : Int} (h : a ≤ b) : (a ≤ b) = True := eq_true h
theorem leF {a b : Int} (h : b < a) : (a ≤ b) = False := eq_false (by omega)
theorem ltTn {a b : Nat} (h : a < b) : (a < b) = True := eq_true h
theorem ltFn {a b : Nat} (h : b ≤ a) : (a < b) = False := eq_false (by omega)
theorem leTn {a b : Nat} (h : a ≤ b) : (a ≤ b) = True := eq_true h
theorem leFn {a b : Nat} (h : b < a) : (a ≤ b) = False := eq_false (by omega)
theorem eqTi {a b : Int} (h : a = b) : (a = b) = True := eq_true h
theorem eqFi {a b : Int} (h : ¬ a = b) : (a = b) = False := eq_false h
theorem bneTi {a b : Int} (h : ¬ a = b) : (a != b) = true := by simp [h]
theorem bneFi {a b : Int} (h : a = b) : (a != b) = false := by simp [h]
theorem beqTi {a b : Int} (h : a = b) : (a == b) = true := by simp [h]
theorem beqFi {a b : Int} (h : ¬ a = b) : (a == b) = false := by simp [h]
theorem eqTn {a b : Nat} (h : a = b) : (a = b) = True := eq_true h
theorem eqFn {a b : Nat} (h : ¬ a = b) : (a = b) = False := eq_false h
theorem wrapId {x : Int} (h : -9223372036854775808 ≤ x ∧ x < 9223372036854775808) : IntKind.i64.wrap x = x := by
  rw [IntKind.wrap_i64]; omega
theorem wrapU {x : Int} (h : 0 ≤ x ∧ x < 18446744073709551616) : IntKind.u64.wrap x = x := by
  simp only [IntKind.wrap, IntKind.bits, IntKind.signed, Bool.false_and, Bool.false_eq_true, if_false]
  omega
theorem toNat1 (i : Nat) : ((i : Int) + 1).toNat = i + 1 := by omega
theorem rowGet {α : Type} (f : α → AV) (l : List α) (d : α) {i : Nat} (h : i < l.length) : (l.map f)[i]? = some (f (l.getD i d)) := by
  simp [List.getElem?_map, List.getElem?_eq_getElem h, List.getD_eq_getElem?_getD]
theorem intGet {l : List Int} {i : Nat} (h : i < l.length) : (l.map (AV.int .i64))[i]? = some (.int .i64 (l.getD i 0)) := rowGet _ _ _ h
theorem boolGet {l : List Bool} {i : Nat} (h : i < l.length) : (l.map AV.bool)[i]? = some (.bool (l.getD i false)) := rowGet _ _ _ h
theorem memD {l : List Int} {i : Nat} (h : i < l.length) : (l.getD i 0 ∈ l) = True := by
  refine eq_true ?_
  rw [List.getD_eq_getElem?_getD, List.getElem?_eq_getElem h]
  exact List.getElem_mem h
theorem app_get {η l : List Blk} {b : Nat} (h : b < η.length) : (η ++ l)[b]? = η[b]? := List.getElem?_append_left h
theorem app_lst {η : List Blk} {x : Blk} {b : Nat} (h : b = η.length) : (η ++ [x])[b]? = some x := by subst h; simp
theorem app_setL {η : List Blk} {x y : Blk} {b : Nat} (h : b = η.length) : (η ++ [x]).set b y = η ++ [y] := by subst h; simp
theorem app_setF {η l : List Blk} {y : Blk} {b : Nat} (h : b < η.length) : (η ++ l).set b y = η.set b y ++ l := List.set_append_left _ _ h
theorem app_last (η : List Blk) (x : Blk) : (η ++ [x])[η.length]? = some x := by simp
theorem app_set (η : List Blk) (x y : Blk) : (η ++ [x]).set η.length y = η ++ [y] := by simp
theorem set_ne {η : List Blk} {b c : Nat} {x : Blk} (h : ¬ b = c) : (η.set b x)[c]? = η[c]? := List.getElem?_set_ne h
theorem set_eq {η : List Blk} {b : Nat} {x : Blk} (h : b < η.length) : (η.set b x)[b]? = some x := by simp [h]
theorem noLoc1_fn {g : Nat} {c : List AV} : noLoc1 (.fn g c) = true := rfl
theorem noLoc1_fnm {g : Nat} {c : List AV} : (match (AV.fn g c) with | .loc .. => false | .agg l => l.all noLoc | .tup _ => false | _ => true) = true := rfl
theorem blt {η : List Blk} {b : Nat} {x : Blk} (h : η[b]? = some x) : b < η.length := (List.getElem?_eq_some_iff.1 h).1
theorem take1 {α : Type} {l : List α} {d : α} {i : Nat} (h : i < l.length) : l.take (i + 1) = l.take i ++ [l.getD i d] := by
  rw [List.take_add_one, List.getD_eq_getElem?_getD, List.getElem?_eq_getElem h]; simp
theorem takeAll {α : Type} {l : List α} {i : Nat} (h : l.length ≤ i) : l.take i = l := List.take_of_length_le h

/-- A slice of whole numbers. -/
def IsI (η : List Blk) (v : AV) (l : List Int) : Prop := ∃ b ver, v = .sl b ver 0 l.length ∧ η[b]? = some ⟨ver, 3, 1, l.map (.int .i64)⟩
theorem IsI.app {η : List Blk} {v : AV} {l : List Int} (h : IsI η v l) (e : List Blk) : IsI (η ++ e) v l := by
  obtain ⟨b, ver, rfl, hb⟩ := h
  exact ⟨b, ver, rfl, by rw [app_get (blt hb)]; exact hb⟩
theorem IsI.last (η : List Blk) (l : List Int) : IsI (η ++ [⟨0, 3, 1, l.map (.int .i64)⟩]) (.sl η.length 0 0 l.length) l := ⟨_, _, rfl, app_last _ _⟩
def RowI (η : List Blk) (v : AV) (l : List Int) : Prop := (v = .nils ∧ l = []) ∨ (∃ b ver, v = .sl b ver 0 l.length ∧ η[b]? = some ⟨ver, 3, 1, l.map (.int .i64)⟩)
theorem RowI.app {η : List Blk} {v : AV} {l : List Int} (h : RowI η v l) (e : List Blk) : RowI (η ++ e) v l := by
  rcases h with h | h
  · exact .inl h
  · exact .inr (IsI.app h e)
theorem RowI.last (η : List Blk) (l : List Int) : RowI (η ++ [⟨0, 3, 1, l.map (.int .i64)⟩]) (.sl η.length 0 0 l.length) l := .inr (IsI.last η l)
theorem IsI.row {η : List Blk} {v : AV} {l : List Int} (h : IsI η v l) : RowI η v l := .inr h
def ctr (n : Nat) (st : St) (t : Nat) : Nat := match st.τ t with | .int _ i => n - i.toNat | _ => 0

/-! rows of structs of whole numbers -/
section
variable {α : Type} {enc : α → List AV} {k : Nat}
theorem flat_len (hk : ∀ x, (enc x).length = k) : ∀ l : List α, (l.map enc).flatten.length = l.length * k
  | [] => by simp
  | x :: l => by rw [List.map_cons, List.flatten_cons, List.length_append, hk, flat_len hk l, List.length_cons, Nat.add_mul, Nat.one_mul, Nat.add_comm]
theorem flat_get (hk : ∀ x, (enc x).length = k) (d : α) : ∀ (l : List α) {i f : Nat}, i < l.length → f < k → (l.map enc).flatten[i * k + f]? = (enc (l.getD i d))[f]?
  | [], _, _, h, _ => by simp at h
  | x :: l, 0, f, _, hf => by
    rw [List.map_cons, List.flatten_cons, Nat.zero_mul, Nat.zero_add, List.getElem?_append_left (by rw [hk]; exact hf)]; rfl
  | x :: l, i + 1, f, h, hf => by
    rw [List.map_cons, List.flatten_cons, List.getElem?_append_right (by rw [hk, Nat.add_mul]; omega), hk, show (i + 1) * k + f - k = i * k + f by rw [Nat.add_mul]; omega, flat_get hk d l (by simpa using h) hf]; rfl
theorem flat_drop (hk : ∀ x, (enc x).length = k) (d : α) : ∀ (l : List α) {i : Nat}, i < l.length → ((l.map enc).flatten.drop (i * k)).take k = enc (l.getD i d)
  | [], _, h => by simp at h
  | x :: l, 0, _ => by
    rw [List.map_cons, List.flatten_cons, Nat.zero_mul, List.drop_zero, List.take_append_of_le_length (by rw [hk]; exact Nat.le_refl _), List.take_of_length_le (by rw [hk]; exact Nat.le_refl _)]; rfl
  | x :: l, i + 1, h => by
    rw [List.map_cons, List.flatten_cons, show (i + 1) * k = (enc x).length + i * k by rw [hk, Nat.add_mul]; omega, List.drop_length_add_append, flat_drop hk d l (by simpa using h)]; rfl
theorem flat_put (hk : ∀ x, (enc x).length = k) (x : α) : ∀ (l : List α) {i : Nat}, i < l.length → (l.map enc).flatten.take (i * k) ++ enc x ++ (l.map enc).flatten.drop (i * k + k) = ((l.set i x).map enc).flatten
  | [], _, h => by simp at h
  | y :: l, 0, _ => by
    rw [List.map_cons, List.flatten_cons, Nat.zero_mul, List.take_zero, Nat.zero_add, List.drop_left' (hk y)]; rfl
  | y :: l, i + 1, h => by
    have ih := flat_put hk x l (i := i) (by simpa using h)
    have e1 : (i + 1) * k = (enc y).length + i * k := by rw [hk, Nat.add_mul]; omega
    have e2 : (i + 1) * k + k = (enc y).length + (i * k + k) := by rw [hk, Nat.add_mul]; omega
    rw [List.map_cons, List.flatten_cons, e1, List.take_length_add_append, ← e1, e2, List.drop_length_add_append, List.set_cons_succ, List.map_cons, List.flatten_cons, ← ih]
    simp only [List.append_assoc]
/-- A slice of structs. -/
def IsR (e : TypeId) (k : Nat) (enc : α → List AV) (η : List Blk) (v : AV) (l : List α) : Prop := ∃ b ver, v = .sl b ver 0 l.length ∧ η[b]? = some ⟨ver, e, k, (l.map enc).flatten⟩
def RowR (e : TypeId) (k : Nat) (enc : α → List AV) (η : List Blk) (v : AV) (l : List α) : Prop := (v = .nils ∧ l = []) ∨ IsR e k enc η v l
variable {e : TypeId} {η : List Blk} {v : AV} {l : List α}
theorem IsR.app (h : IsR e k enc η v l) (x : List Blk) : IsR e k enc (η ++ x) v l := by
  obtain ⟨b, ver, rfl, hb⟩ := h
  exact ⟨b, ver, rfl, by rw [app_get (blt hb)]; exact hb⟩
theorem IsR.last (η : List Blk) (l : List α) : IsR e k enc (η ++ [⟨0, e, k, (l.map enc).flatten⟩]) (.sl η.length 0 0 l.length) l := ⟨_, _, rfl, app_last _ _⟩
theorem RowR.app (h : RowR e k enc η v l) (x : List Blk) : RowR e k enc (η ++ x) v l := by
  rcases h with h | h
  · exact .inl h
  · exact .inr (h.app x)
theorem IsR.row (h : IsR e k enc η v l) : RowR e k enc η v l := .inr h
theorem RowR.last (η : List Blk) (l : List α) : RowR e k enc (η ++ [⟨0, e, k, (l.map enc).flatten⟩]) (.sl η.length 0 0 l.length) l := .inr (IsR.last η l)
end
def enc2 (p : Int × Int) : List AV := [.int .i64 p.1, .int .i64 p.2]
def enc3 (p : Int × Int × Int) : List AV := [.int .i64 p.1, .int .i64 p.2.1, .int .i64 p.2.2]
theorem enc2k (p : Int × Int) : (enc2 p).length = 2 := rfl
theorem enc3k (p : Int × Int × Int) : (enc3 p).length = 3 := rfl
theorem len2 {l : List (Int × Int)} : (l.map enc2).flatten.length = l.length * 2 := flat_len enc2k l
theorem len3 {l : List (Int × Int × Int)} : (l.map enc3).flatten.length = l.length * 3 := flat_len enc3k l
section
variable {l : List (Int × Int)} {i : Nat}
theorem get20 (h : i < l.length) : (l.map enc2).flatten[i * 2]? = some (.int .i64 (l.getD i (0, 0)).1) := flat_get enc2k (0, 0) l (f := 0) h (by omega)
theorem get21 (h : i < l.length) : (l.map enc2).flatten[i * 2 + 1]? = some (.int .i64 (l.getD i (0, 0)).2) := flat_get enc2k (0, 0) l (f := 1) h (by omega)
theorem drop2 (h : i < l.length) : ((l.map enc2).flatten.drop (i * 2)).take 2 = [.int .i64 (l.getD i (0, 0)).1, .int .i64 (l.getD i (0, 0)).2] := flat_drop enc2k (0, 0) l h
theorem put2 {a b : Int} (h : i < l.length) : (l.map enc2).flatten.take (i * 2) ++ [.int .i64 a, .int .i64 b] ++ (l.map enc2).flatten.drop (i * 2 + 2) = ((l.set i (a, b)).map enc2).flatten := flat_put enc2k (a, b) l h
end
section
variable {l : List (Int × Int × Int)} {i : Nat}
theorem get30 (h : i < l.length) : (l.map enc3).flatten[i * 3]? = some (.int .i64 (l.getD i (0, 0, 0)).1) := flat_get enc3k (0, 0, 0) l (f := 0) h (by omega)
theorem get31 (h : i < l.length) : (l.map enc3).flatten[i * 3 + 1]? = some (.int .i64 (l.getD i (0, 0, 0)).2.1) := flat_get enc3k (0, 0, 0) l (f := 1) h (by omega)
theorem get32 (h : i < l.length) : (l.map enc3).flatten[i * 3 + 2]? = some (.int .i64 (l.getD i (0, 0, 0)).2.2) := flat_get enc3k (0, 0, 0) l (f := 2) h (by omega)
theorem drop3 (h : i < l.length) : ((l.map enc3).flatten.drop (i * 3)).take 3 = [.int .i64 (l.getD i (0, 0, 0)).1, .int .i64 (l.getD i (0, 0, 0)).2.1, .int .i64 (l.getD i (0, 0, 0)).2.2] := flat_drop enc3k (0, 0, 0) l h
theorem put3 {a b c : Int} (h : i < l.length) : (l.map enc3).flatten.take (i * 3) ++ [.int .i64 a, .int .i64 b, .int .i64 c] ++ (l.map enc3).flatten.drop (i * 3 + 3) = ((l.set i (a, b, c)).map enc3).flatten := flat_put enc3k (a, b, c) l h
end
theorem putI {l : List Int} {i : Nat} {x : Int} (h : i < l.length) : (l.map (AV.int .i64)).take i ++ [.int .i64 x] ++ (l.map (AV.int .i64)).drop (i + 1) = (l.set i x).map (.int .i64) := by
  rw [List.set_eq_take_append_cons_drop, if_pos h]; simp
/-- Copied so far. -/
def part {α : Type} (l : List α) (z : α) (i : Nat) : List α := l.take i ++ List.replicate (l.length - i) z
theorem part_len {α : Type} (l : List α) (z : α) {i : Nat} (h : i ≤ l.length) : (part l z i).length = l.length := by simp [part]; omega
theorem part_end {α : Type} (l : List α) (z : α) : part l z l.length = l := by simp [part]
theorem part_set {α : Type} (l : List α) (z : α) {i : Nat} (h : i < l.length) (d : α) : (part l z i).set i (l.getD i d) = part l z (i + 1) := by
  unfold part
  rw [List.set_append_right _ _ (by simp; omega), take1 (d := d) h, show l.length - i = (l.length - (i + 1)) + 1 by omega, List.replicate_succ]
  simp [Nat.min_eq_left (Nat.le_of_lt h)]
theorem part0_2 (n : Nat) : (List.replicate n [AV.int .i64 0, AV.int .i64 0]).flatten = ((List.replicate n ((0, 0) : Int × Int)).map enc2).flatten := by simp [enc2]
theorem part0_3 (n : Nat) : (List.replicate n [AV.int .i64 0, AV.int .i64 0, AV.int .i64 0]).flatten = ((List.replicate n ((0, 0, 0) : Int × Int × Int)).map enc3).flatten := by simp [enc3]
theorem part0_1 (n : Nat) : (List.replicate n [AV.int .i64 0]).flatten = (List.replicate n (0 : Int)).map (.int .i64) := by simp
theorem part_0 {α : Type} (l : List α) (z : α) : part l z 0 = List.replicate l.length z := by simp [part]

/-- A slice of bytes. -/
def Row8 (e : TypeId) (η : List Blk) (v : AV) (l : List Int) : Prop := (v = .nils ∧ l = []) ∨ (∃ b ver, v = .sl b ver 0 l.length ∧ η[b]? = some ⟨ver, e, 1, l.map (.int .u8)⟩)
theorem Row8.app {e : TypeId} {η : List Blk} {v : AV} {l : List Int} (h : Row8 e η v l) (x : List Blk) : Row8 e (η ++ x) v l := by
  rcases h with h | ⟨b, ver, rfl, hb⟩
  · exact .inl h
  · exact .inr ⟨b, ver, rfl, by rw [app_get (blt hb)]; exact hb⟩
/-- What is left of a size. -/
def szI (n : Nat) (c : Int) : Int := if (n : Int) ≤ c then c - n else -1
theorem szI_pos {n : Nat} {c : Int} (h : (n : Int) ≤ c) : szI n c = c - n := if_pos h
theorem szI_neg {n : Nat} {c : Int} (h : ¬ (n : Int) ≤ c) : szI n c = -1 := if_neg h
def partsA (ρ : Operand → AV) : List (Nat × Operand) → List (Nat × AV)
  | [] => []
  | p :: r => (p.1, ρ p.2) :: partsA ρ r
theorem map_parts (ρ : Operand → AV) : ∀ l : List (Nat × Operand), l.map (fun p => (p.1, ρ p.2)) = partsA ρ l
  | [] => rfl
  | p :: r => by rw [List.map_cons, map_parts ρ r]; rfl
/-- A heap that only grew. -/
def Ext (η H : List Blk) : Prop := ∃ e, H = η ++ e
theorem Ext.refl (η : List Blk) : Ext η η := ⟨[], by simp⟩
theorem KsS_ext {n n' : Nat} {τ τ' : Nat → AV} {lam : Nat → LB} {η H : List Blk} (h : Ext η H) : KsS ⟨n, τ, lam, η⟩ ⟨n', τ', lam, H⟩ = True := by
  obtain ⟨e, rfl⟩ := h
  exact KsS_grow
theorem KsSW_ext {n n' : Nat} {τ τ' : Nat → AV} {lam : Nat → LB} {η H : List Blk} (h : Ext η H) : KsSW ⟨n, τ, lam, η⟩ ⟨n', τ', lam, H⟩ = True := by
  obtain ⟨e, rfl⟩ := h
  exact KsSW_grow
theorem KsOS_ext {N n n' : Nat} {τ τ' : Nat → AV} {lam : Nat → LB} {η H : List Blk} (h : Ext η H) : KsOS N ⟨n, τ, lam, η⟩ ⟨n', τ', lam, H⟩ = True := by
  obtain ⟨e, rfl⟩ := h
  exact KsOS_grow
theorem KsSW_set {n n' : Nat} {τ τ' : Nat → AV} {lam : Nat → LB} {η : List Blk} {c : Nat} {B B' : Blk} (h : η[c]? = some B) (h1 : B'.ver = B.ver) (h2 : B'.sz = B.sz) : KsSW ⟨n, τ, lam, η⟩ ⟨n', τ', lam, η.set c B'⟩ = True := by
  refine eq_true ⟨⟨fun s hs => ⟨rfl, fun _ => rfl⟩, fun b blk hb => ?_⟩, fun _ _ => rfl⟩
  by_cases hbc : c = b
  · subst hbc
    have hl := (List.getElem?_eq_some_iff.1 h).1
    rw [h] at hb
    obtain rfl := Option.some.inj hb
    exact ⟨B', by show (η.set c B')[c]? = some B'; rw [List.getElem?_set_self hl], h1, h2, fun e => by cases e⟩
  · exact ⟨blk, by show (η.set c B')[b]? = some blk; rw [List.getElem?_set_ne hbc]; exact hb, rfl, rfl, fun e => by cases e⟩
theorem KsOS_set {N n n' : Nat} {τ τ' : Nat → AV} {lam : Nat → LB} {η : List Blk} {c : Nat} {B B' : Blk} (h : η[c]? = some B) (h1 : B'.ver = B.ver) (h2 : B'.sz = B.sz) (hN : N ≤ c) : KsOS N ⟨n, τ, lam, η⟩ ⟨n', τ', lam, η.set c B'⟩ = True := by
  have := KsSW_set (n := n) (n' := n') (τ := τ) (τ' := τ') (lam := lam) h h1 h2
  exact eq_true ⟨(show KsW lam η lam (η.set c B') from of_eq_true this), fun b blk hb hblk => by show (η.set c B')[b]? = some blk; rw [List.getElem?_set_ne (by omega)]; exact hblk⟩
theorem Ext.trans {η H H' : List Blk} (h : Ext η H) (k : Ext H H') : Ext η H' := by
  obtain ⟨e, rfl⟩ := h
  obtain ⟨e', rfl⟩ := k
  exact ⟨e ++ e', by simp⟩
theorem Ext.get {η H : List Blk} (h : Ext η H) {b : Nat} (hb : b < η.length) : H[b]? = η[b]? := by
  obtain ⟨e, rfl⟩ := h
  exact app_get hb
theorem Ext.len {η H : List Blk} (h : Ext η H) : η.length ≤ H.length := by
  obtain ⟨e, rfl⟩ := h
  simp
theorem Ext.app {η H : List Blk} (h : Ext η H) (l : List Blk) : Ext η (H ++ l) := h.trans ⟨l, rfl⟩
theorem Ext.set {η H : List Blk} (h : Ext η H) {b : Nat} (hb : η.length ≤ b) (x : Blk) : Ext η (H.set b x) := by
  obtain ⟨e, rfl⟩ := h
  exact ⟨e.set (b - η.length) x, List.set_append_right _ _ hb⟩
theorem Ext.blk {η H : List Blk} (h : Ext η H) {b : Nat} {x : Blk} (hb : η[b]? = some x) : H[b]? = some x := by rw [h.get (blt hb)]; exact hb
theorem IsI.ext {η H : List Blk} {v : AV} {l : List Int} (h : IsI η v l) (k : Ext η H) : IsI H v l := by
  obtain ⟨e, rfl⟩ := k
  exact h.app e
theorem RowI.ext {η H : List Blk} {v : AV} {l : List Int} (h : RowI η v l) (k : Ext η H) : RowI H v l := by
  obtain ⟨e, rfl⟩ := k
  exact h.app e
theorem IsR.ext {α : Type} {enc : α → List AV} {k : Nat} {e : TypeId} {η H : List Blk} {v : AV} {l : List α} (h : IsR e k enc η v l) (x : Ext η H) : IsR e k enc H v l := by
  obtain ⟨e, rfl⟩ := x
  exact h.app e
theorem RowR.ext {α : Type} {enc : α → List AV} {k : Nat} {e : TypeId} {η H : List Blk} {v : AV} {l : List α} (h : RowR e k enc η v l) (x : Ext η H) : RowR e k enc H v l := by
  obtain ⟨e, rfl⟩ := x
  exact h.app e
theorem Row8.ext {e : TypeId} {η H : List Blk} {v : AV} {l : List Int} (h : Row8 e η v l) (x : Ext η H) : Row8 e H v l := by
  obtain ⟨e, rfl⟩ := x
  exact h.app e
theorem takeMap {α : Type} (f : α → AV) (l : List α) : (l.map f).take l.length = l.map f := by rw [← List.length_map (f := f), List.take_length]
theorem rep1 {α : Type} (x : α) : List.replicate 1 x = [x] := rfl
theorem rep2 {α : Type} (x : α) : List.replicate 2 x = [x, x] := rfl
theorem rep3 {α : Type} (x : α) : List.replicate 3 x = [x, x, x] := rfl
theorem rep4 {α : Type} (x : α) : List.replicate 4 x = [x, x, x, x] := rfl
theorem rep5 {α : Type} (x : α) : List.replicate 5 x = [x, x, x, x, x] := rfl
theorem KB {K : AV → List Blk → Prop} {η : List Blk} {a b : Bool} (h : K (.bool a) η) (e : a = b) : K (.bool b) η := e ▸ h
theorem KI {K : AV → List Blk → Prop} {η : List Blk} {k : IntKind} {a b : Int} (h : K (.int k a) η) (e : a = b) : K (.int k b) η := e ▸ h
theorem pairEta {α β : Type} (p : α × β) : (p.1, p.2) = p := rfl
theorem chunk2 : ∀ (n : Nat) (zs : List Int), zs.length = n * 2 → ∃ l : List (Int × Int), l.length = n ∧ zs.map (AV.int .i64) = (l.map enc2).flatten
  | 0, [], _ => ⟨[], rfl, rfl⟩
  | 0, _ :: _, h => by simp at h
  | n + 1, [], h => by simp at h
  | n + 1, [_], h => by simp at h; omega
  | n + 1, a :: b :: zs, h => by
    obtain ⟨l, h1, h2⟩ := chunk2 n zs (by simp at h; omega)
    exact ⟨(a, b) :: l, by simp [h1], by simp [h2, enc2]⟩
theorem chunk3 : ∀ (n : Nat) (zs : List Int), zs.length = n * 3 → ∃ l : List (Int × Int × Int), l.length = n ∧ zs.map (AV.int .i64) = (l.map enc3).flatten
  | 0, [], _ => ⟨[], rfl, rfl⟩
  | 0, _ :: _, h => by simp at h
  | n + 1, [], h => by simp at h
  | n + 1, [_], h => by simp at h; omega
  | n + 1, [_, _], h => by simp at h; omega
  | n + 1, a :: b :: c :: zs, h => by
    obtain ⟨l, h1, h2⟩ := chunk3 n zs (by simp at h; omega)
    exact ⟨(a, b, c) :: l, by simp [h1], by simp [h2, enc3]⟩
theorem row1 {η : List Blk} {x : AV} (h : AvSh η (.rows 3 1 .i64) x) : ∃ l, RowI η x l ∧ l.length ≤ maxLen := by
  rcases h with rfl | ⟨b, len, zs, rfl, hb, hz, hm, _⟩
  · exact ⟨[], .inl ⟨rfl, rfl⟩, by simp⟩
  · exact ⟨zs, .inr ⟨b, 0, by rw [hz, Nat.mul_one], hb⟩, by omega⟩
theorem row8 {η : List Blk} {e : TypeId} {x : AV} (h : AvSh η (.rows e 1 .u8) x) : ∃ l, Row8 e η x l ∧ l.length ≤ maxLen := by
  rcases h with rfl | ⟨b, len, zs, rfl, hb, hz, hm, hw⟩
  · exact ⟨[], .inl ⟨rfl, rfl⟩, by simp⟩
  · refine ⟨zs, .inr ⟨b, 0, by rw [hz, Nat.mul_one], hb⟩, by omega⟩
theorem row2 {η : List Blk} {e : TypeId} {x : AV} (h : AvSh η (.rows e 2 .i64) x) : ∃ l, RowR e 2 enc2 η x l ∧ l.length ≤ maxLen := by
  rcases h with rfl | ⟨b, len, zs, rfl, hb, hz, hm, _⟩
  · exact ⟨[], .inl ⟨rfl, rfl⟩, by simp⟩
  · obtain ⟨l, h1, h2⟩ := chunk2 len zs hz
    exact ⟨l, .inr ⟨b, 0, by rw [h1], by rw [hb, h2]⟩, by omega⟩
theorem row3 {η : List Blk} {e : TypeId} {x : AV} (h : AvSh η (.rows e 3 .i64) x) : ∃ l, RowR e 3 enc3 η x l ∧ l.length ≤ maxLen := by
  rcases h with rfl | ⟨b, len, zs, rfl, hb, hz, hm, _⟩
  · exact ⟨[], .inl ⟨rfl, rfl⟩, by simp⟩
  · obtain ⟨l, h1, h2⟩ := chunk3 len zs hz
    exact ⟨l, .inr ⟨b, 0, by rw [h1], by rw [hb, h2]⟩, by omega⟩
theorem noLocR {α : Type} {e : TypeId} {k : Nat} {enc : α → List AV} {η : List Blk} {v : AV} {l : List α} (h : RowR e k enc η v l) : noLoc1 v = true ∧ noLoc v = true := by
  rcases h with ⟨rfl, _⟩ | ⟨b, ver, rfl, _⟩ <;> exact ⟨rfl, rfl⟩
theorem noLocI {η : List Blk} {v : AV} {l : List Int} (h : RowI η v l) : noLoc1 v = true ∧ noLoc v = true := by
  rcases h with ⟨rfl, _⟩ | ⟨b, ver, rfl, _⟩ <;> exact ⟨rfl, rfl⟩

/-! what stands in a slice, as a function -/
theorem flat_inj {α : Type} {enc : α → List AV} {k : Nat} (hk : ∀ x, (enc x).length = k) (hi : ∀ x y, enc x = enc y → x = y) : ∀ l m : List α, l.length = m.length → (l.map enc).flatten = (m.map enc).flatten → l = m
  | [], [], _, _ => rfl
  | [], _ :: _, h, _ => by simp at h
  | _ :: _, [], h, _ => by simp at h
  | x :: l, y :: m, h, e => by
    simp only [List.map_cons, List.flatten_cons] at e
    have := List.append_inj e (by rw [hk, hk])
    rw [hi _ _ this.1, flat_inj hk hi l m (by simpa using h) this.2]
theorem IsR.uniq {α : Type} {enc : α → List AV} {k : Nat} (hk : ∀ x, (enc x).length = k) (hi : ∀ x y, enc x = enc y → x = y) {e : TypeId} {η : List Blk} {v : AV} {l m : List α} (h : IsR e k enc η v l) (h' : IsR e k enc η v m) : l = m := by
  obtain ⟨b, ver, rfl, hb⟩ := h
  obtain ⟨c, wer, e1, hc⟩ := h'
  injection e1 with e1 e2 e3 e4
  subst e1
  rw [hb] at hc
  injection hc with hc
  injection hc with _ _ _ hc
  exact flat_inj hk hi l m e4 hc
theorem IsI.uniq {η : List Blk} {v : AV} {l m : List Int} (h : IsI η v l) (h' : IsI η v m) : l = m := by
  obtain ⟨b, ver, rfl, hb⟩ := h
  obtain ⟨c, wer, e1, hc⟩ := h'
  injection e1 with e1 e2 e3 e4
  subst e1
  rw [hb] at hc
  injection hc with hc
  injection hc with _ _ _ hc
  have hinj : ∀ l m : List Int, l.map (AV.int .i64) = m.map (AV.int .i64) → l = m := by
    intro l
    induction l with
    | nil => intro m h; cases m <;> simp_all
    | cons x l ih =>
      intro m h
      cases m with
      | nil => simp at h
      | cons y m => simp only [List.map_cons, List.cons.injEq, AV.int.injEq, true_and] at h; rw [h.1, ih m h.2]
  exact hinj _ _ hc
theorem enc2_inj (x y : Int × Int) (h : enc2 x = enc2 y) : x = y := by
  simp only [enc2, List.cons.injEq, AV.int.injEq, true_and, and_true] at h
  exact Prod.ext h.1 h.2
theorem enc3_inj (x y : Int × Int × Int) (h : enc3 x = enc3 y) : x = y := by
  simp only [enc3, List.cons.injEq, AV.int.injEq, true_and, and_true] at h
  exact Prod.ext h.1 (Prod.ext h.2.1 h.2.2)
open Classical in
noncomputable def dec3 (e : TypeId) (η : List Blk) (v : AV) : List (Int × Int × Int) := if h : ∃ l, IsR e 3 enc3 η v l then h.choose else []
open Classical in
noncomputable def dec2 (e : TypeId) (η : List Blk) (v : AV) : List (Int × Int) := if h : ∃ l, IsR e 2 enc2 η v l then h.choose else []
open Classical in
noncomputable def decI (η : List Blk) (v : AV) : List Int := if h : ∃ l, IsI η v l then h.choose else []
theorem IsR.dec3 {e : TypeId} {η : List Blk} {v : AV} {l : List (Int × Int × Int)} (h : IsR e 3 enc3 η v l) : dec3 e η v = l := by
  unfold Proofs.Ytaalpmbopkbdiaa.dec3
  rw [dif_pos ⟨l, h⟩]
  exact IsR.uniq enc3k enc3_inj (Exists.choose_spec (⟨l, h⟩ : ∃ l, IsR e 3 enc3 η v l)) h
theorem IsR.dec2 {e : TypeId} {η : List Blk} {v : AV} {l : List (Int × Int)} (h : IsR e 2 enc2 η v l) : dec2 e η v = l := by
  unfold Proofs.Ytaalpmbopkbdiaa.dec2
  rw [dif_pos ⟨l, h⟩]
  exact IsR.uniq enc2k enc2_inj (Exists.choose_spec (⟨l, h⟩ : ∃ l, IsR e 2 enc2 η v l)) h
theorem IsI.dec {η : List Blk} {v : AV} {l : List Int} (h : IsI η v l) : decI η v = l := by
  unfold decI
  rw [dif_pos ⟨l, h⟩]
  exact IsI.uniq (Exists.choose_spec (⟨l, h⟩ : ∃ l, IsI η v l)) h
def ok3 (e : TypeId) (η : List Blk) (v : AV) : Prop := ∃ l : List (Int × Int × Int), IsR e 3 enc3 η v l ∧ l.length ≤ 1048576
def ok2 (e : TypeId) (η : List Blk) (v : AV) : Prop := ∃ l : List (Int × Int), IsR e 2 enc2 η v l ∧ l.length ≤ 1048576
def okI (η : List Blk) (v : AV) : Prop := ∃ l : List Int, IsI η v l ∧ l.length ≤ 1048576
/-! lists by index -/
theorem rall_succ {p : Nat → Bool} {i : Nat} (h : (List.range i).all p = true) (hp : p i = true) : (List.range (i + 1)).all p = true := by
  rw [List.range_succ, List.all_append, h]; simp [hp]
theorem rall_bad {p : Nat → Bool} {i n : Nat} (h : i < n) (hp : p i = false) : (List.range n).all p = false := by
  rw [List.all_eq_false]; exact ⟨i, List.mem_range.2 h, by simp [hp]⟩
theorem all_bad {α : Type} {l : List α} {p : α → Bool} {i : Nat} {d : α} (h : i < l.length) (hp : p (l.getD i d) = false) : l.all p = false := by
  rw [List.all_eq_false]
  refine ⟨l.getD i d, ?_, by rw [hp]; exact Bool.false_ne_true⟩
  rw [List.getD_eq_getElem?_getD, List.getElem?_eq_getElem h]
  exact List.getElem_mem h
theorem getD_mem {α : Type} {l : List α} {i : Nat} {d : α} (h : i < l.length) : l.getD i d ∈ l := by
  rw [List.getD_eq_getElem?_getD, List.getElem?_eq_getElem h]
  exact List.getElem_mem h
/-- The first index with a property, or -1. -/
def firstI (n : Nat) (p : Nat → Bool) : Int := match (List.range n).find? p with
  | some i => i
  | none => -1
theorem first_here {n i : Nat} {p : Nat → Bool} (hi : i < n) (h : (List.range i).all (fun j => !p j) = true) (hp : p i = true) : firstI n p = i := by
  unfold firstI
  have : (List.range n).find? p = some i := by
    rw [List.find?_range_eq_some]
    refine ⟨hp, List.mem_range.2 hi, fun j hj => ?_⟩
    exact List.all_eq_true.1 h j (List.mem_range.2 hj)
  rw [this]
theorem first_none {n : Nat} {p : Nat → Bool} (h : (List.range n).all (fun j => !p j) = true) : firstI n p = -1 := by
  unfold firstI
  have : (List.range n).find? p = none := by
    rw [List.find?_eq_none]
    intro x hx
    have := List.all_eq_true.1 h x hx
    simpa using this
  rw [this]
theorem sum1 {l : List Int} {i : Nat} (h : i < l.length) : (l.take (i + 1)).sum = (l.take i).sum + l.getD i 0 := by
  rw [take1 (d := 0) h, List.sum_append]; simp
theorem sum_bd {l : List Int} (h : ∀ x ∈ l, 0 ≤ x ∧ x ≤ 10000000000) : 0 ≤ l.sum ∧ l.sum ≤ l.length * 10000000000 := by
  induction l with
  | nil => simp
  | cons x l ih =>
    have h1 := h x (by simp)
    have h2 := ih fun y hy => h y (by simp [hy])
    simp only [List.sum_cons, List.length_cons]
    omega

/-! ### slices whose capacity is known -/
section
variable {P : Program} {lo : Nat} {f : FuncId}
theorem HSim.cut {W : Wit} {η : List Blk} {w : World} (h : HSim lo W η w) {b : Nat} {blk : Blk} (hb : η[b]? = some blk) (hlo : lo ≤ b) (m : Nat) : HSim lo W (η.set b { blk with cells := blk.cells.take m }) w := by
  have hst : HStep lo η (η.set b { blk with cells := blk.cells.take m }) W W := .set (blk' := { blk with cells := blk.cells.take m }) hb hlo (Nat.le_refl _) rfl rfl
  refine ⟨by rw [List.length_set]; exact h.lo_le, fun c bl hcb j y hy => ?_, fun c bl hcb hlc2 => ?_, fun c c' bl hcb hc' hlc' hp hn hcc => ?_⟩
  · rcases getElem?_set_cases hcb with ⟨rfl, rfl⟩ | ⟨hcn, hcb⟩
    · have hy' : blk.cells[j]? = some y := by
        simp only [List.getElem?_take] at hy
        split at hy
        · exact hy
        · cases hy
      obtain ⟨u, h1, h2⟩ := h.cell c blk hb j y hy'
      exact ⟨u, h1, Rc_mono hst (LStep.refl _ _) h2⟩
    · obtain ⟨u, h1, h2⟩ := h.cell c bl hcb j y hy
      exact ⟨u, h1, Rc_mono hst (LStep.refl _ _) h2⟩
  · rcases getElem?_set_cases hcb with ⟨rfl, rfl⟩ | ⟨hcn, hcb⟩
    · obtain ⟨h1, h2⟩ := h.own c blk hb hlo
      exact ⟨by simp only [List.length_take]; omega, h2⟩
    · exact h.own c bl hcb hlc2
  · rw [List.length_set] at hc'
    rcases getElem?_set_cases hcb with ⟨rfl, rfl⟩ | ⟨hcn, hcb⟩
    · rw [if_pos hlo] at hcc
      exact h.sep c c' blk hb hc' hlc' hp hn (by rw [if_pos hlo]; exact hcc)
    · exact h.sep c c' bl hcb hc' hlc' hp hn hcc
/-- A slice comes in: its capacity is known. -/
theorem AF_reveal {b n : Nat} {blk : Blk} {rest : List AV} {η : List Blk} {Q : AV → List Blk → Prop} (hb : η[b]? = some blk) (hlo : lo ≤ b) (hn : 0 < n) (h : ∀ c, n ≤ c → AF P lo f (.slc b blk.ver 0 n c :: rest) η Q) : AF P lo f (.sl b blk.ver 0 n :: rest) η Q := by
  refine ⟨(h n (Nat.le_refl _)).1, fun W w us hs hr => ?_⟩
  obtain ⟨u0, hu0, hv0⟩ := hr.2 0 _ rfl
  obtain ⟨a, cap, rfl, hle, hcap⟩ := sl_open hv0 hb rfl
  obtain ⟨ha, hcs⟩ : a = (W.ι b).add 0 ∧ 0 + cap * blk.sz ≤ W.cs b := by
    rcases hcap with h | h
    · omega
    · exact ⟨h.1, h.2 hlo⟩
  refine (h cap hle).2 W w us hs ⟨by simpa using hr.1, fun i x hx => ?_⟩
  match i, hx with
  | 0, hx =>
    simp only [List.getElem?_cons_zero, Option.some.injEq] at hx
    subst hx
    exact ⟨_, hu0, Rv_mkc ⟨rfl, hlo, blk, hb, Nat.le_refl _, fun _ => ⟨a, rfl, hle, .inr ⟨ha, hcs⟩⟩⟩⟩
  | i + 1, hx =>
    obtain ⟨u, h1, h2⟩ := hr.2 (i + 1) x (by simpa using hx)
    exact ⟨u, h1, h2⟩
/-- What is known of a result is forgotten: a slice's capacity; cells behind a place. -/
def Forget (lo : Nat) (Q : AV → List Blk → Prop) (v : AV) (η : List Blk) : Prop :=
  (match v with | .slc b ver off len _ => Q (.sl b ver off len) η | _ => False) ∨ Q v η ∨
  ∃ b blk m, lo ≤ b ∧ η[b]? = some blk ∧ (match v with | .slc b' ver off len _ => Q (.sl b' ver off len) (η.set b { blk with cells := blk.cells.take m }) | v => Q v (η.set b { blk with cells := blk.cells.take m }))
theorem Rv_forget {W : Wit} {η : List Blk} {b ver off len cap : Nat} {u : Value} (h : Rv lo W η lam0 kap0 (.slc b ver off len cap) u) : Rv lo W η lam0 kap0 (.sl b ver off len) u := by
  rcases h with h | ⟨_, _, h, _⟩ | ⟨_, _, h, _⟩ | h
  · cases h
  · cases h
  · cases h
  · refine Rv_mkc ⟨h.1, ?_⟩
    obtain ⟨_, hlo, blk, h1, h2, h3⟩ := h
    refine ⟨blk, h1, h2, fun e => ?_⟩
    obtain ⟨a, q1, q2, q3⟩ := h3 e
    refine ⟨a, cap, q1, q2, ?_⟩
    rcases q3 with q3 | q3
    · exact .inl q3
    · exact .inr ⟨q3.1, fun _ => q3.2⟩
theorem AF_forget {args : List AV} {η : List Blk} {Q : AV → List Blk → Prop} (h : AF P lo f args η (Forget lo Q)) : AF P lo f args η Q := by
  refine ⟨h.1, fun W w us hs hr => (h.2 W w us hs hr).mono ?_⟩
  rintro e w' ⟨v, η', W', u, rfl, q, hv, hs', hst, hown, hfr⟩
  rcases q with q | q | ⟨b, blk, m, hlo, hb, q⟩
  · cases v <;> first | exact q.elim | skip
    exact ⟨_, η', W', u, rfl, q, Rv_forget hv, hs', hst, hown, hfr⟩
  · exact ⟨_, η', W', u, rfl, q, hv, hs', hst, hown, hfr⟩
  · have hst' : HStep lo η' (η'.set b { blk with cells := blk.cells.take m }) W' W' := .set (blk' := { blk with cells := blk.cells.take m }) hb hlo (Nat.le_refl _) rfl rfl
    have hv' := Rv_mono hst' (LStep.refl lam0 kap0) hv
    have hown' : ∀ c, lo ≤ c → c < (η'.set b { blk with cells := blk.cells.take m }).length → 0 < W'.cs c → (∃ b0, lo ≤ b0 ∧ b0 < η.length ∧ 0 < W.cs b0 ∧ (W.ι b0).block = (W'.ι c).block) ∨ w.heap.size ≤ (W'.ι c).block := fun c h1 h2 h3 => hown c h1 (by simpa using h2) h3
    cases v <;> first | exact ⟨_, _, W', u, rfl, q, hv', hs'.cut hb hlo m, hst.trans hst', hown', hfr⟩ | exact ⟨_, _, W', u, rfl, q, Rv_forget hv', hs'.cut hb hlo m, hst.trans hst', hown', hfr⟩

/-- The library's question whether two slices have memory in common, at slices in two blocks. -/
theorem overlaps_AX {g : FuncId} {tS tR e : TypeId} {k : Nat} (hf : ∀ (args : Array Value) (w : World), (callFunc g args).run P w = ((Extern.SlicesOverlaps.overlaps #[tS, tS] #[tR] args).run P w).andThen fun v w' => .ok (.value v) w')
    (ht : elemB P tS = some (e, k)) (hk : 0 < k) {x y : AV} {b ver off len b' ver' off' len' : Nat} {blk blk' : Blk} {η : List Blk} {K : AV → List Blk → Prop} (hx : dstA lo x = some (b, ver, off, len)) (hy : dstA lo y = some (b', ver', off', len'))
    (hb : η[b]? = some blk) (hb' : η[b']? = some blk') (hv : ver = blk.ver) (hv' : ver' = blk'.ver) (hz : blk.sz = k) (hz' : blk'.sz = k) (hne : b ≠ b') (hK : K (.bool false) η) : AX P lo g [x, y] η K := by
  obtain ⟨hte, hse⟩ := elemB_spec ht
  refine ⟨_, hK, fun W w us hs hr => ⟨.bool false, ?_, Rv_mkc ⟨rfl, rfl⟩⟩⟩
  obtain ⟨u, hu, hru⟩ := hr.2 0 x rfl
  obtain ⟨u', hu', hru'⟩ := hr.2 1 y rfl
  have hus : us = #[u, u'] := by
    apply Array.ext_getElem?
    intro i
    match i with
    | 0 => exact hu
    | 1 => exact hu'
    | i + 2 => rw [Array.getElem?_eq_none (by rw [hr.1]; simp), Array.getElem?_eq_none (by simp)]
  obtain ⟨hlo, _, ad, cap, rfl, hlc, hcap⟩ := dst_open hru hx hb hv
  obtain ⟨hlo', _, ad', cap', rfl, hlc', hcap'⟩ := dst_open hru' hy hb' hv'
  subst hus
  have hsz : ∀ w, (sizeOf e).run P w = .ok k w := fun w => szB_run hse
  rw [hf]
  by_cases h0 : len = 0 ∨ len' = 0
  · have h0' : len = 0 ∨ len' = 0 ∨ k = 0 := by omega
    have e1 : (Extern.SlicesOverlaps.overlaps #[tS, tS] #[tR] #[.slice (some ad) len cap, .slice (some ad') len' cap']).run P w = .ok (.bool false) w := by
      change Sem.run P (α := Value) (do
        let some t := (#[tS, tS] : Array TypeId)[0]? | stuck "slices.overlaps: no parameter types"
        let .slice elem ← underlying t | stuck "slices.overlaps: slice type expected"
        let size ← sizeOf elem
        match (some ad : Option Addr), (some ad' : Option Addr) with
        | some a, some b =>
          if len = 0 ∨ len' = 0 ∨ size = 0 then pure (Value.bool false)
          else if a.block != b.block && (← frozen a) && (← frozen b) then unsupported .addressObserved
          else do
            if a.block != b.block then do
              noView a; noView b
              if ← mayBeOne a b then return Value.bool ((← choose (.extern "sameAddr.stringBytes" 2)) == 1)
            pure (Value.bool (a.block == b.block && a.off < b.off + len' * size && b.off < a.off + len * size))
        | _, _ => pure (Value.bool false)) w = _
      simp [run_underlying hte, hsz, h0']
    rw [e1]
    rfl
  · obtain ⟨q1, q2⟩ : ad = (W.ι b).add off ∧ off + cap * blk.sz ≤ W.cs b := by rcases hcap with h | h; omega; exact h
    obtain ⟨q1', q2'⟩ : ad' = (W.ι b').add off' ∧ off' + cap' * blk'.sz ≤ W.cs b' := by rcases hcap' with h | h; omega; exact h
    have c0 : 0 < W.cs b := by have : 0 < cap * blk.sz := Nat.mul_pos (by omega) (by omega); omega
    have c0' : 0 < W.cs b' := by have : 0 < cap' * blk'.sz := Nat.mul_pos (by omega) (by omega); omega
    obtain ⟨B, cr, hB, hrw, hs2⟩ := (hs.own b blk hb hlo).2 c0
    obtain ⟨B', cr', hB', hrw', hs2'⟩ := (hs.own b' blk' hb' hlo').2 c0'
    have hsep := hs.sep b b' blk hb (List.getElem?_eq_some_iff.1 hb').1 hlo' c0' hne (by rw [if_pos hlo]; exact c0)
    rw [hB, hB'] at hsep
    rw [hB, add_zero_plain, Nat.zero_add] at q1
    rw [hB', add_zero_plain, Nat.zero_add] at q1'
    rw [q1, q1', Lib.run_overlaps_apart w tS tR e hte k hsz ⟨B, off, none⟩ ⟨B', off', none⟩ len cap len' cap' hsep blk.ty blk'.ty cr.size cr'.size (by simp [World.shape?, hrw]) (by simp [World.shape?, hrw']) (by omega) (by simp [World.frozen?, hrw]) (by simp [World.frozen?, hrw])]
    rfl
end
end Go.Proofs.Ytaalpmbopkbdiaa
