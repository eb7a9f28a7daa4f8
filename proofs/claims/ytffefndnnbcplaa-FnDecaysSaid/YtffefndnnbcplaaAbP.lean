/- The abstract logic: regions that draw their order. One walk serves every order. -/
import Derived.Test.YtffefndnnbcplaaAbO
namespace Go.Proofs.Ytffefndnnbcplaa
open Go

section
variable {P : Program} {lo : Nat} {H : List Nat} {o : Oper} {ρ : Operand → AV} {lam : Nat → LB} {η : List Blk} {K K' : AV → (Nat → LB) → List Blk → Prop}

theorem AEff_mono (hk : ∀ v l e, K v l e → K' v l e) (h : AEff P lo H o ρ lam η K) : AEff P lo H o ρ lam η K' := by
  by_cases hl : isLook o = true
  · rw [AEff_look hl] at h ⊢
    obtain ⟨v, h1, h2⟩ := h
    exact ⟨v, h1, hk _ _ _ h2⟩
  obtain ⟨dst, op, type, pos, after, guard⟩ := o
  cases op <;> simp only [isLook, not_true_eq_false] at hl <;> simp only [AEff] at h ⊢
  case alloc t =>
    split at h
    · exact newVarA_mono hk h
    · exact h
  case box t x => exact ⟨h.1, newVarA_mono hk h.2⟩
  case store t a x =>
    split at h
    · exact ⟨h.1, hk _ _ _ h.2⟩
    · split at h
      · exact ⟨h.1, hk _ _ _ h.2⟩
      · exact h
    · exact h
  case makeSlice t l c =>
    split at h
    · split at h
      · exact ⟨h.1, hk _ _ _ h.2⟩
      · exact h
    · exact h
  case buildSlice t n ps =>
    split at h
    · by_cases hn : n = 0
      · rw [if_pos hn] at h ⊢; exact ⟨h.1, hk _ _ _ h.2⟩
      · rw [if_neg hn] at h ⊢
        split at h
        · split at h
          · exact ⟨h.1, hk _ _ _ h.2⟩
          · exact h
        · exact h
    · exact h
  case call c =>
    split at h
    · split at h
      · exact ⟨h.1, h.2.mono fun _ _ => hk _ _ _⟩
      · exact h
    · split at h
      · split at h
        · split at h
          · refine ⟨h.1, ?_⟩
            replace h := h.2
            split at h
            · exact ⟨h.1, hk _ _ _ h.2⟩
            · exact ⟨h.1, hk _ _ _ h.2⟩
            · split at h
              · exact ⟨h.1, hk _ _ _ h.2⟩
              · exact h
            · exact h
          · exact h
        · exact h
      · exact h
    · split at h
      · exact hk _ _ _ h
      · exact h

theorem store_keep (hs : isStore o = true) (h : AEff P lo H o ρ lam η K) : AEff P lo H o ρ lam η (fun v l e => Ks false lam η l e ∧ K v l e) := by
  obtain ⟨dst, op, type, pos, after, guard⟩ := o
  cases op <;> simp only [isStore, Bool.false_eq_true] at hs
  case store t a x =>
    simp only [AEff] at h ⊢
    split at h
    · refine ⟨h.1, ⟨fun s hs => ?_, fun b blk hb => ⟨blk, hb, rfl, rfl, fun e => by cases e⟩⟩, h.2⟩
      refine ⟨?_, fun e => by cases e⟩
      unfold upd
      split
      · rename_i hss; rw [hss]; exact h.1.2.1
      · rfl
    · split at h
      · rename_i b0 _ _ _ _ _ blk0 hb0
        refine ⟨h.1, ⟨fun s hs => ⟨rfl, fun _ => rfl⟩, fun b blk hb => ?_⟩, h.2⟩
        by_cases hbb : b0 = b
        · subst hbb
          rw [hb0] at hb
          obtain rfl := Option.some.inj hb
          exact ⟨_, List.getElem?_set_self (List.getElem?_eq_some_iff.1 hb0).1, rfl, rfl, fun e => by cases e⟩
        · exact ⟨blk, by rw [List.getElem?_set_ne hbb]; exact hb, rfl, rfl, fun e => by cases e⟩
      · exact h
    · exact h
end

/-- No operand is the address of local d. -/
def clearB (d : Nat) : AV → Bool
  | .loc s _ _ => s != d
  | _ => true
def avoidB (d : Nat) (ρ : Operand → AV) (o : Oper) : Bool := (o.op.operands.toList.map ρ).all (clearB d)

theorem avoid_of {d : Nat} {ρ : Operand → AV} {o : Oper} (h : avoidB d ρ o = true) {x : Operand} (hx : x ∈ o.op.operands) {s v k : Nat} (e : ρ x = .loc s v k) : s ≠ d := by
  have := List.all_eq_true.1 h (ρ x) (List.mem_map.2 ⟨x, by simpa using hx, rfl⟩)
  rw [e] at this
  simpa [clearB] using this

theorem upd_off {α : Type} {f : Nat → α} {i j : Nat} {v : α} (h : j ≠ i) : upd f i v j = f j := by simp [upd, h]
theorem upd_comm {α : Type} {f : Nat → α} {i j : Nat} {v u : α} (h : i ≠ j) : upd (upd f i v) j u = upd (upd f j u) i v := by
  funext t
  simp only [upd]
  by_cases h1 : t = j <;> by_cases h2 : t = i <;> simp_all

section
variable {P : Program} {lo : Nat} {H : List Nat} {o : Oper} {ρ : Operand → AV} {lam : Nat → LB} {η : List Blk} {K : AV → (Nat → LB) → List Blk → Prop} {d : Nat} {L : LB}

theorem pv_avoid (h : avoidB d ρ o = true) : pv P o ρ (upd lam d L) η = pv P o ρ lam η := by
  have av := fun {x : Operand} (hx : x ∈ o.op.operands) {s v k : Nat} (e : ρ x = .loc s v k) => avoid_of h hx e
  clear h
  obtain ⟨dst, op, type, pos, after, guard⟩ := o
  cases op <;> try simp only [pv]
  case nilCheck x =>
    cases hx : ρ x <;> try rfl
    simp only [upd_off (av (x := x) (by simp [Op.operands]) hx)]
  case load t x =>
    cases isAggB P t <;> try rfl
    cases szB P t <;> try rfl
    cases hx : ρ x <;> try rfl
    simp only [upd_off (av (x := x) (by simp [Op.operands]) hx)]
  case fieldAddr t x f =>
    cases fieldB P t f <;> try rfl
    cases hx : ρ x <;> try rfl
    simp only [upd_off (av (x := x) (by simp [Op.operands]) hx)]
  case slice t x l h m => cases m <;> rfl

theorem pvL_avoid (h : avoidB d ρ o = true) : pvL P o ρ (upd lam d L) η = pvL P o ρ lam η := by
  unfold pvL
  split
  · rfl
  · exact pv_avoid h

theorem AEff_avoid (h : avoidB d ρ o = true) (hd : o.dst ≠ some d) (k : AEff P lo H o ρ (upd lam d L) η K) : AEff P lo H o ρ lam η (fun v l e => l d = lam d ∧ K v (upd l d L) e) := by
  by_cases hl : isLook o = true
  · rw [AEff_look hl] at k ⊢
    obtain ⟨v, h1, h2⟩ := k
    rw [pvL_avoid h] at h1
    exact ⟨v, h1, rfl, h2⟩
  have nv : ∀ t cells, newVarA H o.dst t cells (upd lam d L) η K → newVarA H o.dst t cells lam η (fun v l e => l d = lam d ∧ K v (upd l d L) e) := by
    intro t cells hh
    unfold newVarA at hh ⊢
    cases hds : o.dst with
    | none => rw [hds] at hh; exact hh
    | some i =>
      rw [hds] at hh hd
      have hne : i ≠ d := fun e => hd (by rw [e])
      simp only at hh ⊢
      split at hh
      · rename_i hi; rw [if_pos hi]; exact ⟨hh.1, by trivial, hh.2⟩
      · rename_i hi
        rw [if_neg hi]
        rw [upd_off hne, upd_comm (Ne.symm hne)] at hh
        exact ⟨upd_off (Ne.symm hne), hh⟩
  have av := fun {x : Operand} (hx : x ∈ o.op.operands) {s v k : Nat} (e : ρ x = .loc s v k) => avoid_of h hx e
  clear h
  obtain ⟨dst, op, type, pos, after, guard⟩ := o
  cases op <;> simp only [isLook, not_true_eq_false] at hl <;> simp only [AEff] at k ⊢ <;> simp only [Op.operands] at av
  case alloc t =>
    split at k
    · exact nv _ _ k
    · exact k
  case box t x => exact ⟨k.1, nv _ _ k.2⟩
  case store t a x =>
    revert k
    cases szB P t with
    | none => exact id
    | some n =>
    cases ha : ρ a <;> intro k <;> simp only at k ⊢ <;> try contradiction
    · split at k
      · exact ⟨k.1, by trivial, k.2⟩
      · contradiction
    · have hne := av (x := a) (by simp) ha
      rw [upd_off hne, upd_comm (Ne.symm hne)] at k
      exact ⟨k.1, upd_off (Ne.symm hne), k.2⟩
  case makeSlice t l c =>
    split at k
    · split at k
      · exact ⟨k.1, by trivial, k.2⟩
      · exact k
    · exact k
  case buildSlice t n ps =>
    split at k
    · by_cases hn : n = 0
      · rw [if_pos hn] at k ⊢; exact ⟨k.1, by trivial, k.2⟩
      · rw [if_neg hn] at k ⊢
        split at k
        · split at k
          · exact ⟨k.1, by trivial, k.2⟩
          · exact k
        · exact k
    · exact k
  case call c =>
    split at k
    · split at k
      · exact ⟨k.1, k.2.mono fun _ _ q => ⟨trivial, q⟩⟩
      · exact k
    · split at k
      · split at k
        · split at k
          · refine ⟨k.1, ?_⟩
            replace k := k.2
            split at k
            · exact ⟨k.1, by trivial, k.2⟩
            · exact ⟨k.1, by trivial, k.2⟩
            · split at k
              · exact ⟨k.1, by trivial, k.2⟩
              · exact k
            · exact k
          · exact k
        · exact k
      · exact k
    · exfalso
      rename_i hv hap
      revert hl
      cases hcc : c.callee with
      | value f => exact absurd hcc (hv f)
      | invoke r m => simp
      | builtin b => cases b <;> simp_all
end

section
variable {P : Program} {lo : Nat} {H : List Nat} {ops : Array Oper} {K K' : St → Prop} {st : St} {o : Oper}

def wantA (ops : Array Oper) (o : Oper) (st : St) : Option Bool :=
  match o.guard with
  | none => some true
  | some (j, want) => yieldedA ops st j want

theorem AOpG_iff : AOpG P lo H ops o K st ↔ (wantA ops o st = some true ∧ AOp P lo H o K st) ∨ (wantA ops o st = some false ∧ dstOk o.dst st.n ∧ K (put o.dst skipV st)) := by
  unfold AOpG wantA
  cases o.guard with
  | none => simp
  | some jw =>
    obtain ⟨j, want⟩ := jw
    simp only
    cases yieldedA ops st j want with
    | none => simp
    | some b => cases b <;> simp

theorem AOp_mono (hk : ∀ st, K st → K' st) (h : AOp P lo H o K st) : AOp P lo H o K' st := ⟨h.1, AEff_mono (fun _ _ _ => hk _) h.2⟩
theorem AOpG_mono (hk : ∀ st, K st → K' st) (h : AOpG P lo H ops o K st) : AOpG P lo H ops o K' st := by
  rw [AOpG_iff] at h ⊢
  exact h.imp (fun h => ⟨h.1, AOp_mono hk h.2⟩) (fun h => ⟨h.1, h.2.1, hk _ h.2.2⟩)

theorem avoidB_congr {ρ ρ' : Operand → AV} {d : Nat} (h : ∀ x ∈ o.op.operands, ρ x = ρ' x) : avoidB d ρ o = avoidB d ρ' o := by
  unfold avoidB
  rw [args_congr (l := o.op.operands.toList) fun x hx => h x (by simpa using hx)]
/-- The operation keeps clear of the locals listed for it. -/
def avoidsB (av : List (Nat × Nat)) (i : Nat) (o : Oper) (st : St) : Bool := av.all fun p => (p.1 != i || avoidB p.2 (ev st) o) && (p.1 != i + 1000 || locLoadB (ev st) o)
theorem avoidsB_congr {av : List (Nat × Nat)} {i : Nat} {st' : St} (h : ∀ x ∈ o.op.operands, ev st x = ev st' x) : avoidsB av i o st = avoidsB av i o st' := by
  unfold avoidsB
  congr 1
  funext p
  rw [avoidB_congr h, locLoadB_congr h]
/-- What an operation's listing says it keeps. -/
def keepR (fl : List Nat) (i : Nat) (lam : Nat → LB) (η : List Blk) (lam' : Nat → LB) (η' : List Blk) : Prop :=
  (fl.contains i = true → Ks true lam η lam' η') ∧ (fl.contains (i + 1000) = true → KsW lam η lam' η')
theorem keepR.refl {fl : List Nat} {i : Nat} (lam : Nat → LB) (η : List Blk) : keepR fl i lam η lam η := ⟨fun _ => .refl _ _ _, fun _ => .refl _ _⟩
theorem KsW_of {lam lam' : Nat → LB} {η η' : List Blk} (h : Ks true lam η lam' η') : KsW lam η lam' η' :=
  ⟨⟨fun s hs => ⟨(h.1 s hs).1, fun e => by cases e⟩, fun b blk hb => by
    obtain ⟨blk', h1, h2, h3, _⟩ := h.2 b blk hb
    exact ⟨blk', h1, h2, h3, fun e => by cases e⟩⟩, fun s hs => (h.1 s hs).2 rfl⟩
theorem keepR.strict {fl : List Nat} {i : Nat} {lam lam' : Nat → LB} {η η' : List Blk} (h : Ks true lam η lam' η') : keepR fl i lam η lam' η' := ⟨fun _ => h, fun _ => KsW_of h⟩
theorem keepR.weak {fl : List Nat} {i : Nat} {lam lam' : Nat → LB} {η η' : List Blk} (hf : ¬ fl.contains i = true) (h : KsW lam η lam' η') : keepR fl i lam η lam' η' := ⟨fun e => absurd e hf, fun _ => h⟩
theorem keepR.none {fl : List Nat} {i : Nat} {lam lam' : Nat → LB} {η η' : List Blk} (hf : ¬ fl.contains i = true) (hw : ¬ fl.contains (i + 1000) = true) : keepR fl i lam η lam' η' := ⟨fun e => absurd e hf, fun e => absurd e hw⟩
theorem Ks_upd {s : Bool} {lam l : Nat → LB} {η e : List Blk} {d : Nat} {L : LB} (hl : l d = lam d) (h : Ks s (upd lam d L) η (upd l d L) e) : Ks s lam η l e := by
  refine ⟨fun j hj => ?_, h.2⟩
  by_cases hsd : j = d
  · subst hsd; rw [hl]; exact ⟨rfl, fun _ => rfl⟩
  · have := h.1 j (by rw [upd_off hsd]; exact hj)
    rw [upd_off hsd, upd_off hsd] at this
    exact this
theorem KsW_upd {lam l : Nat → LB} {η e : List Blk} {d : Nat} {L : LB} (hl : l d = lam d) (h : KsW (upd lam d L) η (upd l d L) e) : KsW lam η l e := by
  refine ⟨Ks_upd hl h.1, fun j hj => ?_⟩
  by_cases hsd : j = d
  · subst hsd; exact hl
  · have := h.2 j (by rw [upd_off hsd]; exact hj)
    rw [upd_off hsd, upd_off hsd] at this
    exact this
theorem keepR_upd {fl : List Nat} {i : Nat} {lam l : Nat → LB} {η e : List Blk} {d : Nat} {L : LB} (hl : l d = lam d) (h : keepR fl i (upd lam d L) η (upd l d L) e) : keepR fl i lam η l e := ⟨fun hf => Ks_upd hl (h.1 hf), fun hf => KsW_upd hl (h.2 hf)⟩

/-- This looking operation has this value here. -/
def YA (P : Program) (ops : Array Oper) (av : List (Nat × Nat)) (i : Nat) (o : Oper) (v : AV) (st : St) : Prop :=
  avoidsB av i o st = true ∧ dstOk o.dst st.n ∧ ((wantA ops o st = some true ∧ pvL P o (ev st) st.lam st.η = some v) ∨ (wantA ops o st = some false ∧ v = skipV))

theorem YA_of {av : List (Nat × Nat)} {i : Nat} (ha : avoidsB av i o st = true) (hl : isLook o = true) (h : AOpG P lo H ops o K st) : ∃ v, YA P ops av i o v st ∧ K (put o.dst v st) := by
  rw [AOpG_iff] at h
  rcases h with ⟨hw, hd, h⟩ | ⟨hw, hd, h⟩
  · rw [AEff_look hl] at h
    obtain ⟨v, h1, h2⟩ := h
    exact ⟨v, ⟨ha, hd, .inl ⟨hw, h1⟩⟩, h2⟩
  · exact ⟨skipV, ⟨ha, hd, .inr ⟨hw, rfl⟩⟩, h⟩
theorem YA.op {av : List (Nat × Nat)} {i : Nat} {v : AV} (hl : isLook o = true) (h : YA P ops av i o v st) (k : K (put o.dst v st)) : AOpG P lo H ops o K st := by
  rw [AOpG_iff]
  rcases h with ⟨_, hd, ⟨hw, h⟩ | ⟨hw, rfl⟩⟩
  · exact .inl ⟨hw, hd, (AEff_look hl).2 ⟨v, h, k⟩⟩
  · exact .inr ⟨hw, hd, k⟩

theorem ev_put {d : Option Tmp} {v : AV} {l : Nat → LB} {e : List Blk} {x : Operand} (h : ∀ t, d = some t → x ≠ .tmp t) : ev (put d v { st with lam := l, η := e }) x = ev st x := by
  cases d with
  | none => cases x <;> rfl
  | some t =>
    cases x with
    | tmp i =>
      have hne : i ≠ t := fun e => h t rfl (by rw [e])
      simp [ev, put, upd, hne]
    | _ => rfl
theorem yieldedA_put {d : Option Tmp} {v : AV} {l : Nat → LB} {e : List Blk} {j : Nat} {want : Bool} (h : ∀ t, d = some t → (ops[j]?).bind (·.dst) ≠ some t) : yieldedA ops (put d v { st with lam := l, η := e }) j want = yieldedA ops st j want := by
  unfold yieldedA
  cases hd : (ops[j]?).bind (·.dst) with
  | none => rfl
  | some t =>
    cases d with
    | none => rfl
    | some i =>
      have hne : t ≠ i := fun e => h i rfl (by rw [hd, e])
      simp [put, upd, hne]
theorem wantA_put {d : Option Tmp} {v : AV} {l : Nat → LB} {e : List Blk} (h : ∀ t, d = some t → t ∉ o.looksAt ops) : wantA ops o (put d v { st with lam := l, η := e }) = wantA ops o st := by
  unfold wantA
  cases hg : o.guard with
  | none => rfl
  | some jw =>
    obtain ⟨j, want⟩ := jw
    simp only
    rw [yieldedA_put fun t ht hh => h t ht (by simp [Oper.looksAt, hg, hh])]
theorem ops_put {d : Option Tmp} {v : AV} {l : Nat → LB} {e : List Blk} (h : ∀ t, d = some t → t ∉ o.looksAt ops) : ∀ x ∈ o.op.operands, ev (put d v { st with lam := l, η := e }) x = ev st x :=
  fun x hx => ev_put fun t ht hxt => h t ht (by
    subst hxt
    exact List.mem_append_left _ (List.mem_filterMap.2 ⟨.tmp t, by simpa using hx, rfl⟩))
theorem put_put {a b : Option Tmp} {v u : AV} (h : ∀ t, a = some t → b ≠ some t) (l : Nat → LB) (e : List Blk) : put b u { put a v st with lam := l, η := e } = put a v (put b u { st with lam := l, η := e }) := by
  cases a with
  | none => rfl
  | some i =>
    cases b with
    | none => rfl
    | some j =>
      have hne : i ≠ j := fun he => h i rfl (by rw [he])
      simp only [put, St.mk.injEq, true_and, and_true]
      funext t
      simp only [upd]
      by_cases h1 : t = j <;> by_cases h2 : t = i <;> simp_all
theorem put_id (a : Option Tmp) (v : AV) : put a v st = put a v { st with lam := st.lam, η := st.η } := rfl
theorem put_n' (a : Option Tmp) (v : AV) : (put a v st).n = st.n := by cases a <;> rfl

theorem YA.putP {av : List (Nat × Nat)} {i : Nat} {oj : Oper} {v w : AV} {l : Nat → LB} {e : List Blk} (h3 : ∀ d, oj.dst = some d → d ∉ o.looksAt ops) (hk : pvL P o (ev st) st.lam st.η = some v → pvL P o (ev st) l e = some v) (h : YA P ops av i o v st) :
    YA P ops av i o v (put oj.dst w { st with lam := l, η := e }) := by
  refine ⟨by rw [avoidsB_congr (ops_put h3)]; exact h.1, by rw [put_n']; exact h.2.1, ?_⟩
  rw [wantA_put h3]
  refine h.2.2.imp (fun h => ⟨h.1, ?_⟩) id
  rw [pvL_congr (ops_put h3), put_lam, put_η]
  exact hk h.2

/-- Behind an operation that is listed: what only adds; what changes cells of blocks alone. -/
def opD (P : Program) (lo : Nat) (H : List Nat) (ops : Array Oper) (fl : List Nat) (av : List (Nat × Nat)) (i : Nat) (o : Oper) (K : St → Prop) (st : St) : Prop :=
  avoidsB av i o st = true ∧ AOpG P lo H ops o (fun st' => keepR fl i st.lam st.η st'.lam st'.η ∧ K st') st
theorem opD_mono {fl : List Nat} {av : List (Nat × Nat)} {i : Nat} (hk : ∀ st, K st → K' st) (h : opD P lo H ops fl av i o K st) : opD P lo H ops fl av i o K' st :=
  ⟨h.1, AOpG_mono (fun _ h => ⟨h.1, hk _ h.2⟩) h.2⟩
theorem opD.op {fl : List Nat} {av : List (Nat × Nat)} {i : Nat} (h : opD P lo H ops fl av i o K st) : AOpG P lo H ops o K st := AOpG_mono (fun _ h => h.2) h.2

def compatB (ops : Array Oper) (fl : List Nat) (av : List (Nat × Nat)) (i : Nat) (oi : Oper) (j : Nat) (oj : Oper) : Bool :=
  oi.apart ops oj && (isLook oj || (isStore oj && !isLoad oi) || fl.contains j || (fl.contains (j + 1000) && (!isLoad oi || av.contains (i + 1000, 0))))

theorem opD_put {fl : List Nat} {av : List (Nat × Nat)} {i j : Nat} {oi oj : Oper} {v : AV} (hc : compatB ops fl av i oi j oj = true) (hy : YA P ops av i oi v st) (h : opD P lo H ops fl av j oj K (put oi.dst v st)) :
    opD P lo H ops fl av j oj (fun st' => YA P ops av i oi v st' ∧ K (put oi.dst v st')) st := by
  simp only [compatB, Bool.and_eq_true, Bool.or_eq_true, Bool.not_eq_true'] at hc
  obtain ⟨hap, hc⟩ := hc
  obtain ⟨h1, h2, h3⟩ := Oper.apart_spec hap
  have eqw : wantA ops oj (put oi.dst v st) = wantA ops oj st := wantA_put (l := st.lam) (e := st.η) h1
  have eqo : ∀ x ∈ oj.op.operands, ev (put oi.dst v st) x = ev st x := ops_put (l := st.lam) (e := st.η) h1
  have eqp : ∀ (u : AV) (l : Nat → LB) (e : List Blk), put oj.dst u { put oi.dst v st with lam := l, η := e } = put oi.dst v (put oj.dst u { st with lam := l, η := e }) := fun u l e => put_put h2 l e
  unfold opD at *
  refine ⟨by rw [avoidsB_congr (fun x hx => (eqo x hx).symm)]; exact h.1, ?_⟩
  replace h := h.2
  rw [AOpG_iff] at h ⊢
  rw [eqw] at h
  rcases h with ⟨hw, hd, h⟩ | ⟨hw, hd, h⟩
  · refine .inl ⟨hw, by rw [put_n'] at hd; exact hd, ?_⟩
    rw [AEff_congr _ eqo, put_lam, put_η] at h
    have fin : ∀ (u : AV) (l : Nat → LB) (e : List Blk), (pvL P oi (ev st) st.lam st.η = some v → pvL P oi (ev st) l e = some v) →
        keepR fl j st.lam st.η (put oj.dst u { put oi.dst v st with lam := l, η := e }).lam (put oj.dst u { put oi.dst v st with lam := l, η := e }).η ∧ K (put oj.dst u { put oi.dst v st with lam := l, η := e }) →
        keepR fl j st.lam st.η (put oj.dst u { st with lam := l, η := e }).lam (put oj.dst u { st with lam := l, η := e }).η ∧ YA P ops av i oi v (put oj.dst u { st with lam := l, η := e }) ∧ K (put oi.dst v (put oj.dst u { st with lam := l, η := e })) := by
      rintro u l e hp ⟨hk, hq⟩
      rw [put_lam, put_η] at hk
      refine ⟨by rw [put_lam, put_η]; exact hk, YA.putP h3 hp hy, by rw [← eqp]; exact hq⟩
    have kr : ∀ (u : AV) (l : Nat → LB) (e : List Blk), keepR fl j st.lam st.η (put oj.dst u { put oi.dst v st with lam := l, η := e }).lam (put oj.dst u { put oi.dst v st with lam := l, η := e }).η → keepR fl j st.lam st.η l e := by
      intro u l e hk
      rw [put_lam, put_η] at hk
      exact hk
    rcases hc with ((hl | ⟨hst, hld⟩) | hfl) | ⟨hfw, hld⟩
    · rw [AEff_look hl] at h ⊢
      obtain ⟨u, g1, g2⟩ := h
      exact ⟨u, g1, fin _ _ _ id g2⟩
    · exact AEff_mono (fun u l e ⟨hk, hq⟩ => fin u l e (pvL_keep hk (.inl hld)) hq) (store_keep hst h)
    · exact AEff_mono (fun u l e hq => fin u l e (pvL_keep ((kr u l e hq.1).1 hfl) (.inr rfl)) hq) h
    · refine AEff_mono (fun u l e hq => fin u l e (pvL_keepW ((kr u l e hq.1).2 hfw) ?_) hq) h
      refine hld.imp id fun hc => ?_
      have := hy.1
      unfold avoidsB at this
      have := List.all_eq_true.1 this (i + 1000, 0) (by simpa using hc)
      simp only [Bool.and_eq_true, Bool.or_eq_true] at this
      rcases this.2 with h' | h'
      · simp at h'
      · exact h'
  · refine .inr ⟨hw, by rw [put_n'] at hd; exact hd, by rw [put_lam, put_η]; exact .refl _ _, YA.putP (l := st.lam) (e := st.η) h3 id hy, ?_⟩
    have := put_put (st := st) (v := v) (u := skipV) h2 st.lam st.η
    rw [put_id (st := put oj.dst skipV st), ← show put oi.dst v (put oj.dst skipV { st with lam := st.lam, η := st.η }) = _ from rfl, ← this]
    have hk := h.2
    cases hoi : oi.dst <;> rw [hoi] at hk <;> exact hk

/-! ### new locals may be taken first -/
/-- A new local, unguarded, at this slot. -/
def newSlot (H : List Nat) (o : Oper) : Option Nat :=
  match o.op, o.dst, o.guard with
  | .alloc _, some d, none => if d ∈ H then none else some d
  | _, _, _ => none
def newSt (d : Nat) (z : List AV) (st : St) : St := put (some d) (.loc d ((st.lam d).ver + 1) 0) { st with lam := upd st.lam d ⟨(st.lam d).ver + 1, z⟩, η := st.η }

theorem newSlot_op {d : Nat} (h : newSlot H o = some d) : o.dst = some d ∧ (∀ st (K : St → Prop), AOpG P lo H ops o K st ↔ d < st.n ∧ ∃ t z, o.op = .alloc t ∧ zeroB P t = some z ∧ K (newSt d z st)) := by
  obtain ⟨dst, op, type, pos, after, guard⟩ := o
  unfold newSlot at h
  split at h
  · rename_i t d' h1 h2 h3
    simp only at h1 h2 h3
    subst h1 h2 h3
    split at h
    · cases h
    · rename_i hd
      simp only [Option.some.injEq] at h
      subst h
      refine ⟨rfl, fun st K => ?_⟩
      simp only [AOpG, AOp, AEff, dstOk]
      cases hz : zeroB P t with
      | none => simp [hz]
      | some z =>
        simp only [newVarA, if_neg hd, newSt]
        constructor
        · rintro ⟨g1, g2⟩; exact ⟨g1, t, z, rfl, hz, g2⟩
        · rintro ⟨g1, t', z', e, hz', g2⟩
          obtain rfl : t = t' := by simpa using e
          rw [hz] at hz'
          obtain rfl := Option.some.inj hz'
          exact ⟨g1, g2⟩
  · cases h

def compatN (ops : Array Oper) (av : List (Nat × Nat)) (oi : Oper) (d : Nat) (j : Nat) (oj : Oper) : Bool := oi.apart ops oj && av.contains (j, d)

theorem opD_new {fl : List Nat} {av : List (Nat × Nat)} {j : Nat} {oi oj : Oper} {d : Nat} {z : List AV} (hi : oi.dst = some d) (hc : compatN ops av oi d j oj = true) (h : opD P lo H ops fl av j oj K (newSt d z st)) :
    opD P lo H ops fl av j oj (fun st' => st'.n = st.n ∧ K (newSt d z st')) st := by
  simp only [compatN, Bool.and_eq_true] at hc
  obtain ⟨hap, hav⟩ := hc
  obtain ⟨h1, h2, h3⟩ := Oper.apart_spec hap
  rw [hi] at h1 h2
  have eqw : wantA ops oj (newSt d z st) = wantA ops oj st := wantA_put h1
  have eqo : ∀ x ∈ oj.op.operands, ev (newSt d z st) x = ev st x := ops_put h1
  have hne : oj.dst ≠ some d := h2 d rfl
  have hn : (newSt d z st).n = st.n := put_n' _ _
  unfold opD at *
  have ha : avoidsB av j oj st = true := by rw [avoidsB_congr (fun x hx => (eqo x hx).symm)]; exact h.1
  refine ⟨ha, ?_⟩
  have hav' : avoidB d (ev st) oj = true := by
    unfold avoidsB at ha
    have := List.all_eq_true.1 ha (j, d) (by simpa using hav)
    simp only [Bool.and_eq_true, Bool.or_eq_true] at this
    rcases this.1 with h' | h'
    · simp at h'
    · exact h'
  replace h := h.2
  have same : ∀ (u : AV) (l : Nat → LB) (e : List Blk), l d = st.lam d → put oj.dst u { newSt d z st with lam := upd l d ⟨(st.lam d).ver + 1, z⟩, η := e } = newSt d z (put oj.dst u { st with lam := l, η := e }) := by
    intro u l e hl
    unfold newSt
    rw [put_lam, put_η]
    simp only [hl]
    have := put_put (st := { st with lam := upd st.lam d ⟨(st.lam d).ver + 1, z⟩, η := st.η }) (a := some d) (b := oj.dst) (v := .loc d ((st.lam d).ver + 1) 0) (u := u) h2 (upd l d ⟨(st.lam d).ver + 1, z⟩) e
    rw [this]
    cases oj.dst <;> rfl
  have eff : ∀ (K : AV → (Nat → LB) → List Blk → Prop), AEff P lo H oj (ev (newSt d z st)) (newSt d z st).lam (newSt d z st).η K → AEff P lo H oj (ev st) st.lam st.η (fun v l e => l d = st.lam d ∧ K v (upd l d ⟨(st.lam d).ver + 1, z⟩) e) := by
    intro K h
    rw [AEff_congr _ eqo] at h
    have e1 : (newSt d z st).lam = upd st.lam d ⟨(st.lam d).ver + 1, z⟩ := put_lam _ _ _
    have e2 : (newSt d z st).η = st.η := put_η _ _ _
    rw [e1, e2] at h
    exact AEff_avoid hav' hne h
  have e1 : (newSt d z st).lam = upd st.lam d ⟨(st.lam d).ver + 1, z⟩ := put_lam _ _ _
  have e2 : (newSt d z st).η = st.η := put_η _ _ _
  rw [AOpG_iff] at h ⊢
  rw [eqw, hn] at h
  rcases h with ⟨hw, hd, h⟩ | ⟨hw, hd, h⟩
  · rw [hn] at hd
    refine .inl ⟨hw, hd, AEff_mono (fun u l e ⟨hl, hk, hq⟩ => ?_) (eff _ h)⟩
    rw [put_lam, put_η, e1, e2] at hk
    refine ⟨?_, put_n' _ _, by rw [← same u l e hl]; exact hq⟩
    rw [put_lam, put_η]
    exact keepR_upd hl hk
  · refine .inr ⟨hw, hd, by rw [put_lam, put_η]; exact .refl _ _, put_n' _ _, ?_⟩
    have := same skipV st.lam st.η rfl
    have e : put oj.dst skipV (newSt d z st) = newSt d z (put oj.dst skipV st) := by
      refine Eq.trans ?_ this
      unfold newSt
      cases oj.dst <;> rfl
    rw [← e]; exact h.2

/-- Whatever order is picked. -/
def AnyD (P : Program) (lo : Nat) (H : List Nat) (ops : Array Oper) (fl : List Nat) (av : List (Nat × Nat)) (K : St → Prop) : Nat → Array Bool → St → Prop
  | 0, listed, st => Region.ready .any ops listed = [] ∧ K st
  | fuel + 1, listed, st => (Region.ready .any ops listed = [] → K st) ∧
    ∀ i ∈ Region.ready .any ops listed, ∀ o, ops[i]? = some o → opD P lo H ops fl av i o (AnyD P lo H ops fl av K fuel (listed.setIfInBounds i true)) st

theorem AnyD_ok {fl : List Nat} {av : List (Nat × Nat)} {h0 : Nat} {S : Nat → Prop} {Q : Exit → Act → World → Prop} : ∀ (fuel : Nat) (listed : Array Bool) {st : St} {W : Wit} {κ : Nat → Nat} {a : Act} {w : World}, Sim lo h0 S W κ st a w → AnyD P lo H ops fl av K fuel listed st →
    (∀ a' w', SK lo h0 S W st.η w K a' w' → Q .normal a' w') → wpAny P .any ops Q fuel listed a w
  | 0, listed, st, W, κ, a, w, s, h, hq => ⟨h.1, hq _ _ ⟨st, W, κ, h.2, s, .refl _ _ _, .refl _ _ _⟩⟩
  | fuel + 1, listed, st, W, κ, a, w, s, h, hq => by
    refine ⟨fun hr => hq _ _ ⟨st, W, κ, h.1 hr, s, .refl _ _ _, .refl _ _ _⟩, fun i hi => ?_⟩
    obtain ⟨_, o, ho, _⟩ := mem_ready.1 hi
    have h2 := h.2 i hi o ho
    have h3 : AOpG P lo H ops o (AnyD P lo H ops fl av K fuel (listed.setIfInBounds i true)) st := opD.op h2
    refine wpOp_mono ?_ (AOpG_ok s ho h3)
    rintro a' w' ⟨st', W', κ', hK, s', hh, hf⟩
    exact AnyD_ok fuel _ s' hK fun a'' w'' hk => hq _ _ (hk.trans hh hf)

/-! ### ancestors -/
def ancOf (A : List Nat) (o : Oper) : Nat := o.after.toList.foldl (fun m e => if Region.binds .any e = true then m ||| (2 ^ e.on ||| A.getD e.on 0) else m) 0
def validB (ops : Array Oper) (A : List Nat) : Bool := (List.range ops.size).all fun j => match ops[j]? with
  | some o => (o.after.all fun e => !Region.binds .any e || decide (e.on < j)) && A.getD j 0 == ancOf A o
  | none => true

theorem fold_bit (A : List Nat) (i : Nat) : ∀ (l : List Edge) (m : Nat), (l.foldl (fun m e => if Region.binds .any e = true then m ||| (2 ^ e.on ||| A.getD e.on 0) else m) m).testBit i = true →
    m.testBit i = true ∨ ∃ e ∈ l, Region.binds .any e = true ∧ (e.on = i ∨ (A.getD e.on 0).testBit i = true)
  | [], _, h => .inl h
  | e :: l, m, h => by
    rw [List.foldl_cons] at h
    rcases fold_bit A i l _ h with h1 | ⟨e', he, h2⟩
    · split at h1
      · rename_i hb
        simp only [Nat.testBit_or, Nat.testBit_two_pow, Bool.or_eq_true, decide_eq_true_eq] at h1
        rcases h1 with h1 | h1 | h1
        · exact .inl h1
        · exact .inr ⟨e, by simp, hb, .inl h1⟩
        · exact .inr ⟨e, by simp, hb, .inr h1⟩
      · exact .inl h1
    · exact .inr ⟨e', by simp [he], h2⟩

def Closed (ops : Array Oper) (listed : Array Bool) : Prop := ∀ j o, ops[j]? = some o → listed.getD j false = true → ∀ e ∈ o.after, Region.binds .any e = true → listed.getD e.on false = true

theorem anc_listed {A : List Nat} (hv : validB ops A = true) {listed : Array Bool} (hc : Closed ops listed) {i : Nat} : ∀ (n j : Nat), j < n → ∀ o, ops[j]? = some o →
    (∀ e ∈ o.after, Region.binds .any e = true → listed.getD e.on false = true) → (A.getD j 0).testBit i = true → listed.getD i false = true
  | 0, j, hj, _, _, _, _ => by omega
  | n + 1, j, hj, o, ho, hall, hb => by
    have hlt : j < ops.size := (Array.getElem?_eq_some_iff.1 ho).1
    have h1 := List.all_eq_true.1 hv j (List.mem_range.2 hlt)
    simp only [ho, Bool.and_eq_true, beq_iff_eq] at h1
    rw [h1.2] at hb
    rcases fold_bit A i _ _ hb with h2 | ⟨e, he, hbe, h2⟩
    · simp at h2
    · have hee : e ∈ o.after := by simpa using he
      have hl := hall e hee hbe
      rcases h2 with rfl | h2
      · exact hl
      · have hej : e.on < j := by
          have := Array.all_eq_true_iff_forall_mem.1 h1.1 e hee
          simpa [hbe] using this
        have hlt' : e.on < ops.size := by omega
        exact anc_listed hv hc n e.on (by omega) ops[e.on] (Array.getElem?_eq_getElem hlt') (hc e.on _ (Array.getElem?_eq_getElem hlt') hl) h2

theorem Closed.set {listed : Array Bool} (hc : Closed ops listed) {i : Nat} {oi : Oper} (hi : ops[i]? = some oi) (hall : ∀ e ∈ oi.after, Region.binds .any e = true → listed.getD e.on false = true) : Closed ops (listed.setIfInBounds i true) := by
  intro j o ho hl e he hb
  by_cases hij : i = j
  · subst hij
    rw [hi] at ho
    obtain rfl := Option.some.inj ho
    exact getD_set_true (hall e he hb)
  · rw [getD_set_ne false hij] at hl
    exact getD_set_true (hc j o ho hl e he hb)

/-- A looking operation may be taken first. -/
theorem AnyD_first {A : List Nat} {fl : List Nat} {av : List (Nat × Nat)} (hv : validB ops A = true) {i : Nat} {oi : Oper} {v : AV} (hi : ops[i]? = some oi) (hl : isLook oi = true) :
    ∀ (fuel : Nat) (listed : Array Bool) (st : St), Closed ops listed →
      (∀ j oj, ops[j]? = some oj → j ≠ i → listed.getD j true = false → (A.getD j 0).testBit i = false → compatB ops fl av i oi j oj = true) →
      i ∈ Region.ready .any ops listed → YA P ops av i oi v st →
      AnyD P lo H ops fl av K fuel (listed.setIfInBounds i true) (put oi.dst v st) → AnyD P lo H ops fl av K (fuel + 1) listed st := by
  have here : ∀ (K : St → Prop) (st : St), YA P ops av i oi v st → K (put oi.dst v st) → opD P lo H ops fl av i oi K st := fun K st hy hk => by
    refine ⟨hy.1, hy.op hl ⟨?_, hk⟩⟩
    rw [put_lam, put_η]
    exact .refl _ _
  intro fuel
  induction fuel with
  | zero =>
    intro listed st _ _ hr hy hK
    refine ⟨fun h => (by rw [h] at hr; cases hr), fun j hj oj hoj => ?_⟩
    by_cases hji : j = i
    · subst hji
      rw [hi] at hoj
      obtain rfl := Option.some.inj hoj
      exact here _ _ hy hK
    · have := ready_mono hj hji
      rw [hK.1] at this
      cases this
  | succ fuel ih =>
    intro listed st hcl hfree hr hy hK
    refine ⟨fun h => (by rw [h] at hr; cases hr), fun j hj oj hoj => ?_⟩
    by_cases hji : j = i
    · subst hji
      rw [hi] at hoj
      obtain rfl := Option.some.inj hoj
      exact here _ _ hy hK
    · have h1 := hK.2 j (ready_mono hj hji) oj hoj
      obtain ⟨hjun, oj', hoj', hall⟩ := mem_ready.1 hj
      rw [hoj] at hoj'
      obtain rfl := Option.some.inj hoj'
      have hbit : (A.getD j 0).testBit i = false := by
        cases hb : (A.getD j 0).testBit i with
        | false => rfl
        | true =>
          have hl' := anc_listed hv hcl (j + 1) j (by omega) oj hoj hall hb
          have h0 := (mem_ready.1 hr).1
          rcases Nat.lt_or_ge i listed.size with h' | h'
          · simp [h'] at h0 hl'; rw [h0] at hl'; cases hl'
          · simp [Array.getElem?_eq_none h'] at hl'
      have h2 := opD_put (hfree j oj hoj hji hjun hbit) hy h1
      have hfree' : ∀ k ok, ops[k]? = some ok → k ≠ i → (listed.setIfInBounds j true).getD k true = false → (A.getD k 0).testBit i = false → compatB ops fl av i oi k ok = true := fun k ok hk hki hun hno => by
        refine hfree k ok hk hki ?_ hno
        by_cases hjk : j = k
        · subst hjk; exact hjun
        · rw [getD_set_ne true hjk] at hun; exact hun
      refine opD_mono (fun st' h3 => ih (listed.setIfInBounds j true) st' (hcl.set hoj hall) hfree' (ready_mono hr (Ne.symm hji)) h3.1 ?_) h2
      rw [Array.setIfInBounds_comm _ _ hji]
      exact h3.2

/-- A new local may be taken first. -/
theorem AnyD_new {A : List Nat} {fl : List Nat} {av : List (Nat × Nat)} (hv : validB ops A = true) {i : Nat} {oi : Oper} {d : Nat} {t : TypeId} {z : List AV} (hi : ops[i]? = some oi) (hs : newSlot H oi = some d) (ht : oi.op = .alloc t) (hz : zeroB P t = some z) (hfi : fl.contains i = false) (hfw : fl.contains (i + 1000) = false) (hfa : (av.all fun p => p.1 != i + 1000) = true) :
    ∀ (fuel : Nat) (listed : Array Bool) (st : St), Closed ops listed → d < st.n →
      (∀ j oj, ops[j]? = some oj → j ≠ i → listed.getD j true = false → (A.getD j 0).testBit i = false → compatN ops av oi d j oj = true) →
      i ∈ Region.ready .any ops listed →
      AnyD P lo H ops fl av K fuel (listed.setIfInBounds i true) (newSt d z st) → AnyD P lo H ops fl av K (fuel + 1) listed st := by
  have here : ∀ (K : St → Prop) (st : St), d < st.n → K (newSt d z st) → opD P lo H ops fl av i oi K st := fun K st hd hk => by
    unfold opD
    refine ⟨?_, ?_⟩
    · unfold avoidsB avoidB
      rw [ht, List.all_eq_true]
      intro p hp
      have := List.all_eq_true.1 hfa p hp
      rw [this]
      simp [Op.operands]
    · exact ((newSlot_op hs).2 st _).2 ⟨hd, t, z, ht, hz, .none (by rw [hfi]; simp) (by rw [hfw]; simp), hk⟩
  intro fuel
  induction fuel with
  | zero =>
    intro listed st _ hd _ hr hK
    refine ⟨fun h => (by rw [h] at hr; cases hr), fun j hj oj hoj => ?_⟩
    by_cases hji : j = i
    · subst hji
      rw [hi] at hoj
      obtain rfl := Option.some.inj hoj
      exact here _ _ hd hK
    · have := ready_mono hj hji
      rw [hK.1] at this
      cases this
  | succ fuel ih =>
    intro listed st hcl hd hfree hr hK
    refine ⟨fun h => (by rw [h] at hr; cases hr), fun j hj oj hoj => ?_⟩
    by_cases hji : j = i
    · subst hji
      rw [hi] at hoj
      obtain rfl := Option.some.inj hoj
      exact here _ _ hd hK
    · have h1 := hK.2 j (ready_mono hj hji) oj hoj
      obtain ⟨hjun, oj', hoj', hall⟩ := mem_ready.1 hj
      rw [hoj] at hoj'
      obtain rfl := Option.some.inj hoj'
      have hbit : (A.getD j 0).testBit i = false := by
        cases hb : (A.getD j 0).testBit i with
        | false => rfl
        | true =>
          have hl' := anc_listed hv hcl (j + 1) j (by omega) oj hoj hall hb
          have h0 := (mem_ready.1 hr).1
          rcases Nat.lt_or_ge i listed.size with h' | h'
          · simp [h'] at h0 hl'; rw [h0] at hl'; cases hl'
          · simp [Array.getElem?_eq_none h'] at hl'
      have h2 := opD_new (newSlot_op (P := P) (lo := lo) (ops := ops) hs).1 (hfree j oj hoj hji hjun hbit) h1
      have hfree' : ∀ k ok, ops[k]? = some ok → k ≠ i → (listed.setIfInBounds j true).getD k true = false → (A.getD k 0).testBit i = false → compatN ops av oi d k ok = true := fun k ok hk hki hun hno => by
        refine hfree k ok hk hki ?_ hno
        by_cases hjk : j = k
        · subst hjk; exact hjun
        · rw [getD_set_ne true hjk] at hun; exact hun
      refine opD_mono (fun st' h3 => ih (listed.setIfInBounds j true) st' (hcl.set hoj hall) (by rw [h3.1]; exact hd) hfree' (ready_mono hr (Ne.symm hji)) ?_) h2
      rw [Array.setIfInBounds_comm _ _ hji]
      exact h3.2

/-! ### one walk -/
/-- An order in which operations are walked; at 'two' either may come first. -/
inductive OT where
  | nil
  | one (i : Nat) (r : OT)
  | two (i j : Nat) (p q : OT)
  | three (i j k : Nat) (p q r : OT)
def OT.len : OT → Nat
  | .nil => 0
  | .one _ r => r.len + 1
  | .two _ _ p _ => p.len + 1
  | .three _ _ _ p _ _ => p.len + 1
def walkB (H : List Nat) (ops : Array Oper) (A fl : List Nat) (av : List (Nat × Nat)) : OT → Array Bool → Bool
  | .nil, listed => (Region.ready .any ops listed).isEmpty
  | .two i j p q, listed => Region.ready .any ops listed == [i, j] && p.len == q.len && walkB H ops A fl av p (listed.setIfInBounds i true) && walkB H ops A fl av q (listed.setIfInBounds j true)
  | .three i j k p q r, listed => Region.ready .any ops listed == [i, j, k] && p.len == q.len && p.len == r.len && walkB H ops A fl av p (listed.setIfInBounds i true) && walkB H ops A fl av q (listed.setIfInBounds j true) && walkB H ops A fl av r (listed.setIfInBounds k true)
  | .one i r, listed => (match ops[i]? with
      | none => false
      | some oi => match newSlot H oi with
        | some d => !fl.contains i && !fl.contains (i + 1000) && (av.all fun p => p.1 != i + 1000) && (Region.ready .any ops listed).contains i && ((List.range ops.size).all fun j => j == i || listed.getD j true || (A.getD j 0).testBit i || match ops[j]? with
            | some oj => compatN ops av oi d j oj
            | none => true)
        | none => if isLook oi then (Region.ready .any ops listed).contains i && ((List.range ops.size).all fun j => j == i || listed.getD j true || (A.getD j 0).testBit i || match ops[j]? with
            | some oj => compatB ops fl av i oi j oj
            | none => true)
          else Region.ready .any ops listed == [i]) && walkB H ops A fl av r (listed.setIfInBounds i true)

def AOpsI (P : Program) (lo : Nat) (H : List Nat) (ops : Array Oper) (fl : List Nat) (av : List (Nat × Nat)) (K : St → Prop) : OT → St → Prop
  | .nil, st => K st
  | .two i j p q, st => (match ops[i]? with
    | some o => opD P lo H ops fl av i o (AOpsI P lo H ops fl av K p) st
    | none => False) ∧ (match ops[j]? with
    | some o => opD P lo H ops fl av j o (AOpsI P lo H ops fl av K q) st
    | none => False)
  | .three i j k p q r, st => (match ops[i]? with
    | some o => opD P lo H ops fl av i o (AOpsI P lo H ops fl av K p) st
    | none => False) ∧ (match ops[j]? with
    | some o => opD P lo H ops fl av j o (AOpsI P lo H ops fl av K q) st
    | none => False) ∧ (match ops[k]? with
    | some o => opD P lo H ops fl av k o (AOpsI P lo H ops fl av K r) st
    | none => False)
  | .one i r, st => match ops[i]? with
    | some o => opD P lo H ops fl av i o (AOpsI P lo H ops fl av K r) st
    | none => False

theorem walk_ok {A fl : List Nat} {av : List (Nat × Nat)} (hv : validB ops A = true) : ∀ (ord : OT) (listed : Array Bool) (st : St), Closed ops listed → walkB H ops A fl av ord listed = true → AOpsI P lo H ops fl av K ord st → AnyD P lo H ops fl av K ord.len listed st
  | .nil, listed, st, _, hB, h => ⟨by simpa [walkB] using hB, h⟩
  | .two i j p q, listed, st, hcl, hB, h => by
    simp only [walkB, Bool.and_eq_true, beq_iff_eq] at hB
    obtain ⟨⟨⟨hr, hlen⟩, hB1⟩, hB2⟩ := hB
    unfold AOpsI at h
    refine ⟨fun h0 => (by rw [hr] at h0; cases h0), fun k hk ok hok => ?_⟩
    have hk' := hk
    rw [hr] at hk
    obtain ⟨_, o', ho', hall⟩ := mem_ready.1 hk'
    rw [hok] at ho'
    obtain rfl := Option.some.inj ho'
    rcases List.mem_cons.1 hk with rfl | hk
    · replace h := h.1
      rw [hok] at h
      exact opD_mono (fun st' h' => walk_ok hv p _ _ (hcl.set hok hall) hB1 h') h
    · obtain rfl := List.mem_singleton.1 hk
      replace h := h.2
      rw [hok] at h
      show opD P lo H ops fl av k ok (AnyD P lo H ops fl av K p.len (listed.setIfInBounds k true)) st
      rw [hlen]
      exact opD_mono (fun st' h' => walk_ok hv q _ _ (hcl.set hok hall) hB2 h') h
  | .three i j m p q r, listed, st, hcl, hB, h => by
    simp only [walkB, Bool.and_eq_true, beq_iff_eq] at hB
    obtain ⟨⟨⟨⟨⟨hr, hlen⟩, hlen2⟩, hB1⟩, hB2⟩, hB3⟩ := hB
    unfold AOpsI at h
    refine ⟨fun h0 => (by rw [hr] at h0; cases h0), fun k hk ok hok => ?_⟩
    have hk' := hk
    rw [hr] at hk
    obtain ⟨_, o', ho', hall⟩ := mem_ready.1 hk'
    rw [hok] at ho'
    obtain rfl := Option.some.inj ho'
    rcases List.mem_cons.1 hk with rfl | hk
    · replace h := h.1
      rw [hok] at h
      exact opD_mono (fun st' h' => walk_ok hv p _ _ (hcl.set hok hall) hB1 h') h
    · rcases List.mem_cons.1 hk with rfl | hk
      · replace h := h.2.1
        rw [hok] at h
        show opD P lo H ops fl av k ok (AnyD P lo H ops fl av K p.len (listed.setIfInBounds k true)) st
        rw [hlen]
        exact opD_mono (fun st' h' => walk_ok hv q _ _ (hcl.set hok hall) hB2 h') h
      · obtain rfl := List.mem_singleton.1 hk
        replace h := h.2.2
        rw [hok] at h
        show opD P lo H ops fl av k ok (AnyD P lo H ops fl av K p.len (listed.setIfInBounds k true)) st
        rw [hlen2]
        exact opD_mono (fun st' h' => walk_ok hv r _ _ (hcl.set hok hall) hB3 h') h
  | .one i r, listed, st, hcl, hB, h => by
    simp only [walkB, Bool.and_eq_true] at hB
    obtain ⟨hB, hB'⟩ := hB
    unfold AOpsI at h
    cases hi : ops[i]? with
    | none => rw [hi] at hB; cases hB
    | some oi =>
      rw [hi] at hB h
      simp only at hB h
      cases hs : newSlot H oi with
      | some d =>
        rw [hs] at hB
        simp only [Bool.and_eq_true, Bool.not_eq_true'] at hB
        obtain ⟨⟨⟨⟨hfi, hfw⟩, hfa⟩, hr⟩, hfree⟩ := hB
        have hr' : i ∈ Region.ready .any ops listed := by simpa using hr
        obtain ⟨_, o', ho', hall⟩ := mem_ready.1 hr'
        rw [hi] at ho'
        obtain rfl := Option.some.inj ho'
        have h' : AOpG P lo H ops oi (AOpsI P lo H ops fl av K r) st := opD.op h
        obtain ⟨hd, t, z, ht, hz, hK⟩ := ((newSlot_op hs).2 st _).1 h'
        refine AnyD_new hv hi hs ht hz hfi hfw hfa r.len listed st hcl hd (fun j oj hj hne hun hbit => ?_) hr' (walk_ok hv r _ _ (hcl.set hi hall) hB' hK)
        have h1 := List.all_eq_true.1 hfree j (List.mem_range.2 (Array.getElem?_eq_some_iff.1 hj).1)
        simpa only [hj, Bool.or_eq_true, beq_iff_eq, hne, false_or, hun, hbit, Bool.false_eq_true] using h1
      | none =>
      rw [hs] at hB
      simp only at hB
      by_cases hl : isLook oi = true
      · rw [if_pos hl] at hB
        simp only [Bool.and_eq_true] at hB
        obtain ⟨hr, hfree⟩ := hB
        have hr' : i ∈ Region.ready .any ops listed := by simpa using hr
        obtain ⟨_, o', ho', hall⟩ := mem_ready.1 hr'
        rw [hi] at ho'
        obtain rfl := Option.some.inj ho'
        have h' : AOpG P lo H ops oi (AOpsI P lo H ops fl av K r) st := opD.op h
        obtain ⟨v, hy, hK⟩ := YA_of (av := av) (i := i) (by unfold opD at h; exact h.1) hl h'
        refine AnyD_first hv hi hl r.len listed st hcl (fun j oj hj hne hun hbit => ?_) hr' hy (walk_ok hv r _ _ (hcl.set hi hall) hB' hK)
        have h1 := List.all_eq_true.1 hfree j (List.mem_range.2 (Array.getElem?_eq_some_iff.1 hj).1)
        simpa only [hj, Bool.or_eq_true, beq_iff_eq, hne, false_or, hun, hbit, Bool.false_eq_true] using h1
      · rw [if_neg hl] at hB
        have hr : Region.ready .any ops listed = [i] := by simpa using hB
        have hr' : i ∈ Region.ready .any ops listed := by rw [hr]; simp
        obtain ⟨_, o', ho', hall⟩ := mem_ready.1 hr'
        rw [hi] at ho'
        obtain rfl := Option.some.inj ho'
        refine ⟨fun h0 => (by rw [hr] at h0; cases h0), fun j hj oj hoj => ?_⟩
        rw [hr] at hj
        obtain rfl := List.mem_singleton.1 hj
        rw [hi] at hoj
        obtain rfl := Option.some.inj hoj
        exact opD_mono (fun st' h' => walk_ok hv r _ _ (hcl.set hi hall) hB' h') h

def drawB (H : List Nat) (ops : Array Oper) (A fl : List Nat) (av : List (Nat × Nat)) (ord : OT) : Bool := validB ops A && ord.len == ops.size && walkB H ops A fl av ord (Array.replicate ops.size false)

theorem Sim.drew {h0 : Nat} {S : Nat → Prop} {W : Wit} {κ : Nat → Nat} {a : Act} {w : World} (s : Sim lo h0 S W κ st a w) : Sim lo h0 S W κ st a { w with drawn := w.drawn + 1 } :=
  ⟨⟨s.hs.lo_le, s.hs.cell, s.hs.own, s.hs.sep⟩, ⟨s.ls.row, s.ls.ll, s.ls.lh⟩, s.ts, s.tm, s.df, s.h0le, s.oS, s.lS⟩

theorem AW_any {id : Nat} {fl : List Nat} {av : List (Nat × Nat)} {Q : Exit → St → Prop} (hm : P.follows .mixedOrders = true) (h : AnyD P lo H ops fl av (Q .normal) ops.size (Array.replicate ops.size false) st) : AW P lo (.region id ops true) Q st := by
  intro h0 S W κ a w s
  refine wp_region_any hm (AnyD_ok _ _ s.drew h ?_)
  rintro a' w' ⟨st', W', κ', hK, s', hh, hf⟩
  exact ⟨st', W', κ', hK, s', hh, ⟨hf.os, hf.tape, hf.output, hf.size, hf.block⟩⟩

theorem AW_draw {id : Nat} {A fl : List Nat} {ord : OT} {av : List (Nat × Nat)} {Q : Exit → St → Prop} (hm : P.follows .mixedOrders = true) (hB : drawB H ops A fl av ord = true) (h : AOpsI P lo H ops fl av (Q .normal) ord st) : AW P lo (.region id ops true) Q st := by
  simp only [drawB, Bool.and_eq_true, beq_iff_eq] at hB
  refine AW_any (H := H) (fl := fl) (av := av) hm ?_
  rw [← hB.1.2]
  exact walk_ok hB.1.1 ord _ st (fun j o ho hl e he hb => by simp [Array.getD] at hl) (by rw [hB.1.2]; exact hB.2) h

end
end Go.Proofs.Ytffefndnnbcplaa
