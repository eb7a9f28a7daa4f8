/- The abstract logic: code, taken apart by its form. -/
import Derived.Test.YtgkmijnhhopacabAbP
namespace Go.Proofs.Ytgkmijnhhopacab
open Go

section
variable {P : Program} {lo : Nat} {H : List Nat}

def setB (t : Tmp) (b : Bool) (st : St) : St := { st with τ := upd st.τ t (.bool b) }
theorem setB_same {t : Tmp} {b : Bool} {st : St} (h : ev st (.tmp t) = .bool b) : setB t b st = st := by
  obtain ⟨n, τ, lam, η⟩ := st
  simp only [ev] at h
  by_cases ht : t < n
  · rw [if_pos ht] at h
    simp only [setB, St.mk.injEq, and_true, true_and]
    funext i
    simp only [upd]
    by_cases hi : i = t
    · rw [if_pos hi, hi, h]
    · rw [if_neg hi]
  · rw [if_neg ht] at h; cases h

/-- What is known of calls. -/
abbrev Spec := FuncId → List AV → List Blk → (AV → List Blk → Prop) → Prop
def Sound (P : Program) (lo : Nat) (Sp : Spec) : Prop := ∀ g args η K, Sp g args η K → AF P lo g args η K

def AOpF (P : Program) (lo : Nat) (H : List Nat) (Sp : Spec) (o : Oper) (K : St → Prop) (st : St) : Prop :=
  match o.op with
  | .call c => match c.callee with
    | .value f => match ev st f with
      | .fn g caps => dstOk o.dst st.n ∧ (c.args.toList.map (ev st)).all noLoc1 = true ∧ Sp g (c.args.toList.map (ev st) ++ caps) st.η fun v η' => K (put o.dst v { st with lam := st.lam, η := η' })
      | _ => False
    | _ => AOp P lo H o K st
  | _ => AOp P lo H o K st

theorem AOpF_ok {Sp : Spec} (hs : Sound P lo Sp) {o : Oper} {K : St → Prop} {st : St} (h : AOpF P lo H Sp o K st) : AOp P lo H o K st := by
  unfold AOpF at h
  split at h
  · rename_i c hc
    split at h
    · rename_i f hf
      split at h
      · rename_i g caps hg
        refine ⟨h.1, ?_⟩
        unfold AEff
        rw [hc]
        simp only [hf, hg]
        exact ⟨h.2.1, hs _ _ _ _ h.2.2⟩
      · exact h.elim
    · exact h
  · exact h

/-- An operation behind its guard; in each branch the guard's value is written out. -/
def AOpC (P : Program) (lo : Nat) (H : List Nat) (Sp : Spec) (ops : Array Oper) (o : Oper) (K : St → Prop) (st : St) : Prop :=
  match o.guard with
  | none => AOpF P lo H Sp o K st
  | some (j, want) => match (ops[j]?).bind (·.dst) with
    | some t => match ev st (.tmp t) with
      | .bool b => if b = want then AOpF P lo H Sp o K (setB t want st) else dstOk o.dst st.n ∧ K (put o.dst .und (setB t (!want) st))
      | _ => False
    | none => False

theorem AOpC_ok {Sp : Spec} (hs : Sound P lo Sp) {ops : Array Oper} {o : Oper} {K : St → Prop} {st : St} (h : AOpC P lo H Sp ops o K st) : AOpG P lo H ops o K st := by
  unfold AOpC at h
  unfold AOpG
  cases hg : o.guard with
  | none => rw [hg] at h; exact AOpF_ok hs h
  | some jw =>
    obtain ⟨j, want⟩ := jw
    rw [hg] at h
    simp only at h ⊢
    cases hd : (ops[j]?).bind (·.dst) with
    | none => rw [hd] at h; exact h.elim
    | some t =>
      rw [hd] at h
      simp only at h
      split at h
      · rename_i b hb
        have hy : yieldedA ops st j = some b := by
          unfold yieldedA
          rw [hd]
          simp only [ev] at hb
          simp only [hb]
        rw [hy]
        simp only
        by_cases hbw : b = want
        · rw [if_pos hbw]
          rw [if_pos hbw] at h
          have := h
          rw [setB_same (by rw [hb, hbw])] at this
          exact AOpF_ok hs this
        · rw [if_neg hbw]
          have hb' : b = (!want) := by cases b <;> cases want <;> simp_all
          rw [if_neg hbw] at h
          have := h
          rwa [setB_same (by rw [hb, hb'])] at this
      · exact h.elim

def AOpsC (P : Program) (lo : Nat) (H : List Nat) (Sp : Spec) (ops : Array Oper) (K : St → Prop) : List Oper → St → Prop
  | [], st => K st
  | o :: rest, st => AOpC P lo H Sp ops o (AOpsC P lo H Sp ops K rest) st

theorem AOpsC_ok {Sp : Spec} (hs : Sound P lo Sp) {ops : Array Oper} {K : St → Prop} : ∀ (l : List Oper) {st : St}, AOpsC P lo H Sp ops K l st → AOps P lo H ops K l st
  | [], _, h => h
  | _ :: l, _, h => AOpG_mono (fun _ h => AOpsC_ok hs l h) (AOpC_ok hs h)

/-- What only adds, from one state on. -/
def KsS (st st' : St) : Prop := Ks true st.lam st.η st'.lam st'.η

theorem KsS_same {n n' : Nat} {τ τ' : Nat → AV} {lam : Nat → LB} {η : List Blk} : KsS ⟨n, τ, lam, η⟩ ⟨n', τ', lam, η⟩ = True := eq_true (Ks.refl _ _ _)
theorem KsS_grow {n n' : Nat} {τ τ' : Nat → AV} {lam : Nat → LB} {η l : List Blk} : KsS ⟨n, τ, lam, η⟩ ⟨n', τ', lam, η ++ l⟩ = True := eq_true (Ks.grow _ _ _)

def AOpsD (P : Program) (lo : Nat) (H : List Nat) (Sp : Spec) (ops : Array Oper) (fl : List Nat) (av : List (Nat × Nat)) (K : St → Prop) : List Nat → St → Prop
  | [], st => K st
  | i :: r, st => match ops[i]? with
    | some o => avoidsB av i o st = true ∧ if fl.contains i = true then AOpC P lo H Sp ops o (fun st' => KsS st st' ∧ AOpsD P lo H Sp ops fl av K r st') st else AOpC P lo H Sp ops o (AOpsD P lo H Sp ops fl av K r) st
    | none => False

theorem AOpsD_ok {Sp : Spec} (hs : Sound P lo Sp) {ops : Array Oper} {fl : List Nat} {av : List (Nat × Nat)} {K : St → Prop} : ∀ (l : List Nat) {st : St}, AOpsD P lo H Sp ops fl av K l st → AOpsI P lo H ops fl av K l st
  | [], _, h => h
  | i :: l, st, h => by
    unfold AOpsD at h
    unfold AOpsI
    cases ho : ops[i]? with
    | none => rw [ho] at h; exact h
    | some o =>
      rw [ho] at h
      simp only at h ⊢
      unfold opD
      refine ⟨h.1, ?_⟩
      replace h := h.2
      split
      · rename_i hf; rw [if_pos hf] at h; exact AOpG_mono (fun _ h => ⟨h.1, AOpsD_ok hs l h.2⟩) (AOpC_ok hs h)
      · rename_i hf; rw [if_neg hf] at h; exact AOpG_mono (fun _ h => AOpsD_ok hs l h) (AOpC_ok hs h)

def condA (v : AV) (p q : Prop) : Prop :=
  match v with
  | .bool b => if b = true then p else q
  | _ => False

/-- A loop: what holds at the head of each round, and what grows smaller. -/
def Loop (body : (Exit → St → Prop) → St → Prop) (Q : Exit → St → Prop) (st : St) : Prop :=
  ∃ (I : St → Prop) (μ : St → Nat), I st ∧ ∀ st', I st' → body (thenA (fun st'' => I st'' ∧ μ st'' < μ st') Q) st'

/-- D: for each region that draws its order, by its number: ancestors, the operations of which it is asked that they only add, which operations keep clear of which new local, the order of the walk. -/
abbrev Draws := Nat → List Nat × List Nat × List (Nat × Nat) × List Nat

def AC (P : Program) (lo : Nat) (H : List Nat) (Sp : Spec) (D : Draws) : Code → (Exit → St → Prop) → St → Prop
  | .skip, Q, st => Q .normal st
  | .exit id, Q, st => Q (.exit id) st
  | .ret, Q, st => Q .ret st
  | .seq x y, Q, st => AC P lo H Sp D x (thenA (AC P lo H Sp D y Q) Q) st
  | .block id c, Q, st => AC P lo H Sp D c (inBlockA id Q) st
  | .cond c x y, Q, st => condA (ev st c) (AC P lo H Sp D x Q st) (AC P lo H Sp D y Q st)
  | .loop c, Q, st => Loop (AC P lo H Sp D c) Q st
  | .region _ ops false, Q, st => AOpsC P lo H Sp ops (Q .normal) ops.toList st
  | .region id ops true, Q, st => AOpsD P lo H Sp ops (D id).2.1 (D id).2.2.1 (Q .normal) (D id).2.2.2 st
  | _, _, _ => False

def okD (H : List Nat) (D : Draws) : Code → Bool
  | .seq x y => okD H D x && okD H D y
  | .block _ c => okD H D c
  | .cond _ x y => okD H D x && okD H D y
  | .loop c => okD H D c
  | .region id ops true => drawB H ops (D id).1 (D id).2.1 (D id).2.2.1 (D id).2.2.2
  | _ => true

theorem AC_ok {Sp : Spec} (hs : Sound P lo Sp) {D : Draws} (hm : P.follows .mixedOrders = true) : ∀ (c : Code) {Q : Exit → St → Prop} {st : St}, okD H D c = true → AC P lo H Sp D c Q st → AW P lo c Q st
  | .skip, _, _, _, h => AW_skip h
  | .exit _, _, _, _, h => AW_exit h
  | .ret, _, _, _, h => AW_ret h
  | .seq x y, Q, st, hD, h => by
    simp only [okD, Bool.and_eq_true] at hD
    refine AW_seq (AW_mono (AC_ok hs hm x hD.1 h) fun e st' h' => ?_)
    cases e <;> first | exact AC_ok hs hm y hD.2 h' | exact h'
  | .block id c, Q, st, hD, h => AW_block (AC_ok hs hm c hD h)
  | .cond c x y, Q, st, hD, h => by
    simp only [okD, Bool.and_eq_true] at hD
    simp only [AC, condA] at h
    split at h
    · rename_i b hb
      exact AW_cond hb (fun e => AC_ok hs hm x hD.1 (by rw [if_pos e] at h; exact h)) (fun e => AC_ok hs hm y hD.2 (by rw [if_neg (by rw [e]; simp)] at h; exact h))
    · exact h.elim
  | .loop c, Q, st, hD, h => by
    obtain ⟨I, μ, hI, hr⟩ := h
    exact AW_loop I μ hI fun st' hi => AC_ok hs hm c hD (hr st' hi)
  | .region id ops false, Q, st, hD, h => AW_region (AOpsC_ok hs _ h)
  | .region id ops true, Q, st, hD, h => AW_draw hm hD (AOpsD_ok hs _ h)

/-- At the end of a function. -/
def EndA (P : Program) (rs : List ResultVar) (R : AV → List Blk → Prop) : Exit → St → Prop := fun e st => match e with
  | .normal => ∃ v, resA P rs st = some v ∧ noLocV v = true ∧ R v st.η
  | .ret => ∃ v, resA P rs st = some v ∧ noLocV v = true ∧ R v st.η
  | _ => False

theorem AF_run {Sp : Spec} (hs : Sound P lo Sp) (D : Draws) (H : List Nat) (rs : List ResultVar) {f : FuncId} {fn : Func} {c : Code} {n : Nat} {args : List AV} {η : List Blk} {R : AV → List Blk → Prop} (hm : P.follows .mixedOrders = true) (hf : P.funcs[f]? = some fn) (hb : fn.body = some c)
    (hname : (fn.name == "runtime.NumGoroutine") = false) (hn : fn.ntmps = n) (hr : fn.results.toList = rs) (hD : okD H D c = true) (ha : args.length ≤ n) (h : AC P lo H Sp D c (EndA P rs R) (st0 n args η)) : AF P lo f args η R := by
  subst hn hr
  refine AF_enter hf hb hname ha (AW_mono (AC_ok hs hm c hD h) fun e st h => ?_)
  cases e <;> first | exact ⟨.inl rfl, h⟩ | exact ⟨.inr rfl, h⟩ | exact h.elim

end
end Go.Proofs.Ytgkmijnhhopacab
