/- The abstract logic: code, taken apart by its form. -/
import Derived.Test.YtffefndnnbcplaaAbP
namespace Go.Proofs.Ytffefndnnbcplaa
open Go

section
variable {P : Program} {lo : Nat} {H : List Nat}

def setB (t : Tmp) (b : Bool) (st : St) : St := { st with τ := upd st.τ t (.bool b) }
theorem setB_same {t : Tmp} {b : Bool} {st : St} (h : ev st (.tmp t) = .bool b) : setB t b st = st := by
  obtain ⟨n, τ, lam, η⟩ := st
  simp only [ev] at h
  by_cases ht : t < n
  · rw [if_pos ht] at h
    simp only [setB, St.mk.injEq, and_true, true_and]
    funext i
    simp only [upd]
    by_cases hi : i = t
    · rw [if_pos hi, hi, h]
    · rw [if_neg hi]
  · rw [if_neg ht] at h; cases h

/-- What is known of calls. -/
abbrev Spec := FuncId → List AV → List Blk → (AV → List Blk → Prop) → Prop
def Sound (P : Program) (lo : Nat) (Sp : Spec) : Prop := ∀ g args η K, Sp g args η K → AF P lo g args η K

/-- What follows an operation, as a named function: nothing is worked out before its value is there. -/
def contE (K : St → Prop) (dst : Option Tmp) (st : St) : AV → (Nat → LB) → List Blk → Prop := fun v lam' η' => K (put dst v { st with lam := lam', η := η' })
def contC (K : St → Prop) (dst : Option Tmp) (st : St) : AV → List Blk → Prop := fun v η' => K (put dst v { st with lam := st.lam, η := η' })
theorem contE_at (K : St → Prop) (dst : Option Tmp) (st : St) (v : AV) (l : Nat → LB) (e : List Blk) : contE K dst st v l e = K (put dst v ⟨st.n, st.τ, l, e⟩) := rfl
theorem contC_at (K : St → Prop) (dst : Option Tmp) (st : St) (v : AV) (e : List Blk) : contC K dst st v e = K (put dst v ⟨st.n, st.τ, st.lam, e⟩) := rfl
def AOpE (P : Program) (lo : Nat) (H : List Nat) (o : Oper) (K : St → Prop) (st : St) : Prop := dstOk o.dst st.n ∧ AEff P lo H o (ev st) st.lam st.η (contE K o.dst st)

def AOpF (P : Program) (lo : Nat) (H : List Nat) (Sp : Spec) (o : Oper) (K : St → Prop) (st : St) : Prop :=
  match o.op with
  | .call c => match c.callee with
    | .value f => match ev st f with
      | .fn g caps => dstOk o.dst st.n ∧ (c.args.toList.map (ev st)).all noLoc1 = true ∧ Sp g (c.args.toList.map (ev st) ++ caps) st.η (contC K o.dst st)
      | _ => False
    | _ => AOpE P lo H o K st
  | _ => AOpE P lo H o K st

theorem AOpF_ok {Sp : Spec} (hs : Sound P lo Sp) {o : Oper} {K : St → Prop} {st : St} (h : AOpF P lo H Sp o K st) : AOp P lo H o K st := by
  unfold AOpF at h
  split at h
  · rename_i c hc
    split at h
    · rename_i f hf
      split at h
      · rename_i g caps hg
        refine ⟨h.1, ?_⟩
        unfold AEff
        rw [hc]
        simp only [hf, hg]
        exact ⟨h.2.1, hs _ _ _ _ h.2.2⟩
      · exact h.elim
    · exact h
  · exact h

/-- An operation behind its guard; in each branch the guard's value is written out. -/
def AOpC (P : Program) (lo : Nat) (H : List Nat) (Sp : Spec) (ops : Array Oper) (o : Oper) (K : St → Prop) (st : St) : Prop :=
  match o.guard with
  | none => AOpF P lo H Sp o K st
  | some (j, want) => match (ops[j]?).bind (·.dst) with
    | some t => match ev st (.tmp t) with
      | .bool b => if b = want then AOpF P lo H Sp o K (setB t want st) else dstOk o.dst st.n ∧ K (put o.dst skipV (setB t (!want) st))
      | .tup [] => dstOk o.dst st.n ∧ K (put o.dst skipV st)
      | _ => False
    | none => False

theorem AOpC_ok {Sp : Spec} (hs : Sound P lo Sp) {ops : Array Oper} {o : Oper} {K : St → Prop} {st : St} (h : AOpC P lo H Sp ops o K st) : AOpG P lo H ops o K st := by
  unfold AOpC at h
  unfold AOpG
  cases hg : o.guard with
  | none => rw [hg] at h; exact AOpF_ok hs h
  | some jw =>
    obtain ⟨j, want⟩ := jw
    rw [hg] at h
    simp only at h ⊢
    cases hd : (ops[j]?).bind (·.dst) with
    | none => rw [hd] at h; exact h.elim
    | some t =>
      rw [hd] at h
      simp only at h
      split at h
      · rename_i b hb
        have hy : yieldedA ops st j want = some (b == want) := by
          unfold yieldedA
          rw [hd]
          simp only [ev] at hb
          simp only [hb]
        rw [hy]
        by_cases hbw : b = want
        · rw [show (b == want) = true by simp [hbw]]
          rw [if_pos hbw] at h
          have := h
          rw [setB_same (by rw [hb, hbw])] at this
          exact AOpF_ok hs this
        · rw [show (b == want) = false by simp [hbw]]
          have hb' : b = (!want) := by cases b <;> cases want <;> simp_all
          rw [if_neg hbw] at h
          have := h
          rwa [setB_same (by rw [hb, hb'])] at this
      · rename_i hb
        have hy : yieldedA ops st j want = some false := by
          unfold yieldedA
          rw [hd]
          simp only [ev] at hb
          simp only [hb]
        rw [hy]
        exact h
      · exact h.elim

def AOpsC (P : Program) (lo : Nat) (H : List Nat) (Sp : Spec) (ops : Array Oper) (K : St → Prop) : List Oper → St → Prop
  | [] => K
  | o :: rest => AOpC P lo H Sp ops o (AOpsC P lo H Sp ops K rest)

theorem AOpsC_ok {Sp : Spec} (hs : Sound P lo Sp) {ops : Array Oper} {K : St → Prop} : ∀ (l : List Oper) {st : St}, AOpsC P lo H Sp ops K l st → AOps P lo H ops K l st
  | [], _, h => h
  | _ :: l, _, h => AOpG_mono (fun _ h => AOpsC_ok hs l h) (AOpC_ok hs h)

/-- What only adds, from one state on. -/
def KsS (st st' : St) : Prop := Ks true st.lam st.η st'.lam st'.η

theorem KsS_same {n n' : Nat} {τ τ' : Nat → AV} {lam : Nat → LB} {η : List Blk} : KsS ⟨n, τ, lam, η⟩ ⟨n', τ', lam, η⟩ = True := eq_true (Ks.refl _ _ _)
theorem KsS_grow {n n' : Nat} {τ τ' : Nat → AV} {lam : Nat → LB} {η l : List Blk} : KsS ⟨n, τ, lam, η⟩ ⟨n', τ', lam, η ++ l⟩ = True := eq_true (Ks.grow _ _ _)

def keepC (K : St → Prop) (st : St) : St → Prop := fun st' => KsS st st' ∧ K st'
/-- What changes cells of blocks alone, from one state on. -/
def KsSW (st st' : St) : Prop := KsW st.lam st.η st'.lam st'.η
theorem KsSW_same {n n' : Nat} {τ τ' : Nat → AV} {lam : Nat → LB} {η : List Blk} : KsSW ⟨n, τ, lam, η⟩ ⟨n', τ', lam, η⟩ = True := eq_true (KsW.refl _ _)
theorem KsSW_grow {n n' : Nat} {τ τ' : Nat → AV} {lam : Nat → LB} {η l : List Blk} : KsSW ⟨n, τ, lam, η⟩ ⟨n', τ', lam, η ++ l⟩ = True := eq_true (KsW_of (Ks.grow _ _ _))
def keepW (K : St → Prop) (st : St) : St → Prop := fun st' => KsSW st st' ∧ K st'
theorem keepW_at (K : St → Prop) (st st' : St) : keepW K st st' = (KsSW st st' ∧ K st') := rfl
theorem keepC_at (K : St → Prop) (st st' : St) : keepC K st st' = (KsS st st' ∧ K st') := rfl
def drawStep (P : Program) (lo : Nat) (H : List Nat) (Sp : Spec) (ops : Array Oper) (fl : List Nat) (av : List (Nat × Nat)) (i : Nat) (K : St → Prop) (st : St) : Prop :=
  match ops[i]? with
  | some o => avoidsB av i o st = true ∧ if fl.contains i = true then AOpC P lo H Sp ops o (keepC K st) st else if fl.contains (i + 1000) = true then AOpC P lo H Sp ops o (keepW K st) st else AOpC P lo H Sp ops o K st
  | none => False

def andC (f g : St → Prop) (st : St) : Prop := f st ∧ g st
def AOpsD (P : Program) (lo : Nat) (H : List Nat) (Sp : Spec) (ops : Array Oper) (fl : List Nat) (av : List (Nat × Nat)) (K : St → Prop) : OT → St → Prop
  | .nil => K
  | .two i j p q => andC (drawStep P lo H Sp ops fl av i (AOpsD P lo H Sp ops fl av K p)) (drawStep P lo H Sp ops fl av j (AOpsD P lo H Sp ops fl av K q))
  | .three i j k p q r => andC (drawStep P lo H Sp ops fl av i (AOpsD P lo H Sp ops fl av K p)) (andC (drawStep P lo H Sp ops fl av j (AOpsD P lo H Sp ops fl av K q)) (drawStep P lo H Sp ops fl av k (AOpsD P lo H Sp ops fl av K r)))
  | .one i r => drawStep P lo H Sp ops fl av i (AOpsD P lo H Sp ops fl av K r)

theorem drawStep_ok {Sp : Spec} (hs : Sound P lo Sp) {ops : Array Oper} {fl : List Nat} {av : List (Nat × Nat)} {i : Nat} {K K' : St → Prop} {st : St} (h : drawStep P lo H Sp ops fl av i K st) (hk : ∀ st, K st → K' st) :
    match ops[i]? with
    | some o => opD P lo H ops fl av i o K' st
    | none => False := by
  unfold drawStep at h
  cases ho : ops[i]? with
  | none => rw [ho] at h; exact h
  | some o =>
    rw [ho] at h
    simp only at h ⊢
    unfold opD
    refine ⟨h.1, ?_⟩
    replace h := h.2
    split at h
    · exact AOpG_mono (fun _ h => ⟨.strict h.1, hk _ h.2⟩) (AOpC_ok hs h)
    · rename_i hf
      split at h
      · exact AOpG_mono (fun _ h => ⟨.weak hf h.1, hk _ h.2⟩) (AOpC_ok hs h)
      · rename_i hw
        exact AOpG_mono (fun _ h => ⟨.none hf hw, hk _ h⟩) (AOpC_ok hs h)


theorem AOpsD_ok {Sp : Spec} (hs : Sound P lo Sp) {ops : Array Oper} {fl : List Nat} {av : List (Nat × Nat)} {K : St → Prop} : ∀ (l : OT) {st : St}, AOpsD P lo H Sp ops fl av K l st → AOpsI P lo H ops fl av K l st
  | .nil, _, h => h
  | .two i j p q, st, h => by
    unfold AOpsD andC at h
    unfold AOpsI
    obtain ⟨h1, h2⟩ := h
    exact ⟨drawStep_ok hs h1 fun _ h => AOpsD_ok hs p h, drawStep_ok hs h2 fun _ h => AOpsD_ok hs q h⟩
  | .three i j k p q r, st, h => by
    unfold AOpsD andC at h
    unfold AOpsI
    obtain ⟨h1, h2, h3⟩ := h
    exact ⟨drawStep_ok hs h1 fun _ h => AOpsD_ok hs p h, drawStep_ok hs h2 fun _ h => AOpsD_ok hs q h, drawStep_ok hs h3 fun _ h => AOpsD_ok hs r h⟩
  | .one i l, st, h => by
    unfold AOpsD at h
    unfold AOpsI
    exact drawStep_ok hs h fun _ h => AOpsD_ok hs l h

def condA (v : AV) (p q : Prop) : Prop :=
  match v with
  | .bool b => if b = true then p else q
  | _ => False

/-- D: for each region that draws its order, by its number: ancestors, the operations of which it is asked that they only add, which operations keep clear of which new local, the order of the walk. -/
abbrev Draws := Nat → List Nat × List Nat × List (Nat × Nat) × OT

abbrev Post := Exit → St → Prop
def skipC (Q : Post) (st : St) : Prop := Q .normal st
def exitC (id : Nat) (Q : Post) (st : St) : Prop := Q (.exit id) st
def retC (Q : Post) (st : St) : Prop := Q .ret st
def seqC (f g : Post → St → Prop) (Q : Post) (st : St) : Prop := f (thenA (g Q) Q) st
def blockC (id : Nat) (f : Post → St → Prop) (Q : Post) (st : St) : Prop := f (inBlockA id Q) st
def condC (c : Operand) (f g : Post → St → Prop) (Q : Post) (st : St) : Prop := condA (ev st c) (f Q st) (g Q st)
def regC (P : Program) (lo : Nat) (H : List Nat) (Sp : Spec) (ops : Array Oper) (Q : Post) (st : St) : Prop := AOpsC P lo H Sp ops (Q .normal) ops.toList st
def drawC (P : Program) (lo : Nat) (H : List Nat) (Sp : Spec) (D : Draws) (id : Nat) (ops : Array Oper) (Q : Post) (st : St) : Prop := AOpsD P lo H Sp ops (D id).2.1 (D id).2.2.1 (Q .normal) (D id).2.2.2 st
def noC (_ : Post) (_ : St) : Prop := False
def stepL (I : St → Prop) (μ : St → Nat) (st : St) : St → Prop := fun st' => I st' ∧ μ st' < μ st
/-- An empty slice may be seen as a slice of an empty block. -/
def RecE (t : Nat) (e : TypeId) (k : Nat) (st : St) : St := ⟨st.n, upd st.τ t (.sl st.η.length 0 0 0), st.lam, st.η ++ [⟨0, e, k, []⟩]⟩
def InitE (I : St → Prop) (st : St) : Prop := I st ∨ ∃ t e k, t < st.n ∧ st.τ t = .emp ∧ I (RecE t e k st)
theorem Sim_recast {h0 : Nat} {S : Nat → Prop} {W : Wit} {κ : Nat → Nat} {st : St} {a : Act} {w : World} {t : Nat} {e : TypeId} {k : Nat} (s : Sim lo h0 S W κ st a w) (ht : t < st.n) (he : st.τ t = .emp) :
    Sim lo h0 S (pushW W st.η.length ⟨0, 0, none⟩ 0) κ (RecE t e k st) a w ∧ HStep lo st.η (RecE t e k st).η W (pushW W st.η.length ⟨0, 0, none⟩ 0) := by
  have hst : HStep lo st.η (st.η ++ [⟨0, e, k, []⟩]) W (pushW W st.η.length ⟨0, 0, none⟩ 0) := .push s.hs.lo_le _ _ _
  have e1 : ∀ b, b ≠ st.η.length → (pushW W st.η.length ⟨0, 0, none⟩ 0).ι b = W.ι b := fun b hb => upd_ne _ _ hb
  have e2 : ∀ b, b ≠ st.η.length → (pushW W st.η.length ⟨0, 0, none⟩ 0).cs b = W.cs b := fun b hb => upd_ne _ _ hb
  have e3 : (pushW W st.η.length ⟨0, 0, none⟩ 0).cs st.η.length = 0 := upd_same _ _ _
  refine ⟨⟨⟨?_, fun b bl hb j x hx => ?_, fun b bl hb hlb => ?_, fun b b' bl hb hb' hlb' hp hne hc => ?_⟩, ⟨fun sl hsl => ?_, s.ls.ll, fun sl b bl hsl hb hc => ?_⟩, s.ts, fun t' ht' => ?_, s.df, s.h0le, fun b hlb hb hc => ?_, s.lS⟩, hst⟩
  · have := s.hs.lo_le; simp only [RecE, List.length_append]; omega
  · rcases getElem?_push hb with ⟨hlt, hb⟩ | ⟨rfl, rfl⟩
    · obtain ⟨u, h1, h2⟩ := s.hs.cell b bl hb j x hx
      exact ⟨u, by rw [e1 b (by omega)]; exact h1, Rc_mono hst (LStep.refl _ _) h2⟩
    · simp at hx
  · rcases getElem?_push hb with ⟨hlt, hb⟩ | ⟨rfl, rfl⟩
    · rw [e1 b (by omega), e2 b (by omega)]; exact s.hs.own b bl hb hlb
    · rw [e3]; exact ⟨Nat.le_refl _, fun h => absurd h (Nat.lt_irrefl 0)⟩
  · have hb'n : b' ≠ st.η.length := by rintro rfl; rw [e3] at hp; exact absurd hp (Nat.lt_irrefl 0)
    have hb'l : b' < st.η.length := by simp only [RecE, List.length_append, List.length_cons, List.length_nil] at hb'; omega
    rw [e2 b' hb'n] at hp
    rcases getElem?_push hb with ⟨hlt, hb⟩ | ⟨rfl, rfl⟩
    · rw [e2 b (by omega)] at hc
      rw [e1 b (by omega), e1 b' hb'n]
      exact s.hs.sep b b' bl hb hb'l hlb' hp hne hc
    · rw [if_pos s.hs.lo_le, e3] at hc; exact absurd hc (Nat.lt_irrefl 0)
  · obtain ⟨cur, T, h1, h2⟩ := s.ls.row sl hsl
    exact ⟨cur, T, h1, h2.mono fun _ _ hr => Rc_mono hst (LStep.refl _ _) hr⟩
  · rcases getElem?_push hb with ⟨hlt, hb⟩ | ⟨rfl, rfl⟩
    · rw [e2 b (by omega)] at hc
      rw [e1 b (by omega)]
      exact s.ls.lh sl b bl hsl hb hc
    · rw [if_pos s.hs.lo_le, e3] at hc; exact absurd hc (Nat.lt_irrefl 0)
  · have h0 := Rv_mono hst (LStep.refl _ _) (s.tm t' ht')
    simp only [RecE]
    by_cases htt : t' = t
    · subst htt
      rw [upd_same]
      have h1 := s.tm t' ht
      rw [he] at h1
      rcases h1 with h1 | ⟨l, arr, h1, _⟩ | ⟨l, arr, h1, _⟩ | ⟨h1, a', h2⟩
      · cases h1
      · cases h1
      · cases h1
      · refine .inr (.inr (.inr ⟨h1, ⟨0, e, k, []⟩, by simp, Nat.le_refl _, fun _ => ⟨a', 0, h2, Nat.le_refl _, .inl rfl⟩⟩))
    · rw [upd_ne _ _ htt]; exact h0
  · simp only [RecE, List.length_append, List.length_cons, List.length_nil] at hb
    by_cases hbn : b = st.η.length
    · subst hbn; rw [e3] at hc; exact absurd hc (Nat.lt_irrefl 0)
    · rw [e2 b hbn] at hc
      rw [e1 b hbn]
      exact s.oS b hlb (by omega) hc
theorem AW_recast {c : Code} {Q : Exit → St → Prop} {st : St} {t : Nat} {e : TypeId} {k : Nat} (ht : t < st.n) (he : st.τ t = .emp) (h : AW P lo c Q (RecE t e k st)) : AW P lo c Q st := by
  intro h0 S W κ a w s
  obtain ⟨s', hh⟩ := Sim_recast (e := e) (k := k) s ht he
  exact wp_mono (h h0 S _ κ a w s') fun _ _ _ q => q.trans hh (.refl _ _ _)
/-- A loop: what holds at the head of each round, and what grows smaller. -/
def loopC (f : Post → St → Prop) (Q : Post) (st : St) : Prop :=
  ∃ (I : St → Prop) (μ : St → Nat), InitE I st ∧ ∀ st', I st' → f (thenA (stepL I μ st') Q) st'

def AC (P : Program) (lo : Nat) (H : List Nat) (Sp : Spec) (D : Draws) : Code → Post → St → Prop
  | .skip => skipC
  | .exit id => exitC id
  | .ret => retC
  | .seq x y => seqC (AC P lo H Sp D x) (AC P lo H Sp D y)
  | .block id c => blockC id (AC P lo H Sp D c)
  | .cond c x y => condC c (AC P lo H Sp D x) (AC P lo H Sp D y)
  | .loop c => loopC (AC P lo H Sp D c)
  | .region _ ops false => regC P lo H Sp ops
  | .region id ops true => drawC P lo H Sp D id ops
  | _ => noC

def okD (H : List Nat) (D : Draws) : Code → Bool
  | .seq x y => okD H D x && okD H D y
  | .block _ c => okD H D c
  | .cond _ x y => okD H D x && okD H D y
  | .loop c => okD H D c
  | .region id ops true => drawB H ops (D id).1 (D id).2.1 (D id).2.2.1 (D id).2.2.2
  | _ => true

theorem AC_ok {Sp : Spec} (hs : Sound P lo Sp) {D : Draws} (hm : P.follows .mixedOrders = true) : ∀ (c : Code) {Q : Exit → St → Prop} {st : St}, okD H D c = true → AC P lo H Sp D c Q st → AW P lo c Q st
  | .skip, _, _, _, h => AW_skip h
  | .exit _, _, _, _, h => AW_exit h
  | .ret, _, _, _, h => AW_ret h
  | .seq x y, Q, st, hD, h => by
    simp only [okD, Bool.and_eq_true] at hD
    refine AW_seq (AW_mono (AC_ok hs hm x hD.1 h) fun e st' h' => ?_)
    cases e <;> first | exact AC_ok hs hm y hD.2 h' | exact h'
  | .block id c, Q, st, hD, h => AW_block (AC_ok hs hm c hD h)
  | .cond c x y, Q, st, hD, h => by
    simp only [okD, Bool.and_eq_true] at hD
    simp only [AC, condC, condA] at h
    split at h
    · rename_i b hb
      exact AW_cond hb (fun e => AC_ok hs hm x hD.1 (by rw [if_pos e] at h; exact h)) (fun e => AC_ok hs hm y hD.2 (by rw [if_neg (by rw [e]; simp)] at h; exact h))
    · exact h.elim
  | .loop c, Q, st, hD, h => by
    obtain ⟨I, μ, hI, hr⟩ := h
    rcases hI with hI | ⟨t, e, k, ht, he, hI⟩
    · exact AW_loop I μ hI fun st' hi => AC_ok hs hm c hD (hr st' hi)
    · exact AW_recast ht he (AW_loop I μ hI fun st' hi => AC_ok hs hm c hD (hr st' hi))
  | .region id ops false, Q, st, hD, h => AW_region (AOpsC_ok hs _ h)
  | .region id ops true, Q, st, hD, h => AW_draw hm hD (AOpsD_ok hs _ h)

/-- At the end of a function. -/
def EndA (P : Program) (rs : List ResultVar) (R : AV → List Blk → Prop) : Exit → St → Prop := fun e st => match e with
  | .normal => ∃ v, resA P rs st = some v ∧ noLocV v = true ∧ R v st.η
  | .ret => ∃ v, resA P rs st = some v ∧ noLocV v = true ∧ R v st.η
  | _ => False

theorem AF_run {Sp : Spec} (hs : Sound P lo Sp) (D : Draws) (H : List Nat) (rs : List ResultVar) {f : FuncId} {fn : Func} {c : Code} {n : Nat} {args : List AV} {η : List Blk} {R : AV → List Blk → Prop} (hm : P.follows .mixedOrders = true) (hf : P.funcs[f]? = some fn) (hb : fn.body = some c)
    (hname : (fn.name == "runtime.NumGoroutine") = false) (hn : fn.ntmps = n) (hr : fn.results.toList = rs) (hD : okD H D c = true) (ha : args.length ≤ n) (h : lo ≤ η.length → AC P lo H Sp D c (EndA P rs R) (st0 n args η)) : AF P lo f args η R := by
  subst hn hr
  refine ⟨⟨fn, hf, hname, by rw [hb]; rfl⟩, fun W w us hsim hargs => (AF_enter hf hb hname ha (AW_mono (AC_ok hs hm c hD (h hsim.lo_le)) fun e st h => ?_)).2 W w us hsim hargs⟩
  cases e <;> first | exact ⟨.inl rfl, h⟩ | exact ⟨.inr rfl, h⟩ | exact h.elim

end
end Go.Proofs.Ytffefndnnbcplaa
