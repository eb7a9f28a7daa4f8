/- The law FnExactRemapState holds of the program, whatever the input; no conditions. -/
import Derived.Test.YtaalpmbopkbdiaaGreatFFnExactRemapState
import Derived.Test.YtaalpmbopkbdiaaGreatWd
import Derived.Test.YtaalpmbopkbdiaaGreatRows
import Derived.Test.YtaalpmbopkbdiaaGreatProg
import Derived.WalkKit
import Derived.ProofKit
import Derived.OpenShut
import Derived.ChangeOld
import Derived.Below
import Derived.RowKit
import Derived.SizedLaws
import Derived.Carry
namespace Go.Proofs.YtaalpmbopkbdiaaGreat.fnExactRemapState
open Go.ChangeShapes Go.WideShapes Go.ChangeAt Go.RowKit
set_option linter.unusedVariables false
set_option maxHeartbeats 8000000
theorem own : ownKnob Tryz.prog.godebug = none := by kernel_rfl
theorem laidOut : laidOutB Tryz.prog = true := by kernel_rfl
set_option maxRecDepth 100000 in
theorem lifted (os : Os) (started : os.Started) (H : Type) (enc : TypeId × Value → H) :
    ReturnsInHanded {} Tryz.checked os 3 .any (Rows.fnExactRemapStateSpec.pre6 enc Tryz.prog Tryz.f3 Rows.fnExactRemapStateRow.domain false) (Rows.fnExactRemapStateSpec.post enc Tryz.prog Tryz.f3 false true false false) := by
  refine returnsInHanded_of_change_sized (C := Tryz.checked) own started (by kernel_rfl) Tryz.func3
    (ChangeSpec.witness6 (enc := enc) (C := Tryz.checked) false ⟨#[], #[.agg #[.int .i64 0, .slice none 0 0, .slice none 0 0, .slice none 0 0, .slice none 0 0], .agg #[.int .i64 0, .slice none 0 0]], []⟩ 8 (by kernel_rfl) (by kernel_rfl) (by kernel_rfl) (by kernel_rfl)) ?_
  intro W base args ds gs before hval0 hW hcnd hsz0 _
  have hval : ∀ (j : Nat) t v, Tryz.f3.params[j]? = some t → args[j]? = some v → Value.okWide Tryz.prog W .any base t v := hval0
  have hW' := hW
  obtain ⟨p, q, hA0, hV, rfl, hfz, hnd⟩ := hW
  have hA : DataW.TrodAll enc Tryz.prog W 0 (fun _ => true) true Tryz.f3.params.toList args.toList ds p := hA0
  rw [Tryz.params3] at hA hval
  obtain ⟨v0, vs0, d0, ds0, p0, q0, hargs, rfl, rfl, h0, r0⟩ := trodAll_cons hA
  obtain ⟨v1, vs1, d1, ds1, p1, q1, rfl, rfl, rfl, h1, r1⟩ := trodAll_cons r0
  obtain ⟨rfl, rfl, rfl⟩ := trodAll_nil r1
  obtain rfl : args = #[v0, v1] := by cases args; simp_all
  obtain ⟨rfl, rfl⟩ := trodVars_none hV
  obtain ⟨⟨l0⟩, rfl⟩ := okWide_struct Tryz.underlying27 (hval 0 27 v0 rfl rfl)
  have k0 := h0
  have lt0 : ∀ x ∈ p0, x.block < W.heap.size := by obtain ⟨m, hm⟩ := k0; exact DataW.trod_lt m _ _ _ hm
  have m0 : Match W [.int .i64, .rows 97 3 .i64, .rows 3 1 .i64, .rows 3 1 .i64, .rows 3 1 .i64] l0 := by obtain ⟨fuel, hf⟩ := h0; exact trod_shapes 6 27 _ sh_27 fuel _ _ hf
  have e0 := m0.1
  simp only [List.length_cons, List.length_nil, Nat.zero_add, Nat.reduceAdd] at e0
  cases l0 with
  | nil => simp at e0
  | cons c0 l0 =>
  cases l0 with
  | nil => simp at e0
  | cons c1 l0 =>
  cases l0 with
  | nil => simp at e0
  | cons c2 l0 =>
  cases l0 with
  | nil => simp at e0
  | cons c3 l0 =>
  cases l0 with
  | nil => simp at e0
  | cons c4 l0 =>
  obtain rfl : l0 = [] := by cases l0 <;> simp_all
  obtain ⟨⟨l1⟩, rfl⟩ := okWide_struct Tryz.underlying24 (hval 1 24 v1 rfl rfl)
  have k1 := h1
  have lt1 : ∀ x ∈ p1, x.block < W.heap.size := by obtain ⟨m, hm⟩ := k1; exact DataW.trod_lt m _ _ _ hm
  have m1 : Match W [.int .i64, .rows 97 3 .i64] l1 := by obtain ⟨fuel, hf⟩ := h1; exact trod_shapes 6 24 _ sh_24 fuel _ _ hf
  have e1 := m1.1
  simp only [List.length_cons, List.length_nil, Nat.zero_add, Nat.reduceAdd] at e1
  cases l1 with
  | nil => simp at e1
  | cons c5 l1 =>
  cases l1 with
  | nil => simp at e1
  | cons c6 l1 =>
  obtain rfl : l1 = [] := by cases l1 <;> simp_all
  have mm : Match W [.int .i64, .rows 97 3 .i64, .rows 3 1 .i64, .rows 3 1 .i64, .rows 3 1 .i64, .int .i64, .rows 97 3 .i64] [c0, c1, c2, c3, c4, c5, c6] := by
    refine ⟨rfl, fun i s c hs hc => ?_⟩
    match i, hs, hc with
    | 0, hs, hc => exact m0.2 0 s c hs hc
    | 1, hs, hc => exact m0.2 1 s c hs hc
    | 2, hs, hc => exact m0.2 2 s c hs hc
    | 3, hs, hc => exact m0.2 3 s c hs hc
    | 4, hs, hc => exact m0.2 4 s c hs hc
    | 5, hs, hc => exact m1.2 0 s c hs hc
    | 6, hs, hc => exact m1.2 1 s c hs hc
    | i + 7, hs, hc => simp at hs
  obtain ⟨addrs, blks, avs, g1, g2, g3, g4, g5⟩ := open_all _ _ mm 0
  simp only [List.length_cons, List.length_nil, Nat.zero_add, Nat.reduceAdd] at g2
  cases avs with
  | nil => simp at g2
  | cons x0 avs =>
  cases avs with
  | nil => simp at g2
  | cons x1 avs =>
  cases avs with
  | nil => simp at g2
  | cons x2 avs =>
  cases avs with
  | nil => simp at g2
  | cons x3 avs =>
  cases avs with
  | nil => simp at g2
  | cons x4 avs =>
  cases avs with
  | nil => simp at g2
  | cons x5 avs =>
  cases avs with
  | nil => simp at g2
  | cons x6 avs =>
  obtain rfl : avs = [] := by cases avs <;> simp_all
  have hR : RL (Rv blks.length (witOf addrs) blks lam0 kap0) [.agg [x0, x1, x2, x3, x4], .agg [x5, x6]] #[.agg #[c0, c1, c2, c3, c4], .agg #[c5, c6]] := RL_cons (.inr (.inr (.inl ⟨_, _, rfl, rfl, RL_cons (Rc_open (g3 0 _ _ rfl rfl)) (RL_cons (Rc_open (g3 1 _ _ rfl rfl)) (RL_cons (Rc_open (g3 2 _ _ rfl rfl)) (RL_cons (Rc_open (g3 3 _ _ rfl rfl)) (RL_cons (Rc_open (g3 4 _ _ rfl rfl)) RL_nil))))⟩))) (RL_cons (.inr (.inr (.inl ⟨_, _, rfl, rfl, RL_cons (Rc_open (g3 5 _ _ rfl rfl)) (RL_cons (Rc_open (g3 6 _ _ rfl rfl)) RL_nil)⟩))) RL_nil)
  have fin := law_end (law_ok (g4 [] rfl 0 _ _ rfl rfl) (g4 [] rfl 1 _ _ rfl rfl) (g4 [] rfl 2 _ _ rfl rfl) (g4 [] rfl 3 _ _ rfl rfl) (g4 [] rfl 4 _ _ rfl rfl) (g4 [] rfl 5 _ _ rfl rfl) (g4 [] rfl 6 _ _ rfl rfl)) (HSim_open g1 g5) hR
  refine fin.mono fun e W' ⟨he, bel⟩ => ?_
  subst he
  exact ⟨_, rfl, _, _, _, [], _, [], hW', trodAll_mk1 (shut_bool Tryz.underlying4 _), (trodAll_cons_mk (Below.trod laidOut (by kernel_rfl) (of_decide_eq_true (by kernel_rfl)) k0 bel lt0) (trodAll_cons_mk (Below.trod laidOut (by kernel_rfl) (of_decide_eq_true (by kernel_rfl)) k1 bel lt1) trodAll_mk0)), rfl, bel.frame _, fun h => by cases h⟩
theorem closed : joinedFacts Tryz.pinned.checked.prog 3 Tryz.f3 Rows.fnExactRemapStateSpec Rows.fnExactRemapStateRow = true := by
  have hp : Tryz.pinned.checked.prog = Tryz.prog := rfl
  unfold joinedFacts
  rw [hp, Wd.mayE, Wd.liftF, Wd.makeF]
  repeat' with_reducible refine Wd.band ?_ ?_
  all_goals (as_aux_lemma => kernel_rfl)
theorem over : Rows.fnExactRemapStateRow.holds Tryz.pinned (OpenSpec.ofChange Rows.fnExactRemapStateSpec) :=
  OpenClaim.holds_of_wide 3 Tryz.f3 rfl rfl rfl rfl rfl rfl rfl ⟨rfl, rfl, rfl, rfl, rfl⟩ rfl rfl rfl rfl rfl (by as_aux_lemma => kernel_rfl) Tryz.func3 closed
    (of_decide_eq_true (by as_aux_lemma => kernel_rfl)) (by unfold Func.isWrapper; first | (rw [if_pos (by decide +kernel)]; kernel_rfl) | (rw [if_neg (by decide +kernel)]; exact ⟨rfl, rfl⟩))
    (fun os started H enc _ => lifted os started H enc)
theorem proved : Rows.FnExactRemapStateSaid := over
#print axioms proved
end Go.Proofs.YtaalpmbopkbdiaaGreat.fnExactRemapState
namespace Go.Proofs.YtaalpmbopkbdiaaGreat
/-- The row, under a short name, for the claim. -/
theorem fnExactRemapState_holds : Rows.FnExactRemapStateSaid := fnExactRemapState.proved
end Go.Proofs.YtaalpmbopkbdiaaGreat
