/- The law FnExactAdaptState holds of the program, whatever the input; no conditions. -/
import Derived.Test.YtaalpmbopkbdiaaGreatFFnExactAdaptState
import Derived.Test.YtaalpmbopkbdiaaGreatWd
import Derived.Test.YtaalpmbopkbdiaaGreatRows
import Derived.Test.YtaalpmbopkbdiaaGreatProg
import Derived.WalkKit
import Derived.ProofKit
import Derived.OpenShut
import Derived.ChangeOld
import Derived.Below
import Derived.RowKit
import Derived.SizedLaws
import Derived.Carry
namespace Go.Proofs.YtaalpmbopkbdiaaGreat.fnExactAdaptState
open Go.ChangeShapes Go.WideShapes Go.ChangeAt Go.RowKit
set_option linter.unusedVariables false
set_option maxHeartbeats 8000000
theorem own : ownKnob Tryz.prog.godebug = none := by kernel_rfl
theorem laidOut : laidOutB Tryz.prog = true := by kernel_rfl
set_option maxRecDepth 100000 in
theorem lifted (os : Os) (started : os.Started) (H : Type) (enc : TypeId × Value → H) :
    ReturnsInHanded {} Tryz.checked os 4 .any (Rows.fnExactAdaptStateSpec.pre6 enc Tryz.prog Tryz.f4 Rows.fnExactAdaptStateRow.domain false) (Rows.fnExactAdaptStateSpec.post enc Tryz.prog Tryz.f4 false true false false) := by
  refine returnsInHanded_of_change_sized (C := Tryz.checked) own started (by kernel_rfl) Tryz.func4
    (ChangeSpec.witness6 (enc := enc) (C := Tryz.checked) false ⟨#[], #[.agg #[.int .i64 0, .slice none 0 0, .slice none 0 0, .slice none 0 0, .slice none 0 0], .int .i64 0, .int .i64 0], []⟩ 8 (by kernel_rfl) (by kernel_rfl) (by kernel_rfl) (by kernel_rfl)) ?_
  intro W base args ds gs before hval0 hW hcnd hsz0 _
  have hval : ∀ (j : Nat) t v, Tryz.f4.params[j]? = some t → args[j]? = some v → Value.okWide Tryz.prog W .any base t v := hval0
  have hW' := hW
  obtain ⟨p, q, hA0, hV, rfl, hfz, hnd⟩ := hW
  have hA : DataW.TrodAll enc Tryz.prog W 0 (fun _ => true) true Tryz.f4.params.toList args.toList ds p := hA0
  rw [Tryz.params4] at hA hval
  obtain ⟨v0, vs0, d0, ds0, p0, q0, hargs, rfl, rfl, h0, r0⟩ := trodAll_cons hA
  obtain ⟨v1, vs1, d1, ds1, p1, q1, rfl, rfl, rfl, h1, r1⟩ := trodAll_cons r0
  obtain ⟨v2, vs2, d2, ds2, p2, q2, rfl, rfl, rfl, h2, r2⟩ := trodAll_cons r1
  obtain ⟨rfl, rfl, rfl⟩ := trodAll_nil r2
  obtain rfl : args = #[v0, v1, v2] := by cases args; simp_all
  obtain ⟨rfl, rfl⟩ := trodVars_none hV
  obtain ⟨⟨l0⟩, rfl⟩ := okWide_struct Tryz.underlying27 (hval 0 27 v0 rfl rfl)
  have k0 := h0
  have lt0 : ∀ x ∈ p0, x.block < W.heap.size := by obtain ⟨m, hm⟩ := k0; exact DataW.trod_lt m _ _ _ hm
  have m0 : Match W [.int .i64, .rows 97 3 .i64, .rows 3 1 .i64, .rows 3 1 .i64, .rows 3 1 .i64] l0 := by obtain ⟨fuel, hf⟩ := h0; exact trod_shapes 6 27 _ sh_27 fuel _ _ hf
  have e0 := m0.1
  simp only [List.length_cons, List.length_nil, Nat.zero_add, Nat.reduceAdd] at e0
  cases l0 with
  | nil => simp at e0
  | cons c0 l0 =>
  cases l0 with
  | nil => simp at e0
  | cons c1 l0 =>
  cases l0 with
  | nil => simp at e0
  | cons c2 l0 =>
  cases l0 with
  | nil => simp at e0
  | cons c3 l0 =>
  cases l0 with
  | nil => simp at e0
  | cons c4 l0 =>
  obtain rfl : l0 = [] := by cases l0 <;> simp_all
  obtain ⟨n1, rfl⟩ := okWide_int Tryz.underlying3 (hval 1 3 v1 rfl rfl)
  have k1 := h1
  have lt1 : ∀ x ∈ p1, x.block < W.heap.size := by obtain ⟨m, hm⟩ := k1; exact DataW.trod_lt m _ _ _ hm
  have m1 : Match W [.int .i64] [.int .i64 n1] := by obtain ⟨fuel, hf⟩ := h1; exact trod_shapes 6 3 _ sh_3 fuel _ _ hf
  obtain ⟨n2, rfl⟩ := okWide_int Tryz.underlying3 (hval 2 3 v2 rfl rfl)
  have k2 := h2
  have lt2 : ∀ x ∈ p2, x.block < W.heap.size := by obtain ⟨m, hm⟩ := k2; exact DataW.trod_lt m _ _ _ hm
  have m2 : Match W [.int .i64] [.int .i64 n2] := by obtain ⟨fuel, hf⟩ := h2; exact trod_shapes 6 3 _ sh_3 fuel _ _ hf
  have mm : Match W [.int .i64, .rows 97 3 .i64, .rows 3 1 .i64, .rows 3 1 .i64, .rows 3 1 .i64, .int .i64, .int .i64] [c0, c1, c2, c3, c4, .int .i64 n1, .int .i64 n2] := by
    refine ⟨rfl, fun i s c hs hc => ?_⟩
    match i, hs, hc with
    | 0, hs, hc => exact m0.2 0 s c hs hc
    | 1, hs, hc => exact m0.2 1 s c hs hc
    | 2, hs, hc => exact m0.2 2 s c hs hc
    | 3, hs, hc => exact m0.2 3 s c hs hc
    | 4, hs, hc => exact m0.2 4 s c hs hc
    | 5, hs, hc => exact m1.2 0 s c hs hc
    | 6, hs, hc => exact m2.2 0 s c hs hc
    | i + 7, hs, hc => simp at hs
  obtain ⟨addrs, blks, avs, g1, g2, g3, g4, g5⟩ := open_all _ _ mm 0
  simp only [List.length_cons, List.length_nil, Nat.zero_add, Nat.reduceAdd] at g2
  cases avs with
  | nil => simp at g2
  | cons x0 avs =>
  cases avs with
  | nil => simp at g2
  | cons x1 avs =>
  cases avs with
  | nil => simp at g2
  | cons x2 avs =>
  cases avs with
  | nil => simp at g2
  | cons x3 avs =>
  cases avs with
  | nil => simp at g2
  | cons x4 avs =>
  cases avs with
  | nil => simp at g2
  | cons x5 avs =>
  cases avs with
  | nil => simp at g2
  | cons x6 avs =>
  obtain rfl : avs = [] := by cases avs <;> simp_all
  have hR : RL (Rv blks.length (witOf addrs) blks lam0 kap0) [.agg [x0, x1, x2, x3, x4], x5, x6] #[.agg #[c0, c1, c2, c3, c4], .int .i64 n1, .int .i64 n2] := RL_cons (.inr (.inr (.inl ⟨_, _, rfl, rfl, RL_cons (Rc_open (g3 0 _ _ rfl rfl)) (RL_cons (Rc_open (g3 1 _ _ rfl rfl)) (RL_cons (Rc_open (g3 2 _ _ rfl rfl)) (RL_cons (Rc_open (g3 3 _ _ rfl rfl)) (RL_cons (Rc_open (g3 4 _ _ rfl rfl)) RL_nil))))⟩))) (RL_cons (.inr (.inr (.inr (Rc_open (g3 5 _ _ rfl rfl))))) (RL_cons (.inr (.inr (.inr (Rc_open (g3 6 _ _ rfl rfl))))) RL_nil))
  have fin := law_end (law_ok (g4 [] rfl 0 _ _ rfl rfl) (g4 [] rfl 1 _ _ rfl rfl) (g4 [] rfl 2 _ _ rfl rfl) (g4 [] rfl 3 _ _ rfl rfl) (g4 [] rfl 4 _ _ rfl rfl) (g4 [] rfl 5 _ _ rfl rfl) (g4 [] rfl 6 _ _ rfl rfl)) (HSim_open g1 g5) hR
  refine fin.mono fun e W' ⟨he, bel⟩ => ?_
  subst he
  exact ⟨_, rfl, _, _, _, [], _, [], hW', trodAll_mk1 (shut_bool Tryz.underlying4 _), (trodAll_cons_mk (Below.trod laidOut (by kernel_rfl) (of_decide_eq_true (by kernel_rfl)) k0 bel lt0) (trodAll_cons_mk (Below.trod laidOut (by kernel_rfl) (of_decide_eq_true (by kernel_rfl)) k1 bel lt1) (trodAll_cons_mk (Below.trod laidOut (by kernel_rfl) (of_decide_eq_true (by kernel_rfl)) k2 bel lt2) trodAll_mk0))), rfl, bel.frame _, fun h => by cases h⟩
theorem closed : joinedFacts Tryz.pinned.checked.prog 4 Tryz.f4 Rows.fnExactAdaptStateSpec Rows.fnExactAdaptStateRow = true := by
  have hp : Tryz.pinned.checked.prog = Tryz.prog := rfl
  unfold joinedFacts
  rw [hp, Wd.mayE, Wd.liftF, Wd.makeF]
  repeat' with_reducible refine Wd.band ?_ ?_
  all_goals (as_aux_lemma => kernel_rfl)
theorem over : Rows.fnExactAdaptStateRow.holds Tryz.pinned (OpenSpec.ofChange Rows.fnExactAdaptStateSpec) :=
  OpenClaim.holds_of_wide 4 Tryz.f4 rfl rfl rfl rfl rfl rfl rfl ⟨rfl, rfl, rfl, rfl, rfl⟩ rfl rfl rfl rfl rfl (by as_aux_lemma => kernel_rfl) Tryz.func4 closed
    (of_decide_eq_true (by as_aux_lemma => kernel_rfl)) (by unfold Func.isWrapper; first | (rw [if_pos (by decide +kernel)]; kernel_rfl) | (rw [if_neg (by decide +kernel)]; exact ⟨rfl, rfl⟩))
    (fun os started H enc _ => lifted os started H enc)
theorem proved : Rows.FnExactAdaptStateSaid := over
#print axioms proved
end Go.Proofs.YtaalpmbopkbdiaaGreat.fnExactAdaptState
namespace Go.Proofs.YtaalpmbopkbdiaaGreat
/-- The row, under a short name, for the claim. -/
theorem fnExactAdaptState_holds : Rows.FnExactAdaptStateSaid := fnExactAdaptState.proved
end Go.Proofs.YtaalpmbopkbdiaaGreat
