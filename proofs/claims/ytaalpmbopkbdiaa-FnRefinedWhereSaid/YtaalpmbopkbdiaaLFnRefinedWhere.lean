/- The law FnRefinedWhere holds of the program, whatever the input; no conditions. -/
import Derived.Test.YtaalpmbopkbdiaaFFnRefinedWhere
import Derived.Test.YtaalpmbopkbdiaaWd
import Derived.Test.YtaalpmbopkbdiaaRows
import Derived.Test.YtaalpmbopkbdiaaProg
import Derived.WalkKit
import Derived.ProofKit
import Derived.OpenShut
import Derived.ChangeOld
import Derived.Below
import Derived.RowKit
import Derived.SizedLaws
import Derived.Carry
namespace Go.Proofs.Ytaalpmbopkbdiaa.fnRefinedWhere
open Go.ChangeShapes Go.WideShapes Go.ChangeAt Go.RowKit
set_option linter.unusedVariables false
set_option maxHeartbeats 8000000
theorem own : ownKnob Try.prog.godebug = none := by kernel_rfl
theorem laidOut : laidOutB Try.prog = true := by kernel_rfl
set_option maxRecDepth 100000 in
theorem lifted (os : Os) (started : os.Started) (H : Type) (enc : TypeId × Value → H) :
    ReturnsInHanded {} Try.checked os 7 .any (Rows.fnRefinedWhereSpec.pre6 enc Try.prog Try.f7 Rows.fnRefinedWhereRow.domain false) (Rows.fnRefinedWhereSpec.post enc Try.prog Try.f7 false true false false) := by
  refine returnsInHanded_of_change_sized (C := Try.checked) own started (by kernel_rfl) Try.func7
    (ChangeSpec.witness6 (enc := enc) (C := Try.checked) false ⟨#[], #[.slice none 0 0], []⟩ 8 (by kernel_rfl) (by kernel_rfl) (by kernel_rfl) (by kernel_rfl)) ?_
  intro W base args ds gs before hval0 hW hcnd hsz0 _
  have hval : ∀ (j : Nat) t v, Try.f7.params[j]? = some t → args[j]? = some v → Value.okWide Try.prog W .any base t v := hval0
  have hW' := hW
  obtain ⟨p, q, hA0, hV, rfl, hfz, hnd⟩ := hW
  have hA : DataW.TrodAll enc Try.prog W 0 (fun _ => true) true Try.f7.params.toList args.toList ds p := hA0
  rw [Try.params7] at hA hval
  obtain ⟨v0, vs0, d0, ds0, p0, q0, hargs, rfl, rfl, h0, r0⟩ := trodAll_cons hA
  obtain ⟨rfl, rfl, rfl⟩ := trodAll_nil r0
  obtain rfl : args = #[v0] := by cases args; simp_all
  obtain ⟨rfl, rfl⟩ := trodVars_none hV
  obtain ⟨a0, len0, cap0, rfl⟩ := okWide_slice Try.underlying22 (hval 0 22 v0 rfl rfl)
  have k0 := h0
  have lt0 : ∀ x ∈ p0, x.block < W.heap.size := by obtain ⟨m, hm⟩ := k0; exact DataW.trod_lt m _ _ _ hm
  have m0 : Match W [.rows 5 1 .u8] [.slice a0 len0 cap0] := by obtain ⟨fuel, hf⟩ := h0; exact trod_shapes 6 22 _ sh_22 fuel _ _ hf
  have mm : Match W [.rows 5 1 .u8] [.slice a0 len0 cap0] := by
    refine ⟨rfl, fun i s c hs hc => ?_⟩
    match i, hs, hc with
    | 0, hs, hc => exact m0.2 0 s c hs hc
    | i + 1, hs, hc => simp at hs
  obtain ⟨addrs, blks, avs, g1, g2, g3, g4, g5⟩ := open_all _ _ mm 0
  simp only [List.length_cons, List.length_nil, Nat.zero_add, Nat.reduceAdd] at g2
  cases avs with
  | nil => simp at g2
  | cons x0 avs =>
  obtain rfl : avs = [] := by cases avs <;> simp_all
  have hR : RL (Rv blks.length (witOf addrs) blks lam0 kap0) [x0] #[.slice a0 len0 cap0] := RL_cons (.inr (.inr (.inr (Rc_open (g3 0 _ _ rfl rfl))))) RL_nil
  have fin := law_end (law_ok (g4 [] rfl 0 _ _ rfl rfl)) (HSim_open g1 g5) hR
  refine fin.mono fun e W' ⟨he, bel⟩ => ?_
  subst he
  exact ⟨_, rfl, _, _, _, [], _, [], hW', trodAll_mk1 (shut_bool Try.underlying4 _), (trodAll_cons_mk (Below.trod laidOut (by kernel_rfl) (of_decide_eq_true (by kernel_rfl)) k0 bel lt0) trodAll_mk0), rfl, bel.frame _, fun h => by cases h⟩
theorem closed : joinedFacts Try.pinned.checked.prog 7 Try.f7 Rows.fnRefinedWhereSpec Rows.fnRefinedWhereRow = true := by
  have hp : Try.pinned.checked.prog = Try.prog := rfl
  unfold joinedFacts
  rw [hp, Wd.mayE, Wd.liftF, Wd.makeF]
  repeat' with_reducible refine Wd.band ?_ ?_
  all_goals (as_aux_lemma => kernel_rfl)
theorem over : Rows.fnRefinedWhereRow.holds Try.pinned (OpenSpec.ofChange Rows.fnRefinedWhereSpec) :=
  OpenClaim.holds_of_wide 7 Try.f7 rfl rfl rfl rfl rfl rfl rfl ⟨rfl, rfl, rfl, rfl, rfl⟩ rfl rfl rfl rfl rfl (by as_aux_lemma => kernel_rfl) Try.func7 closed
    (of_decide_eq_true (by as_aux_lemma => kernel_rfl)) (by unfold Func.isWrapper; first | (rw [if_pos (by decide +kernel)]; kernel_rfl) | (rw [if_neg (by decide +kernel)]; exact ⟨rfl, rfl⟩))
    (fun os started H enc _ => lifted os started H enc)
theorem proved : Rows.FnRefinedWhereSaid := over
#print axioms proved
end Go.Proofs.Ytaalpmbopkbdiaa.fnRefinedWhere
namespace Go.Proofs.Ytaalpmbopkbdiaa
/-- The row, under a short name, for the claim. -/
theorem fnRefinedWhere_holds : Rows.FnRefinedWhereSaid := fnRefinedWhere.proved
end Go.Proofs.Ytaalpmbopkbdiaa
