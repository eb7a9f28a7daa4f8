/- What functions of the program compute, said in the abstract logic; no conditions. -/
import Derived.Test.YtkkpbjijakamhaaGShare

namespace Go.Proofs.Ytkkpbjijakamhaa
open Go
set_option linter.unusedSimpArgs false
set_option linter.unusedVariables false
set_option maxRecDepth 100000
set_option maxHeartbeats 8000000
attribute [local go_sem] st0 AC thenA andC pv ev put upd dstOk cv cvc binI setB Value.oneCell' EndA resA resA1 List.mapM_cons List.mapM_nil Option.pure_def Option.bind_eq_bind noLocV noLoc1 noLoc noLocs plainV cellsA newVarA putCells condA lam0 inBlockA cur lenA rowA avoidsB avoidB clearB Array.toList_append Op.operands Call.operands newSlot Nat.zero_add Nat.add_zero Nat.succ_ne_self Nat.lt_add_one Nat.zero_lt_succ true_and and_true true_or or_true false_or or_false and_self true_implies forall_const Bool.false_eq_true Bool.true_eq_false false_implies implies_true imp_self ne_eq not_false_eq_true not_true_eq_false false_and and_false List.getElem?_toArray List.getElem?_cons_succ List.getElem?_cons_zero Option.bind_some Option.map_some Bool.not_true Bool.not_false List.getD_cons_zero List.getD_cons_succ Option.some.injEq exists_eq_left' AV.bool.injEq List.map_cons List.map_nil List.all_cons List.all_nil Bool.and_self Bool.and_true Bool.true_and List.append_nil List.cons_append List.nil_append List.length_cons List.length_nil List.drop_zero List.take_zero List.drop_succ_cons List.take_succ_cons List.take_nil List.drop_nil List.not_mem_nil List.mem_cons List.contains_nil List.contains_cons Bool.or_self Bool.or_true Bool.true_or Bool.false_or Bool.or_false Bool.and_false Bool.false_and KsS_same KsS_grow skipV KsS_ext rep1 rep2 rep3 rep4 rep5 List.flatten_cons List.flatten_nil partsA isPtr fillA List.size_toArray ltT ltF leT leF ltTn ltFn leTn leFn eqTi eqFi wrapId toNat1 intGet boolGet memD app_get app_last app_lst app_set app_setL app_setF set_ne set_eq gt_iff_lt ge_iff_le decide_eq_true_eq len2 len3 get20 get21 drop2 put2 get30 get31 get32 drop3 put3 putI pairEta bneTi bneFi beqTi beqFi bne_eq_false_iff_eq beq_eq_false_iff_ne beq_iff_eq bne_iff_ne Int.toNat_natCast Nat.mul_one List.length_map Bool.not_eq_true Bool.not_eq_false Bool.decide_eq_true decide_true decide_false Bool.not_eq_true' Bool.not_eq_false' decide_eq_false_iff_not eq_self Decidable.not_not

def upq (ms ts : List Int) (i : Nat) : Int := (ts.getD i 0 + ms.getD i 0 - 1).tdiv (ms.getD i 0)
def loq (ms ts : List Int) (i : Nat) : Int := (ts.getD i 0).tdiv (ms.getD i 0)
def great (ms ts : List Int) : Nat → Int
  | 0 => 0
  | i + 1 => if 0 < ms.getD i 0 ∧ great ms ts i < upq ms ts i then upq ms ts i else great ms ts i
def least (ms ts : List Int) : Nat → Int
  | 0 => -1
  | i + 1 => if 0 < ms.getD i 0 ∧ (least ms ts i < 0 ∨ loq ms ts i < least ms ts i) then loq ms ts i else least ms ts i
def greatR (r : Int) (l : List Id3) (ms ts bs : List Int) : Int := if okB r l ms ts bs = true then great ms ts ms.length else 0
def leastR (r : Int) (l : List Id3) (ms ts bs : List Int) : Int := if okB r l ms ts bs = true then (if least ms ts ms.length < 0 then 0 else least ms ts ms.length) else 0
theorem upq_bd {ms ts : List Int} {i : Nat} (h : 0 ≤ ms.getD i 0 ∧ ms.getD i 0 ≤ 10000000 ∧ 0 ≤ ts.getD i 0 ∧ ts.getD i 0 ≤ 1000 * ms.getD i 0) (hm : 0 < ms.getD i 0) : 0 ≤ upq ms ts i ∧ upq ms ts i ≤ 100000000000 := by
  have h1 : 0 ≤ (ts.getD i 0 + ms.getD i 0 - 1).tdiv (ms.getD i 0) := Int.tdiv_nonneg (by omega) (by omega)
  have h2 : (ts.getD i 0 + ms.getD i 0 - 1).tdiv (ms.getD i 0) ≤ ts.getD i 0 + ms.getD i 0 - 1 := Int.tdiv_le_self _ (by omega)
  unfold upq
  omega
theorem loq_bd {ms ts : List Int} {i : Nat} (h : 0 ≤ ms.getD i 0 ∧ ms.getD i 0 ≤ 10000000 ∧ 0 ≤ ts.getD i 0 ∧ ts.getD i 0 ≤ 1000 * ms.getD i 0) : 0 ≤ loq ms ts i ∧ loq ms ts i ≤ 100000000000 := by
  have h1 : 0 ≤ (ts.getD i 0).tdiv (ms.getD i 0) := Int.tdiv_nonneg (by omega) (by omega)
  have h2 : (ts.getD i 0).tdiv (ms.getD i 0) ≤ ts.getD i 0 := Int.tdiv_le_self _ (by omega)
  unfold loq
  omega

def SGreat : List AV → List Blk → (AV → List Blk → Prop) → Prop
  | [.agg [.int .i64 r, v, a, b, c]], η, K => (ok3 45 η v ∧ okI η a ∧ okI η b ∧ okI η c) ∧ K (.int .i64 (greatR r (dec3 45 η v) (decI η a) (decI η b) (decI η c))) η
  | _, _, _ => False

def SLeast : List AV → List Blk → (AV → List Blk → Prop) → Prop
  | [.agg [.int .i64 r, v, a, b, c]], η, K => (ok3 45 η v ∧ okI η a ∧ okI η b ∧ okI η c) ∧ K (.int .i64 (leastR r (dec3 45 η v) (decI η a) (decI η b) (decI η c))) η
  | _, _, _ => False

end Go.Proofs.Ytkkpbjijakamhaa
