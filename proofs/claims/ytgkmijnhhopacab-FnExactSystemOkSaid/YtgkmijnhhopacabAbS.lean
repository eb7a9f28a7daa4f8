/- The abstract logic: rules for stepping through code: branches, facts about numbers, rows of whole numbers. -/
import Derived.Test.YtgkmijnhhopacabAbR
namespace Go.Proofs.Ytgkmijnhhopacab
open Go

theorem iteI {c : Prop} [Decidable c] {p q : Prop} (h1 : c → p) (h2 : ¬ c → q) : if c then p else q := by
  split
  · exact h1 ‹_›
  · exact h2 ‹_›
theorem ltT {a b : Int} (h : a < b) : (a < b) = True := eq_true h
theorem ltF {a b : Int} (h : b ≤ a) : (a < b) = False := eq_false (by omega)
theorem leT {a b : Int} (h : a ≤ b) : (a ≤ b) = True := eq_true h
theorem leF {a b : Int} (h : b < a) : (a ≤ b) = False := eq_false (by omega)
theorem ltTn {a b : Nat} (h : a < b) : (a < b) = True := eq_true h
theorem ltFn {a b : Nat} (h : b ≤ a) : (a < b) = False := eq_false (by omega)
theorem leTn {a b : Nat} (h : a ≤ b) : (a ≤ b) = True := eq_true h
theorem leFn {a b : Nat} (h : b < a) : (a ≤ b) = False := eq_false (by omega)
theorem eqTi {a b : Int} (h : a = b) : (a = b) = True := eq_true h
theorem eqFi {a b : Int} (h : ¬ a = b) : (a = b) = False := eq_false h
theorem eqTn {a b : Nat} (h : a = b) : (a = b) = True := eq_true h
theorem eqFn {a b : Nat} (h : ¬ a = b) : (a = b) = False := eq_false h
theorem wrapId {x : Int} (h : -9223372036854775808 ≤ x ∧ x < 9223372036854775808) : IntKind.i64.wrap x = x := by
  rw [IntKind.wrap_i64]; omega
theorem toNat1 (i : Nat) : ((i : Int) + 1).toNat = i + 1 := by omega
theorem rowGet {α : Type} (f : α → AV) (l : List α) (d : α) {i : Nat} (h : i < l.length) : (l.map f)[i]? = some (f (l.getD i d)) := by
  simp [List.getElem?_map, List.getElem?_eq_getElem h, List.getD_eq_getElem?_getD]
theorem intGet {l : List Int} {i : Nat} (h : i < l.length) : (l.map (AV.int .i64))[i]? = some (.int .i64 (l.getD i 0)) := rowGet _ _ _ h
theorem boolGet {l : List Bool} {i : Nat} (h : i < l.length) : (l.map AV.bool)[i]? = some (.bool (l.getD i false)) := rowGet _ _ _ h
theorem memD {l : List Int} {i : Nat} (h : i < l.length) : (l.getD i 0 ∈ l) = True := by
  refine eq_true ?_
  rw [List.getD_eq_getElem?_getD, List.getElem?_eq_getElem h]
  exact List.getElem_mem h
theorem app_get {η l : List Blk} {b : Nat} (h : b < η.length) : (η ++ l)[b]? = η[b]? := List.getElem?_append_left h
theorem app_lst {η : List Blk} {x : Blk} {b : Nat} (h : b = η.length) : (η ++ [x])[b]? = some x := by subst h; simp
theorem app_setL {η : List Blk} {x y : Blk} {b : Nat} (h : b = η.length) : (η ++ [x]).set b y = η ++ [y] := by subst h; simp
theorem app_setF {η l : List Blk} {y : Blk} {b : Nat} (h : b < η.length) : (η ++ l).set b y = η.set b y ++ l := List.set_append_left _ _ h
theorem app_last (η : List Blk) (x : Blk) : (η ++ [x])[η.length]? = some x := by simp
theorem app_set (η : List Blk) (x y : Blk) : (η ++ [x]).set η.length y = η ++ [y] := by simp
theorem set_ne {η : List Blk} {b c : Nat} {x : Blk} (h : ¬ b = c) : (η.set b x)[c]? = η[c]? := List.getElem?_set_ne h
theorem set_eq {η : List Blk} {b : Nat} {x : Blk} (h : b < η.length) : (η.set b x)[b]? = some x := by simp [h]
theorem noLoc1_fn {g : Nat} {c : List AV} : noLoc1 (.fn g c) = true := rfl
theorem noLoc1_fnm {g : Nat} {c : List AV} : (match (AV.fn g c) with | .loc .. => false | .agg l => l.all noLoc | .tup _ => false | _ => true) = true := rfl
theorem blt {η : List Blk} {b : Nat} {x : Blk} (h : η[b]? = some x) : b < η.length := (List.getElem?_eq_some_iff.1 h).1
theorem take1 {α : Type} {l : List α} {d : α} {i : Nat} (h : i < l.length) : l.take (i + 1) = l.take i ++ [l.getD i d] := by
  rw [List.take_add_one, List.getD_eq_getElem?_getD, List.getElem?_eq_getElem h]; simp
theorem takeAll {α : Type} {l : List α} {i : Nat} (h : l.length ≤ i) : l.take i = l := List.take_of_length_le h

/-- A slice of whole numbers. -/
def IsI (η : List Blk) (v : AV) (l : List Int) : Prop := ∃ b ver, v = .sl b ver 0 l.length ∧ η[b]? = some ⟨ver, 3, 1, l.map (.int .i64)⟩
theorem IsI.app {η : List Blk} {v : AV} {l : List Int} (h : IsI η v l) (e : List Blk) : IsI (η ++ e) v l := by
  obtain ⟨b, ver, rfl, hb⟩ := h
  exact ⟨b, ver, rfl, by rw [app_get (blt hb)]; exact hb⟩
theorem IsI.last (η : List Blk) (l : List Int) : IsI (η ++ [⟨0, 3, 1, l.map (.int .i64)⟩]) (.sl η.length 0 0 l.length) l := ⟨_, _, rfl, app_last _ _⟩
def RowI (η : List Blk) (v : AV) (l : List Int) : Prop := (v = .nils ∧ l = []) ∨ (∃ b ver, v = .sl b ver 0 l.length ∧ η[b]? = some ⟨ver, 3, 1, l.map (.int .i64)⟩)
theorem RowI.app {η : List Blk} {v : AV} {l : List Int} (h : RowI η v l) (e : List Blk) : RowI (η ++ e) v l := by
  rcases h with h | h
  · exact .inl h
  · exact .inr (IsI.app h e)
theorem RowI.last (η : List Blk) (l : List Int) : RowI (η ++ [⟨0, 3, 1, l.map (.int .i64)⟩]) (.sl η.length 0 0 l.length) l := .inr (IsI.last η l)
theorem IsI.row {η : List Blk} {v : AV} {l : List Int} (h : IsI η v l) : RowI η v l := .inr h
def ctr (n : Nat) (st : St) (t : Nat) : Nat := match st.τ t with | .int _ i => n - i.toNat | _ => 0
end Go.Proofs.Ytgkmijnhhopacab
