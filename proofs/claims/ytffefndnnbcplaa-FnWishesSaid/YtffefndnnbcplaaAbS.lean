/- The abstract logic: rules for stepping through code: branches, facts about numbers, rows of whole numbers. -/
import Derived.Test.YtffefndnnbcplaaAbR
namespace Go.Proofs.Ytffefndnnbcplaa
open Go

theorem iteI {c : Prop} [Decidable c] {p q : Prop} (h1 : c → p) (h2 : ¬ c → q) : if c then p else q := by
  split
  · exact h1 ‹_›
  · exact h2 ‹_›
theorem ltT {a b : Int} (h : a < b) : (a < b) = True := eq_true h
theorem ltF {a b : Int} (h : b ≤ a) : (a < b) = False := eq_false (by omega)
theorem leT {a b : Int} (h : a ≤ b) : (a ≤ b) = True := eq_true h
theorem leF {a b : Int} (h : b < a) : (a ≤ b) = False := eq_false (by omega)
theorem ltTn {a b : Nat} (h : a < b) : (a < b) = True := eq_true h
theorem ltFn {a b : Nat} (h : b ≤ a) : (a < b) = False := eq_false (by omega)
theorem leTn {a b : Nat} (h : a ≤ b) : (a ≤ b) = True := eq_true h
theorem leFn {a b : Nat} (h : b < a) : (a ≤ b) = False := eq_false (by omega)
theorem eqTi {a b : Int} (h : a = b) : (a = b) = True := eq_true h
theorem eqFi {a b : Int} (h : ¬ a = b) : (a = b) = False := eq_false h
theorem bneTi {a b : Int} (h : ¬ a = b) : (a != b) = true := by simp [h]
theorem bneFi {a b : Int} (h : a = b) : (a != b) = false := by simp [h]
theorem beqTi {a b : Int} (h : a = b) : (a == b) = true := by simp [h]
theorem beqFi {a b : Int} (h : ¬ a = b) : (a == b) = false := by simp [h]
theorem eqTn {a b : Nat} (h : a = b) : (a = b) = True := eq_true h
theorem eqFn {a b : Nat} (h : ¬ a = b) : (a = b) = False := eq_false h
theorem wrapId {x : Int} (h : -9223372036854775808 ≤ x ∧ x < 9223372036854775808) : IntKind.i64.wrap x = x := by
  rw [IntKind.wrap_i64]; omega
theorem wrapU {x : Int} (h : 0 ≤ x ∧ x < 18446744073709551616) : IntKind.u64.wrap x = x := by
  simp only [IntKind.wrap, IntKind.bits, IntKind.signed, Bool.false_and, Bool.false_eq_true, if_false]
  omega
theorem toNat1 (i : Nat) : ((i : Int) + 1).toNat = i + 1 := by omega
theorem rowGet {α : Type} (f : α → AV) (l : List α) (d : α) {i : Nat} (h : i < l.length) : (l.map f)[i]? = some (f (l.getD i d)) := by
  simp [List.getElem?_map, List.getElem?_eq_getElem h, List.getD_eq_getElem?_getD]
theorem intGet {l : List Int} {i : Nat} (h : i < l.length) : (l.map (AV.int .i64))[i]? = some (.int .i64 (l.getD i 0)) := rowGet _ _ _ h
theorem boolGet {l : List Bool} {i : Nat} (h : i < l.length) : (l.map AV.bool)[i]? = some (.bool (l.getD i false)) := rowGet _ _ _ h
theorem memD {l : List Int} {i : Nat} (h : i < l.length) : (l.getD i 0 ∈ l) = True := by
  refine eq_true ?_
  rw [List.getD_eq_getElem?_getD, List.getElem?_eq_getElem h]
  exact List.getElem_mem h
theorem app_get {η l : List Blk} {b : Nat} (h : b < η.length) : (η ++ l)[b]? = η[b]? := List.getElem?_append_left h
theorem app_lst {η : List Blk} {x : Blk} {b : Nat} (h : b = η.length) : (η ++ [x])[b]? = some x := by subst h; simp
theorem app_setL {η : List Blk} {x y : Blk} {b : Nat} (h : b = η.length) : (η ++ [x]).set b y = η ++ [y] := by subst h; simp
theorem app_setF {η l : List Blk} {y : Blk} {b : Nat} (h : b < η.length) : (η ++ l).set b y = η.set b y ++ l := List.set_append_left _ _ h
theorem app_last (η : List Blk) (x : Blk) : (η ++ [x])[η.length]? = some x := by simp
theorem app_set (η : List Blk) (x y : Blk) : (η ++ [x]).set η.length y = η ++ [y] := by simp
theorem set_ne {η : List Blk} {b c : Nat} {x : Blk} (h : ¬ b = c) : (η.set b x)[c]? = η[c]? := List.getElem?_set_ne h
theorem set_eq {η : List Blk} {b : Nat} {x : Blk} (h : b < η.length) : (η.set b x)[b]? = some x := by simp [h]
theorem noLoc1_fn {g : Nat} {c : List AV} : noLoc1 (.fn g c) = true := rfl
theorem noLoc1_fnm {g : Nat} {c : List AV} : (match (AV.fn g c) with | .loc .. => false | .agg l => l.all noLoc | .tup _ => false | _ => true) = true := rfl
theorem blt {η : List Blk} {b : Nat} {x : Blk} (h : η[b]? = some x) : b < η.length := (List.getElem?_eq_some_iff.1 h).1
theorem take1 {α : Type} {l : List α} {d : α} {i : Nat} (h : i < l.length) : l.take (i + 1) = l.take i ++ [l.getD i d] := by
  rw [List.take_add_one, List.getD_eq_getElem?_getD, List.getElem?_eq_getElem h]; simp
theorem takeAll {α : Type} {l : List α} {i : Nat} (h : l.length ≤ i) : l.take i = l := List.take_of_length_le h

/-- A slice of whole numbers. -/
def IsI (η : List Blk) (v : AV) (l : List Int) : Prop := ∃ b ver, v = .sl b ver 0 l.length ∧ η[b]? = some ⟨ver, 3, 1, l.map (.int .i64)⟩
theorem IsI.app {η : List Blk} {v : AV} {l : List Int} (h : IsI η v l) (e : List Blk) : IsI (η ++ e) v l := by
  obtain ⟨b, ver, rfl, hb⟩ := h
  exact ⟨b, ver, rfl, by rw [app_get (blt hb)]; exact hb⟩
theorem IsI.last (η : List Blk) (l : List Int) : IsI (η ++ [⟨0, 3, 1, l.map (.int .i64)⟩]) (.sl η.length 0 0 l.length) l := ⟨_, _, rfl, app_last _ _⟩
def RowI (η : List Blk) (v : AV) (l : List Int) : Prop := (v = .nils ∧ l = []) ∨ (∃ b ver, v = .sl b ver 0 l.length ∧ η[b]? = some ⟨ver, 3, 1, l.map (.int .i64)⟩)
theorem RowI.app {η : List Blk} {v : AV} {l : List Int} (h : RowI η v l) (e : List Blk) : RowI (η ++ e) v l := by
  rcases h with h | h
  · exact .inl h
  · exact .inr (IsI.app h e)
theorem RowI.last (η : List Blk) (l : List Int) : RowI (η ++ [⟨0, 3, 1, l.map (.int .i64)⟩]) (.sl η.length 0 0 l.length) l := .inr (IsI.last η l)
theorem IsI.row {η : List Blk} {v : AV} {l : List Int} (h : IsI η v l) : RowI η v l := .inr h
def ctr (n : Nat) (st : St) (t : Nat) : Nat := match st.τ t with | .int _ i => n - i.toNat | _ => 0

/-! rows of structs of whole numbers -/
section
variable {α : Type} {enc : α → List AV} {k : Nat}
theorem flat_len (hk : ∀ x, (enc x).length = k) : ∀ l : List α, (l.map enc).flatten.length = l.length * k
  | [] => by simp
  | x :: l => by rw [List.map_cons, List.flatten_cons, List.length_append, hk, flat_len hk l, List.length_cons, Nat.add_mul, Nat.one_mul, Nat.add_comm]
theorem flat_get (hk : ∀ x, (enc x).length = k) (d : α) : ∀ (l : List α) {i f : Nat}, i < l.length → f < k → (l.map enc).flatten[i * k + f]? = (enc (l.getD i d))[f]?
  | [], _, _, h, _ => by simp at h
  | x :: l, 0, f, _, hf => by
    rw [List.map_cons, List.flatten_cons, Nat.zero_mul, Nat.zero_add, List.getElem?_append_left (by rw [hk]; exact hf)]; rfl
  | x :: l, i + 1, f, h, hf => by
    rw [List.map_cons, List.flatten_cons, List.getElem?_append_right (by rw [hk, Nat.add_mul]; omega), hk, show (i + 1) * k + f - k = i * k + f by rw [Nat.add_mul]; omega, flat_get hk d l (by simpa using h) hf]; rfl
theorem flat_drop (hk : ∀ x, (enc x).length = k) (d : α) : ∀ (l : List α) {i : Nat}, i < l.length → ((l.map enc).flatten.drop (i * k)).take k = enc (l.getD i d)
  | [], _, h => by simp at h
  | x :: l, 0, _ => by
    rw [List.map_cons, List.flatten_cons, Nat.zero_mul, List.drop_zero, List.take_append_of_le_length (by rw [hk]; exact Nat.le_refl _), List.take_of_length_le (by rw [hk]; exact Nat.le_refl _)]; rfl
  | x :: l, i + 1, h => by
    rw [List.map_cons, List.flatten_cons, show (i + 1) * k = (enc x).length + i * k by rw [hk, Nat.add_mul]; omega, List.drop_length_add_append, flat_drop hk d l (by simpa using h)]; rfl
theorem flat_put (hk : ∀ x, (enc x).length = k) (x : α) : ∀ (l : List α) {i : Nat}, i < l.length → (l.map enc).flatten.take (i * k) ++ enc x ++ (l.map enc).flatten.drop (i * k + k) = ((l.set i x).map enc).flatten
  | [], _, h => by simp at h
  | y :: l, 0, _ => by
    rw [List.map_cons, List.flatten_cons, Nat.zero_mul, List.take_zero, Nat.zero_add, List.drop_left' (hk y)]; rfl
  | y :: l, i + 1, h => by
    have ih := flat_put hk x l (i := i) (by simpa using h)
    have e1 : (i + 1) * k = (enc y).length + i * k := by rw [hk, Nat.add_mul]; omega
    have e2 : (i + 1) * k + k = (enc y).length + (i * k + k) := by rw [hk, Nat.add_mul]; omega
    rw [List.map_cons, List.flatten_cons, e1, List.take_length_add_append, ← e1, e2, List.drop_length_add_append, List.set_cons_succ, List.map_cons, List.flatten_cons, ← ih]
    simp only [List.append_assoc]
/-- A slice of structs. -/
def IsR (e : TypeId) (k : Nat) (enc : α → List AV) (η : List Blk) (v : AV) (l : List α) : Prop := ∃ b ver, v = .sl b ver 0 l.length ∧ η[b]? = some ⟨ver, e, k, (l.map enc).flatten⟩
def RowR (e : TypeId) (k : Nat) (enc : α → List AV) (η : List Blk) (v : AV) (l : List α) : Prop := (v = .nils ∧ l = []) ∨ IsR e k enc η v l
variable {e : TypeId} {η : List Blk} {v : AV} {l : List α}
theorem IsR.app (h : IsR e k enc η v l) (x : List Blk) : IsR e k enc (η ++ x) v l := by
  obtain ⟨b, ver, rfl, hb⟩ := h
  exact ⟨b, ver, rfl, by rw [app_get (blt hb)]; exact hb⟩
theorem IsR.last (η : List Blk) (l : List α) : IsR e k enc (η ++ [⟨0, e, k, (l.map enc).flatten⟩]) (.sl η.length 0 0 l.length) l := ⟨_, _, rfl, app_last _ _⟩
theorem RowR.app (h : RowR e k enc η v l) (x : List Blk) : RowR e k enc (η ++ x) v l := by
  rcases h with h | h
  · exact .inl h
  · exact .inr (h.app x)
theorem IsR.row (h : IsR e k enc η v l) : RowR e k enc η v l := .inr h
theorem RowR.last (η : List Blk) (l : List α) : RowR e k enc (η ++ [⟨0, e, k, (l.map enc).flatten⟩]) (.sl η.length 0 0 l.length) l := .inr (IsR.last η l)
end
def enc2 (p : Int × Int) : List AV := [.int .i64 p.1, .int .i64 p.2]
def enc3 (p : Int × Int × Int) : List AV := [.int .i64 p.1, .int .i64 p.2.1, .int .i64 p.2.2]
theorem enc2k (p : Int × Int) : (enc2 p).length = 2 := rfl
theorem enc3k (p : Int × Int × Int) : (enc3 p).length = 3 := rfl
theorem len2 {l : List (Int × Int)} : (l.map enc2).flatten.length = l.length * 2 := flat_len enc2k l
theorem len3 {l : List (Int × Int × Int)} : (l.map enc3).flatten.length = l.length * 3 := flat_len enc3k l
section
variable {l : List (Int × Int)} {i : Nat}
theorem get20 (h : i < l.length) : (l.map enc2).flatten[i * 2]? = some (.int .i64 (l.getD i (0, 0)).1) := flat_get enc2k (0, 0) l (f := 0) h (by omega)
theorem get21 (h : i < l.length) : (l.map enc2).flatten[i * 2 + 1]? = some (.int .i64 (l.getD i (0, 0)).2) := flat_get enc2k (0, 0) l (f := 1) h (by omega)
theorem drop2 (h : i < l.length) : ((l.map enc2).flatten.drop (i * 2)).take 2 = [.int .i64 (l.getD i (0, 0)).1, .int .i64 (l.getD i (0, 0)).2] := flat_drop enc2k (0, 0) l h
theorem put2 {a b : Int} (h : i < l.length) : (l.map enc2).flatten.take (i * 2) ++ [.int .i64 a, .int .i64 b] ++ (l.map enc2).flatten.drop (i * 2 + 2) = ((l.set i (a, b)).map enc2).flatten := flat_put enc2k (a, b) l h
end
section
variable {l : List (Int × Int × Int)} {i : Nat}
theorem get30 (h : i < l.length) : (l.map enc3).flatten[i * 3]? = some (.int .i64 (l.getD i (0, 0, 0)).1) := flat_get enc3k (0, 0, 0) l (f := 0) h (by omega)
theorem get31 (h : i < l.length) : (l.map enc3).flatten[i * 3 + 1]? = some (.int .i64 (l.getD i (0, 0, 0)).2.1) := flat_get enc3k (0, 0, 0) l (f := 1) h (by omega)
theorem get32 (h : i < l.length) : (l.map enc3).flatten[i * 3 + 2]? = some (.int .i64 (l.getD i (0, 0, 0)).2.2) := flat_get enc3k (0, 0, 0) l (f := 2) h (by omega)
theorem drop3 (h : i < l.length) : ((l.map enc3).flatten.drop (i * 3)).take 3 = [.int .i64 (l.getD i (0, 0, 0)).1, .int .i64 (l.getD i (0, 0, 0)).2.1, .int .i64 (l.getD i (0, 0, 0)).2.2] := flat_drop enc3k (0, 0, 0) l h
theorem put3 {a b c : Int} (h : i < l.length) : (l.map enc3).flatten.take (i * 3) ++ [.int .i64 a, .int .i64 b, .int .i64 c] ++ (l.map enc3).flatten.drop (i * 3 + 3) = ((l.set i (a, b, c)).map enc3).flatten := flat_put enc3k (a, b, c) l h
end
theorem putI {l : List Int} {i : Nat} {x : Int} (h : i < l.length) : (l.map (AV.int .i64)).take i ++ [.int .i64 x] ++ (l.map (AV.int .i64)).drop (i + 1) = (l.set i x).map (.int .i64) := by
  rw [List.set_eq_take_append_cons_drop, if_pos h]; simp
/-- Copied so far. -/
def part {α : Type} (l : List α) (z : α) (i : Nat) : List α := l.take i ++ List.replicate (l.length - i) z
theorem part_len {α : Type} (l : List α) (z : α) {i : Nat} (h : i ≤ l.length) : (part l z i).length = l.length := by simp [part]; omega
theorem part_end {α : Type} (l : List α) (z : α) : part l z l.length = l := by simp [part]
theorem part_set {α : Type} (l : List α) (z : α) {i : Nat} (h : i < l.length) (d : α) : (part l z i).set i (l.getD i d) = part l z (i + 1) := by
  unfold part
  rw [List.set_append_right _ _ (by simp; omega), take1 (d := d) h, show l.length - i = (l.length - (i + 1)) + 1 by omega, List.replicate_succ]
  simp [Nat.min_eq_left (Nat.le_of_lt h)]
theorem part0_2 (n : Nat) : (List.replicate n [AV.int .i64 0, AV.int .i64 0]).flatten = ((List.replicate n ((0, 0) : Int × Int)).map enc2).flatten := by simp [enc2]
theorem part0_3 (n : Nat) : (List.replicate n [AV.int .i64 0, AV.int .i64 0, AV.int .i64 0]).flatten = ((List.replicate n ((0, 0, 0) : Int × Int × Int)).map enc3).flatten := by simp [enc3]
theorem part0_1 (n : Nat) : (List.replicate n [AV.int .i64 0]).flatten = (List.replicate n (0 : Int)).map (.int .i64) := by simp
theorem part_0 {α : Type} (l : List α) (z : α) : part l z 0 = List.replicate l.length z := by simp [part]

/-- A slice of bytes. -/
def Row8 (e : TypeId) (η : List Blk) (v : AV) (l : List Int) : Prop := (v = .nils ∧ l = []) ∨ (∃ b ver, v = .sl b ver 0 l.length ∧ η[b]? = some ⟨ver, e, 1, l.map (.int .u8)⟩)
theorem Row8.app {e : TypeId} {η : List Blk} {v : AV} {l : List Int} (h : Row8 e η v l) (x : List Blk) : Row8 e (η ++ x) v l := by
  rcases h with h | ⟨b, ver, rfl, hb⟩
  · exact .inl h
  · exact .inr ⟨b, ver, rfl, by rw [app_get (blt hb)]; exact hb⟩
/-- What is left of a size. -/
def szI (n : Nat) (c : Int) : Int := if (n : Int) ≤ c then c - n else -1
theorem szI_pos {n : Nat} {c : Int} (h : (n : Int) ≤ c) : szI n c = c - n := if_pos h
theorem szI_neg {n : Nat} {c : Int} (h : ¬ (n : Int) ≤ c) : szI n c = -1 := if_neg h
def partsA (ρ : Operand → AV) : List (Nat × Operand) → List (Nat × AV)
  | [] => []
  | p :: r => (p.1, ρ p.2) :: partsA ρ r
theorem map_parts (ρ : Operand → AV) : ∀ l : List (Nat × Operand), l.map (fun p => (p.1, ρ p.2)) = partsA ρ l
  | [] => rfl
  | p :: r => by rw [List.map_cons, map_parts ρ r]; rfl
/-- A heap that only grew. -/
def Ext (η H : List Blk) : Prop := ∃ e, H = η ++ e
theorem Ext.refl (η : List Blk) : Ext η η := ⟨[], by simp⟩
theorem KsS_ext {n n' : Nat} {τ τ' : Nat → AV} {lam : Nat → LB} {η H : List Blk} (h : Ext η H) : KsS ⟨n, τ, lam, η⟩ ⟨n', τ', lam, H⟩ = True := by
  obtain ⟨e, rfl⟩ := h
  exact KsS_grow
theorem KsSW_ext {n n' : Nat} {τ τ' : Nat → AV} {lam : Nat → LB} {η H : List Blk} (h : Ext η H) : KsSW ⟨n, τ, lam, η⟩ ⟨n', τ', lam, H⟩ = True := by
  obtain ⟨e, rfl⟩ := h
  exact KsSW_grow
theorem KsSW_set {n n' : Nat} {τ τ' : Nat → AV} {lam : Nat → LB} {η : List Blk} {c : Nat} {B B' : Blk} (h : η[c]? = some B) (h1 : B'.ver = B.ver) (h2 : B'.sz = B.sz) : KsSW ⟨n, τ, lam, η⟩ ⟨n', τ', lam, η.set c B'⟩ = True := by
  refine eq_true ⟨⟨fun s hs => ⟨rfl, fun _ => rfl⟩, fun b blk hb => ?_⟩, fun _ _ => rfl⟩
  by_cases hbc : c = b
  · subst hbc
    have hl := (List.getElem?_eq_some_iff.1 h).1
    rw [h] at hb
    obtain rfl := Option.some.inj hb
    exact ⟨B', by show (η.set c B')[c]? = some B'; rw [List.getElem?_set_self hl], h1, h2, fun e => by cases e⟩
  · exact ⟨blk, by show (η.set c B')[b]? = some blk; rw [List.getElem?_set_ne hbc]; exact hb, rfl, rfl, fun e => by cases e⟩
theorem Ext.trans {η H H' : List Blk} (h : Ext η H) (k : Ext H H') : Ext η H' := by
  obtain ⟨e, rfl⟩ := h
  obtain ⟨e', rfl⟩ := k
  exact ⟨e ++ e', by simp⟩
theorem Ext.get {η H : List Blk} (h : Ext η H) {b : Nat} (hb : b < η.length) : H[b]? = η[b]? := by
  obtain ⟨e, rfl⟩ := h
  exact app_get hb
theorem Ext.len {η H : List Blk} (h : Ext η H) : η.length ≤ H.length := by
  obtain ⟨e, rfl⟩ := h
  simp
theorem Ext.app {η H : List Blk} (h : Ext η H) (l : List Blk) : Ext η (H ++ l) := h.trans ⟨l, rfl⟩
theorem Ext.set {η H : List Blk} (h : Ext η H) {b : Nat} (hb : η.length ≤ b) (x : Blk) : Ext η (H.set b x) := by
  obtain ⟨e, rfl⟩ := h
  exact ⟨e.set (b - η.length) x, List.set_append_right _ _ hb⟩
theorem Ext.blk {η H : List Blk} (h : Ext η H) {b : Nat} {x : Blk} (hb : η[b]? = some x) : H[b]? = some x := by rw [h.get (blt hb)]; exact hb
theorem IsI.ext {η H : List Blk} {v : AV} {l : List Int} (h : IsI η v l) (k : Ext η H) : IsI H v l := by
  obtain ⟨e, rfl⟩ := k
  exact h.app e
theorem RowI.ext {η H : List Blk} {v : AV} {l : List Int} (h : RowI η v l) (k : Ext η H) : RowI H v l := by
  obtain ⟨e, rfl⟩ := k
  exact h.app e
theorem IsR.ext {α : Type} {enc : α → List AV} {k : Nat} {e : TypeId} {η H : List Blk} {v : AV} {l : List α} (h : IsR e k enc η v l) (x : Ext η H) : IsR e k enc H v l := by
  obtain ⟨e, rfl⟩ := x
  exact h.app e
theorem RowR.ext {α : Type} {enc : α → List AV} {k : Nat} {e : TypeId} {η H : List Blk} {v : AV} {l : List α} (h : RowR e k enc η v l) (x : Ext η H) : RowR e k enc H v l := by
  obtain ⟨e, rfl⟩ := x
  exact h.app e
theorem Row8.ext {e : TypeId} {η H : List Blk} {v : AV} {l : List Int} (h : Row8 e η v l) (x : Ext η H) : Row8 e H v l := by
  obtain ⟨e, rfl⟩ := x
  exact h.app e
theorem takeMap {α : Type} (f : α → AV) (l : List α) : (l.map f).take l.length = l.map f := by rw [← List.length_map (f := f), List.take_length]
theorem rep1 {α : Type} (x : α) : List.replicate 1 x = [x] := rfl
theorem rep2 {α : Type} (x : α) : List.replicate 2 x = [x, x] := rfl
theorem rep3 {α : Type} (x : α) : List.replicate 3 x = [x, x, x] := rfl
theorem rep4 {α : Type} (x : α) : List.replicate 4 x = [x, x, x, x] := rfl
theorem rep5 {α : Type} (x : α) : List.replicate 5 x = [x, x, x, x, x] := rfl
theorem KB {K : AV → List Blk → Prop} {η : List Blk} {a b : Bool} (h : K (.bool a) η) (e : a = b) : K (.bool b) η := e ▸ h
theorem KI {K : AV → List Blk → Prop} {η : List Blk} {k : IntKind} {a b : Int} (h : K (.int k a) η) (e : a = b) : K (.int k b) η := e ▸ h
theorem pairEta {α β : Type} (p : α × β) : (p.1, p.2) = p := rfl
theorem chunk2 : ∀ (n : Nat) (zs : List Int), zs.length = n * 2 → ∃ l : List (Int × Int), l.length = n ∧ zs.map (AV.int .i64) = (l.map enc2).flatten
  | 0, [], _ => ⟨[], rfl, rfl⟩
  | 0, _ :: _, h => by simp at h
  | n + 1, [], h => by simp at h
  | n + 1, [_], h => by simp at h; omega
  | n + 1, a :: b :: zs, h => by
    obtain ⟨l, h1, h2⟩ := chunk2 n zs (by simp at h; omega)
    exact ⟨(a, b) :: l, by simp [h1], by simp [h2, enc2]⟩
theorem chunk3 : ∀ (n : Nat) (zs : List Int), zs.length = n * 3 → ∃ l : List (Int × Int × Int), l.length = n ∧ zs.map (AV.int .i64) = (l.map enc3).flatten
  | 0, [], _ => ⟨[], rfl, rfl⟩
  | 0, _ :: _, h => by simp at h
  | n + 1, [], h => by simp at h
  | n + 1, [_], h => by simp at h; omega
  | n + 1, [_, _], h => by simp at h; omega
  | n + 1, a :: b :: c :: zs, h => by
    obtain ⟨l, h1, h2⟩ := chunk3 n zs (by simp at h; omega)
    exact ⟨(a, b, c) :: l, by simp [h1], by simp [h2, enc3]⟩
theorem row1 {η : List Blk} {x : AV} (h : AvSh η (.rows 3 1 .i64) x) : ∃ l, RowI η x l ∧ l.length ≤ maxLen := by
  rcases h with rfl | ⟨b, len, zs, rfl, hb, hz, hm, _⟩
  · exact ⟨[], .inl ⟨rfl, rfl⟩, by simp⟩
  · exact ⟨zs, .inr ⟨b, 0, by rw [hz, Nat.mul_one], hb⟩, by omega⟩
theorem row8 {η : List Blk} {e : TypeId} {x : AV} (h : AvSh η (.rows e 1 .u8) x) : ∃ l, Row8 e η x l ∧ l.length ≤ maxLen := by
  rcases h with rfl | ⟨b, len, zs, rfl, hb, hz, hm, hw⟩
  · exact ⟨[], .inl ⟨rfl, rfl⟩, by simp⟩
  · refine ⟨zs, .inr ⟨b, 0, by rw [hz, Nat.mul_one], hb⟩, by omega⟩
theorem row2 {η : List Blk} {e : TypeId} {x : AV} (h : AvSh η (.rows e 2 .i64) x) : ∃ l, RowR e 2 enc2 η x l ∧ l.length ≤ maxLen := by
  rcases h with rfl | ⟨b, len, zs, rfl, hb, hz, hm, _⟩
  · exact ⟨[], .inl ⟨rfl, rfl⟩, by simp⟩
  · obtain ⟨l, h1, h2⟩ := chunk2 len zs hz
    exact ⟨l, .inr ⟨b, 0, by rw [h1], by rw [hb, h2]⟩, by omega⟩
theorem row3 {η : List Blk} {e : TypeId} {x : AV} (h : AvSh η (.rows e 3 .i64) x) : ∃ l, RowR e 3 enc3 η x l ∧ l.length ≤ maxLen := by
  rcases h with rfl | ⟨b, len, zs, rfl, hb, hz, hm, _⟩
  · exact ⟨[], .inl ⟨rfl, rfl⟩, by simp⟩
  · obtain ⟨l, h1, h2⟩ := chunk3 len zs hz
    exact ⟨l, .inr ⟨b, 0, by rw [h1], by rw [hb, h2]⟩, by omega⟩
theorem noLocR {α : Type} {e : TypeId} {k : Nat} {enc : α → List AV} {η : List Blk} {v : AV} {l : List α} (h : RowR e k enc η v l) : noLoc1 v = true ∧ noLoc v = true := by
  rcases h with ⟨rfl, _⟩ | ⟨b, ver, rfl, _⟩ <;> exact ⟨rfl, rfl⟩
theorem noLocI {η : List Blk} {v : AV} {l : List Int} (h : RowI η v l) : noLoc1 v = true ∧ noLoc v = true := by
  rcases h with ⟨rfl, _⟩ | ⟨b, ver, rfl, _⟩ <;> exact ⟨rfl, rfl⟩

/-! what stands in a slice, as a function -/
theorem flat_inj {α : Type} {enc : α → List AV} {k : Nat} (hk : ∀ x, (enc x).length = k) (hi : ∀ x y, enc x = enc y → x = y) : ∀ l m : List α, l.length = m.length → (l.map enc).flatten = (m.map enc).flatten → l = m
  | [], [], _, _ => rfl
  | [], _ :: _, h, _ => by simp at h
  | _ :: _, [], h, _ => by simp at h
  | x :: l, y :: m, h, e => by
    simp only [List.map_cons, List.flatten_cons] at e
    have := List.append_inj e (by rw [hk, hk])
    rw [hi _ _ this.1, flat_inj hk hi l m (by simpa using h) this.2]
theorem IsR.uniq {α : Type} {enc : α → List AV} {k : Nat} (hk : ∀ x, (enc x).length = k) (hi : ∀ x y, enc x = enc y → x = y) {e : TypeId} {η : List Blk} {v : AV} {l m : List α} (h : IsR e k enc η v l) (h' : IsR e k enc η v m) : l = m := by
  obtain ⟨b, ver, rfl, hb⟩ := h
  obtain ⟨c, wer, e1, hc⟩ := h'
  injection e1 with e1 e2 e3 e4
  subst e1
  rw [hb] at hc
  injection hc with hc
  injection hc with _ _ _ hc
  exact flat_inj hk hi l m e4 hc
theorem IsI.uniq {η : List Blk} {v : AV} {l m : List Int} (h : IsI η v l) (h' : IsI η v m) : l = m := by
  obtain ⟨b, ver, rfl, hb⟩ := h
  obtain ⟨c, wer, e1, hc⟩ := h'
  injection e1 with e1 e2 e3 e4
  subst e1
  rw [hb] at hc
  injection hc with hc
  injection hc with _ _ _ hc
  have hinj : ∀ l m : List Int, l.map (AV.int .i64) = m.map (AV.int .i64) → l = m := by
    intro l
    induction l with
    | nil => intro m h; cases m <;> simp_all
    | cons x l ih =>
      intro m h
      cases m with
      | nil => simp at h
      | cons y m => simp only [List.map_cons, List.cons.injEq, AV.int.injEq, true_and] at h; rw [h.1, ih m h.2]
  exact hinj _ _ hc
theorem enc2_inj (x y : Int × Int) (h : enc2 x = enc2 y) : x = y := by
  simp only [enc2, List.cons.injEq, AV.int.injEq, true_and, and_true] at h
  exact Prod.ext h.1 h.2
theorem enc3_inj (x y : Int × Int × Int) (h : enc3 x = enc3 y) : x = y := by
  simp only [enc3, List.cons.injEq, AV.int.injEq, true_and, and_true] at h
  exact Prod.ext h.1 (Prod.ext h.2.1 h.2.2)
open Classical in
noncomputable def dec3 (e : TypeId) (η : List Blk) (v : AV) : List (Int × Int × Int) := if h : ∃ l, IsR e 3 enc3 η v l then h.choose else []
open Classical in
noncomputable def dec2 (e : TypeId) (η : List Blk) (v : AV) : List (Int × Int) := if h : ∃ l, IsR e 2 enc2 η v l then h.choose else []
open Classical in
noncomputable def decI (η : List Blk) (v : AV) : List Int := if h : ∃ l, IsI η v l then h.choose else []
theorem IsR.dec3 {e : TypeId} {η : List Blk} {v : AV} {l : List (Int × Int × Int)} (h : IsR e 3 enc3 η v l) : dec3 e η v = l := by
  unfold Proofs.Ytffefndnnbcplaa.dec3
  rw [dif_pos ⟨l, h⟩]
  exact IsR.uniq enc3k enc3_inj (Exists.choose_spec (⟨l, h⟩ : ∃ l, IsR e 3 enc3 η v l)) h
theorem IsR.dec2 {e : TypeId} {η : List Blk} {v : AV} {l : List (Int × Int)} (h : IsR e 2 enc2 η v l) : dec2 e η v = l := by
  unfold Proofs.Ytffefndnnbcplaa.dec2
  rw [dif_pos ⟨l, h⟩]
  exact IsR.uniq enc2k enc2_inj (Exists.choose_spec (⟨l, h⟩ : ∃ l, IsR e 2 enc2 η v l)) h
theorem IsI.dec {η : List Blk} {v : AV} {l : List Int} (h : IsI η v l) : decI η v = l := by
  unfold decI
  rw [dif_pos ⟨l, h⟩]
  exact IsI.uniq (Exists.choose_spec (⟨l, h⟩ : ∃ l, IsI η v l)) h
def ok3 (e : TypeId) (η : List Blk) (v : AV) : Prop := ∃ l : List (Int × Int × Int), IsR e 3 enc3 η v l ∧ l.length ≤ 1048576
def ok2 (e : TypeId) (η : List Blk) (v : AV) : Prop := ∃ l : List (Int × Int), IsR e 2 enc2 η v l ∧ l.length ≤ 1048576
def okI (η : List Blk) (v : AV) : Prop := ∃ l : List Int, IsI η v l ∧ l.length ≤ 1048576
/-! lists by index -/
theorem rall_succ {p : Nat → Bool} {i : Nat} (h : (List.range i).all p = true) (hp : p i = true) : (List.range (i + 1)).all p = true := by
  rw [List.range_succ, List.all_append, h]; simp [hp]
theorem rall_bad {p : Nat → Bool} {i n : Nat} (h : i < n) (hp : p i = false) : (List.range n).all p = false := by
  rw [List.all_eq_false]; exact ⟨i, List.mem_range.2 h, by simp [hp]⟩
theorem all_bad {α : Type} {l : List α} {p : α → Bool} {i : Nat} {d : α} (h : i < l.length) (hp : p (l.getD i d) = false) : l.all p = false := by
  rw [List.all_eq_false]
  refine ⟨l.getD i d, ?_, by rw [hp]; exact Bool.false_ne_true⟩
  rw [List.getD_eq_getElem?_getD, List.getElem?_eq_getElem h]
  exact List.getElem_mem h
theorem getD_mem {α : Type} {l : List α} {i : Nat} {d : α} (h : i < l.length) : l.getD i d ∈ l := by
  rw [List.getD_eq_getElem?_getD, List.getElem?_eq_getElem h]
  exact List.getElem_mem h
/-- The first index with a property, or -1. -/
def firstI (n : Nat) (p : Nat → Bool) : Int := match (List.range n).find? p with
  | some i => i
  | none => -1
theorem first_here {n i : Nat} {p : Nat → Bool} (hi : i < n) (h : (List.range i).all (fun j => !p j) = true) (hp : p i = true) : firstI n p = i := by
  unfold firstI
  have : (List.range n).find? p = some i := by
    rw [List.find?_range_eq_some]
    refine ⟨hp, List.mem_range.2 hi, fun j hj => ?_⟩
    exact List.all_eq_true.1 h j (List.mem_range.2 hj)
  rw [this]
theorem first_none {n : Nat} {p : Nat → Bool} (h : (List.range n).all (fun j => !p j) = true) : firstI n p = -1 := by
  unfold firstI
  have : (List.range n).find? p = none := by
    rw [List.find?_eq_none]
    intro x hx
    have := List.all_eq_true.1 h x hx
    simpa using this
  rw [this]
theorem sum1 {l : List Int} {i : Nat} (h : i < l.length) : (l.take (i + 1)).sum = (l.take i).sum + l.getD i 0 := by
  rw [take1 (d := 0) h, List.sum_append]; simp
theorem sum_bd {l : List Int} (h : ∀ x ∈ l, 0 ≤ x ∧ x ≤ 10000000000) : 0 ≤ l.sum ∧ l.sum ≤ l.length * 10000000000 := by
  induction l with
  | nil => simp
  | cons x l ih =>
    have h1 := h x (by simp)
    have h2 := ih fun y hy => h y (by simp [hy])
    simp only [List.sum_cons, List.length_cons]
    omega
end Go.Proofs.Ytffefndnnbcplaa
