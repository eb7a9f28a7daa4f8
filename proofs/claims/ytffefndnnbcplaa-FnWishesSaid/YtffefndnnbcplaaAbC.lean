/- The abstract logic: an operation that only looks yields, in the machine, the value that the abstract one yields. -/
import Derived.Test.YtffefndnnbcplaaAbB
namespace Go.Proofs.Ytffefndnnbcplaa
open Go

section inv
variable {lo : Nat} {W : Wit} {η : List Blk} {lam : Nat → LB} {κ : Nat → Nat}
theorem Rv_c {x : AV} {u : Value} (h : Rv lo W η lam κ x u) (h0 : x ≠ .und) (h1 : ∀ l, x ≠ .agg l) (h2 : ∀ l, x ≠ .tup l) : Rs lo W η lam κ x u := by
  rcases h with rfl | ⟨l, _, rfl, _⟩ | ⟨l, _, rfl, _⟩ | h
  · exact absurd rfl h0
  · exact absurd rfl (h2 l)
  · exact absurd rfl (h1 l)
  · exact h.2
theorem Rv_one {x : AV} {u : Value} (h : Rv lo W η lam κ x u) (hx : (match x with | .und => false | .agg _ => false | .tup _ => false | _ => true) = true) : u.oneCell' = true := by
  rcases h with rfl | ⟨l, _, rfl, _⟩ | ⟨l, _, rfl, _⟩ | h
  · cases hx
  · cases hx
  · cases hx
  · exact h.1
theorem Rv_int {k : IntKind} {n : Int} {u : Value} (h : Rv lo W η lam κ (.int k n) u) : u = .int k n := Rv_c h (by simp) (fun _ => by simp) (fun _ => by simp)
theorem Rv_bool {b : Bool} {u : Value} (h : Rv lo W η lam κ (.bool b) u) : u = .bool b := Rv_c h (by simp) (fun _ => by simp) (fun _ => by simp)
theorem Rv_nils {u : Value} (h : Rv lo W η lam κ .nils u) : u = .slice none 0 0 := Rv_c h (by simp) (fun _ => by simp) (fun _ => by simp)
theorem Rv_emp {u : Value} (h : Rv lo W η lam κ .emp u) : ∃ a, u = .slice (some a) 0 0 := Rv_c h (by simp) (fun _ => by simp) (fun _ => by simp)
theorem Rv_sl {b ver off len : Nat} {u : Value} (h : Rv lo W η lam κ (.sl b ver off len) u) : ∃ blk, η[b]? = some blk ∧ ver ≤ blk.ver ∧ (ver = blk.ver → ∃ a cap, u = .slice (some a) len cap ∧ len ≤ cap ∧ (cap = 0 ∨ (a = (W.ι b).add off ∧ (lo ≤ b → off + cap * blk.sz ≤ W.cs b)))) := Rv_c h (by simp) (fun _ => by simp) (fun _ => by simp)
theorem Rv_ptr {b ver off : Nat} {u : Value} (h : Rv lo W η lam κ (.ptr b ver off) u) : ∃ blk, η[b]? = some blk ∧ ver ≤ blk.ver ∧ (ver = blk.ver → u = .pointer (some ((W.ι b).add off))) := Rv_c h (by simp) (fun _ => by simp) (fun _ => by simp)
theorem Rv_loc {b ver off : Nat} {u : Value} (h : Rv lo W η lam κ (.loc b ver off) u) : 0 < ver ∧ ver ≤ (lam b).ver ∧ (ver = (lam b).ver → u = .pointer (some ⟨κ b, off, none⟩)) := Rv_c h (by simp) (fun _ => by simp) (fun _ => by simp)
theorem Rv_fn {g : Nat} {caps : List AV} {u : Value} (h : Rv lo W η lam κ (.fn g caps) u) : ∃ arr, u = .func (.func g) #[] arr ∧ RL (fun x u => u.oneCell' = true ∧ Rp W η x u) caps arr := Rv_c h (by simp) (fun _ => by simp) (fun _ => by simp)
theorem Rv_agg {l : List AV} {u : Value} (h : Rv lo W η lam κ (.agg l) u) : ∃ arr, u = .agg arr ∧ RL (Rc lo W η lam κ) l arr := by
  rcases h with h | ⟨l', _, h, _⟩ | ⟨l', arr, h, rfl, ha⟩ | h
  · cases h
  · cases h
  · cases h; exact ⟨arr, rfl, ha⟩
  · exact h.2.elim
theorem Rv_tup {l : List AV} {u : Value} (h : Rv lo W η lam κ (.tup l) u) : ∃ arr, u = .tuple arr ∧ RL (R1 lo W η lam κ) l arr := by
  rcases h with h | ⟨l', arr, h, rfl, ha⟩ | ⟨l', _, h, _⟩ | h
  · cases h
  · cases h; exact ⟨arr, rfl, ha⟩
  · cases h
  · exact h.2.elim
theorem Rv_mkc {x : AV} {u : Value} (h : Rc lo W η lam κ x u) : Rv lo W η lam κ x u := .inr (.inr (.inr h))
theorem Rv_mkagg {l : List AV} {arr : Array Value} (h : RL (Rc lo W η lam κ) l arr) : Rv lo W η lam κ (.agg l) (.agg arr) := .inr (.inr (.inl ⟨l, arr, rfl, rfl, h⟩))
theorem Rv_mktup {l : List AV} {arr : Array Value} (h : RL (R1 lo W η lam κ) l arr) : Rv lo W η lam κ (.tup l) (.tuple arr) := .inr (.inl ⟨l, arr, rfl, rfl, h⟩)
theorem Rv_1 {x : AV} {u : Value} (h : Rv lo W η lam κ x u) (h0 : x ≠ .und) (h2 : ∀ l, x ≠ .tup l) : R1 lo W η lam κ x u := by
  rcases h with rfl | ⟨l, _, rfl, _⟩ | h
  · exact absurd rfl h0
  · exact absurd rfl (h2 l)
  · exact h

/-- What a value's cells are, on both sides. -/
theorem cells_rel {x : AV} {u : Value} (h : R1 lo W η lam κ x u) : RL (Rc lo W η lam κ) (cellsA x) u.cells := by
  rcases h with ⟨l, arr, rfl, rfl, ha⟩ | h
  · exact ha
  · have h1 : u.cells = #[u] := by have := h.1; cases u <;> first | rfl | cases this
    have h2 : cellsA x = [x] := by cases x <;> first | rfl | exact h.2.elim
    rw [h1, h2]
    refine ⟨rfl, fun i z hz => ?_⟩
    match i, hz with
    | 0, hz => simp at hz; subst hz; exact ⟨u, rfl, h⟩
end inv

end Go.Proofs.Ytffefndnnbcplaa
