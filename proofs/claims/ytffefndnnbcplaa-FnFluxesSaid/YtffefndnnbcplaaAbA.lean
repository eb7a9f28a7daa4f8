/- An abstract logic over the kit's rules: values without addresses, a heap of lists, local variables apart; the relation to the machine's states and the rules of control flow. -/
import Derived.Control
import Derived.Calls
import Derived.Orders
import Derived.Laws.Sem
import Derived.Laws.World
import Derived.Laws.Cells
import Derived.Laws.Append
import Derived.Laws.AppendOwn
import Derived.Laws.Slices
import Derived.Laws.MakeOwn
import Derived.Deep.Slices
import Derived.Deep.LoopGhost
namespace Go.Proofs.Ytffefndnnbcplaa
open Go

/-- Abstract values. 'sl b ver off len': a slice of block b; 'ptr': a cell's address; 'loc s': a local variable's address. -/
inductive AV where
  | und
  | int (k : IntKind) (n : Int)
  | bool (b : Bool)
  | str (s : ByteArray)
  | nils
  | emp
  | sl (b ver off len : Nat)
  | ptr (b ver off : Nat)
  | loc (s ver off : Nat)
  | fn (g : Nat) (caps : List AV)
  | agg (l : List AV)
  | tup (l : List AV)

structure Blk where
  ver : Nat
  ty : TypeId
  sz : Nat
  cells : List AV

structure LB where
  ver : Nat
  cells : List AV

structure St where
  n : Nat
  τ : Nat → AV
  lam : Nat → LB
  η : List Blk

structure Wit where
  ι : Nat → Addr
  cs : Nat → Nat

def lam0 : Nat → LB := fun _ => ⟨0, []⟩
def kap0 : Nat → Nat := fun _ => 0

def upd {α : Type} (f : Nat → α) (i : Nat) (v : α) : Nat → α := fun j => if j = i then v else f j

/-- A list of abstract values, cell by cell. -/
def RL (R : AV → Value → Prop) (l : List AV) (arr : Array Value) : Prop := arr.size = l.length ∧ ∀ (i : Nat) x, l[i]? = some x → ∃ u, arr[i]? = some u ∧ R x u

section rel
variable (lo : Nat) (W : Wit) (η : List Blk) (lam : Nat → LB) (κ : Nat → Nat)

def Rp : AV → Value → Prop
  | .ptr b ver off, u => ∃ blk, η[b]? = some blk ∧ ver ≤ blk.ver ∧ (ver = blk.ver → u = .pointer (some ((W.ι b).add off)))
  | _, _ => False

/-- What a cell's value looks like. -/
def Rs : AV → Value → Prop
  | .und, _ => True
  | .int k n, u => u = .int k n
  | .bool b, u => u = .bool b
  | .str s, u => u = .string s
  | .nils, u => u = .slice none 0 0
  | .emp, u => ∃ a, u = .slice (some a) 0 0
  | .sl b ver off len, u => ∃ blk, η[b]? = some blk ∧ ver ≤ blk.ver ∧ (ver = blk.ver → ∃ a cap, u = .slice (some a) len cap ∧ len ≤ cap ∧ (cap = 0 ∨ (a = (W.ι b).add off ∧ (lo ≤ b → off + cap * blk.sz ≤ W.cs b))))
  | .ptr b ver off, u => Rp W η (.ptr b ver off) u
  | .loc s ver off, u => 0 < ver ∧ ver ≤ (lam s).ver ∧ (ver = (lam s).ver → u = .pointer (some ⟨κ s, off, none⟩))
  | .fn g caps, u => ∃ arr, u = .func (.func g) #[] arr ∧ RL (fun x u => u.oneCell' = true ∧ Rp W η x u) caps arr
  | .agg _, _ => False
  | .tup _, _ => False

def Rc (x : AV) (u : Value) : Prop := u.oneCell' = true ∧ Rs lo W η lam κ x u

def R1 (x : AV) (u : Value) : Prop := (∃ l arr, x = .agg l ∧ u = .agg arr ∧ RL (Rc lo W η lam κ) l arr) ∨ Rc lo W η lam κ x u

def Rv (x : AV) (u : Value) : Prop := x = .und ∨ (∃ l arr, x = .tup l ∧ u = .tuple arr ∧ RL (R1 lo W η lam κ) l arr) ∨ R1 lo W η lam κ x u
end rel

theorem RL.mono {R R' : AV → Value → Prop} {l : List AV} {arr : Array Value} (h : RL R l arr) (hr : ∀ x u, R x u → R' x u) : RL R' l arr :=
  ⟨h.1, fun i x hx => let ⟨u, h1, h2⟩ := h.2 i x hx; ⟨u, h1, hr _ _ h2⟩⟩

/-- From one heap to a later one. -/
structure HStep (lo : Nat) (η η' : List Blk) (W W' : Wit) : Prop where
  pre : ∀ b, b < lo → η'[b]? = η[b]? ∧ W'.ι b = W.ι b ∧ W'.cs b = W.cs b
  old : ∀ b blk, η[b]? = some blk → ∃ blk', η'[b]? = some blk' ∧ blk.ver ≤ blk'.ver ∧ blk'.sz = blk.sz ∧ blk'.ty = blk.ty ∧ (blk.ver = blk'.ver → W'.ι b = W.ι b ∧ W'.cs b = W.cs b)

theorem HStep.refl (lo : Nat) (η : List Blk) (W : Wit) : HStep lo η η W W := ⟨fun _ _ => ⟨rfl, rfl, rfl⟩, fun _ blk h => ⟨blk, h, Nat.le_refl _, rfl, rfl, fun _ => ⟨rfl, rfl⟩⟩⟩

theorem HStep.trans {lo : Nat} {η η' η'' : List Blk} {W W' W'' : Wit} (h : HStep lo η η' W W') (k : HStep lo η' η'' W' W'') : HStep lo η η'' W W'' := by
  refine ⟨fun b hb => ?_, fun b blk hb => ?_⟩
  · obtain ⟨a1, a2, a3⟩ := h.pre b hb
    obtain ⟨b1, b2, b3⟩ := k.pre b hb
    exact ⟨b1.trans a1, b2.trans a2, b3.trans a3⟩
  · obtain ⟨blk', h1, h2, h3, h3', h4⟩ := h.old b blk hb
    obtain ⟨blk'', k1, k2, k3, k3', k4⟩ := k.old b blk' h1
    refine ⟨blk'', k1, Nat.le_trans h2 k2, k3.trans h3, k3'.trans h3', fun e => ?_⟩
    have e1 : blk.ver = blk'.ver := by omega
    have e2 : blk'.ver = blk''.ver := by omega
    exact ⟨(k4 e2).1.trans (h4 e1).1, (k4 e2).2.trans (h4 e1).2⟩

theorem HStep.len {lo : Nat} {η η' : List Blk} {W W' : Wit} (h : HStep lo η η' W W') : η.length ≤ η'.length := by
  rcases Nat.lt_or_ge η'.length η.length with hl | hl
  · obtain ⟨blk', h1, _⟩ := h.old η'.length _ (List.getElem?_eq_getElem hl)
    simp at h1
  · exact hl

/-- Locals: as they were, or laid anew. -/
def LStep (lam lam' : Nat → LB) (κ κ' : Nat → Nat) : Prop := ∀ s, (lam s).ver ≤ (lam' s).ver ∧ ((lam s).ver = (lam' s).ver → κ' s = κ s)
theorem LStep.refl (lam : Nat → LB) (κ : Nat → Nat) : LStep lam lam κ κ := fun _ => ⟨Nat.le_refl _, fun _ => rfl⟩

section mono
variable {lo : Nat} {W W' : Wit} {η η' : List Blk} {lam lam' : Nat → LB} {κ κ' : Nat → Nat}

theorem Rp_mono (h : HStep lo η η' W W') {x : AV} {u : Value} (hr : Rp W η x u) : Rp W' η' x u := by
  cases x <;> simp only [Rp] at hr ⊢
  obtain ⟨blk, h1, h2, h3⟩ := hr
  obtain ⟨blk', k1, k2, k3, _, k4⟩ := h.old _ _ h1
  refine ⟨blk', k1, Nat.le_trans h2 k2, fun e => ?_⟩
  have e1 : blk.ver = blk'.ver := by omega
  rw [(k4 e1).1]
  exact h3 (by omega)

theorem Rs_mono (h : HStep lo η η' W W') (hl : LStep lam lam' κ κ') {x : AV} {u : Value} (hr : Rs lo W η lam κ x u) : Rs lo W' η' lam' κ' x u := by
  cases x with
  | sl b ver off len =>
    obtain ⟨blk, h1, h2, h3⟩ := hr
    obtain ⟨blk', k1, k2, k3, _, k4⟩ := h.old _ _ h1
    refine ⟨blk', k1, Nat.le_trans h2 k2, fun e => ?_⟩
    have e1 : blk.ver = blk'.ver := by omega
    rw [(k4 e1).1, (k4 e1).2, k3]
    exact h3 (by omega)
  | ptr b ver off => exact Rp_mono (x := .ptr b ver off) h hr
  | loc s ver off =>
    obtain ⟨h0, h1, h2⟩ := hr
    refine ⟨h0, Nat.le_trans h1 (hl s).1, fun e => ?_⟩
    have e1 : (lam s).ver = (lam' s).ver := by have := (hl s).1; omega
    rw [(hl s).2 e1]
    exact h2 (by omega)
  | fn g caps =>
    obtain ⟨arr, rfl, ha⟩ := hr
    exact ⟨arr, rfl, ha.mono fun x u h' => ⟨h'.1, Rp_mono h h'.2⟩⟩
  | und => exact hr
  | int k n => exact hr
  | bool b => exact hr
  | str s => exact hr
  | nils => exact hr
  | emp => exact hr
  | agg l => exact hr
  | tup l => exact hr

theorem Rc_mono (h : HStep lo η η' W W') (hl : LStep lam lam' κ κ') {x : AV} {u : Value} (hr : Rc lo W η lam κ x u) : Rc lo W' η' lam' κ' x u := ⟨hr.1, Rs_mono h hl hr.2⟩

theorem R1_mono (h : HStep lo η η' W W') (hl : LStep lam lam' κ κ') {x : AV} {u : Value} (hr : R1 lo W η lam κ x u) : R1 lo W' η' lam' κ' x u := by
  rcases hr with ⟨l, arr, rfl, rfl, ha⟩ | hr
  · exact .inl ⟨l, arr, rfl, rfl, ha.mono fun _ _ h' => Rc_mono h hl h'⟩
  · exact .inr (Rc_mono h hl hr)

theorem Rv_mono (h : HStep lo η η' W W') (hl : LStep lam lam' κ κ') {x : AV} {u : Value} (hr : Rv lo W η lam κ x u) : Rv lo W' η' lam' κ' x u := by
  rcases hr with rfl | ⟨l, arr, rfl, rfl, ha⟩ | hr
  · exact .inl rfl
  · exact .inr (.inl ⟨l, arr, rfl, rfl, ha.mono fun _ _ h' => R1_mono h hl h'⟩)
  · exact .inr (.inr (R1_mono h hl hr))

theorem Rc_lam0 {x : AV} {u : Value} (hr : Rc lo W η lam0 kap0 x u) : Rc lo W η lam κ x u := by
  cases x <;> first | exact hr | skip
  obtain ⟨_, h0, h1, _⟩ := hr
  simp [lam0] at h1
  omega
theorem R1_lam0 {x : AV} {u : Value} (hr : R1 lo W η lam0 kap0 x u) : R1 lo W η lam κ x u := by
  rcases hr with ⟨l, arr, rfl, rfl, ha⟩ | hr
  · exact .inl ⟨l, arr, rfl, rfl, ha.mono fun _ _ h' => Rc_lam0 h'⟩
  · exact .inr (Rc_lam0 hr)
theorem Rv_lam0 {x : AV} {u : Value} (hr : Rv lo W η lam0 kap0 x u) : Rv lo W η lam κ x u := by
  rcases hr with rfl | ⟨l, arr, rfl, rfl, ha⟩ | hr
  · exact .inl rfl
  · exact .inr (.inl ⟨l, arr, rfl, rfl, ha.mono fun _ _ h' => R1_lam0 h'⟩)
  · exact .inr (.inr (R1_lam0 hr))
end mono

/-- The abstract heap in the world. -/
structure HSim (lo : Nat) (W : Wit) (η : List Blk) (w : World) : Prop where
  lo_le : lo ≤ η.length
  cell : ∀ b blk, η[b]? = some blk → ∀ j x, blk.cells[j]? = some x → ∃ u, w.cell? ((W.ι b).add j) = some u ∧ Rc lo W η lam0 kap0 x u
  own : ∀ b blk, η[b]? = some blk → lo ≤ b → blk.cells.length ≤ W.cs b ∧ (0 < W.cs b → ∃ B cur, W.ι b = ⟨B, 0, none⟩ ∧ w.heap[B]? = some (.cells cur blk.ty (0, 0)) ∧ cur.size = W.cs b)
  sep : ∀ b b' blk, η[b]? = some blk → b' < η.length → lo ≤ b' → 0 < W.cs b' → b ≠ b' → (if lo ≤ b then 0 < W.cs b else blk.cells ≠ []) → (W.ι b).block ≠ (W.ι b').block

structure LSim (lo : Nat) (W : Wit) (η : List Blk) (lam : Nat → LB) (κ : Nat → Nat) (w : World) : Prop where
  row : ∀ s, 0 < (lam s).ver → ∃ cur T, w.heap[κ s]? = some (.cells cur T (0, 0)) ∧ RL (Rc lo W η lam κ) (lam s).cells cur
  ll : ∀ s s', 0 < (lam s).ver → 0 < (lam s').ver → s ≠ s' → κ s ≠ κ s'
  lh : ∀ s b blk, 0 < (lam s).ver → η[b]? = some blk → (if lo ≤ b then 0 < W.cs b else blk.cells ≠ []) → (W.ι b).block ≠ κ s

structure Fr (h0 : Nat) (S : Nat → Prop) (w w' : World) : Prop where
  os : w'.os = w.os
  tape : w'.tape = w.tape
  output : w'.output = w.output
  size : w.heap.size ≤ w'.heap.size
  block : ∀ k, k < h0 → ¬ S k → w'.heap[k]? = w.heap[k]?

theorem Fr.refl (h0 : Nat) (S : Nat → Prop) (w : World) : Fr h0 S w w := ⟨rfl, rfl, rfl, Nat.le_refl _, fun _ _ _ => rfl⟩
theorem Fr.trans {h0 : Nat} {S : Nat → Prop} {a b c : World} (h : Fr h0 S a b) (k : Fr h0 S b c) : Fr h0 S a c :=
  ⟨k.os.trans h.os, k.tape.trans h.tape, k.output.trans h.output, Nat.le_trans h.size k.size, fun i hi hs => (k.block i hi hs).trans (h.block i hi hs)⟩

structure Sim (lo h0 : Nat) (S : Nat → Prop) (W : Wit) (κ : Nat → Nat) (st : St) (a : Act) (w : World) : Prop where
  hs : HSim lo W st.η w
  ls : LSim lo W st.η st.lam κ w
  ts : a.tmps.size = st.n
  tm : ∀ t, t < st.n → Rv lo W st.η st.lam κ (st.τ t) (a.tmps.getD t undef)
  df : a.defers = []
  h0le : h0 ≤ w.heap.size
  oS : ∀ b, lo ≤ b → b < st.η.length → 0 < W.cs b → S (W.ι b).block ∨ h0 ≤ (W.ι b).block
  lS : ∀ s, 0 < (st.lam s).ver → h0 ≤ κ s

/-- What is known of the machine's state, by what is known of the abstract one. -/
def CP (lo h0 : Nat) (S : Nat → Prop) (W0 : Wit) (η0 : List Blk) (w0 : World) (Q : Exit → St → Prop) : Exit → Act → World → Prop := fun e a' w' =>
  ∃ st' W' κ', Q e st' ∧ Sim lo h0 S W' κ' st' a' w' ∧ HStep lo η0 st'.η W0 W' ∧ Fr h0 S w0 w'

theorem CP.trans {lo h0 : Nat} {S : Nat → Prop} {W0 W1 : Wit} {η0 η1 : List Blk} {w0 w1 : World} {Q : Exit → St → Prop} {e : Exit} {a' : Act} {w' : World} (h : HStep lo η0 η1 W0 W1) (hf : Fr h0 S w0 w1)
    (k : CP lo h0 S W1 η1 w1 Q e a' w') : CP lo h0 S W0 η0 w0 Q e a' w' :=
  let ⟨st', W', κ', q, s, h', f'⟩ := k
  ⟨st', W', κ', q, s, h.trans h', hf.trans f'⟩

theorem CP.mono {lo h0 : Nat} {S : Nat → Prop} {W0 : Wit} {η0 : List Blk} {w0 : World} {Q Q' : Exit → St → Prop} {e : Exit} {a' : Act} {w' : World} (h : ∀ st, Q e st → Q' e st)
    (k : CP lo h0 S W0 η0 w0 Q e a' w') : CP lo h0 S W0 η0 w0 Q' e a' w' :=
  let ⟨st', W', κ', q, s, h', f'⟩ := k
  ⟨st', W', κ', h _ q, s, h', f'⟩

/-- A piece of code, said of abstract states. -/
def AW (P : Program) (lo : Nat) (c : Code) (Q : Exit → St → Prop) (st : St) : Prop :=
  ∀ h0 S W κ a w, Sim lo h0 S W κ st a w → c.wp P (CP lo h0 S W st.η w Q) a w

/-- A function with a body of its own. -/
def CanCall (P : Program) (f : FuncId) : Prop := ∃ fn, P.funcs[f]? = some fn ∧ (fn.name == "runtime.NumGoroutine") = false ∧ fn.body.isNone = false

/-- A call, said of abstract values and heaps. -/
def AF (P : Program) (lo : Nat) (f : FuncId) (args : List AV) (η : List Blk) (Q : AV → List Blk → Prop) : Prop :=
  CanCall P f ∧ ∀ W w us, HSim lo W η w → RL (Rv lo W η lam0 kap0) args us →
    Calls P f us w fun e w' => ∃ v η' W' u, e = .returned u ∧ Q v η' ∧ Rv lo W' η' lam0 kap0 v u ∧ HSim lo W' η' w' ∧ HStep lo η η' W W' ∧
      (∀ b, lo ≤ b → b < η'.length → 0 < W'.cs b → (∃ b0, lo ≤ b0 ∧ b0 < η.length ∧ 0 < W.cs b0 ∧ (W.ι b0).block = (W'.ι b).block) ∨ w.heap.size ≤ (W'.ι b).block) ∧
      Fr w.heap.size (fun k => ∃ b, lo ≤ b ∧ b < η.length ∧ 0 < W.cs b ∧ (W.ι b).block = k) w w'

theorem AF.mono {P : Program} {lo : Nat} {f : FuncId} {args : List AV} {η : List Blk} {Q Q' : AV → List Blk → Prop} (h : AF P lo f args η Q) (hq : ∀ v η', Q v η' → Q' v η') : AF P lo f args η Q' :=
  ⟨h.1, fun W w us h1 h2 => (h.2 W w us h1 h2).mono fun _ _ ⟨v, η', W', u, e, q, r⟩ => ⟨v, η', W', u, e, hq _ _ q, r⟩⟩

section flow
variable {P : Program} {lo : Nat} {Q : Exit → St → Prop} {st : St}

theorem AW_mono {c : Code} {Q' : Exit → St → Prop} (h : AW P lo c Q st) (hq : ∀ e st, Q e st → Q' e st) : AW P lo c Q' st :=
  fun h0 S W κ a w s => wp_mono (h h0 S W κ a w s) fun _ _ _ k => k.mono (hq _)

theorem CP.here {lo h0 : Nat} {S : Nat → Prop} {W : Wit} {κ : Nat → Nat} {a : Act} {w : World} {Q : Exit → St → Prop} {st : St} {e : Exit} (s : Sim lo h0 S W κ st a w) (q : Q e st) : CP lo h0 S W st.η w Q e a w :=
  ⟨st, W, κ, q, s, .refl _ _ _, .refl _ _ _⟩

theorem AW_skip (h : Q .normal st) : AW P lo .skip Q st := fun _ _ _ _ _ _ s => wp_skip (CP.here s h)
theorem AW_exit {id : Nat} (h : Q (.exit id) st) : AW P lo (.exit id) Q st := fun _ _ _ _ _ _ s => wp_exit (CP.here s h)
theorem AW_ret (h : Q .ret st) : AW P lo .ret Q st := fun _ _ _ _ _ _ s => wp_ret (CP.here s h)

def thenA (K : St → Prop) (Q : Exit → St → Prop) : Exit → St → Prop := fun e st => match e with | .normal => K st | e => Q e st

theorem AW_seq {x y : Code} (h : AW P lo x (thenA (AW P lo y Q) Q) st) : AW P lo (.seq x y) Q st := by
  intro h0 S W κ a w s
  refine wp_seq (wp_mono (h h0 S W κ a w s) ?_)
  intro e a' w' ⟨st', W', κ', q, s', hh, hf⟩
  cases e with
  | normal => exact wp_mono (q h0 S W' κ' a' w' s') fun _ _ _ k => k.trans hh hf
  | exit id => exact ⟨st', W', κ', q, s', hh, hf⟩
  | goto l => exact ⟨st', W', κ', q, s', hh, hf⟩
  | ret => exact ⟨st', W', κ', q, s', hh, hf⟩
  | panic c => exact ⟨st', W', κ', q, s', hh, hf⟩
  | outgrown => exact ⟨st', W', κ', q, s', hh, hf⟩

def inBlockA (id : Nat) (Q : Exit → St → Prop) : Exit → St → Prop := fun e st => match e with | .exit id' => if id' = id then Q .normal st else Q (.exit id') st | e => Q e st

theorem AW_block {id : Nat} {c : Code} (h : AW P lo c (inBlockA id Q) st) : AW P lo (.block id c) Q st := by
  intro h0 S W κ a w s
  refine wp_block (wp_mono (h h0 S W κ a w s) ?_)
  intro e a' w' ⟨st', W', κ', q, s', hh, hf⟩
  cases e with
  | exit id' =>
    simp only [inBlockA] at q
    simp only [Exit.inBlock]
    split
    · rename_i hid; rw [if_pos hid] at q; exact ⟨st', W', κ', q, s', hh, hf⟩
    · rename_i hid; rw [if_neg hid] at q; exact ⟨st', W', κ', q, s', hh, hf⟩
  | normal => exact ⟨st', W', κ', q, s', hh, hf⟩
  | goto l => exact ⟨st', W', κ', q, s', hh, hf⟩
  | ret => exact ⟨st', W', κ', q, s', hh, hf⟩
  | panic c => exact ⟨st', W', κ', q, s', hh, hf⟩
  | outgrown => exact ⟨st', W', κ', q, s', hh, hf⟩

theorem AW_loop {c : Code} (I : St → Prop) (μ : St → Nat) (hI : I st) (round : ∀ st, I st → AW P lo c (thenA (fun st' => I st' ∧ μ st' < μ st) Q) st) : AW P lo (.loop c) Q st := by
  intro h0 S W κ a w s
  refine wp_loop_ghost (fun n a' w' => ∃ st' W' κ', I st' ∧ μ st' = n ∧ Sim lo h0 S W' κ' st' a' w' ∧ HStep lo st.η st'.η W W' ∧ Fr h0 S w w') (μ st) ⟨st, W, κ, hI, rfl, s, .refl _ _ _, .refl _ _ _⟩ ?_
  rintro n a' w' ⟨st', W', κ', hI', rfl, s', hh, hf⟩
  refine wp_mono (round st' hI' h0 S W' κ' a' w' s') ?_
  intro e a'' w'' ⟨st'', W'', κ'', q, s'', hh', hf'⟩
  cases e with
  | normal => exact ⟨μ st'', q.2, st'', W'', κ'', q.1, rfl, s'', hh.trans hh', hf.trans hf'⟩
  | exit id => exact ⟨st'', W'', κ'', q, s'', hh.trans hh', hf.trans hf'⟩
  | goto l => exact ⟨st'', W'', κ'', q, s'', hh.trans hh', hf.trans hf'⟩
  | ret => exact ⟨st'', W'', κ'', q, s'', hh.trans hh', hf.trans hf'⟩
  | panic c => exact ⟨st'', W'', κ'', q, s'', hh.trans hh', hf.trans hf'⟩
  | outgrown => exact ⟨st'', W'', κ'', q, s'', hh.trans hh', hf.trans hf'⟩
end flow

/-! ### operands -/
def cvc : Value → AV
  | .int k n => .int k n
  | .bool b => .bool b
  | .string s => .str s
  | .slice none 0 0 => .nils
  | _ => .und
def cv : Value → AV
  | .agg arr => if arr.all (·.oneCell') then .agg (arr.toList.map cvc) else .und
  | v => if v.oneCell' then cvc v else .und

def ev (st : St) : Operand → AV
  | .tmp t => if t < st.n then st.τ t else .und
  | .const v => cv v
  | .global _ => .und
  | .func f => .fn f []

section
variable {lo : Nat} {W : Wit} {η : List Blk} {lam : Nat → LB} {κ : Nat → Nat}
theorem Rs_cvc (v : Value) : Rs lo W η lam κ (cvc v) v := by
  unfold cvc
  split <;> simp [Rs]
theorem Rv_und (u : Value) : Rv lo W η lam κ .und u := .inl rfl
theorem Rv_cv (v : Value) : Rv lo W η lam κ (cv v) v := by
  unfold cv
  split
  · rename_i arr
    split
    · rename_i hall
      refine .inr (.inr (.inl ⟨_, arr, rfl, rfl, by simp, fun i x hx => ?_⟩))
      rw [List.getElem?_map, Array.getElem?_toList] at hx
      cases hu : arr[i]? with
      | none => rw [hu] at hx; cases hx
      | some u =>
        rw [hu] at hx; simp only [Option.map_some, Option.some.injEq] at hx; subst hx
        exact ⟨u, rfl, (Array.all_eq_true_iff_forall_mem.1 hall) u (Array.mem_of_getElem? hu), Rs_cvc u⟩
    · exact Rv_und _
  · split
    · rename_i h1; exact .inr (.inr (.inr ⟨h1, Rs_cvc _⟩))
    · exact Rv_und _

theorem ev_ok {h0 : Nat} {S : Nat → Prop} {st : St} {a : Act} {w : World} (s : Sim lo h0 S W κ st a w) (x : Operand) : Rv lo W st.η st.lam κ (ev st x) (a.eval x) := by
  cases x with
  | tmp t =>
    simp only [ev, Act.eval]
    split
    · exact s.tm t ‹_›
    · exact Rv_und _
  | const v => exact Rv_cv v
  | global g => exact Rv_und _
  | func f => exact .inr (.inr (.inr ⟨rfl, #[], rfl, rfl, fun i x hx => by simp at hx⟩))
end

end Go.Proofs.Ytffefndnnbcplaa
