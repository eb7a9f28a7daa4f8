/- An abstract logic over the kit's rules: values without addresses, a heap of lists, local variables apart; the relation to the machine's states and the rules of control flow. -/
import Derived.Control
import Derived.Calls
import Derived.Orders
import Derived.Laws.Sem
import Derived.Laws.World
import Derived.Laws.Cells
import Derived.Laws.Append
import Derived.Laws.AppendOwn
import Derived.Laws.Slices
import Derived.Laws.MakeOwn
import Derived.Deep.Slices
import Derived.Deep.LoopGhost
import Derived.Laws.StructEq
import Derived.MapKept
import Derived.WideKeyRuns
namespace Go.Proofs.YtaalpmbopkbdiaaGreat
open Go

/-- Abstract values. 'sl b ver off len': a slice of block b; 'slc': its capacity is known, too; 'ptr': a cell's address; 'loc s': a local variable's address. -/
inductive AV where
  | und
  | int (k : IntKind) (n : Int)
  | bool (b : Bool)
  | str (s : ByteArray)
  | nils
  | emp
  | sl (b ver off len : Nat)
  | slc (b ver off len cap : Nat)
  | ptr (b ver off : Nat)
  | loc (s ver off : Nat)
  | mp (s ver : Nat)
  | fn (g : Nat) (caps : List AV)
  | agg (l : List AV)
  | tup (l : List AV)

structure Blk where
  ver : Nat
  ty : TypeId
  sz : Nat
  cells : List AV

structure LB where
  ver : Nat
  cells : List AV

structure St where
  n : Nat
  τ : Nat → AV
  lam : Nat → LB
  η : List Blk

structure Wit where
  ι : Nat → Addr
  cs : Nat → Nat

def lam0 : Nat → LB := fun _ => ⟨0, []⟩
def kap0 : Nat → Nat := fun _ => 0

def upd {α : Type} (f : Nat → α) (i : Nat) (v : α) : Nat → α := fun j => if j = i then v else f j

/-- What stands for a map: one cell, the list of the keys at which it holds 'true'. -/
def isMapL : List AV → Bool
  | [.tup _] => true
  | _ => false
def intsOf : List AV → Option (List (IntKind × Int))
  | [] => some []
  | .int k n :: r => (intsOf r).map ((k, n) :: ·)
  | _ :: _ => none
/-- A map's entries: keys that are rows of whole numbers, all at 'true'. -/
def MRel (ks : List AV) (es : Array MapEntry) : Prop := es.size = ks.length ∧ ∀ (i : Nat) k, ks[i]? = some k → ∃ e l a, es[i]? = some e ∧ k = .agg l ∧ intsOf l = some a ∧ e.key = .agg (a.map fun p => Value.int p.1 p.2).toArray ∧ e.val = .bool true
/-- A local's block in the machine. -/
inductive RowO where
  | cells (c : Array Value) (T : TypeId)
  | mp (es : Array MapEntry) (clk : Nat)
def RowO.obj : RowO → Obj
  | .cells c T => .cells c T (0, 0)
  | .mp es clk => .map es clk
/-- A list of abstract values, cell by cell. -/
def RL (R : AV → Value → Prop) (l : List AV) (arr : Array Value) : Prop := arr.size = l.length ∧ ∀ (i : Nat) x, l[i]? = some x → ∃ u, arr[i]? = some u ∧ R x u

section rel
variable (lo : Nat) (W : Wit) (η : List Blk) (lam : Nat → LB) (κ : Nat → Nat)

def Rp : AV → Value → Prop
  | .ptr b ver off, u => ∃ blk, η[b]? = some blk ∧ ver ≤ blk.ver ∧ (ver = blk.ver → u = .pointer (some ((W.ι b).add off)))
  | _, _ => False

/-- What a cell's value looks like. -/
def Rs : AV → Value → Prop
  | .und, _ => True
  | .int k n, u => u = .int k n
  | .bool b, u => u = .bool b
  | .str s, u => u = .string s
  | .nils, u => u = .slice none 0 0
  | .emp, u => ∃ a, u = .slice (some a) 0 0
  | .sl b ver off len, u => ∃ blk, η[b]? = some blk ∧ ver ≤ blk.ver ∧ (ver = blk.ver → ∃ a cap, u = .slice (some a) len cap ∧ len ≤ cap ∧ (cap = 0 ∨ (a = (W.ι b).add off ∧ (lo ≤ b → off + cap * blk.sz ≤ W.cs b))))
  | .slc b ver off len cap, u => lo ≤ b ∧ ∃ blk, η[b]? = some blk ∧ ver ≤ blk.ver ∧ (ver = blk.ver → ∃ a, u = .slice (some a) len cap ∧ len ≤ cap ∧ (cap = 0 ∨ (a = (W.ι b).add off ∧ off + cap * blk.sz ≤ W.cs b)))
  | .ptr b ver off, u => Rp W η (.ptr b ver off) u
  | .loc s ver off, u => 0 < ver ∧ ver ≤ (lam s).ver ∧ (ver = (lam s).ver → isMapL (lam s).cells = false ∧ u = .pointer (some ⟨κ s, off, none⟩))
  | .mp s ver, u => 0 < ver ∧ ver ≤ (lam s).ver ∧ (ver = (lam s).ver → isMapL (lam s).cells = true ∧ u = .map (some (κ s)))
  | .fn g caps, u => ∃ arr, u = .func (.func g) #[] arr ∧ RL (fun x u => u.oneCell' = true ∧ Rp W η x u) caps arr
  | .agg _, _ => False
  | .tup _, _ => False

def Rc (x : AV) (u : Value) : Prop := u.oneCell' = true ∧ Rs lo W η lam κ x u

def R1 (x : AV) (u : Value) : Prop := (∃ l arr, x = .agg l ∧ u = .agg arr ∧ RL (Rc lo W η lam κ) l arr) ∨ Rc lo W η lam κ x u

def Rv (x : AV) (u : Value) : Prop := x = .und ∨ (∃ l arr, x = .tup l ∧ u = .tuple arr ∧ RL (R1 lo W η lam κ) l arr) ∨ R1 lo W η lam κ x u
end rel

theorem RL.mono {R R' : AV → Value → Prop} {l : List AV} {arr : Array Value} (h : RL R l arr) (hr : ∀ x u, R x u → R' x u) : RL R' l arr :=
  ⟨h.1, fun i x hx => let ⟨u, h1, h2⟩ := h.2 i x hx; ⟨u, h1, hr _ _ h2⟩⟩

def RowO.rel (R : AV → Value → Prop) (l : List AV) : RowO → Prop
  | .cells c _ => RL R l c
  | .mp es _ => ∃ ks, l = [.tup ks] ∧ MRel ks es
theorem RowO.rel.mono {R R' : AV → Value → Prop} {l : List AV} {o : RowO} (h : o.rel R l) (hr : ∀ x u, R x u → R' x u) : o.rel R' l := by
  cases o with
  | cells c T => exact RL.mono h hr
  | mp es clk => exact h

/-- From one heap to a later one. -/
structure HStep (lo : Nat) (η η' : List Blk) (W W' : Wit) : Prop where
  pre : ∀ b, b < lo → η'[b]? = η[b]? ∧ W'.ι b = W.ι b ∧ W'.cs b = W.cs b
  old : ∀ b blk, η[b]? = some blk → ∃ blk', η'[b]? = some blk' ∧ blk.ver ≤ blk'.ver ∧ blk'.sz = blk.sz ∧ blk'.ty = blk.ty ∧ (blk.ver = blk'.ver → W'.ι b = W.ι b ∧ W'.cs b = W.cs b)

theorem HStep.refl (lo : Nat) (η : List Blk) (W : Wit) : HStep lo η η W W := ⟨fun _ _ => ⟨rfl, rfl, rfl⟩, fun _ blk h => ⟨blk, h, Nat.le_refl _, rfl, rfl, fun _ => ⟨rfl, rfl⟩⟩⟩

theorem HStep.trans {lo : Nat} {η η' η'' : List Blk} {W W' W'' : Wit} (h : HStep lo η η' W W') (k : HStep lo η' η'' W' W'') : HStep lo η η'' W W'' := by
  refine ⟨fun b hb => ?_, fun b blk hb => ?_⟩
  · obtain ⟨a1, a2, a3⟩ := h.pre b hb
    obtain ⟨b1, b2, b3⟩ := k.pre b hb
    exact ⟨b1.trans a1, b2.trans a2, b3.trans a3⟩
  · obtain ⟨blk', h1, h2, h3, h3', h4⟩ := h.old b blk hb
    obtain ⟨blk'', k1, k2, k3, k3', k4⟩ := k.old b blk' h1
    refine ⟨blk'', k1, Nat.le_trans h2 k2, k3.trans h3, k3'.trans h3', fun e => ?_⟩
    have e1 : blk.ver = blk'.ver := by omega
    have e2 : blk'.ver = blk''.ver := by omega
    exact ⟨(k4 e2).1.trans (h4 e1).1, (k4 e2).2.trans (h4 e1).2⟩

theorem HStep.len {lo : Nat} {η η' : List Blk} {W W' : Wit} (h : HStep lo η η' W W') : η.length ≤ η'.length := by
  rcases Nat.lt_or_ge η'.length η.length with hl | hl
  · obtain ⟨blk', h1, _⟩ := h.old η'.length _ (List.getElem?_eq_getElem hl)
    simp at h1
  · exact hl

/-- Locals: as they were, or laid anew. -/
def LStep (lam lam' : Nat → LB) (κ κ' : Nat → Nat) : Prop := ∀ s, (lam s).ver ≤ (lam' s).ver ∧ ((lam s).ver = (lam' s).ver → κ' s = κ s ∧ isMapL (lam' s).cells = isMapL (lam s).cells)
theorem LStep.refl (lam : Nat → LB) (κ : Nat → Nat) : LStep lam lam κ κ := fun _ => ⟨Nat.le_refl _, fun _ => ⟨rfl, rfl⟩⟩

section mono
variable {lo : Nat} {W W' : Wit} {η η' : List Blk} {lam lam' : Nat → LB} {κ κ' : Nat → Nat}

theorem Rp_mono (h : HStep lo η η' W W') {x : AV} {u : Value} (hr : Rp W η x u) : Rp W' η' x u := by
  cases x <;> simp only [Rp] at hr ⊢
  obtain ⟨blk, h1, h2, h3⟩ := hr
  obtain ⟨blk', k1, k2, k3, _, k4⟩ := h.old _ _ h1
  refine ⟨blk', k1, Nat.le_trans h2 k2, fun e => ?_⟩
  have e1 : blk.ver = blk'.ver := by omega
  rw [(k4 e1).1]
  exact h3 (by omega)

theorem Rs_mono (h : HStep lo η η' W W') (hl : LStep lam lam' κ κ') {x : AV} {u : Value} (hr : Rs lo W η lam κ x u) : Rs lo W' η' lam' κ' x u := by
  cases x with
  | sl b ver off len =>
    obtain ⟨blk, h1, h2, h3⟩ := hr
    obtain ⟨blk', k1, k2, k3, _, k4⟩ := h.old _ _ h1
    refine ⟨blk', k1, Nat.le_trans h2 k2, fun e => ?_⟩
    have e1 : blk.ver = blk'.ver := by omega
    rw [(k4 e1).1, (k4 e1).2, k3]
    exact h3 (by omega)
  | slc b ver off len cap =>
    obtain ⟨hlo, blk, h1, h2, h3⟩ := hr
    obtain ⟨blk', k1, k2, k3, _, k4⟩ := h.old _ _ h1
    refine ⟨hlo, blk', k1, Nat.le_trans h2 k2, fun e => ?_⟩
    have e1 : blk.ver = blk'.ver := by omega
    rw [(k4 e1).1, (k4 e1).2, k3]
    exact h3 (by omega)
  | ptr b ver off => exact Rp_mono (x := .ptr b ver off) h hr
  | loc s ver off =>
    obtain ⟨h0, h1, h2⟩ := hr
    refine ⟨h0, Nat.le_trans h1 (hl s).1, fun e => ?_⟩
    have e1 : (lam s).ver = (lam' s).ver := by have := (hl s).1; omega
    rw [((hl s).2 e1).1, ((hl s).2 e1).2]
    exact h2 (by omega)
  | mp s ver =>
    obtain ⟨h0, h1, h2⟩ := hr
    refine ⟨h0, Nat.le_trans h1 (hl s).1, fun e => ?_⟩
    have e1 : (lam s).ver = (lam' s).ver := by have := (hl s).1; omega
    rw [((hl s).2 e1).1, ((hl s).2 e1).2]
    exact h2 (by omega)
  | fn g caps =>
    obtain ⟨arr, rfl, ha⟩ := hr
    exact ⟨arr, rfl, ha.mono fun x u h' => ⟨h'.1, Rp_mono h h'.2⟩⟩
  | und => exact hr
  | int k n => exact hr
  | bool b => exact hr
  | str s => exact hr
  | nils => exact hr
  | emp => exact hr
  | agg l => exact hr
  | tup l => exact hr

theorem Rc_mono (h : HStep lo η η' W W') (hl : LStep lam lam' κ κ') {x : AV} {u : Value} (hr : Rc lo W η lam κ x u) : Rc lo W' η' lam' κ' x u := ⟨hr.1, Rs_mono h hl hr.2⟩

theorem R1_mono (h : HStep lo η η' W W') (hl : LStep lam lam' κ κ') {x : AV} {u : Value} (hr : R1 lo W η lam κ x u) : R1 lo W' η' lam' κ' x u := by
  rcases hr with ⟨l, arr, rfl, rfl, ha⟩ | hr
  · exact .inl ⟨l, arr, rfl, rfl, ha.mono fun _ _ h' => Rc_mono h hl h'⟩
  · exact .inr (Rc_mono h hl hr)

theorem Rv_mono (h : HStep lo η η' W W') (hl : LStep lam lam' κ κ') {x : AV} {u : Value} (hr : Rv lo W η lam κ x u) : Rv lo W' η' lam' κ' x u := by
  rcases hr with rfl | ⟨l, arr, rfl, rfl, ha⟩ | hr
  · exact .inl rfl
  · exact .inr (.inl ⟨l, arr, rfl, rfl, ha.mono fun _ _ h' => R1_mono h hl h'⟩)
  · exact .inr (.inr (R1_mono h hl hr))

theorem Rc_lam0 {x : AV} {u : Value} (hr : Rc lo W η lam0 kap0 x u) : Rc lo W η lam κ x u := by
  cases x <;> first | exact hr | skip
  all_goals
    obtain ⟨_, h0, h1, _⟩ := hr
    simp [lam0] at h1
    omega
theorem R1_lam0 {x : AV} {u : Value} (hr : R1 lo W η lam0 kap0 x u) : R1 lo W η lam κ x u := by
  rcases hr with ⟨l, arr, rfl, rfl, ha⟩ | hr
  · exact .inl ⟨l, arr, rfl, rfl, ha.mono fun _ _ h' => Rc_lam0 h'⟩
  · exact .inr (Rc_lam0 hr)
theorem Rv_lam0 {x : AV} {u : Value} (hr : Rv lo W η lam0 kap0 x u) : Rv lo W η lam κ x u := by
  rcases hr with rfl | ⟨l, arr, rfl, rfl, ha⟩ | hr
  · exact .inl rfl
  · exact .inr (.inl ⟨l, arr, rfl, rfl, ha.mono fun _ _ h' => R1_lam0 h'⟩)
  · exact .inr (.inr (R1_lam0 hr))
end mono

/-- The abstract heap in the world. -/
structure HSim (lo : Nat) (W : Wit) (η : List Blk) (w : World) : Prop where
  lo_le : lo ≤ η.length
  cell : ∀ b blk, η[b]? = some blk → ∀ j x, blk.cells[j]? = some x → ∃ u, w.cell? ((W.ι b).add j) = some u ∧ Rc lo W η lam0 kap0 x u
  own : ∀ b blk, η[b]? = some blk → lo ≤ b → blk.cells.length ≤ W.cs b ∧ (0 < W.cs b → ∃ B cur, W.ι b = ⟨B, 0, none⟩ ∧ w.heap[B]? = some (.cells cur blk.ty (0, 0)) ∧ cur.size = W.cs b)
  sep : ∀ b b' blk, η[b]? = some blk → b' < η.length → lo ≤ b' → 0 < W.cs b' → b ≠ b' → (if lo ≤ b then 0 < W.cs b else blk.cells ≠ []) → (W.ι b).block ≠ (W.ι b').block

structure LSim (lo : Nat) (W : Wit) (η : List Blk) (lam : Nat → LB) (κ : Nat → Nat) (w : World) : Prop where
  row : ∀ s, 0 < (lam s).ver → ∃ o : RowO, w.heap[κ s]? = some o.obj ∧ o.rel (Rc lo W η lam κ) (lam s).cells
  ll : ∀ s s', 0 < (lam s).ver → 0 < (lam s').ver → s ≠ s' → κ s ≠ κ s'
  lh : ∀ s b blk, 0 < (lam s).ver → η[b]? = some blk → (if lo ≤ b then 0 < W.cs b else blk.cells ≠ []) → (W.ι b).block ≠ κ s

structure Fr (h0 : Nat) (S : Nat → Prop) (w w' : World) : Prop where
  os : w'.os = w.os
  tape : w'.tape = w.tape
  output : w'.output = w.output
  size : w.heap.size ≤ w'.heap.size
  block : ∀ k, k < h0 → ¬ S k → w'.heap[k]? = w.heap[k]?

theorem Fr.refl (h0 : Nat) (S : Nat → Prop) (w : World) : Fr h0 S w w := ⟨rfl, rfl, rfl, Nat.le_refl _, fun _ _ _ => rfl⟩
theorem Fr.trans {h0 : Nat} {S : Nat → Prop} {a b c : World} (h : Fr h0 S a b) (k : Fr h0 S b c) : Fr h0 S a c :=
  ⟨k.os.trans h.os, k.tape.trans h.tape, k.output.trans h.output, Nat.le_trans h.size k.size, fun i hi hs => (k.block i hi hs).trans (h.block i hi hs)⟩

structure Sim (lo h0 : Nat) (S : Nat → Prop) (W : Wit) (κ : Nat → Nat) (st : St) (a : Act) (w : World) : Prop where
  hs : HSim lo W st.η w
  ls : LSim lo W st.η st.lam κ w
  ts : a.tmps.size = st.n
  tm : ∀ t, t < st.n → Rv lo W st.η st.lam κ (st.τ t) (a.tmps.getD t undef)
  df : a.defers = []
  h0le : h0 ≤ w.heap.size
  oS : ∀ b, lo ≤ b → b < st.η.length → 0 < W.cs b → S (W.ι b).block ∨ h0 ≤ (W.ι b).block
  lS : ∀ s, 0 < (st.lam s).ver → h0 ≤ κ s

/-- What is known of the machine's state, by what is known of the abstract one. -/
def CP (lo h0 : Nat) (S : Nat → Prop) (W0 : Wit) (η0 : List Blk) (w0 : World) (Q : Exit → St → Prop) : Exit → Act → World → Prop := fun e a' w' =>
  ∃ st' W' κ', Q e st' ∧ Sim lo h0 S W' κ' st' a' w' ∧ HStep lo η0 st'.η W0 W' ∧ Fr h0 S w0 w'

theorem CP.trans {lo h0 : Nat} {S : Nat → Prop} {W0 W1 : Wit} {η0 η1 : List Blk} {w0 w1 : World} {Q : Exit → St → Prop} {e : Exit} {a' : Act} {w' : World} (h : HStep lo η0 η1 W0 W1) (hf : Fr h0 S w0 w1)
    (k : CP lo h0 S W1 η1 w1 Q e a' w') : CP lo h0 S W0 η0 w0 Q e a' w' :=
  let ⟨st', W', κ', q, s, h', f'⟩ := k
  ⟨st', W', κ', q, s, h.trans h', hf.trans f'⟩

theorem CP.mono {lo h0 : Nat} {S : Nat → Prop} {W0 : Wit} {η0 : List Blk} {w0 : World} {Q Q' : Exit → St → Prop} {e : Exit} {a' : Act} {w' : World} (h : ∀ st, Q e st → Q' e st)
    (k : CP lo h0 S W0 η0 w0 Q e a' w') : CP lo h0 S W0 η0 w0 Q' e a' w' :=
  let ⟨st', W', κ', q, s, h', f'⟩ := k
  ⟨st', W', κ', h _ q, s, h', f'⟩

/-- A piece of code, said of abstract states. -/
def AW (P : Program) (lo : Nat) (c : Code) (Q : Exit → St → Prop) (st : St) : Prop :=
  ∀ h0 S W κ a w, Sim lo h0 S W κ st a w → c.wp P (CP lo h0 S W st.η w Q) a w

/-- A function with a body of its own. -/
def CanCall (P : Program) (f : FuncId) : Prop := ∃ fn, P.funcs[f]? = some fn ∧ (fn.name == "runtime.NumGoroutine") = false ∧ fn.body.isNone = false

/-- A call, said of abstract values and heaps. -/
def AF (P : Program) (lo : Nat) (f : FuncId) (args : List AV) (η : List Blk) (Q : AV → List Blk → Prop) : Prop :=
  CanCall P f ∧ ∀ W w us, HSim lo W η w → RL (Rv lo W η lam0 kap0) args us →
    Calls P f us w fun e w' => ∃ v η' W' u, e = .returned u ∧ Q v η' ∧ Rv lo W' η' lam0 kap0 v u ∧ HSim lo W' η' w' ∧ HStep lo η η' W W' ∧
      (∀ b, lo ≤ b → b < η'.length → 0 < W'.cs b → (∃ b0, lo ≤ b0 ∧ b0 < η.length ∧ 0 < W.cs b0 ∧ (W.ι b0).block = (W'.ι b).block) ∨ w.heap.size ≤ (W'.ι b).block) ∧
      Fr w.heap.size (fun k => ∃ b, lo ≤ b ∧ b < η.length ∧ 0 < W.cs b ∧ (W.ι b).block = k) w w'

theorem AF.mono {P : Program} {lo : Nat} {f : FuncId} {args : List AV} {η : List Blk} {Q Q' : AV → List Blk → Prop} (h : AF P lo f args η Q) (hq : ∀ v η', Q v η' → Q' v η') : AF P lo f args η Q' :=
  ⟨h.1, fun W w us h1 h2 => (h.2 W w us h1 h2).mono fun _ _ ⟨v, η', W', u, e, q, r⟩ => ⟨v, η', W', u, e, hq _ _ q, r⟩⟩

section flow
variable {P : Program} {lo : Nat} {Q : Exit → St → Prop} {st : St}

theorem AW_mono {c : Code} {Q' : Exit → St → Prop} (h : AW P lo c Q st) (hq : ∀ e st, Q e st → Q' e st) : AW P lo c Q' st :=
  fun h0 S W κ a w s => wp_mono (h h0 S W κ a w s) fun _ _ _ k => k.mono (hq _)

theorem CP.here {lo h0 : Nat} {S : Nat → Prop} {W : Wit} {κ : Nat → Nat} {a : Act} {w : World} {Q : Exit → St → Prop} {st : St} {e : Exit} (s : Sim lo h0 S W κ st a w) (q : Q e st) : CP lo h0 S W st.η w Q e a w :=
  ⟨st, W, κ, q, s, .refl _ _ _, .refl _ _ _⟩

theorem AW_skip (h : Q .normal st) : AW P lo .skip Q st := fun _ _ _ _ _ _ s => wp_skip (CP.here s h)
theorem AW_exit {id : Nat} (h : Q (.exit id) st) : AW P lo (.exit id) Q st := fun _ _ _ _ _ _ s => wp_exit (CP.here s h)
theorem AW_ret (h : Q .ret st) : AW P lo .ret Q st := fun _ _ _ _ _ _ s => wp_ret (CP.here s h)

def thenA (K : St → Prop) (Q : Exit → St → Prop) : Exit → St → Prop := fun e st => match e with | .normal => K st | e => Q e st

theorem AW_seq {x y : Code} (h : AW P lo x (thenA (AW P lo y Q) Q) st) : AW P lo (.seq x y) Q st := by
  intro h0 S W κ a w s
  refine wp_seq (wp_mono (h h0 S W κ a w s) ?_)
  intro e a' w' ⟨st', W', κ', q, s', hh, hf⟩
  cases e with
  | normal => exact wp_mono (q h0 S W' κ' a' w' s') fun _ _ _ k => k.trans hh hf
  | exit id => exact ⟨st', W', κ', q, s', hh, hf⟩
  | goto l => exact ⟨st', W', κ', q, s', hh, hf⟩
  | ret => exact ⟨st', W', κ', q, s', hh, hf⟩
  | panic c => exact ⟨st', W', κ', q, s', hh, hf⟩
  | outgrown => exact ⟨st', W', κ', q, s', hh, hf⟩

def inBlockA (id : Nat) (Q : Exit → St → Prop) : Exit → St → Prop := fun e st => match e with | .exit id' => if id' = id then Q .normal st else Q (.exit id') st | e => Q e st

theorem AW_block {id : Nat} {c : Code} (h : AW P lo c (inBlockA id Q) st) : AW P lo (.block id c) Q st := by
  intro h0 S W κ a w s
  refine wp_block (wp_mono (h h0 S W κ a w s) ?_)
  intro e a' w' ⟨st', W', κ', q, s', hh, hf⟩
  cases e with
  | exit id' =>
    simp only [inBlockA] at q
    simp only [Exit.inBlock]
    split
    · rename_i hid; rw [if_pos hid] at q; exact ⟨st', W', κ', q, s', hh, hf⟩
    · rename_i hid; rw [if_neg hid] at q; exact ⟨st', W', κ', q, s', hh, hf⟩
  | normal => exact ⟨st', W', κ', q, s', hh, hf⟩
  | goto l => exact ⟨st', W', κ', q, s', hh, hf⟩
  | ret => exact ⟨st', W', κ', q, s', hh, hf⟩
  | panic c => exact ⟨st', W', κ', q, s', hh, hf⟩
  | outgrown => exact ⟨st', W', κ', q, s', hh, hf⟩

theorem AW_loop {c : Code} (I : St → Prop) (μ : St → Nat) (hI : I st) (round : ∀ st, I st → AW P lo c (thenA (fun st' => I st' ∧ μ st' < μ st) Q) st) : AW P lo (.loop c) Q st := by
  intro h0 S W κ a w s
  refine wp_loop_ghost (fun n a' w' => ∃ st' W' κ', I st' ∧ μ st' = n ∧ Sim lo h0 S W' κ' st' a' w' ∧ HStep lo st.η st'.η W W' ∧ Fr h0 S w w') (μ st) ⟨st, W, κ, hI, rfl, s, .refl _ _ _, .refl _ _ _⟩ ?_
  rintro n a' w' ⟨st', W', κ', hI', rfl, s', hh, hf⟩
  refine wp_mono (round st' hI' h0 S W' κ' a' w' s') ?_
  intro e a'' w'' ⟨st'', W'', κ'', q, s'', hh', hf'⟩
  cases e with
  | normal => exact ⟨μ st'', q.2, st'', W'', κ'', q.1, rfl, s'', hh.trans hh', hf.trans hf'⟩
  | exit id => exact ⟨st'', W'', κ'', q, s'', hh.trans hh', hf.trans hf'⟩
  | goto l => exact ⟨st'', W'', κ'', q, s'', hh.trans hh', hf.trans hf'⟩
  | ret => exact ⟨st'', W'', κ'', q, s'', hh.trans hh', hf.trans hf'⟩
  | panic c => exact ⟨st'', W'', κ'', q, s'', hh.trans hh', hf.trans hf'⟩
  | outgrown => exact ⟨st'', W'', κ'', q, s'', hh.trans hh', hf.trans hf'⟩
end flow

/-! ### operands -/
def cvc : Value → AV
  | .int k n => .int k n
  | .bool b => .bool b
  | .string s => .str s
  | .slice none 0 0 => .nils
  | _ => .und
def cv : Value → AV
  | .agg arr => if arr.all (·.oneCell') then .agg (arr.toList.map cvc) else .und
  | v => if v.oneCell' then cvc v else .und

def ev (st : St) : Operand → AV
  | .tmp t => if t < st.n then st.τ t else .und
  | .const v => cv v
  | .global _ => .und
  | .func f => .fn f []

section
variable {lo : Nat} {W : Wit} {η : List Blk} {lam : Nat → LB} {κ : Nat → Nat}
theorem Rs_cvc (v : Value) : Rs lo W η lam κ (cvc v) v := by
  unfold cvc
  split <;> simp [Rs]
theorem Rv_und (u : Value) : Rv lo W η lam κ .und u := .inl rfl
theorem Rv_cv (v : Value) : Rv lo W η lam κ (cv v) v := by
  unfold cv
  split
  · rename_i arr
    split
    · rename_i hall
      refine .inr (.inr (.inl ⟨_, arr, rfl, rfl, by simp, fun i x hx => ?_⟩))
      rw [List.getElem?_map, Array.getElem?_toList] at hx
      cases hu : arr[i]? with
      | none => rw [hu] at hx; cases hx
      | some u =>
        rw [hu] at hx; simp only [Option.map_some, Option.some.injEq] at hx; subst hx
        exact ⟨u, rfl, (Array.all_eq_true_iff_forall_mem.1 hall) u (Array.mem_of_getElem? hu), Rs_cvc u⟩
    · exact Rv_und _
  · split
    · rename_i h1; exact .inr (.inr (.inr ⟨h1, Rs_cvc _⟩))
    · exact Rv_und _

theorem ev_ok {h0 : Nat} {S : Nat → Prop} {st : St} {a : Act} {w : World} (s : Sim lo h0 S W κ st a w) (x : Operand) : Rv lo W st.η st.lam κ (ev st x) (a.eval x) := by
  cases x with
  | tmp t =>
    simp only [ev, Act.eval]
    split
    · exact s.tm t ‹_›
    · exact Rv_und _
  | const v => exact Rv_cv v
  | global g => exact Rv_und _
  | func f => exact .inr (.inr (.inr ⟨rfl, #[], rfl, rfl, fun i x hx => by simp at hx⟩))
end

end Go.Proofs.YtaalpmbopkbdiaaGreat
/- The abstract logic's operations: what each does to abstract values, to the locals and to the heap. -/
namespace Go.Proofs.YtaalpmbopkbdiaaGreat
open Go

/-! ### what is asked of the types -/
def isAggB (P : Program) (t : TypeId) : Option Bool :=
  match P.underlying t with
  | none => none
  | some (.struct _) => some true
  | some (.array _ _) => some true
  | some _ => some false
def szB (P : Program) (t : TypeId) : Option Nat := (P.info? t).map (·.size)
def bytesB (P : Program) (t : TypeId) : Option Nat := (P.info? t).map (·.bytes)
def zeroOf (z : Value) : Option (List AV) := match cv z with
  | .agg l => some l
  | .und => none
  | x => some [x]
def zeroB (P : Program) (t : TypeId) : Option (List AV) := (P.info? t).bind fun i => i.zero.bind zeroOf
/-- The elements' type and size of a slice type. -/
def elemB (P : Program) (t : TypeId) : Option (TypeId × Nat) :=
  match P.underlying t with
  | some (.slice e) => (szB P e).map fun s => (e, s)
  | _ => none
/-- A field's offset and size. -/
def fieldB (P : Program) (t : TypeId) (f : Nat) : Option (Nat × Nat) :=
  match P.underlying t with
  | some (.struct fs) => (fs[f]?).bind fun x => (szB P x.type).map fun s => (x.offset, s)
  | _ => none
/-- All fields' offsets and sizes. -/
def placesB (P : Program) (t : TypeId) : Option (List (Nat × Nat)) :=
  match P.underlying t with
  | some (.struct fs) => fs.toList.mapM fun f => (szB P f.type).map fun s => (f.offset, s)
  | _ => none
def intB (P : Program) (t : TypeId) : Option IntKind :=
  match P.underlying t with
  | some (.int k) => some k
  | _ => none

def boolB (P : Program) (t : TypeId) : Bool :=
  match P.underlying t with
  | some .bool => true
  | _ => false

/-- The cells of a value. -/
def cellsA : AV → List AV
  | .agg l => l
  | x => [x]

def noLoc : AV → Bool
  | .loc .. => false
  | .mp .. => false
  | .agg _ => false
  | .tup _ => false
  | _ => true
def noLoc1 : AV → Bool
  | .loc .. => false
  | .mp .. => false
  | .agg l => l.all noLoc
  | .tup _ => false
  | _ => true
/-- No address of a local in it. -/
def noLocV : AV → Bool
  | .tup l => l.all noLoc1
  | x => noLoc1 x
/-- A value that a variable can hold. -/
def plainV : AV → Bool
  | .und => false
  | .tup _ => false
  | _ => true
def noLocs (l : List AV) : Bool := l.all noLoc

def putCells (cs : List AV) (off : Nat) (vs : List AV) : List AV := cs.take off ++ vs ++ cs.drop (off + vs.length)

def fillA (place : Nat → Option (Nat × Nat)) (cells : List AV) : List (Nat × AV) → Option (List AV)
  | [] => some cells
  | (i, v) :: rest =>
    match place i with
    | none => none
    | some (off, size) => if plainV v = true ∧ (cellsA v).length = size ∧ off + size ≤ cells.length then fillA place (putCells cells off (cellsA v)) rest else none

def binI (op : BinOp) (k : IntKind) (x y : Int) : Option AV :=
  match op with
  | .add => some (.int k (k.wrap (x + y)))
  | .sub => some (.int k (k.wrap (x - y)))
  | .mul => some (.int k (k.wrap (x * y)))
  | .quo => if y = 0 then none else some (.int k (k.wrap (x.tdiv y)))
  | .rem => if y = 0 then none else some (.int k (x.tmod y))
  | .and => some (.int k (k.wrap (BitVec.ofInt k.bits x &&& BitVec.ofInt k.bits y).toNat))
  | .or => some (.int k (k.wrap (BitVec.ofInt k.bits x ||| BitVec.ofInt k.bits y).toNat))
  | .xor => some (.int k (k.wrap (BitVec.ofInt k.bits x ^^^ BitVec.ofInt k.bits y).toNat))
  | .andNot => some (.int k (k.wrap (BitVec.ofInt k.bits x &&& ~~~ BitVec.ofInt k.bits y).toNat))
  | .shl => if y < 0 then none else some (.int k (k.wrap (x * 2 ^ min y.toNat k.bits)))
  | .shr => if y < 0 then none else some (.int k (x.fdiv (2 ^ min y.toNat k.bits)))
  | .eql => some (.bool (x == y))
  | .neq => some (.bool (x != y))
  | .lss => some (.bool (decide (x < y)))
  | .leq => some (.bool (decide (x ≤ y)))
  | .gtr => some (.bool (decide (x > y)))
  | .geq => some (.bool (decide (x ≥ y)))


/-- A struct type all of whose fields are whole numbers of one cell, in a row. -/
def plainStructB (P : Program) (t : TypeId) : Bool :=
  match P.underlying t with
  | some (.struct fs) => (List.range fs.size).all (fun i => match fs[i]? with
      | some f => f.offset == i && f.name != "_" && (match P.underlying f.type with | some (.int _) => true | _ => false)
      | none => false) && !P.stoodInHeld t && !P.eqGuardType P.depth t
  | _ => false

def nfieldsB (P : Program) (t : TypeId) : Option Nat :=
  match P.underlying t with
  | some (.struct fs) => some fs.size
  | _ => none

def sameInts (a b : List (IntKind × Int)) : Bool := a.map (·.2) == b.map (·.2)

def isPtr : AV → Bool
  | .ptr .. => true
  | _ => false
/-- Is this the block's present number? -/
def cur (η : List Blk) (b ver : Nat) : Bool :=
  match η[b]? with
  | some blk => ver == blk.ver
  | none => false
def maxStep (ρ : Operand → AV) (acc : Option AV) (y : Operand) : Option AV :=
  match acc, ρ y with
  | some (.int k a), .int _ b => some (.int k (if b > a then b else a))
  | _, _ => none
def minStep (ρ : Operand → AV) (acc : Option AV) (y : Operand) : Option AV :=
  match acc, ρ y with
  | some (.int k a), .int _ b => some (.int k (if b < a then b else a))
  | _, _ => none

/-- The number of an operation that only looks at temporaries, locals and the heap. -/
def pv (P : Program) (o : Oper) (ρ : Operand → AV) (lam : Nat → LB) (η : List Blk) : Option AV :=
  match o.op with
  | .move x => some (ρ x)
  | .assign x => some (ρ x)
  | .pick c a b => match ρ c with
    | .bool t => some (if t then ρ a else ρ b)
    | _ => none
  | .nilCheck x => match ρ x with
    | .ptr b v off => if cur η b v then some (.ptr b v off) else none
    | .loc s v off => if v = (lam s).ver ∧ 0 < v then some (.loc s v off) else none
    | _ => none
  | .build t parts => match zeroB P t, placesB P t with
    | some z, some pl => (fillA (fun i => pl[i]?) z (parts.toList.map fun p => (p.1, ρ p.2))).map .agg
    | _, _ => none
  | .load t a => match isAggB P t, szB P t, ρ a with
    | some g, some k, .loc s ver off => if (ver = (lam s).ver ∧ 0 < ver) ∧ off + k ≤ (lam s).cells.length then (if g then some (.agg (((lam s).cells.drop off).take k)) else (lam s).cells[off]?) else none
    | some g, some k, .ptr b ver off => match η[b]? with
      | some blk => if ver = blk.ver ∧ off + k ≤ blk.cells.length then (if g then some (.agg ((blk.cells.drop off).take k)) else blk.cells[off]?) else none
      | none => none
    | _, _, _ => none
  | .binOp op t x y _ => match ρ x, ρ y with
    | .int k a, .int k' b => if k = k' ∨ op = .shl ∨ op = .shr then binI op k a b else none
    | .bool a, .bool b => if boolB P t then (match op with | .eql => some (.bool (a == b)) | .neq => some (.bool (a != b)) | _ => none) else none
    | .nils, .nils => match op with | .eql => if (elemB P t).isSome then some (.bool true) else none | .neq => if (elemB P t).isSome then some (.bool false) else none | _ => none
    | .sl b ver _ _, .nils => match η[b]? with
      | some blk => if ver = blk.ver then (match op with | .eql => if (elemB P t).isSome then some (.bool false) else none | .neq => if (elemB P t).isSome then some (.bool true) else none | _ => none) else none
      | none => none
    | .agg l, .agg l' => if plainStructB P t then (match intsOf l, intsOf l', op with
        | some a, some b, .eql => if nfieldsB P t = some a.length ∧ a.map (·.1) = b.map (·.1) then some (.bool (sameInts a b)) else none
        | some a, some b, .neq => if nfieldsB P t = some a.length ∧ a.map (·.1) = b.map (·.1) then some (.bool (!sameInts a b)) else none
        | _, _, _ => none) else none
    | _, _ => none
  | .unOp op _ x => match op, ρ x with
    | .neg, .int k n => some (.int k (k.wrap (0 - n)))
    | .not, .bool b => some (.bool !b)
    | _, _ => none
  | .convert src dst x => match intB P src, intB P dst, ρ x with
    | some _, some k, .int _ n => some (.int k (k.wrap n))
    | _, _, _ => none
  | .makeFunc f first caps => match f with
    | .func g => if first.size = 0 ∧ (caps.toList.map ρ).all isPtr = true then some (.fn g (caps.toList.map ρ)) else none
    | _ => none
  | .slice t x l h none => match elemB P t, ρ x with
    | some (_, k), .sl b ver off len => match η[b]? with
      | some blk =>
        if blk.sz = k ∧ ver = blk.ver then
          match (match l with | some l => (match ρ l with | .int _ n => some n | _ => none) | none => some 0), (match h with | some h => (match ρ h with | .int _ n => some n | _ => none) | none => some (len : Int)) with
          | some i, some j => if 0 ≤ i ∧ i ≤ j ∧ j ≤ len then some (.sl b ver (off + i.toNat * k) (j.toNat - i.toNat)) else none
          | _, _ => none
        else none
      | none => none
    | some (_, k), .slc b ver off len cap => match η[b]? with
      | some blk =>
        if blk.sz = k ∧ ver = blk.ver then
          match (match l with | some l => (match ρ l with | .int _ n => some n | _ => none) | none => some 0), (match h with | some h => (match ρ h with | .int _ n => some n | _ => none) | none => some (len : Int)) with
          | some i, some j => if 0 ≤ i ∧ i ≤ j ∧ j ≤ cap then some (.slc b ver (off + i.toNat * k) (j.toNat - i.toNat) (cap - i.toNat)) else none
          | _, _ => none
        else none
      | none => none
    | _, _ => none
  | .fieldAddr t x f => match fieldB P t f, ρ x with
    | some (o, s), .ptr b ver off => if s ≠ 0 ∧ cur η b ver = true then some (.ptr b ver (off + o)) else none
    | some (o, s), .loc b ver off => if s ≠ 0 ∧ ver = (lam b).ver ∧ 0 < ver then some (.loc b ver (off + o)) else none
    | _, _ => none
  | .indexAddr t x i => match elemB P t, ρ x, ρ i with
    | some (_, k), .sl b ver off len, .int _ n => match η[b]? with
      | some blk => if ver = blk.ver ∧ 0 ≤ n ∧ n < len then some (.ptr b ver (off + n.toNat * k)) else none
      | none => none
    | _, _, _ => none
  | .extract x i => match ρ x with
    | .tup l => l[i]?
    | _ => none
  | .call c => match c.callee, c.args.toList, c.argTypes.toList with
    | .builtin .len, [x], t :: _ => match elemB P t, ρ x with
      | some _, .sl b ver _ len => match η[b]? with
        | some blk => if ver = blk.ver then some (.int .i64 len) else none
        | none => none
      | some _, .slc b ver _ len _ => match η[b]? with
        | some blk => if ver = blk.ver then some (.int .i64 len) else none
        | none => none
      | some _, .nils => some (.int .i64 0)
      | some _, .emp => some (.int .i64 0)
      | _, _ => none
    | .builtin .cap, [x], t :: _ => match elemB P t, ρ x with
      | some _, .slc b ver _ _ cap => match η[b]? with
        | some blk => if ver = blk.ver then some (.int .i64 cap) else none
        | none => none
      | _, _ => none
    | .builtin .max, x :: r, _ => r.foldl (maxStep ρ) (match ρ x with | .int k a => some (.int k a) | _ => none)
    | .builtin .min, x :: r, _ => r.foldl (minStep ρ) (match ρ x with | .int k a => some (.int k a) | _ => none)
    | _, _, _ => none
  | _ => none

/-- A new variable: among the heap's blocks where its slot is listed in H, else a local. -/
def newVarA (H : List Nat) (dst : Option Tmp) (t : TypeId) (cells : List AV) (lam : Nat → LB) (η : List Blk) (K : AV → (Nat → LB) → List Blk → Prop) : Prop :=
  match dst with
  | none => False
  | some d => if d ∈ H then noLocs cells = true ∧ K (.ptr η.length 0 0) lam (η ++ [⟨0, t, cells.length, cells⟩])
    else K (.loc d ((lam d).ver + 1) 0) (upd lam d ⟨(lam d).ver + 1, cells⟩) η

/-- What stands in a slice, as cells. -/
def rowA (η : List Blk) (k : Nat) : AV → Option (List AV)
  | .nils => some []
  | .emp => some []
  | .sl b ver off len => match η[b]? with
    | some blk => if ver = blk.ver ∧ off + len * k ≤ blk.cells.length then some ((blk.cells.drop off).take (len * k)) else none
    | none => none
  | .slc b ver off len _ => match η[b]? with
    | some blk => if ver = blk.ver ∧ off + len * k ≤ blk.cells.length then some ((blk.cells.drop off).take (len * k)) else none
    | none => none
  | _ => none
def lenA : AV → Nat
  | .sl _ _ _ len => len
  | .slc _ _ _ len _ => len
  | _ => 0

/-- A slice that can be written to: its block, its place, its length. -/
def dstA (lo : Nat) : AV → Option (Nat × Nat × Nat × Nat)
  | .sl b ver off len => if lo ≤ b then some (b, ver, off, len) else none
  | .slc b ver off len _ => some (b, ver, off, len)
  | _ => none
/-- Cells that are written over a block's cells from a place on. -/
def layA (cells : List AV) (off : Nat) (row : List AV) : List AV := cells.take off ++ row ++ cells.drop (off + row.length)
/-- A row is laid over the beginning of a slice. -/
def writeA (lo k m : Nat) (row : List AV) (η : List Blk) (x : AV) (K : List Blk → Prop) : Prop :=
  match dstA lo x with
  | some (b, ver, off, len) => match η[b]? with
    | some blk => (ver = blk.ver ∧ blk.sz = k ∧ m ≤ len ∧ off ≤ blk.cells.length) ∧ K (η.set b { blk with cells := layA blk.cells off row })
    | none => False
  | none => False
/-- Append to a slice whose capacity is known. -/
def appendC (e : TypeId) (k by_ m : Nat) (new : List AV) (η : List Blk) (b ver off len cap : Nat) (K : AV → List Blk → Prop) : Prop :=
  match η[b]? with
  | some blk => (ver = blk.ver ∧ off = 0 ∧ blk.sz = k ∧ 0 < k ∧ blk.ty = e ∧ len * k ≤ blk.cells.length ∧ 0 < m ∧ (len + m) * by_ ≤ 140737488355328 ∧ len + m ≤ 4611686018427387904) ∧
    (len + m ≤ cap → K (.slc b ver 0 (len + m) cap) (η.set b { blk with cells := layA blk.cells (len * k) new })) ∧
    (cap < len + m → K (.sl η.length 0 0 (len + m)) (η ++ [⟨0, e, k, blk.cells.take (len * k) ++ new⟩]))
  | none => False
/-- Append of zeros to a slice whose capacity is known, and too small. -/
def appendZ (e : TypeId) (k by_ : Nat) (m : Int) (z : List AV) (η : List Blk) (b ver off len cap : Nat) (K : AV → List Blk → Prop) : Prop :=
  match η[b]? with
  | some blk => (ver = blk.ver ∧ off = 0 ∧ blk.sz = k ∧ 0 < k ∧ blk.ty = e ∧ len * k ≤ blk.cells.length ∧ 0 < m ∧ cap < len + m.toNat ∧ (len + m.toNat) * by_ ≤ 140737488355328 ∧ len + m.toNat ≤ 4611686018427387904) ∧
    K (.sl η.length 0 0 (len + m.toNat)) (η ++ [⟨0, e, k, blk.cells.take (len * k) ++ (List.replicate m.toNat z).flatten⟩])
  | none => False

/-- A call of a function without a body that looks alone. -/
def AX (P : Program) (lo : Nat) (g : FuncId) (args : List AV) (η : List Blk) (K : AV → List Blk → Prop) : Prop :=
  ∃ v, K v η ∧ ∀ (W : Wit) (w : World) (us : Array Value), HSim lo W η w → RL (Rv lo W η lam0 kap0) args us → ∃ u, (callFunc g us).run P w = .ok (.value u) w ∧ Rv lo W η lam0 kap0 v u
/-- A call of a function, with or without a body. -/
def AFX (P : Program) (lo : Nat) (g : FuncId) (args : List AV) (η : List Blk) (K : AV → List Blk → Prop) : Prop := AF P lo g args η K ∨ AX P lo g args η K
theorem AFX.mono {P : Program} {lo : Nat} {f : FuncId} {args : List AV} {η : List Blk} {Q Q' : AV → List Blk → Prop} (h : AFX P lo f args η Q) (hq : ∀ v η', Q v η' → Q' v η') : AFX P lo f args η Q' :=
  h.elim (fun h => .inl (h.mono hq)) fun ⟨v, h1, h2⟩ => .inr ⟨v, hq _ _ h1, h2⟩

/-- A map type whose keys are rows of whole numbers and whose elements are truth values. -/
def mapB (P : Program) (t : TypeId) : Option (TypeId × Nat) :=
  match P.underlying t with
  | some (.map k e) => if plainStructB P k = true then (match (P.info? e).bind (·.zero) with | some (.bool false) => (nfieldsB P k).map fun n => (k, n) | _ => none) else none
  | _ => none
def eqK (a b : AV) : Bool := match a, b with
  | .agg l, .agg l' => (match intsOf l, intsOf l' with | some x, some y => sameInts x y | _, _ => false)
  | _, _ => false
def hasK (ks : List AV) (k : AV) : Bool := ks.any fun x => eqK k x
def addK (ks : List AV) (k : AV) : List AV := if hasK ks k = true then ks else ks ++ [k]
/-- A key that fits a map's keys. -/
def keyOk (n : Nat) (ks : List AV) (l : List AV) : Bool := match intsOf l with
  | some a => a.length == n && ks.all fun k => (match k with | .agg l' => (match intsOf l' with | some b => b.map (·.1) == a.map (·.1) | none => false) | _ => false)
  | none => false
def mapPut (lam : Nat → LB) (n s ver : Nat) (l : List AV) (K : (Nat → LB) → Prop) : Prop :=
  match (lam s).cells with
  | [.tup ks] => (ver = (lam s).ver ∧ 0 < ver ∧ keyOk n ks l = true) ∧ K (upd lam s ⟨(lam s).ver, [.tup (addK ks (.agg l))]⟩)
  | _ => False
def mapGet (lam : Nat → LB) (n s ver : Nat) (l : List AV) (K : Bool → Prop) : Prop :=
  match (lam s).cells with
  | [.tup ks] => (ver = (lam s).ver ∧ 0 < ver ∧ keyOk n ks l = true) ∧ K (hasK ks (.agg l))
  | _ => False
theorem mapPut_mono {lam : Nat → LB} {n s ver : Nat} {l : List AV} {K K' : (Nat → LB) → Prop} (hk : ∀ x, K x → K' x) (h : mapPut lam n s ver l K) : mapPut lam n s ver l K' := by
  unfold mapPut at h ⊢
  split at h
  · exact ⟨h.1, hk _ h.2⟩
  · exact h
theorem mapGet_mono {lam : Nat → LB} {n s ver : Nat} {l : List AV} {K K' : Bool → Prop} (hk : ∀ x, K x → K' x) (h : mapGet lam n s ver l K) : mapGet lam n s ver l K' := by
  unfold mapGet at h ⊢
  split at h
  · exact ⟨h.1, hk _ h.2⟩
  · exact h
theorem writeA_mono {lo k m : Nat} {row : List AV} {η : List Blk} {x : AV} {K K' : List Blk → Prop} (hk : ∀ e, K e → K' e) (h : writeA lo k m row η x K) : writeA lo k m row η x K' := by
  unfold writeA at h ⊢
  split at h
  · split at h
    · exact ⟨h.1, hk _ h.2⟩
    · exact h
  · exact h
theorem appendC_mono {e : TypeId} {k by_ m : Nat} {new : List AV} {η : List Blk} {b ver off len cap : Nat} {K K' : AV → List Blk → Prop} (hk : ∀ v e, K v e → K' v e) (h : appendC e k by_ m new η b ver off len cap K) : appendC e k by_ m new η b ver off len cap K' := by
  unfold appendC at h ⊢
  split at h
  · exact ⟨h.1, fun c => hk _ _ (h.2.1 c), fun c => hk _ _ (h.2.2 c)⟩
  · exact h
theorem appendZ_mono {e : TypeId} {k by_ : Nat} {m : Int} {z : List AV} {η : List Blk} {b ver off len cap : Nat} {K K' : AV → List Blk → Prop} (hk : ∀ v e, K v e → K' v e) (h : appendZ e k by_ m z η b ver off len cap K) : appendZ e k by_ m z η b ver off len cap K' := by
  unfold appendZ at h ⊢
  split at h
  · exact ⟨h.1, hk _ _ h.2⟩
  · exact h

/-- What an operation does: its value, the locals, the heap. -/
def AEff (P : Program) (lo : Nat) (H : List Nat) (o : Oper) (ρ : Operand → AV) (lam : Nat → LB) (η : List Blk) (K : AV → (Nat → LB) → List Blk → Prop) : Prop :=
  match o.op with
  | .alloc t => match zeroB P t with
    | some z => newVarA H o.dst t z lam η K
    | none => False
  | .box t x => plainV (ρ x) = true ∧ newVarA H o.dst t (cellsA (ρ x)) lam η K
  | .store t a x => match szB P t, ρ a with
    | some k, .loc s ver off => (plainV (ρ x) = true ∧ ver = (lam s).ver ∧ (cellsA (ρ x)).length = k ∧ off + k ≤ (lam s).cells.length) ∧ K .und (upd lam s ⟨ver, putCells (lam s).cells off (cellsA (ρ x))⟩) η
    | some k, .ptr b ver off => match η[b]? with
      | some blk => (plainV (ρ x) = true ∧ lo ≤ b ∧ ver = blk.ver ∧ 0 < k ∧ (cellsA (ρ x)).length = k ∧ off + k ≤ blk.cells.length ∧ noLocs (cellsA (ρ x)) = true) ∧ K .und lam (η.set b { blk with cells := putCells blk.cells off (cellsA (ρ x)) })
      | none => False
    | _, _ => False
  | .makeSlice t l c => match elemB P t, ρ l, ρ c with
    | some (e, k), .int .i64 n, .int .i64 n' => match zeroB P e, bytesB P e with
      | some z, some by_ => (n = n' ∧ 0 ≤ n ∧ n * by_ ≤ 140737488355328 ∧ n ≤ 9223372036854775807 ∧ z.length = k) ∧ K (.sl η.length 0 0 n.toNat) lam (η ++ [⟨0, e, k, (List.replicate n.toNat z).flatten⟩])
      | _, _ => False
    | _, _, _ => False
  | .buildSlice t len parts => match elemB P t with
    | some (e, k) => if len = 0 then parts.size = 0 ∧ K .emp lam η else match zeroB P e with
      | some z => match fillA (fun i => some (i * k, k)) (List.replicate len z).flatten (parts.toList.map fun p => (p.1, ρ p.2)) with
        | some cells => (z.length = k ∧ len * k ≤ 1024 ∧ 0 < k ∧ noLocs cells = true) ∧ K (.sl η.length 0 0 len) lam (η ++ [⟨0, e, k, cells⟩])
        | none => False
      | none => False
    | none => False
  | .call c => match c.callee with
    | .value f => match ρ f with
      | .fn g caps => (c.args.toList.map ρ).all noLoc1 = true ∧ AFX P lo g (c.args.toList.map ρ ++ caps) η fun v η' => K v lam η'
      | _ => False
    | .builtin .append => match c.args.toList, c.argTypes.toList with
      | [s, x], [t, t'] => match elemB P t, elemB P t' with
        | some (e, k), some (_, k') => match bytesB P e, rowA η k (ρ x) with
          | some by_, some new =>
            (k' = k ∧ 0 < k ∧ (zeroB P e).map List.length = some k ∧ noLocs new = true) ∧
            match ρ s with
            | .emp => (lenA (ρ x) * by_ ≤ 140737488355328 ∧ lenA (ρ x) ≤ 4611686018427387904) ∧ K (.sl η.length 0 0 (lenA (ρ x))) lam (η ++ [⟨0, e, k, new⟩])
            | .nils => (0 < lenA (ρ x) ∧ lenA (ρ x) * by_ ≤ 140737488355328 ∧ lenA (ρ x) ≤ 4611686018427387904) ∧ K (.sl η.length 0 0 (lenA (ρ x))) lam (η ++ [⟨0, e, k, new⟩])
            | .sl b ver off len => match η[b]? with
              | some blk => (lo ≤ b ∧ ver = blk.ver ∧ off = 0 ∧ blk.sz = k ∧ blk.ty = e ∧ len * k ≤ blk.cells.length ∧ (len + lenA (ρ x)) * by_ ≤ 140737488355328 ∧ len + lenA (ρ x) ≤ 4611686018427387904) ∧
                K (.sl b (ver + 1) 0 (len + lenA (ρ x))) lam (η.set b { blk with ver := ver + 1, cells := blk.cells.take (len * k) ++ new })
              | none => False
            | .slc b ver off len cap => appendC e k by_ (lenA (ρ x)) new η b ver off len cap fun v η' => K v lam η'
            | _ => False
          | _, _ => False
        | some (e, k), none => match intB P t', bytesB P e, zeroB P e, ρ x, ρ s with
          | some _, some by_, some z, .int .i64 m, .slc b ver off len cap => z.length = k ∧ appendZ e k by_ m z η b ver off len cap fun v η' => K v lam η'
          | _, _, _, _, _ => False
        | _, _ => False
      | _, _ => False
    | .builtin .copy => match c.args.toList, c.argTypes.toList with
      | [d, s], t :: _ => match elemB P t with
        | some (_, k) => match rowA η k (ρ s) with
          | some row => writeA lo k (lenA (ρ s)) row η (ρ d) fun η' => K (.int .i64 (lenA (ρ s))) lam η'
          | none => False
        | none => False
      | _, _ => False
    | .builtin .clear => match c.args.toList, c.argTypes.toList with
      | [x], t :: _ => match elemB P t with
        | some (e, k) => match zeroB P e with
          | some z => z.length = k ∧ writeA lo k 0 (List.replicate (lenA (ρ x)) z).flatten η (ρ x) fun η' => K (.tup []) lam η'
          | none => False
        | none => False
      | _, _ => False
    | _ => match pv P o ρ lam η with
      | some v => K v lam η
      | none => False
  | .makeMap t r => match r, o.dst, mapB P t with
    | none, some d, some _ => K (.mp d ((lam d).ver + 1)) (upd lam d ⟨(lam d).ver + 1, [.tup []]⟩) η
    | _, _, _ => False
  | .mapUpdate t m k v => match mapB P t, ρ m, ρ k, ρ v with
    | some (_, n), .mp s ver, .agg l, .bool true => mapPut lam n s ver l fun lam' => K .und lam' η
    | _, _, _, _ => False
  | .lookup t m k ok => match mapB P t, ρ m, ρ k, ok with
    | some (_, n), .mp s ver, .agg l, false => mapGet lam n s ver l fun b => K (.bool b) lam η
    | _, _, _, _ => False
  | _ => match pv P o ρ lam η with
    | some v => K v lam η
    | none => False

def put (dst : Option Tmp) (v : AV) (st : St) : St :=
  match dst with
  | some d => { st with τ := upd st.τ d v }
  | none => st

def dstOk (dst : Option Tmp) (n : Nat) : Prop :=
  match dst with
  | some d => d < n
  | none => True

def AOp (P : Program) (lo : Nat) (H : List Nat) (o : Oper) (K : St → Prop) (st : St) : Prop :=
  dstOk o.dst st.n ∧ AEff P lo H o (ev st) st.lam st.η fun v lam' η' => K (put o.dst v { st with lam := lam', η := η' })

/-- What a skipped operation leaves. -/
def skipV : AV := .tup []
/-- Is the guard met? A skipped operation's outcome meets none. -/
def yieldedA (ops : Array Oper) (st : St) (j : Nat) (want : Bool) : Option Bool :=
  match (ops[j]?).bind (·.dst) with
  | some t => match (if t < st.n then st.τ t else .und) with
    | .bool b => some (b == want)
    | .tup [] => some false
    | _ => none
  | none => none

def AOpG (P : Program) (lo : Nat) (H : List Nat) (ops : Array Oper) (o : Oper) (K : St → Prop) (st : St) : Prop :=
  match o.guard with
  | none => AOp P lo H o K st
  | some (j, want) => match yieldedA ops st j want with
    | some true => AOp P lo H o K st
    | some false => dstOk o.dst st.n ∧ K (put o.dst skipV st)
    | none => False

def AOps (P : Program) (lo : Nat) (H : List Nat) (ops : Array Oper) (K : St → Prop) : List Oper → St → Prop
  | [], st => K st
  | o :: rest, st => AOpG P lo H ops o (AOps P lo H ops K rest) st

end Go.Proofs.YtaalpmbopkbdiaaGreat
/- The abstract logic: an operation that only looks yields, in the machine, the value that the abstract one yields. -/
namespace Go.Proofs.YtaalpmbopkbdiaaGreat
open Go

section inv
variable {lo : Nat} {W : Wit} {η : List Blk} {lam : Nat → LB} {κ : Nat → Nat}
theorem Rv_c {x : AV} {u : Value} (h : Rv lo W η lam κ x u) (h0 : x ≠ .und) (h1 : ∀ l, x ≠ .agg l) (h2 : ∀ l, x ≠ .tup l) : Rs lo W η lam κ x u := by
  rcases h with rfl | ⟨l, _, rfl, _⟩ | ⟨l, _, rfl, _⟩ | h
  · exact absurd rfl h0
  · exact absurd rfl (h2 l)
  · exact absurd rfl (h1 l)
  · exact h.2
theorem Rv_one {x : AV} {u : Value} (h : Rv lo W η lam κ x u) (hx : (match x with | .und => false | .agg _ => false | .tup _ => false | _ => true) = true) : u.oneCell' = true := by
  rcases h with rfl | ⟨l, _, rfl, _⟩ | ⟨l, _, rfl, _⟩ | h
  · cases hx
  · cases hx
  · cases hx
  · exact h.1
theorem Rv_int {k : IntKind} {n : Int} {u : Value} (h : Rv lo W η lam κ (.int k n) u) : u = .int k n := Rv_c h (by simp) (fun _ => by simp) (fun _ => by simp)
theorem Rv_bool {b : Bool} {u : Value} (h : Rv lo W η lam κ (.bool b) u) : u = .bool b := Rv_c h (by simp) (fun _ => by simp) (fun _ => by simp)
theorem Rv_nils {u : Value} (h : Rv lo W η lam κ .nils u) : u = .slice none 0 0 := Rv_c h (by simp) (fun _ => by simp) (fun _ => by simp)
theorem Rv_emp {u : Value} (h : Rv lo W η lam κ .emp u) : ∃ a, u = .slice (some a) 0 0 := Rv_c h (by simp) (fun _ => by simp) (fun _ => by simp)
theorem Rv_sl {b ver off len : Nat} {u : Value} (h : Rv lo W η lam κ (.sl b ver off len) u) : ∃ blk, η[b]? = some blk ∧ ver ≤ blk.ver ∧ (ver = blk.ver → ∃ a cap, u = .slice (some a) len cap ∧ len ≤ cap ∧ (cap = 0 ∨ (a = (W.ι b).add off ∧ (lo ≤ b → off + cap * blk.sz ≤ W.cs b)))) := Rv_c h (by simp) (fun _ => by simp) (fun _ => by simp)
theorem Rv_slc {b ver off len cap : Nat} {u : Value} (h : Rv lo W η lam κ (.slc b ver off len cap) u) : lo ≤ b ∧ ∃ blk, η[b]? = some blk ∧ ver ≤ blk.ver ∧ (ver = blk.ver → ∃ a, u = .slice (some a) len cap ∧ len ≤ cap ∧ (cap = 0 ∨ (a = (W.ι b).add off ∧ off + cap * blk.sz ≤ W.cs b))) := Rv_c h (by simp) (fun _ => by simp) (fun _ => by simp)
theorem Rv_ptr {b ver off : Nat} {u : Value} (h : Rv lo W η lam κ (.ptr b ver off) u) : ∃ blk, η[b]? = some blk ∧ ver ≤ blk.ver ∧ (ver = blk.ver → u = .pointer (some ((W.ι b).add off))) := Rv_c h (by simp) (fun _ => by simp) (fun _ => by simp)
theorem Rv_locM {b ver off : Nat} {u : Value} (h : Rv lo W η lam κ (.loc b ver off) u) : 0 < ver ∧ ver ≤ (lam b).ver ∧ (ver = (lam b).ver → isMapL (lam b).cells = false ∧ u = .pointer (some ⟨κ b, off, none⟩)) := Rv_c h (by simp) (fun _ => by simp) (fun _ => by simp)
theorem Rv_loc {b ver off : Nat} {u : Value} (h : Rv lo W η lam κ (.loc b ver off) u) : 0 < ver ∧ ver ≤ (lam b).ver ∧ (ver = (lam b).ver → u = .pointer (some ⟨κ b, off, none⟩)) := ⟨(Rv_locM h).1, (Rv_locM h).2.1, fun e => ((Rv_locM h).2.2 e).2⟩
theorem Rv_mp {s ver : Nat} {u : Value} (h : Rv lo W η lam κ (.mp s ver) u) : 0 < ver ∧ ver ≤ (lam s).ver ∧ (ver = (lam s).ver → isMapL (lam s).cells = true ∧ u = .map (some (κ s))) := Rv_c h (by simp) (fun _ => by simp) (fun _ => by simp)
theorem noMap_of {l : List AV} {c : Array Value} (h : RL (Rc lo W η lam κ) l c) : isMapL l = false := by
  unfold isMapL
  split
  · obtain ⟨u, _, hu⟩ := h.2 0 _ rfl
    exact hu.2.elim
  · rfl
theorem Rv_fn {g : Nat} {caps : List AV} {u : Value} (h : Rv lo W η lam κ (.fn g caps) u) : ∃ arr, u = .func (.func g) #[] arr ∧ RL (fun x u => u.oneCell' = true ∧ Rp W η x u) caps arr := Rv_c h (by simp) (fun _ => by simp) (fun _ => by simp)
theorem Rv_agg {l : List AV} {u : Value} (h : Rv lo W η lam κ (.agg l) u) : ∃ arr, u = .agg arr ∧ RL (Rc lo W η lam κ) l arr := by
  rcases h with h | ⟨l', _, h, _⟩ | ⟨l', arr, h, rfl, ha⟩ | h
  · cases h
  · cases h
  · cases h; exact ⟨arr, rfl, ha⟩
  · exact h.2.elim
theorem Rv_tup {l : List AV} {u : Value} (h : Rv lo W η lam κ (.tup l) u) : ∃ arr, u = .tuple arr ∧ RL (R1 lo W η lam κ) l arr := by
  rcases h with h | ⟨l', arr, h, rfl, ha⟩ | ⟨l', _, h, _⟩ | h
  · cases h
  · cases h; exact ⟨arr, rfl, ha⟩
  · cases h
  · exact h.2.elim
theorem Rv_mkc {x : AV} {u : Value} (h : Rc lo W η lam κ x u) : Rv lo W η lam κ x u := .inr (.inr (.inr h))
theorem Rv_mkagg {l : List AV} {arr : Array Value} (h : RL (Rc lo W η lam κ) l arr) : Rv lo W η lam κ (.agg l) (.agg arr) := .inr (.inr (.inl ⟨l, arr, rfl, rfl, h⟩))
theorem Rv_mktup {l : List AV} {arr : Array Value} (h : RL (R1 lo W η lam κ) l arr) : Rv lo W η lam κ (.tup l) (.tuple arr) := .inr (.inl ⟨l, arr, rfl, rfl, h⟩)
theorem Rv_1 {x : AV} {u : Value} (h : Rv lo W η lam κ x u) (h0 : x ≠ .und) (h2 : ∀ l, x ≠ .tup l) : R1 lo W η lam κ x u := by
  rcases h with rfl | ⟨l, _, rfl, _⟩ | h
  · exact absurd rfl h0
  · exact absurd rfl (h2 l)
  · exact h

/-- What a value's cells are, on both sides. -/
theorem cells_rel {x : AV} {u : Value} (h : R1 lo W η lam κ x u) : RL (Rc lo W η lam κ) (cellsA x) u.cells := by
  rcases h with ⟨l, arr, rfl, rfl, ha⟩ | h
  · exact ha
  · have h1 : u.cells = #[u] := by have := h.1; cases u <;> first | rfl | cases this
    have h2 : cellsA x = [x] := by cases x <;> first | rfl | exact h.2.elim
    rw [h1, h2]
    refine ⟨rfl, fun i z hz => ?_⟩
    match i, hz with
    | 0, hz => simp at hz; subst hz; exact ⟨u, rfl, h⟩
end inv

end Go.Proofs.YtaalpmbopkbdiaaGreat
/- The abstract logic: what an operation that only looks yields in the machine, kind by kind. -/
namespace Go.Proofs.YtaalpmbopkbdiaaGreat
open Go

section
variable {P : Program} {lo : Nat} {W : Wit} {η : List Blk} {lam : Nat → LB} {κ : Nat → Nat} {w : World}

/-- From cell to cell: a row in the world. -/
theorem row_of {R : AV → Value → Prop} {l : List AV} {a : Addr} (h : ∀ j x, l[j]? = some x → ∃ u, w.cell? (a.add j) = some u ∧ R x u) :
    ∃ cs : List Value, cs.length = l.length ∧ (∀ j v, cs[j]? = some v → w.cell? (a.add j) = some v) ∧ RL R l cs.toArray := by
  refine ⟨(List.range l.length).map fun j => (w.cell? (a.add j)).getD undef, by simp, fun j v hv => ?_, by simp, fun j x hx => ?_⟩
  · rw [List.getElem?_map] at hv
    by_cases hj : j < l.length
    · obtain ⟨u, hu, _⟩ := h j _ (List.getElem?_eq_getElem hj)
      simp [hj, hu] at hv ⊢
      exact hv
    · simp [hj] at hv
  · have hj : j < l.length := (List.getElem?_eq_some_iff.1 hx).1
    obtain ⟨u, hu, hr⟩ := h j x hx
    exact ⟨u, by simp [hj, hu], hr⟩

theorem isAggB_run {t : TypeId} {g : Bool} (h : isAggB P t = some g) : (isAgg t).run P w = .ok g w := by
  unfold isAggB at h
  cases hu : P.underlying t with
  | none => rw [hu] at h; cases h
  | some d =>
    rw [hu] at h
    cases d <;> simp at h <;> subst h <;> simp [isAgg, run_underlying hu]

theorem szB_run {t : TypeId} {k : Nat} (h : szB P t = some k) : (sizeOf t).run P w = .ok k w := by
  unfold szB at h
  cases hi : P.info? t with
  | none => rw [hi] at h; cases h
  | some i => rw [hi] at h; simp at h; subst h; simp [sizeOf, typeInfo, hi]

theorem loadVar_ok {t : TypeId} {g : Bool} {k : Nat} (hg : isAggB P t = some g) (hk : szB P t = some k) {cells : List AV} {a : Addr} {off : Nat}
    (hc : ∀ j x, cells[j]? = some x → ∃ u, w.cell? (a.add j) = some u ∧ Rc lo W η lam κ x u) (hoff : off + k ≤ cells.length) {v : AV}
    (h : (if g then some (.agg ((cells.drop off).take k)) else cells[off]?) = some v) : ∃ u, (loadVar t (a.add off)).run P w = .ok u w ∧ Rv lo W η lam κ v u := by
  cases g with
  | true =>
    simp only [if_true, Option.some.injEq] at h
    subst h
    obtain ⟨cs, hl, h1, h2⟩ := row_of (w := w) (R := Rc lo W η lam κ) (l := (cells.drop off).take k) (a := a.add off) (fun j x hx => by
      rw [List.getElem?_take] at hx
      split at hx
      · rw [List.getElem?_drop] at hx
        obtain ⟨u, hu, hr⟩ := hc (off + j) x hx
        exact ⟨u, by rw [Deep.add_add]; exact hu, hr⟩
      · cases hx)
    have hlk : cs.length = k := by rw [hl]; simp; omega
    refine ⟨.agg cs.toArray, ?_, Rv_mkagg h2⟩
    have hr := run_loadCells_list (P := P) w (a.add off) cs h1
    rw [hlk] at hr
    simp [loadVar, isAggB_run hg, szB_run hk, hr]
  | false =>
    simp only [Bool.false_eq_true, if_false] at h
    obtain ⟨u, hu, hr⟩ := hc off v h
    exact ⟨u, by simp [loadVar, isAggB_run hg, hu], Rv_mkc hr⟩

theorem LSim.cells (ls : LSim lo W η lam κ w) {s : Nat} (h : 0 < (lam s).ver) (hm : isMapL (lam s).cells = false) : ∀ j x, (lam s).cells[j]? = some x → ∃ u, w.cell? ((⟨κ s, 0, none⟩ : Addr).add j) = some u ∧ Rc lo W η lam κ x u := by
  intro j x hx
  obtain ⟨o, hh, hr⟩ := ls.row s h
  cases o with
  | mp es clk =>
    obtain ⟨ks, e, _⟩ := hr
    rw [e] at hm
    cases hm
  | cells cur T =>
  obtain ⟨u, hu, hrel⟩ := hr.2 j x hx
  refine ⟨u, ?_, hrel⟩
  have : (⟨κ s, 0, none⟩ : Addr).add j = ⟨κ s, j, none⟩ := by unfold Addr.add; split <;> simp_all
  rw [this]
  simp only [RowO.obj] at hh
  simp [World.cell?, hh, hu]

theorem add_zero_plain (b o j : Nat) : (⟨b, o, none⟩ : Addr).add j = ⟨b, o + j, none⟩ := by unfold Addr.add; split <;> simp_all

theorem load_ok (hs : HSim lo W η w) (ls : LSim lo W η lam κ w) {t : TypeId} {x : AV} {u : Value} (hx : Rv lo W η lam κ x u) {dst : Option Tmp} {a : Operand} {ty : TypeId} {pos : String} {after : Array Edge} {gd : Option (Nat × Bool)} {ρ : Operand → AV} (hρ : ρ a = x) {v : AV}
    (h : pv P ⟨dst, .load t a, ty, pos, after, gd⟩ ρ lam η = some v) : ∃ r, (Instr.loadAt t u).run P w = .ok r w ∧ Rv lo W η lam κ v r := by
  simp only [pv, hρ] at h
  cases hg : isAggB P t with
  | none => simp [hg] at h
  | some g =>
    cases hk : szB P t with
    | none => simp [hg, hk] at h
    | some k =>
      simp only [hg, hk] at h
      cases x <;> try (simp at h; done)
      case loc s ver off =>
        simp only at h
        split at h
        · rename_i hc
          obtain ⟨h0, h1, h2⟩ := Rv_loc hx
          obtain rfl := h2 hc.1.1
          have hpos : 0 < (lam s).ver := by omega
          obtain ⟨r, hr, hrel⟩ := loadVar_ok (a := ⟨κ s, 0, none⟩) hg hk (ls.cells hpos ((Rv_locM hx).2.2 hc.1.1).1) hc.2 h
          rw [add_zero_plain, Nat.zero_add] at hr
          exact ⟨r, by simp [Instr.loadAt, Instr.sureAddr, hr], hrel⟩
        · cases h
      case ptr b ver off =>
        simp only at h
        cases hb : η[b]? with
        | none => simp [hb] at h
        | some blk =>
          simp only [hb] at h
          split at h
          · rename_i hc
            obtain ⟨blk', h0, h1, h2⟩ := Rv_ptr hx
            rw [hb] at h0
            obtain rfl := Option.some.inj h0
            obtain rfl := h2 hc.1
            obtain ⟨r, hr, hrel⟩ := loadVar_ok (lam := lam) (κ := κ) (a := W.ι b) hg hk (fun j x hx => let ⟨u, h1, h2⟩ := hs.cell b blk hb j x hx; ⟨u, h1, Rc_lam0 h2⟩) hc.2 h
            exact ⟨r, by simp [Instr.loadAt, Instr.sureAddr, hr], hrel⟩
          · cases h

theorem binI_ok {op : BinOp} {k k' : IntKind} {x y : Int} {v : AV} (hk : k = k' ∨ op = .shl ∨ op = .shr) (h : binI op k x y = some v) (t : TypeId) :
    ∃ r, (binOp op t (.int k x) (.int k' y)).run P w = .ok r w ∧ Rv lo W η lam κ v r := by
  have mk : ∀ (k : IntKind) (n : Int), Rv lo W η lam κ (.int k n) (.int k n) := fun k n => Rv_mkc ⟨rfl, rfl⟩
  have mkb : ∀ (b : Bool), Rv lo W η lam κ (.bool b) (.bool b) := fun b => Rv_mkc ⟨rfl, rfl⟩
  cases op <;> simp only [binI, reduceCtorEq, or_false, or_true] at h hk
  case shl =>
    split at h
    · cases h
    · rename_i hy; cases h; exact ⟨_, by simp [Go.binOp, Op.shift, hy], mk _ _⟩
  case shr =>
    split at h
    · cases h
    · rename_i hy; cases h; exact ⟨_, by simp [Go.binOp, Op.shift, hy], mk _ _⟩
  case quo =>
    subst hk
    split at h
    · cases h
    · rename_i hy; cases h; exact ⟨_, by simp [Go.binOp, Op.intDiv, hy], mk _ _⟩
  case rem =>
    subst hk
    split at h
    · cases h
    · rename_i hy; cases h; exact ⟨_, by simp [Go.binOp, Op.intDiv, hy], mk _ _⟩
  case add | sub | mul => subst hk; cases h; exact ⟨_, by simp [Go.binOp, Op.intArith], mk _ _⟩
  case and | or | xor | andNot => subst hk; cases h; exact ⟨_, by simp only [Go.binOp, ne_eq, not_true_eq_false, if_false]; rfl, mk _ _⟩
  all_goals
    subst hk
    cases h
    exact ⟨_, by simp [Go.binOp, Op.intCmp], mkb _⟩

theorem zeroB_run {t : TypeId} {z : List AV} (h : zeroB P t = some z) : ∃ zv i, (zeroValue t).run P w = .ok zv w ∧ P.info? t = some i ∧ i.zero = some zv ∧ zeroOf zv = some z := by
  unfold zeroB at h
  cases hi : P.info? t with
  | none => rw [hi] at h; cases h
  | some i =>
    rw [hi] at h
    simp only [Option.bind_some] at h
    cases hz : i.zero with
    | none => rw [hz] at h; cases h
    | some zv =>
      rw [hz] at h
      exact ⟨zv, i, by simp [zeroValue, typeInfo, hi, hz], rfl, hz, h⟩

/-- The zero value's cells, on both sides. -/
theorem zero_rel {z : List AV} {zv : Value} (h : zeroOf zv = some z) : RL (Rc lo W η lam κ) z zv.cells := by
  have hr := Rv_cv (lo := lo) (W := W) (η := η) (lam := lam) (κ := κ) zv
  unfold zeroOf at h
  have hnt : ∀ l, cv zv ≠ .tup l := by
    intro l e
    unfold cv at e
    split at e
    · split at e <;> cases e
    · split at e
      · unfold cvc at e; split at e <;> cases e
      · cases e
  have hne : cv zv ≠ .und := by intro e; rw [e] at h; cases h
  have := cells_rel (Rv_1 hr hne hnt)
  have e : cellsA (cv zv) = z := by
    unfold cellsA
    split at h
    · rename_i h2; rw [h2]; simpa using h
    · cases h
    · rename_i h2 h3; split
      · rename_i h4; exact absurd h4 (h2 _)
      · simpa using h
  rwa [e] at this

theorem getElem?_putCells {cs vs : List AV} {off : Nat} (h : off + vs.length ≤ cs.length) (i : Nat) : (putCells cs off vs)[i]? = if off ≤ i ∧ i < off + vs.length then vs[i - off]? else cs[i]? := by
  unfold putCells
  have hl : (cs.take off).length = off := by simp; omega
  by_cases h1 : i < off
  · rw [if_neg (by omega), List.append_assoc, List.getElem?_append_left (by omega), List.getElem?_take, if_pos h1]
  · by_cases h2 : i < off + vs.length
    · rw [if_pos ⟨by omega, h2⟩, List.append_assoc, List.getElem?_append_right (by omega), List.getElem?_append_left (by omega), hl]
    · rw [if_neg (by omega), List.getElem?_append_right (by simp; omega), List.getElem?_drop]
      congr 1
      simp
      omega
theorem length_putCells {cs vs : List AV} {off : Nat} (h : off + vs.length ≤ cs.length) : (putCells cs off vs).length = cs.length := by
  unfold putCells; simp; omega

/-- Written on both sides alike. -/
theorem RL_put {R : AV → Value → Prop} {cells vs : List AV} {c v res : Array Value} {off : Nat} (hc : RL R cells c) (hv : RL R vs v) (ho : off + vs.length ≤ cells.length) (hs : res.size = c.size)
    (hr : ∀ i, i < c.size → res[i]? = if off ≤ i ∧ i < off + v.size then v[i - off]? else c[i]?) : RL R (putCells cells off vs) res := by
  refine ⟨by rw [hs, hc.1, length_putCells ho], fun i x hx => ?_⟩
  have hi : i < cells.length := by have := (List.getElem?_eq_some_iff.1 hx).1; rwa [length_putCells ho] at this
  rw [hr i (by rw [hc.1]; exact hi), hv.1]
  rw [getElem?_putCells ho] at hx
  split at hx
  · rename_i h; rw [if_pos h]; exact hv.2 _ _ hx
  · rename_i h; rw [if_neg h]; exact hc.2 _ _ hx

theorem foldl_put (off : Nat) : ∀ (vs : List Value) (n : Nat) (c : Array Value), ((vs.zipIdx n).foldl (fun cs p => cs.setIfInBounds (off + p.2) p.1) c).size = c.size ∧
    ∀ i, i < c.size → ((vs.zipIdx n).foldl (fun cs p => cs.setIfInBounds (off + p.2) p.1) c)[i]? = if off + n ≤ i ∧ i < off + n + vs.length then vs[i - (off + n)]? else c[i]?
  | [], n, c => by simp; intro i hi h1 h2; omega
  | v :: r, n, c => by
    obtain ⟨h1, h2⟩ := foldl_put off r (n + 1) (c.setIfInBounds (off + n) v)
    simp only [List.zipIdx_cons, List.foldl_cons, List.length_cons]
    refine ⟨by rw [h1]; simp, fun i hi => ?_⟩
    rw [h2 i (by simpa using hi)]
    by_cases e : i = off + n
    · subst e
      rw [if_neg (by omega), if_pos (by omega)]
      simp [hi]
    · by_cases e2 : off + (n + 1) ≤ i ∧ i < off + (n + 1) + r.length
      · rw [if_pos e2, if_pos (by omega)]
        rw [show i - (off + n) = (i - (off + (n + 1))) + 1 by omega, List.getElem?_cons_succ]
      · rw [if_neg e2, if_neg (by omega), Array.getElem?_setIfInBounds_ne (by omega)]

theorem fill_ok {place : Nat → Option (Nat × Nat)} : ∀ {parts : List (Nat × AV)} {partsc : List (Nat × Value)} {cells res : List AV} {c : Array Value},
    (partsc.map (·.1) = parts.map (·.1)) → (∀ (j : Nat) p q, parts[j]? = some p → partsc[j]? = some q → Rv lo W η lam κ p.2 q.2) → RL (Rc lo W η lam κ) cells c → fillA place cells parts = some res →
    ∃ rc, Instr.fill place c partsc = some rc ∧ RL (Rc lo W η lam κ) res rc
  | [], [], cells, res, c, _, _, hc, h => by
    simp only [fillA, Option.some.injEq] at h
    subst h
    exact ⟨c, rfl, hc⟩
  | [], _ :: _, _, _, _, hn, _, _, _ => by simp at hn
  | _ :: _, [], _, _, _, hn, _, _, _ => by simp at hn
  | (i, v) :: rest, (i', u) :: restc, cells, res, c, hn, hrel, hc, h => by
    simp only [List.map_cons, List.cons.injEq] at hn
    obtain ⟨rfl, hn⟩ := hn
    simp only [fillA] at h
    cases hp : place i' with
    | none => rw [hp] at h; cases h
    | some os =>
      obtain ⟨off, size⟩ := os
      rw [hp] at h
      simp only at h
      split at h
      · rename_i hcond
        obtain ⟨hpl, hsz, hle⟩ := hcond
        have hv := hrel 0 (i', v) (i', u) rfl rfl
        have hr1 := cells_rel (Rv_1 hv (by rintro rfl; simp [plainV] at hpl) (by rintro l rfl; simp [plainV] at hpl))
        have hus : u.cells.size = size := by rw [hr1.1]; exact hsz
        have hfold := foldl_put off u.cells.toList 0 c
        have hput : RL (Rc lo W η lam κ) (putCells cells off (cellsA v)) ((u.cells.toList.zipIdx 0).foldl (fun cs p => cs.setIfInBounds (off + p.2) p.1) c) := by
          refine RL_put hc hr1 (by omega) hfold.1 fun i hi => ?_
          rw [hfold.2 i hi]
          simp
        obtain ⟨rc, h1, h2⟩ := fill_ok hn (fun j p q hp hq => hrel (j + 1) p q (by simpa using hp) (by simpa using hq)) hput h
        refine ⟨rc, ?_, h2⟩
        have hcs : c.size = cells.length := hc.1
        have hno : ¬ (u.cells.size ≠ size ∨ off + u.cells.size > c.size) := by rw [hus]; omega
        simp only [Instr.fill, hp]
        rw [if_neg (by simpa using hno)]
        rw [← h1]
        congr 1
        rw [← Array.foldl_toList, Array.toList_zipIdx]
      · cases h

end
end Go.Proofs.YtaalpmbopkbdiaaGreat
/- The abstract logic: every operation that only looks, in one theorem. -/
namespace Go.Proofs.YtaalpmbopkbdiaaGreat
open Go

section
variable {P : Program} {lo : Nat} {W : Wit} {η : List Blk} {lam : Nat → LB} {κ : Nat → Nat} {w : World}

theorem elemB_spec {t e : TypeId} {k : Nat} (h : elemB P t = some (e, k)) : P.underlying t = some (.slice e) ∧ szB P e = some k := by
  unfold elemB at h
  split at h
  · rename_i e' hu
    cases hs : szB P e' with
    | none => rw [hs] at h; cases h
    | some s => rw [hs] at h; simp at h; obtain ⟨rfl, rfl⟩ := h; exact ⟨hu, hs⟩
  · cases h

theorem fieldB_spec {t : TypeId} {f o s : Nat} (h : fieldB P t f = some (o, s)) : ∃ fs x, P.underlying t = some (.struct fs) ∧ fs[f]? = some x ∧ szB P x.type = some s ∧ x.offset = o := by
  unfold fieldB at h
  split at h
  · rename_i fs hu
    cases hx : fs[f]? with
    | none => rw [hx] at h; cases h
    | some x =>
      rw [hx] at h
      simp only [Option.bind_some] at h
      cases hs : szB P x.type with
      | none => rw [hs] at h; cases h
      | some s' => rw [hs] at h; simp at h; exact ⟨fs, x, hu, hx, by rw [hs, h.2], h.1⟩
  · cases h

theorem mapM_run {α β : Type} (f : α → Sem β) (g : α → Option β) (hf : ∀ x y, g x = some y → (f x).run P w = .ok y w) : ∀ (l : List α) (r : List β), l.mapM g = some r → (l.mapM f).run P w = .ok r w
  | [], r, h => by simp at h; subst h; simp
  | x :: l, r, h => by
    rw [List.mapM_cons] at h ⊢
    cases hx : g x with
    | none => rw [hx] at h; simp at h
    | some y =>
      rw [hx] at h
      cases hl : l.mapM g with
      | none => rw [hl] at h; simp at h
      | some r' =>
        rw [hl] at h
        simp at h
        subst h
        have ih := mapM_run f g hf l r' hl
        simp [hf x y hx, ih]

theorem build_ok {t : TypeId} {z : List AV} {pl : List (Nat × Nat)} {parts : List (Nat × AV)} {partsc : Array (Nat × Value)} {res : List AV} (hz : zeroB P t = some z) (hp : placesB P t = some pl)
    (hn : partsc.toList.map (·.1) = parts.map (·.1)) (hrel : ∀ (j : Nat) p q, parts[j]? = some p → partsc.toList[j]? = some q → Rv lo W η lam κ p.2 q.2) (h : fillA (fun (i : Nat) => pl[i]?) z parts = some res) :
    ∃ u, (Instr.build t partsc).run P w = .ok u w ∧ Rv lo W η lam κ (.agg res) u := by
  obtain ⟨zv, i, hzr, _, _, hzz⟩ := zeroB_run (w := w) hz
  unfold placesB at hp
  split at hp
  · rename_i fs hu
    have hm := mapM_run (P := P) (w := w) (fun f : Field => (do pure (f.offset, ← sizeOf f.type) : Sem (Nat × Nat))) _ (fun f y hy => by
      cases hs : szB P f.type with
      | none => rw [hs] at hy; cases hy
      | some s => rw [hs] at hy; simp at hy; subst hy; simp [szB_run hs]) fs.toList pl hp
    obtain ⟨rc, h1, h2⟩ := fill_ok hn hrel (zero_rel hzz) h
    refine ⟨.agg rc, ?_, Rv_mkagg h2⟩
    have hm' : (fs.mapM fun f => (do pure (f.offset, ← sizeOf f.type) : Sem (Nat × Nat))).run P w = .ok pl.toArray w := by
      rw [Array.mapM_eq_mapM_toList]
      simp only [Sem.run_map, hm, Result.andThen_ok]
    have hg : (fun x => pl.toArray[x]?) = (fun (i : Nat) => pl[i]?) := by funext x; simp
    simp only [Instr.build, Sem.run_bind, hzr, Result.andThen_ok, run_underlying hu, hm', hg, h1, Sem.run_pure]
  · cases hp

theorem intsOf_rel : ∀ {l : List AV} {a : List (IntKind × Int)} {arr : List Value}, intsOf l = some a → (∀ (i : Nat) (x : AV), l[i]? = some x → ∃ u, arr[i]? = some u ∧ Rc lo W η lam κ x u) → arr.length = l.length → arr = a.map fun p => .int p.1 p.2
  | [], a, [], h, _, _ => by simp [intsOf] at h; subst h; rfl
  | [], _, _ :: _, _, _, hl => by simp at hl
  | _ :: _, _, [], _, _, hl => by simp at hl
  | x :: l, a, u :: arr, h, hr, hl => by
    cases x <;> simp only [intsOf] at h <;> try (cases h; done)
    rename_i k n
    cases hi : intsOf l with
    | none => rw [hi] at h; cases h
    | some a' =>
      rw [hi] at h
      simp at h
      subst h
      obtain ⟨u', hu', hrel⟩ := hr 0 _ rfl
      simp at hu'
      subst hu'
      obtain rfl : u = .int k n := hrel.2
      rw [intsOf_rel hi (fun i x hx => hr (i + 1) x (by simpa using hx)) (by simpa using hl)]
      rfl

theorem eqFields_ok (d : Nat) {a b : List (IntKind × Int)} (hk : a.map (·.1) = b.map (·.1)) : ∀ (fs : List Field) (i : Nat), (∀ (j : Nat) f, fs[j]? = some f → f.offset = i + j ∧ f.name ≠ "_" ∧ ∃ k, P.underlying f.type = some (.int k)) →
    a.length = i + fs.length → (Op.eqFields (d + 1) (a.map fun p => Value.int p.1 p.2).toArray (b.map fun p => Value.int p.1 p.2).toArray fs).run P w = .ok (sameInts (a.drop i) (b.drop i)) w
  | [], i, _, hl => by
    have hlb : b.length = a.length := by have := congrArg List.length hk; simpa using this.symm
    rw [List.drop_of_length_le (by simp at hl; omega), List.drop_of_length_le (by simp at hl; omega)]
    rfl
  | f :: fs, i, hf, hl => by
    have hlb : b.length = a.length := by have := congrArg List.length hk; simpa using this.symm
    obtain ⟨ho, hn, k, hu⟩ := hf 0 f rfl
    simp only [List.length_cons] at hl
    have hia : i < a.length := by omega
    have hib : i < b.length := by omega
    have hg : (isAgg f.type).run P w = .ok false w := by simp [isAgg, run_underlying hu]
    have pa : (part f.type (a.map fun p => Value.int p.1 p.2).toArray f.offset).run P w = .ok (.int a[i].1 a[i].2) w := by
      simp [part, hg, ho, hia]
    have pb : (part f.type (b.map fun p => Value.int p.1 p.2).toArray f.offset).run P w = .ok (.int a[i].1 b[i].2) w := by
      have : a[i].1 = b[i].1 := by
        have := congrArg (fun l => l[i]?) hk
        simpa [hia, hib] using this
      simp [part, hg, ho, hib, this]
    have ih := eqFields_ok d hk fs (i + 1) (fun j g hg => by obtain ⟨h1, h2⟩ := hf (j + 1) g (by simpa using hg); exact ⟨by omega, h2⟩) (by omega)
    simp only [Op.eqFields, hn, ne_eq, not_false_eq_true, if_true, Sem.run_bind, pa, pb, Result.andThen_ok, run_equalIn_int _ _ _ _ _ _ _ hu, Sem.run_ite, Sem.run_pure, ih]
    rw [List.drop_eq_getElem_cons hia, List.drop_eq_getElem_cons hib]
    simp only [sameInts, List.map_cons]
    by_cases e : a[i].2 = b[i].2
    · simp [e]
    · simp [e]

theorem structEq_ok {t : TypeId} (hp : plainStructB P t = true) {l l' : List AV} {a b : List (IntKind × Int)} {u u' : Array Value} (hr : RL (Rc lo W η lam κ) l u) (hr' : RL (Rc lo W η lam κ) l' u') (ha : intsOf l = some a) (hb : intsOf l' = some b)
    (hn : nfieldsB P t = some a.length) (hk : a.map (·.1) = b.map (·.1)) : (Op.equal t (.agg u) (.agg u')).run P w = .ok (sameInts a b) w ∧ P.eqGuardType P.depth t = false := by
  unfold plainStructB at hp
  split at hp
  · rename_i fs hu
    simp only [Bool.and_eq_true, Bool.not_eq_true'] at hp
    obtain ⟨⟨h1, h2⟩, h3⟩ := hp
    refine ⟨?_, h3⟩
    have eu : u = (a.map fun p => Value.int p.1 p.2).toArray := by
      have := intsOf_rel (arr := u.toList) ha (fun i x hx => by obtain ⟨v, hv, hr⟩ := hr.2 i x hx; exact ⟨v, by simpa using hv, hr⟩) (by simpa using hr.1)
      rw [← this]
    have eu' : u' = (b.map fun p => Value.int p.1 p.2).toArray := by
      have := intsOf_rel (arr := u'.toList) hb (fun i x hx => by obtain ⟨v, hv, hr⟩ := hr'.2 i x hx; exact ⟨v, by simpa using hv, hr⟩) (by simpa using hr'.1)
      rw [← this]
    have hfs : P.fieldsOf t = fs := by simp [Program.fieldsOf, hu]
    unfold nfieldsB at hn
    rw [hu] at hn
    simp only [Option.some.injEq] at hn
    unfold Op.equal Op.maxDepth
    rw [run_equalIn_struct w 9999 t u u' (by rw [hfs]; exact hu) h2, eu, eu', hfs]
    have := eqFields_ok (P := P) (w := w) 9998 hk fs.toList 0 (fun j f hj => by
      have hj' : fs[j]? = some f := by simpa using hj
      have hlt : j < fs.size := (Array.getElem?_eq_some_iff.1 hj').1
      have := List.all_eq_true.1 h1 j (List.mem_range.2 hlt)
      simp only [hj', Bool.and_eq_true, beq_iff_eq, bne_iff_ne] at this
      obtain ⟨⟨g1, g2⟩, g3⟩ := this
      refine ⟨by omega, g2, ?_⟩
      split at g3
      · rename_i k hk; exact ⟨k, hk⟩
      · cases g3) (by simp [← hn])
    simpa using this
  · cases hp

end
end Go.Proofs.YtaalpmbopkbdiaaGreat
/- The abstract logic: an operation that only looks yields what the abstract one says. -/
namespace Go.Proofs.YtaalpmbopkbdiaaGreat
open Go

section
variable {P : Program} {lo : Nat} {W : Wit} {η : List Blk} {lam : Nat → LB} {κ : Nat → Nat} {w : World}

theorem sl_open {b ver off len : Nat} {u : Value} {blk : Blk} (h : Rv lo W η lam κ (.sl b ver off len) u) (hb : η[b]? = some blk) (hv : ver = blk.ver) : ∃ a cap, u = .slice (some a) len cap ∧ len ≤ cap ∧ (cap = 0 ∨ (a = (W.ι b).add off ∧ (lo ≤ b → off + cap * blk.sz ≤ W.cs b))) := by
  obtain ⟨blk', h0, _, h2⟩ := Rv_sl h
  rw [hb] at h0
  obtain rfl := Option.some.inj h0
  exact h2 hv

theorem slc_open {b ver off len cap : Nat} {u : Value} {blk : Blk} (h : Rv lo W η lam κ (.slc b ver off len cap) u) (hb : η[b]? = some blk) (hv : ver = blk.ver) : lo ≤ b ∧ ∃ a, u = .slice (some a) len cap ∧ len ≤ cap ∧ (cap = 0 ∨ (a = (W.ι b).add off ∧ off + cap * blk.sz ≤ W.cs b)) := by
  obtain ⟨hlo, blk', h0, _, h2⟩ := Rv_slc h
  rw [hb] at h0
  obtain rfl := Option.some.inj h0
  exact ⟨hlo, h2 hv⟩

theorem ptr_open {b ver off : Nat} {u : Value} (h : Rv lo W η lam κ (.ptr b ver off) u) (hc : cur η b ver = true) : u = .pointer (some ((W.ι b).add off)) := by
  obtain ⟨blk, h0, _, h2⟩ := Rv_ptr h
  unfold cur at hc
  rw [h0] at hc
  exact h2 (by simpa using hc)

theorem foldl_max {ρ : Operand → AV} {ρc : Operand → Value} (hρ : ∀ x, Rv lo W η lam κ (ρ x) (ρc x)) : ∀ (r : List Operand) (acc : Option AV) (v : AV), (∀ x, acc = some x → ∃ k n, x = .int k n) →
    r.foldl (maxStep ρ) acc = some v →
    ∃ k a, acc = some (.int k a) ∧ ∃ k' n, v = .int k' n ∧ ((r.map ρc).foldlM Builtin.max2 (.int k a)).run P w = .ok (.int k' n) w
  | [], acc, v, hacc, h => by
    simp only [List.foldl_nil] at h
    obtain ⟨k, n, rfl⟩ := hacc v h
    exact ⟨k, n, h, k, n, rfl, by simp⟩
  | y :: r, acc, v, hacc, h => by
    simp only [List.foldl_cons] at h
    have nn : ∀ (r : List Operand), r.foldl (maxStep ρ) none = (none : Option AV) := by
      intro r; induction r with
      | nil => rfl
      | cons z r ih => simpa [maxStep] using ih
    cases acc with
    | none => simp only [maxStep] at h; rw [nn] at h; cases h
    | some x =>
      obtain ⟨k, a, rfl⟩ := hacc x rfl
      cases hy : ρ y with
      | int k2 b =>
        simp only [maxStep, hy] at h
        obtain ⟨k3, a3, e3, k', n, rfl, hrun⟩ := foldl_max hρ r _ v (fun x hx => by cases hx; exact ⟨_, _, rfl⟩) h
        cases e3
        have hc := hρ y
        rw [hy] at hc
        have := Rv_int hc
        refine ⟨k, a, rfl, k', n, rfl, ?_⟩
        simp only [List.map_cons, List.foldlM_cons, this, Builtin.max2]
        simpa using hrun
      | _ => simp only [maxStep, hy] at h; rw [nn] at h; cases h

theorem foldl_min {ρ : Operand → AV} {ρc : Operand → Value} (hρ : ∀ x, Rv lo W η lam κ (ρ x) (ρc x)) : ∀ (r : List Operand) (acc : Option AV) (v : AV), (∀ x, acc = some x → ∃ k n, x = .int k n) →
    r.foldl (minStep ρ) acc = some v →
    ∃ k a, acc = some (.int k a) ∧ ∃ k' n, v = .int k' n ∧ ((r.map ρc).foldlM Builtin.min2 (.int k a)).run P w = .ok (.int k' n) w
  | [], acc, v, hacc, h => by
    simp only [List.foldl_nil] at h
    obtain ⟨k, n, rfl⟩ := hacc v h
    exact ⟨k, n, h, k, n, rfl, by simp⟩
  | y :: r, acc, v, hacc, h => by
    simp only [List.foldl_cons] at h
    have nn : ∀ (r : List Operand), r.foldl (minStep ρ) none = (none : Option AV) := by
      intro r; induction r with
      | nil => rfl
      | cons z r ih => simpa [minStep] using ih
    cases acc with
    | none => simp only [minStep] at h; rw [nn] at h; cases h
    | some x =>
      obtain ⟨k, a, rfl⟩ := hacc x rfl
      cases hy : ρ y with
      | int k2 b =>
        simp only [minStep, hy] at h
        obtain ⟨k3, a3, e3, k', n, rfl, hrun⟩ := foldl_min hρ r _ v (fun x hx => by cases hx; exact ⟨_, _, rfl⟩) h
        cases e3
        have hc := hρ y
        rw [hy] at hc
        have := Rv_int hc
        refine ⟨k, a, rfl, k', n, rfl, ?_⟩
        simp only [List.map_cons, List.foldlM_cons, this, Builtin.min2]
        simpa using hrun
      | _ => simp only [minStep, hy] at h; rw [nn] at h; cases h

theorem slice_ok {t e : TypeId} {k b ver off len : Nat} {blk : Blk} {u : Value} (ht : elemB P t = some (e, k)) (hb : η[b]? = some blk) (hk : blk.sz = k) (hv : ver = blk.ver) (hu : Rv lo W η lam κ (.sl b ver off len) u)
    {i j : Int} (h0 : 0 ≤ i) (h1 : i ≤ j) (h2 : j ≤ len) {lc hc : Option Value} (hl : (lc = none ∧ i = 0) ∨ ∃ kk, lc = some (.int kk i)) (hh : (hc = none ∧ j = len) ∨ ∃ kk, hc = some (.int kk j)) :
    ∃ r, (Instr.sliceAt t u lc hc none).run P w = .ok r w ∧ Rv lo W η lam κ (.sl b ver (off + i.toNat * k) (j.toNat - i.toNat)) r := by
  obtain ⟨a, cap, rfl, hle, hcap⟩ := sl_open hu hb hv
  obtain ⟨hte, hse⟩ := elemB_spec ht
  have bound : ∀ (kk : IntKind) (x : Int) (y : Nat) (code : BoundsCode), 0 ≤ x → x ≤ y → (Instr.sliceBound (.int kk x) y code).run P w = .ok x.toNat w := by
    intro kk x y code hx hy
    simp [Instr.sliceBound, asIntOf, hx, hy]
  have hbounds : (Instr.sliceBounds true len cap lc hc none).run P w = .ok (i.toNat, j.toNat, cap) w := by
    have e1 : (match hc with | some v => Instr.sliceBound v cap (if true then BoundsCode.sliceAcap else BoundsCode.sliceAlen) | none => pure len : Sem Nat).run P w = .ok j.toNat w := by
      rcases hh with ⟨rfl, rfl⟩ | ⟨kk, rfl⟩
      · simp
      · exact bound kk j cap _ (by omega) (by omega)
    have e2 : (match lc with | some v => Instr.sliceBound v j.toNat BoundsCode.sliceB | none => pure 0 : Sem Nat).run P w = .ok i.toNat w := by
      rcases hl with ⟨rfl, rfl⟩ | ⟨kk, rfl⟩
      · simp
      · exact bound kk i j.toNat _ h0 (by omega)
    rcases hh with ⟨rfl, rfl⟩ | ⟨kk, rfl⟩ <;> rcases hl with ⟨rfl, rfl⟩ | ⟨kk', rfl⟩ <;> simp_all [Instr.sliceBounds]
  refine ⟨.slice (if cap = i.toNat then some a else (some a).map (·.add (i.toNat * k))) (j.toNat - i.toNat) (cap - i.toNat), ?_, ?_⟩
  · simp [Instr.sliceAt, Instr.slice, run_underlying hte, hbounds, szB_run hse]
  · refine Rv_mkc ⟨rfl, blk, hb, by omega, fun _ => ?_⟩
    by_cases e : cap = i.toNat
    · rw [if_pos e]
      exact ⟨a, cap - i.toNat, rfl, by omega, .inl (by omega)⟩
    · rw [if_neg e]
      refine ⟨_, cap - i.toNat, rfl, by omega, ?_⟩
      rcases hcap with rfl | ⟨rfl, hcs⟩
      · left; omega
      · right
        refine ⟨Deep.add_add _ _ _, fun hlo => ?_⟩
        have := hcs hlo
        subst hk
        have hi : i.toNat ≤ cap := by omega
        have : i.toNat * blk.sz + (cap - i.toNat) * blk.sz = cap * blk.sz := by rw [← Nat.add_mul]; congr 1; omega
        omega


theorem slicec_ok {t e : TypeId} {k b ver off len cap : Nat} {blk : Blk} {u : Value} (ht : elemB P t = some (e, k)) (hb : η[b]? = some blk) (hk : blk.sz = k) (hv : ver = blk.ver) (hu : Rv lo W η lam κ (.slc b ver off len cap) u)
    {i j : Int} (h0 : 0 ≤ i) (h1 : i ≤ j) (h2 : j ≤ cap) {lc hc : Option Value} (hl : (lc = none ∧ i = 0) ∨ ∃ kk, lc = some (.int kk i)) (hh : (hc = none ∧ j = len) ∨ ∃ kk, hc = some (.int kk j)) :
    ∃ r, (Instr.sliceAt t u lc hc none).run P w = .ok r w ∧ Rv lo W η lam κ (.slc b ver (off + i.toNat * k) (j.toNat - i.toNat) (cap - i.toNat)) r := by
  obtain ⟨hlo, a, rfl, hle, hcap⟩ := slc_open hu hb hv
  obtain ⟨hte, hse⟩ := elemB_spec ht
  have bound : ∀ (kk : IntKind) (x : Int) (y : Nat) (code : BoundsCode), 0 ≤ x → x ≤ y → (Instr.sliceBound (.int kk x) y code).run P w = .ok x.toNat w := by
    intro kk x y code hx hy
    simp [Instr.sliceBound, asIntOf, hx, hy]
  have hbounds : (Instr.sliceBounds true len cap lc hc none).run P w = .ok (i.toNat, j.toNat, cap) w := by
    have e1 : (match hc with | some v => Instr.sliceBound v cap (if true then BoundsCode.sliceAcap else BoundsCode.sliceAlen) | none => pure len : Sem Nat).run P w = .ok j.toNat w := by
      rcases hh with ⟨rfl, rfl⟩ | ⟨kk, rfl⟩
      · simp
      · exact bound kk j cap _ (by omega) (by omega)
    have e2 : (match lc with | some v => Instr.sliceBound v j.toNat BoundsCode.sliceB | none => pure 0 : Sem Nat).run P w = .ok i.toNat w := by
      rcases hl with ⟨rfl, rfl⟩ | ⟨kk, rfl⟩
      · simp
      · exact bound kk i j.toNat _ h0 (by omega)
    rcases hh with ⟨rfl, rfl⟩ | ⟨kk, rfl⟩ <;> rcases hl with ⟨rfl, rfl⟩ | ⟨kk', rfl⟩ <;> simp_all [Instr.sliceBounds]
  refine ⟨.slice (if cap = i.toNat then some a else (some a).map (·.add (i.toNat * k))) (j.toNat - i.toNat) (cap - i.toNat), ?_, ?_⟩
  · simp [Instr.sliceAt, Instr.slice, run_underlying hte, hbounds, szB_run hse]
  · refine Rv_mkc ⟨rfl, hlo, blk, hb, by omega, fun _ => ?_⟩
    by_cases e : cap = i.toNat
    · rw [if_pos e]
      exact ⟨a, rfl, by omega, .inl (by omega)⟩
    · rw [if_neg e]
      refine ⟨_, rfl, by omega, ?_⟩
      rcases hcap with rfl | ⟨rfl, hcs⟩
      · left; omega
      · right
        refine ⟨Deep.add_add _ _ _, ?_⟩
        subst hk
        have hi : i.toNat ≤ cap := by omega
        have : i.toNat * blk.sz + (cap - i.toNat) * blk.sz = cap * blk.sz := by rw [← Nat.add_mul]; congr 1; omega
        omega

end
end Go.Proofs.YtaalpmbopkbdiaaGreat
/- The abstract logic: every operation that only looks yields in the machine what the abstract one says. -/
namespace Go.Proofs.YtaalpmbopkbdiaaGreat
open Go

section
variable {P : Program} {lo : Nat} {W : Wit} {η : List Blk} {lam : Nat → LB} {κ : Nat → Nat} {w : World}

theorem int_or {ρ : Operand → AV} {ρc : Operand → Value} (hρ : ∀ x, Rv lo W η lam κ (ρ x) (ρc x)) {l : Operand} {n : Int} (h : (match ρ l with | .int _ n => some n | _ => none) = some n) : ∃ kk, ρc l = .int kk n := by
  have := hρ l
  cases hl : ρ l <;> rw [hl] at h this <;> simp at h
  subst h
  exact ⟨_, Rv_int this⟩

theorem eq_nil_nil (d : Nat) {t e : TypeId} (ht : P.underlying t = some (.slice e)) : (Op.equalIn (d + 1) t (.slice none 0 0) (.slice none 0 0)).run P w = .ok true w := by
  simp [Op.equalIn, run_underlying ht]
theorem eq_bool (d : Nat) {t : TypeId} (ht : P.underlying t = some .bool) (a b : Bool) : (Op.equalIn (d + 1) t (.bool a) (.bool b)).run P w = .ok (a == b) w := by
  simp [Op.equalIn, run_underlying ht]
theorem boolB_spec {t : TypeId} (h : boolB P t = true) : P.underlying t = some .bool := by
  unfold boolB at h
  split at h
  · assumption
  · cases h
theorem eq_sl_nil (d : Nat) {t e : TypeId} (ht : P.underlying t = some (.slice e)) (a : Addr) (n c : Nat) : (Op.equalIn (d + 1) t (.slice (some a) n c) (.slice none 0 0)).run P w = .ok false w := by
  simp [Op.equalIn, run_underlying ht]

theorem pv_ok (hs : HSim lo W η w) (ls : LSim lo W η lam κ w) {o : Oper} {ρ : Operand → AV} {ρc : Operand → Value} (hρ : ∀ x, Rv lo W η lam κ (ρ x) (ρc x)) {v : AV}
    (h : pv P o ρ lam η = some v) : ∃ u, (execOp ρc o).run P w = .ok (.value u) w ∧ Rv lo W η lam κ v u := by
  obtain ⟨dst, op, ty, pos, after, gd⟩ := o
  cases op with
  | move x => simp only [pv, Option.some.injEq] at h; subst h; exact ⟨ρc x, by simp [execOp], hρ x⟩
  | assign x => simp only [pv, Option.some.injEq] at h; subst h; exact ⟨ρc x, by simp [execOp], hρ x⟩
  | pick c a b =>
    simp only [pv] at h
    have hc := hρ c
    cases hcc : ρ c <;> rw [hcc] at h hc <;> simp at h
    rename_i t
    have := Rv_bool hc
    subst h
    refine ⟨if t then ρc a else ρc b, by simp [execOp, this, asBool], ?_⟩
    cases t
    · exact hρ b
    · exact hρ a
  | nilCheck x =>
    simp only [pv] at h
    have hx := hρ x
    cases hxx : ρ x <;> rw [hxx] at h hx <;> simp at h
    · obtain ⟨hc, rfl⟩ := h
      exact ⟨_, by simp [execOp, ptr_open hx hc]; rfl, by rw [← ptr_open hx hc]; exact hx⟩
    · obtain ⟨hc, rfl⟩ := h
      have := (Rv_loc hx).2.2 hc.1
      exact ⟨_, by simp [execOp, this]; rfl, by rw [← this]; exact hx⟩
  | build t parts => 
    simp only [pv] at h
    cases hz : zeroB P t with
    | none => simp [hz] at h
    | some z =>
      cases hp : placesB P t with
      | none => simp [hz, hp] at h
      | some pl =>
        simp only [hz, hp] at h
        cases hf : fillA (fun (i : Nat) => pl[i]?) z (parts.toList.map fun p => (p.1, ρ p.2)) with
        | none => rw [hf] at h; cases h
        | some res =>
          rw [hf] at h
          simp at h
          subst h
          obtain ⟨u, h1, h2⟩ := build_ok (partsc := parts.map fun p => (p.1, ρc p.2)) (w := w) hz hp (by simp [Function.comp_def]) (fun j p q hp hq => by
            rw [List.getElem?_map] at hp
            rw [Array.toList_map, List.getElem?_map] at hq
            cases hj : parts.toList[j]? with
            | none => rw [hj] at hp; cases hp
            | some x => rw [hj] at hp hq; simp at hp hq; subst hp; subst hq; exact hρ x.2) hf
          exact ⟨u, by simp [execOp, h1], h2⟩
  | load t a =>
    obtain ⟨r, h1, h2⟩ := load_ok hs ls (hρ a) rfl h
    exact ⟨r, by simp [execOp, h1], h2⟩
  | unOp op t x =>
    simp only [pv] at h
    have hx := hρ x
    cases op <;> cases hxx : ρ x <;> rw [hxx] at h hx <;> simp at h
    · subst h
      exact ⟨_, by simp [execOp, Rv_int hx, Op.unary, Op.intArith], Rv_mkc ⟨rfl, rfl⟩⟩
    · subst h
      exact ⟨_, by simp [execOp, Rv_bool hx, Op.unary], Rv_mkc ⟨rfl, rfl⟩⟩
  | convert src dst x =>
    simp only [pv] at h
    have hx := hρ x
    cases hi : intB P src with
    | none => simp [hi] at h
    | some k1 =>
      cases hj : intB P dst with
      | none => simp [hi, hj] at h
      | some k2 =>
        cases hxx : ρ x <;> rw [hxx] at h hx <;> simp [hi, hj] at h
        subst h
        unfold intB at hi hj
        split at hi
        · split at hj
          · rename_i hu _ _ hu'
            cases hj
            refine ⟨_, ?_, Rv_mkc ⟨rfl, rfl⟩⟩
            simp [execOp, convert, run_underlying hu, run_underlying hu', Rv_int hx, Conv.intToInt]
          · cases hj
        · cases hi
  | fieldAddr t x f =>
    simp only [pv] at h
    have hx := hρ x
    cases hf : fieldB P t f with
    | none => simp [hf] at h
    | some os =>
      obtain ⟨off, s⟩ := os
      obtain ⟨fs, fx, hu, hfx, hsz, rfl⟩ := fieldB_spec hf
      cases hxx : ρ x <;> rw [hxx] at h hx <;> simp [hf] at h
      · rename_i b ver o
        obtain ⟨⟨hs0, hc⟩, rfl⟩ := h
        have hp := ptr_open hx hc
        refine ⟨.pointer (some ((W.ι b).add (o + fx.offset))), ?_, ?_⟩
        · simp [execOp, Instr.fieldAt, run_underlying hu, hfx, hp, Instr.sureAddr, fieldPlace, szB_run hsz, hs0, Deep.add_add]
        · obtain ⟨blk, h0, h1, _⟩ := Rv_ptr hx
          exact Rv_mkc ⟨rfl, blk, h0, h1, fun _ => rfl⟩
      · rename_i b ver o
        obtain ⟨⟨hs0, hc⟩, rfl⟩ := h
        obtain ⟨g0, g1, g2⟩ := Rv_loc hx
        have hp := g2 hc.1
        refine ⟨.pointer (some ⟨κ b, o + fx.offset, none⟩), ?_, Rv_mkc ⟨rfl, g0, g1, fun _ => ⟨((Rv_locM hx).2.2 hc.1).1, rfl⟩⟩⟩
        simp [execOp, Instr.fieldAt, run_underlying hu, hfx, hp, Instr.sureAddr, fieldPlace, szB_run hsz, hs0, add_zero_plain]
  | indexAddr t x i =>
    simp only [pv] at h
    have hx := hρ x
    have hi := hρ i
    cases he : elemB P t with
    | none => simp [he] at h
    | some ek =>
      obtain ⟨e, k⟩ := ek
      obtain ⟨hte, hse⟩ := elemB_spec he
      cases hxx : ρ x <;> rw [hxx] at h hx <;> simp [he] at h
      rename_i b ver off len
      cases hii : ρ i <;> rw [hii] at h hi <;> simp at h
      rename_i kk n
      cases hb : η[b]? with
      | none => simp [hb] at h
      | some blk =>
        simp [hb] at h
        obtain ⟨⟨hv, h0, hn⟩, rfl⟩ := h
        obtain ⟨a, cap, hxc, hle, hcap⟩ := sl_open hx hb hv
        refine ⟨_, ?_, Rv_mkc ⟨rfl, blk, hb, by omega, fun _ => rfl⟩⟩
        have ha : a = (W.ι b).add off := by rcases hcap with hc | hc; omega; exact hc.1
        simp [execOp, Instr.indexAt, run_underlying hte, hxc, Rv_int hi, asIntOf, h0, hn, szB_run hse, ha, Deep.add_add]
  | extract x i =>
    simp only [pv] at h
    have hx := hρ x
    cases hxx : ρ x <;> rw [hxx] at h hx <;> simp at h
    obtain ⟨arr, hc, hr⟩ := Rv_tup hx
    obtain ⟨u, hu, hrel⟩ := hr.2 i v h
    exact ⟨u, by simp [execOp, hc, Instr.extract, hu], .inr (.inr hrel)⟩
  | slice t x l hh m =>
    cases m with
    | some m => simp [pv] at h
    | none =>
      simp only [pv] at h
      have hx := hρ x
      cases he : elemB P t with
      | none => simp [he] at h
      | some ek =>
        obtain ⟨e, k⟩ := ek
        cases hxx : ρ x <;> rw [hxx] at h hx <;> simp [he] at h
        case sl b ver off len =>
          cases hb : η[b]? with
          | none => simp [hb] at h
          | some blk =>
            simp only [hb] at h
            split at h
            · rename_i hc
              split at h
              · rename_i i j hi hj
                split at h
                · rename_i hbd
                  simp only [Option.some.injEq] at h
                  subst h
                  obtain ⟨r, h1, h2⟩ := slice_ok (w := w) (lc := l.map ρc) (hc := hh.map ρc) he hb hc.1 hc.2 hx hbd.1 hbd.2.1 hbd.2.2 (by
                    cases l with
                    | none => left; simp at hi; exact ⟨rfl, hi.symm⟩
                    | some l => right; obtain ⟨kk, hk⟩ := int_or hρ hi; exact ⟨kk, by simp [hk]⟩) (by
                    cases hh with
                    | none => left; simp at hj; exact ⟨rfl, hj.symm⟩
                    | some l => right; obtain ⟨kk, hk⟩ := int_or hρ hj; exact ⟨kk, by simp [hk]⟩)
                  exact ⟨r, by simp [execOp, h1], h2⟩
                · cases h
              · cases h
            · cases h
        case slc b ver off len cap =>
          cases hb : η[b]? with
          | none => simp [hb] at h
          | some blk =>
            simp only [hb] at h
            split at h
            · rename_i hc
              split at h
              · rename_i i j hi hj
                split at h
                · rename_i hbd
                  simp only [Option.some.injEq] at h
                  subst h
                  obtain ⟨r, h1, h2⟩ := slicec_ok (w := w) (lc := l.map ρc) (hc := hh.map ρc) he hb hc.1 hc.2 hx hbd.1 hbd.2.1 hbd.2.2 (by
                    cases l with
                    | none => left; simp at hi; exact ⟨rfl, hi.symm⟩
                    | some l => right; obtain ⟨kk, hk⟩ := int_or hρ hi; exact ⟨kk, by simp [hk]⟩) (by
                    cases hh with
                    | none => left; simp at hj; exact ⟨rfl, hj.symm⟩
                    | some l => right; obtain ⟨kk, hk⟩ := int_or hρ hj; exact ⟨kk, by simp [hk]⟩)
                  exact ⟨r, by simp [execOp, h1], h2⟩
                · cases h
              · cases h
            · cases h
  | makeFunc fn first caps =>
    simp only [pv] at h
    cases fn with
    | func g =>
      simp only at h
      split at h
      · rename_i hall
        obtain ⟨hf, hall⟩ := hall
        obtain rfl : first = #[] := Array.eq_empty_of_size_eq_zero hf
        simp only [Option.some.injEq] at h
        subst h
        refine ⟨.func (.func g) #[] (caps.map ρc), by simp [execOp, Instr.makeFunc], Rv_mkc ⟨rfl, _, rfl, by simp, fun i x hx => ?_⟩⟩
        rw [List.getElem?_map, Array.getElem?_toList] at hx
        cases hc : caps[i]? with
        | none => rw [hc] at hx; cases hx
        | some c =>
          rw [hc] at hx
          simp only [Option.map_some, Option.some.injEq] at hx
          have hm := List.all_eq_true.1 hall (ρ c) (List.mem_map.2 ⟨c, by simpa using Array.mem_of_getElem? hc, rfl⟩)
          refine ⟨ρc c, by simp [hc], ?_⟩
          have hr := hρ c
          subst hx
          cases hcc : ρ c <;> rw [hcc] at hm hr <;> simp [isPtr] at hm
          exact ⟨Rv_one hr rfl, Rv_ptr hr⟩
      · cases h
    | _ => cases h
  | binOp op t x y t' =>
    simp only [pv] at h
    have hx := hρ x
    have hy := hρ y
    split at h
    · rename_i k a k' b hxx hyy
      rw [hxx] at hx; rw [hyy] at hy
      split at h
      · rename_i hk
        obtain ⟨r, h1, h2⟩ := binI_ok (P := P) (w := w) (lo := lo) (W := W) (η := η) (lam := lam) (κ := κ) hk h t
        refine ⟨r, ?_, h2⟩
        have hg : (eqGuard op t x y (.int k a) (.int k' b)).run P w = .ok () w := by
          unfold eqGuard; simp only [Sem.run_ite]; split <;> simp
        simp [execOp, Rv_int hx, Rv_int hy, hg, h1]
      · cases h
    · rename_i p q hxx hyy
      rw [hxx] at hx; rw [hyy] at hy
      split at h
      · rename_i ht
        have hg : (eqGuard op t x y (.bool p) (.bool q)).run P w = .ok () w := by
          unfold eqGuard; simp only [Sem.run_ite]; split <;> simp
        have heq : (Op.equal t (.bool p) (.bool q)).run P w = .ok (p == q) w := eq_bool 9999 (boolB_spec ht) p q
        cases op <;> simp only [reduceCtorEq, Option.some.injEq] at h
        · subst h
          exact ⟨_, by simp [execOp, Rv_bool hx, Rv_bool hy, hg, binOp, heq], Rv_mkc ⟨rfl, rfl⟩⟩
        · subst h
          exact ⟨.bool (!(p == q)), by simp [execOp, Rv_bool hx, Rv_bool hy, hg, binOp, heq], Rv_mkc ⟨rfl, rfl⟩⟩
      · cases h
    · rename_i hxx hyy
      rw [hxx] at hx; rw [hyy] at hy
      have hg : (eqGuard op t x y (.slice none 0 0) (.slice none 0 0)).run P w = .ok () w := by
        unfold eqGuard; simp only [Sem.run_ite]; split <;> simp
      cases op <;> simp at h
      all_goals
        obtain ⟨he, rfl⟩ := h
        obtain ⟨⟨e, k⟩, he⟩ := Option.isSome_iff_exists.1 he
        obtain ⟨hte, _⟩ := elemB_spec he
        have heq : (Op.equal t (.slice none 0 0) (.slice none 0 0)).run P w = .ok true w := eq_nil_nil 9999 hte
        exact ⟨_, by simp [execOp, Rv_nils hx, Rv_nils hy, hg, binOp, heq], Rv_mkc ⟨rfl, rfl⟩⟩
    · rename_i b ver off len hxx hyy
      rw [hxx] at hx; rw [hyy] at hy
      cases hb : η[b]? with
      | none => rw [hb] at h; cases h
      | some blk =>
        simp only [hb] at h
        split at h
        · rename_i hv
          obtain ⟨a, cap, hxc, _⟩ := sl_open hx hb hv
          have hg : (eqGuard op t x y (.slice (some a) len cap) (.slice none 0 0)).run P w = .ok () w := by
            unfold eqGuard; simp only [Sem.run_ite]; split <;> simp
          cases op <;> simp at h
          all_goals
            obtain ⟨he, rfl⟩ := h
            obtain ⟨⟨e, k⟩, he⟩ := Option.isSome_iff_exists.1 he
            obtain ⟨hte, _⟩ := elemB_spec he
            have heq : (Op.equal t (.slice (some a) len cap) (.slice none 0 0)).run P w = .ok false w := eq_sl_nil 9999 hte _ _ _
            exact ⟨_, by simp [execOp, hxc, Rv_nils hy, hg, binOp, heq], Rv_mkc ⟨rfl, rfl⟩⟩
        · cases h
    · rename_i l l' hxx hyy
      rw [hxx] at hx; rw [hyy] at hy
      obtain ⟨u, hxc, hr⟩ := Rv_agg hx
      obtain ⟨u', hyc, hr'⟩ := Rv_agg hy
      split at h
      · rename_i hp
        split at h
        · rename_i a b ha hb
          split at h
          · rename_i hc
            obtain ⟨h1, h2⟩ := structEq_ok (w := w) hp hr hr' ha hb hc.1 hc.2
            have hg : (eqGuard .eql t x y (.agg u) (.agg u')).run P w = .ok () w := by
              unfold eqGuard; simp [h2]
            simp only [Option.some.injEq] at h
            subst h
            exact ⟨_, by simp [execOp, hxc, hyc, hg, binOp, h1], Rv_mkc ⟨rfl, rfl⟩⟩
          · cases h
        · rename_i a b ha hb
          split at h
          · rename_i hc
            obtain ⟨h1, h2⟩ := structEq_ok (w := w) hp hr hr' ha hb hc.1 hc.2
            have hg : (eqGuard .neq t x y (.agg u) (.agg u')).run P w = .ok () w := by
              unfold eqGuard; simp [h2]
            simp only [Option.some.injEq] at h
            subst h
            exact ⟨_, by simp [execOp, hxc, hyc, hg, binOp, h1], Rv_mkc ⟨rfl, rfl⟩⟩
          · cases h
        · cases h
      · cases h
    · cases h
  | call c =>
    obtain ⟨callee, args, argTypes⟩ := c
    obtain ⟨args⟩ := args
    obtain ⟨argTypes⟩ := argTypes
    simp only [pv] at h
    split at h
    · rename_i x t rest
      have hx := hρ x
      cases he : elemB P t with
      | none => simp [he] at h
      | some ek =>
        obtain ⟨e, k⟩ := ek
        obtain ⟨hte, hse⟩ := elemB_spec he
        cases hxx : ρ x <;> rw [hxx] at h hx <;> simp [he] at h
        · subst h
          exact ⟨_, by simp [execOp, resolve, invoke, builtin, Builtin.len_, run_underlying hte, Rv_nils hx, goInt], Rv_mkc ⟨rfl, rfl⟩⟩
        · subst h
          obtain ⟨a, hxc⟩ := Rv_emp hx
          exact ⟨_, by simp [execOp, resolve, invoke, builtin, Builtin.len_, run_underlying hte, hxc, goInt], Rv_mkc ⟨rfl, rfl⟩⟩
        · rename_i b ver off len
          cases hb : η[b]? with
          | none => simp [hb] at h
          | some blk =>
            simp [hb] at h
            obtain ⟨hv, rfl⟩ := h
            obtain ⟨a, cap, hxc, _⟩ := sl_open hx hb hv
            exact ⟨_, by simp [execOp, resolve, invoke, builtin, Builtin.len_, run_underlying hte, hxc, goInt], Rv_mkc ⟨rfl, rfl⟩⟩
        · rename_i b ver off len cap
          cases hb : η[b]? with
          | none => simp [hb] at h
          | some blk =>
            simp [hb] at h
            obtain ⟨hv, rfl⟩ := h
            obtain ⟨_, a, hxc, _⟩ := slc_open hx hb hv
            exact ⟨_, by simp [execOp, resolve, invoke, builtin, Builtin.len_, run_underlying hte, hxc, goInt], Rv_mkc ⟨rfl, rfl⟩⟩
    · rename_i x t rest
      have hx := hρ x
      cases he : elemB P t with
      | none => simp [he] at h
      | some ek =>
        obtain ⟨e, k⟩ := ek
        obtain ⟨hte, hse⟩ := elemB_spec he
        cases hxx : ρ x <;> rw [hxx] at h hx <;> simp [he] at h
        · rename_i b ver off len cap
          cases hb : η[b]? with
          | none => simp [hb] at h
          | some blk =>
            simp [hb] at h
            obtain ⟨hv, rfl⟩ := h
            obtain ⟨_, a, hxc, _⟩ := slc_open hx hb hv
            exact ⟨_, by simp [execOp, resolve, invoke, builtin, Builtin.cap_, run_underlying hte, hxc, goInt], Rv_mkc ⟨rfl, rfl⟩⟩
    · rename_i x r
      obtain ⟨k, a, e1, k', n, rfl, hrun⟩ := foldl_max (P := P) (w := w) hρ r _ v (fun y hy => by
        cases hx : ρ x <;> rw [hx] at hy <;> simp at hy
        exact ⟨_, _, hy.symm⟩) h
      have hx := hρ x
      have hxc : ρc x = .int k a := by
        cases hxx : ρ x <;> rw [hxx] at e1 hx <;> simp at e1
        obtain ⟨rfl, rfl⟩ := e1
        exact Rv_int hx
      exact ⟨_, by simp [execOp, resolve, invoke, builtin, Builtin.max_, hxc, hrun], Rv_mkc ⟨rfl, rfl⟩⟩
    · rename_i x r
      obtain ⟨k, a, e1, k', n, rfl, hrun⟩ := foldl_min (P := P) (w := w) hρ r _ v (fun y hy => by
        cases hx : ρ x <;> rw [hx] at hy <;> simp at hy
        exact ⟨_, _, hy.symm⟩) h
      have hx := hρ x
      have hxc : ρc x = .int k a := by
        cases hxx : ρ x <;> rw [hxx] at e1 hx <;> simp at e1
        obtain ⟨rfl, rfl⟩ := e1
        exact Rv_int hx
      exact ⟨_, by simp [execOp, resolve, invoke, builtin, Builtin.min_, hxc, hrun], Rv_mkc ⟨rfl, rfl⟩⟩
    · cases h
  | _ => simp [pv] at h

end
end Go.Proofs.YtaalpmbopkbdiaaGreat
/- The abstract logic: new blocks, new locals, worlds that grow. -/
namespace Go.Proofs.YtaalpmbopkbdiaaGreat
open Go

/-- Nothing that was there has turned. -/
def Grows (w w' : World) : Prop := w'.os = w.os ∧ w'.tape = w.tape ∧ w'.output = w.output ∧ w.heap.size ≤ w'.heap.size ∧ ∀ k, k < w.heap.size → w'.heap[k]? = w.heap[k]?
theorem Grows.refl (w : World) : Grows w w := ⟨rfl, rfl, rfl, Nat.le_refl _, fun _ _ => rfl⟩
theorem Grows.drew (w : World) : Grows w w.drew := ⟨rfl, rfl, rfl, Nat.le_refl _, fun _ _ => rfl⟩
theorem Grows.alloc (w : World) (o : Obj) : Grows w (w.alloc o) := ⟨rfl, rfl, rfl, by simp, fun k hk => by
  show (w.heap.push o)[k]? = _
  rw [Array.getElem?_push, if_neg (by omega)]⟩
theorem Grows.trans {a b c : World} (h : Grows a b) (k : Grows b c) : Grows a c :=
  ⟨k.1.trans h.1, k.2.1.trans h.2.1, k.2.2.1.trans h.2.2.1, Nat.le_trans h.2.2.2.1 k.2.2.2.1, fun i hi => (k.2.2.2.2 i (Nat.lt_of_lt_of_le hi h.2.2.2.1)).trans (h.2.2.2.2 i hi)⟩
theorem Grows.cell {w w' : World} (h : Grows w w') {a : Addr} {u : Value} (hc : w.cell? a = some u) : w'.cell? a = some u := by
  have hb := World.block_lt_of_cell? w a hc
  rw [← hc]
  unfold World.cell?
  rw [h.2.2.2.2 _ hb]
theorem Grows.row {w w' : World} (h : Grows w w') {B : Nat} {o : Obj} (hc : w.heap[B]? = some o) : w'.heap[B]? = some o := by
  rw [h.2.2.2.2 B (Array.getElem?_eq_some_iff.1 hc).1]; exact hc
theorem Grows.fr {w w' : World} (h : Grows w w') {h0 : Nat} {S : Nat → Prop} (hh : h0 ≤ w.heap.size) : Fr h0 S w w' := ⟨h.1, h.2.1, h.2.2.1, h.2.2.2.1, fun k hk _ => h.2.2.2.2 k (by omega)⟩

section
variable {lo : Nat} {W : Wit} {η : List Blk} {lam : Nat → LB} {κ : Nat → Nat} {w w' : World}

theorem HSim.grow (h : HSim lo W η w) (g : Grows w w') : HSim lo W η w' :=
  ⟨h.lo_le, fun b blk hb j x hx => let ⟨u, h1, h2⟩ := h.cell b blk hb j x hx; ⟨u, g.cell h1, h2⟩,
   fun b blk hb hl => ⟨(h.own b blk hb hl).1, fun hp => let ⟨B, cur, h1, h2, h3⟩ := (h.own b blk hb hl).2 hp; ⟨B, cur, h1, g.row h2, h3⟩⟩, h.sep⟩

theorem LSim.grow (h : LSim lo W η lam κ w) (g : Grows w w') : LSim lo W η lam κ w' :=
  ⟨fun s hs => let ⟨o, h1, h2⟩ := h.row s hs; ⟨o, g.row h1, h2⟩, h.ll, h.lh⟩

/-- A block's number in the machine lies below the heap's size. -/
theorem HSim.lt (h : HSim lo W η w) {b : Nat} {blk : Blk} (hb : η[b]? = some blk) (hc : if lo ≤ b then 0 < W.cs b else blk.cells ≠ []) : (W.ι b).block < w.heap.size := by
  split at hc
  · rename_i hl
    obtain ⟨B, cur, h1, h2, _⟩ := (h.own b blk hb hl).2 hc
    rw [h1]
    exact (Array.getElem?_eq_some_iff.1 h2).1
  · cases hcells : blk.cells with
    | nil => exact absurd hcells hc
    | cons x r =>
      obtain ⟨u, h1, _⟩ := h.cell b blk hb 0 x (by rw [hcells]; rfl)
      have := World.block_lt_of_cell? w _ h1
      simpa [Addr.add] using this
theorem LSim.lt (h : LSim lo W η lam κ w) {s : Nat} (hs : 0 < (lam s).ver) : κ s < w.heap.size := by
  obtain ⟨o, h1, _⟩ := h.row s hs
  exact (Array.getElem?_eq_some_iff.1 h1).1

def pushW (W : Wit) (n : Nat) (a : Addr) (c : Nat) : Wit := ⟨upd W.ι n a, upd W.cs n c⟩

theorem upd_same {α : Type} (f : Nat → α) (i : Nat) (v : α) : upd f i v i = v := by simp [upd]
theorem upd_ne {α : Type} (f : Nat → α) {i j : Nat} (v : α) (h : j ≠ i) : upd f i v j = f j := by simp [upd, h]

theorem HStep.push (hlo : lo ≤ η.length) (blk : Blk) (a : Addr) (c : Nat) : HStep lo η (η ++ [blk]) W (pushW W η.length a c) := by
  refine ⟨fun b hb => ⟨List.getElem?_append_left (by omega), upd_ne _ _ (by omega), upd_ne _ _ (by omega)⟩, fun b bl hb => ?_⟩
  have hlt : b < η.length := (List.getElem?_eq_some_iff.1 hb).1
  exact ⟨bl, by rw [List.getElem?_append_left hlt]; exact hb, Nat.le_refl _, rfl, rfl, fun _ => ⟨upd_ne _ _ (by omega), upd_ne _ _ (by omega)⟩⟩

theorem getElem?_push {blk bl : Blk} {b : Nat} (h : (η ++ [blk])[b]? = some bl) : (b < η.length ∧ η[b]? = some bl) ∨ (b = η.length ∧ bl = blk) := by
  have hlt := (List.getElem?_eq_some_iff.1 h).1
  simp only [List.length_append, List.length_cons, List.length_nil] at hlt
  by_cases hb : b < η.length
  · left; rw [List.getElem?_append_left hb] at h; exact ⟨hb, h⟩
  · right
    have : b = η.length := by omega
    subst this
    rw [List.getElem?_append_right (Nat.le_refl _)] at h
    simp at h
    exact ⟨rfl, h.symm⟩

theorem HSim.push (h : HSim lo W η w) {blk : Blk} {cur : Array Value} (hv : (∀ (j : Nat) x, blk.cells[j]? = some x → ∃ u, cur[j]? = some u ∧ Rc lo W η lam0 kap0 x u)) (hl : blk.cells.length ≤ cur.size) :
    HSim lo (pushW W η.length ⟨w.heap.size, 0, none⟩ cur.size) (η ++ [blk]) (w.alloc (.cells cur blk.ty)) := by
  have hst : HStep lo η (η ++ [blk]) W (pushW W η.length ⟨w.heap.size, 0, none⟩ cur.size) := .push h.lo_le blk _ _
  have hrow : (w.alloc (.cells cur blk.ty)).heap[w.heap.size]? = some (.cells cur blk.ty (0, 0)) := by show (w.heap.push _)[w.heap.size]? = _; simp
  have hg := Grows.alloc w (.cells cur blk.ty)
  refine ⟨by rw [List.length_append]; have := h.lo_le; omega, fun b bl hb j x hx => ?_, fun b bl hb hlb => ?_, fun b b' bl hb hb' hlb' hp hne hc => ?_⟩
  · rcases getElem?_push hb with ⟨hlt, hb⟩ | ⟨rfl, rfl⟩
    · obtain ⟨u, h1, h2⟩ := h.cell b bl hb j x hx
      refine ⟨u, ?_, Rc_mono hst (LStep.refl _ _) h2⟩
      rw [show (pushW W η.length ⟨w.heap.size, 0, none⟩ cur.size).ι b = W.ι b from upd_ne _ _ (by omega)]
      exact hg.cell h1
    · obtain ⟨u, h1, h2⟩ := hv j x hx
      refine ⟨u, ?_, Rc_mono hst (LStep.refl _ _) h2⟩
      rw [show (pushW W η.length ⟨w.heap.size, 0, none⟩ cur.size).ι η.length = ⟨w.heap.size, 0, none⟩ from upd_same _ _ _]
      rw [add_zero_plain, Nat.zero_add, World.cell?_alloc_new]
      exact h1
  · rcases getElem?_push hb with ⟨hlt, hb⟩ | ⟨rfl, rfl⟩
    · rw [show (pushW W η.length ⟨w.heap.size, 0, none⟩ cur.size).ι b = W.ι b from upd_ne _ _ (by omega), show (pushW W η.length ⟨w.heap.size, 0, none⟩ cur.size).cs b = W.cs b from upd_ne _ _ (by omega)]
      exact ⟨(h.own b bl hb hlb).1, fun hp => let ⟨B, c, h1, h2, h3⟩ := (h.own b bl hb hlb).2 hp; ⟨B, c, h1, hg.row h2, h3⟩⟩
    · rw [show (pushW W η.length ⟨w.heap.size, 0, none⟩ cur.size).ι η.length = ⟨w.heap.size, 0, none⟩ from upd_same _ _ _, show (pushW W η.length ⟨w.heap.size, 0, none⟩ cur.size).cs η.length = cur.size from upd_same _ _ _]
      exact ⟨hl, fun _ => ⟨_, cur, rfl, hrow, rfl⟩⟩
  · have e1 : ∀ b, b ≠ η.length → (pushW W η.length ⟨w.heap.size, 0, none⟩ cur.size).ι b = W.ι b := fun b hb => upd_ne _ _ hb
    have e2 : ∀ b, b ≠ η.length → (pushW W η.length ⟨w.heap.size, 0, none⟩ cur.size).cs b = W.cs b := fun b hb => upd_ne _ _ hb
    have e3 : (pushW W η.length ⟨w.heap.size, 0, none⟩ cur.size).ι η.length = ⟨w.heap.size, 0, none⟩ := upd_same _ _ _
    simp only [List.length_append, List.length_cons, List.length_nil] at hb'
    rcases getElem?_push hb with ⟨hlt, hb⟩ | ⟨rfl, rfl⟩
    · rw [e2 b (by omega)] at hc
      rw [e1 b (by omega)]
      have hlt2 := h.lt hb hc
      by_cases hbn : b' = η.length
      · subst hbn
        rw [e3]
        exact Nat.ne_of_lt hlt2
      · rw [e1 b' hbn]
        rw [e2 b' hbn] at hp
        exact h.sep b b' bl hb (by omega) hlb' hp hne hc
    · rw [e3]
      have hbn : b' ≠ η.length := fun e => hne e.symm
      rw [e1 b' hbn]
      rw [e2 b' hbn] at hp
      have hlt' : b' < η.length := by omega
      have := h.lt (List.getElem?_eq_getElem hlt') (by rw [if_pos hlb']; exact hp)
      exact fun e => by simp at e; omega

theorem LSim.push (h : LSim lo W η lam κ w) (hs : HSim lo W η w) {blk : Blk} {cur : Array Value} {T : TypeId} :
    LSim lo (pushW W η.length ⟨w.heap.size, 0, none⟩ cur.size) (η ++ [blk]) lam κ (w.alloc (.cells cur T)) := by
  have hst : HStep lo η (η ++ [blk]) W (pushW W η.length ⟨w.heap.size, 0, none⟩ cur.size) := .push hs.lo_le blk _ _
  have hg := Grows.alloc w (.cells cur T)
  refine ⟨fun s hsv => ?_, h.ll, fun s b bl hsv hb hc => ?_⟩
  · obtain ⟨c, h1, h2⟩ := h.row s hsv
    exact ⟨c, hg.row h1, h2.mono fun _ _ hr => Rc_mono hst (LStep.refl _ _) hr⟩
  · rcases getElem?_push hb with ⟨hlt, hb⟩ | ⟨rfl, rfl⟩
    · rw [show (pushW W η.length ⟨w.heap.size, 0, none⟩ cur.size).ι b = W.ι b from upd_ne _ _ (by omega)]
      rw [show (pushW W η.length ⟨w.heap.size, 0, none⟩ cur.size).cs b = W.cs b from upd_ne _ _ (by omega)] at hc
      exact h.lh s b bl hsv hb hc
    · rw [show (pushW W η.length ⟨w.heap.size, 0, none⟩ cur.size).ι η.length = ⟨w.heap.size, 0, none⟩ from upd_same _ _ _]
      have := h.lt hsv
      exact fun e => by simp at e; omega

/-- A new local. -/
theorem LStep.new (d : Nat) (cells : List AV) (B : Nat) : LStep lam (upd lam d ⟨(lam d).ver + 1, cells⟩) κ (upd κ d B) := by
  intro s
  by_cases e : s = d
  · subst e; rw [upd_same]; exact ⟨Nat.le_succ _, fun h => absurd h (by simp)⟩
  · rw [upd_ne _ _ e, upd_ne _ _ e]; exact ⟨Nat.le_refl _, fun _ => ⟨rfl, rfl⟩⟩

theorem LSim.new (h : LSim lo W η lam κ w) (hs : HSim lo W η w) (d : Nat) {cells : List AV} {o : RowO} (hr : o.rel (Rc lo W η lam κ) cells) :
    LSim lo W η (upd lam d ⟨(lam d).ver + 1, cells⟩) (upd κ d w.heap.size) (w.alloc o.obj) := by
  have hls := LStep.new (lam := lam) (κ := κ) d cells w.heap.size
  have hg := Grows.alloc w o.obj
  have hrow : (w.alloc o.obj).heap[w.heap.size]? = some o.obj := by show (w.heap.push _)[w.heap.size]? = _; simp
  refine ⟨fun s hsv => ?_, fun s s' hsv hsv' hne => ?_, fun s b bl hsv hb hc => ?_⟩
  · by_cases e : s = d
    · subst e
      rw [upd_same, upd_same]
      exact ⟨o, hrow, hr.mono fun _ _ h' => Rc_mono (HStep.refl _ _ _) hls h'⟩
    · rw [upd_ne _ _ e] at hsv ⊢
      rw [upd_ne _ _ e]
      obtain ⟨c, h1, h2⟩ := h.row s hsv
      exact ⟨c, hg.row h1, h2.mono fun _ _ h' => Rc_mono (HStep.refl _ _ _) hls h'⟩
  · by_cases e : s = d
    · subst e
      have e' : s' ≠ s := fun e => hne e.symm
      rw [upd_same, upd_ne _ _ e']
      rw [upd_ne _ _ e'] at hsv'
      have := h.lt hsv'
      omega
    · rw [upd_ne _ _ e] at hsv ⊢
      by_cases e' : s' = d
      · subst e'
        rw [upd_same]
        have := h.lt hsv
        omega
      · rw [upd_ne _ _ e'] at hsv' ⊢
        exact h.ll s s' hsv hsv' hne
  · by_cases e : s = d
    · subst e
      rw [upd_same]
      have := hs.lt hb hc
      omega
    · rw [upd_ne _ _ e] at hsv ⊢
      exact h.lh s b bl hsv hb hc

end

/-- What is known behind an operation. -/
theorem Sim_put {lo h0 : Nat} {S : Nat → Prop} {W W' : Wit} {κ κ' : Nat → Nat} {st : St} {a : Act} {w w' : World} {lam' : Nat → LB} {η' : List Blk} {dst : Option Tmp} {v : AV} {u : Value}
    (s : Sim lo h0 S W κ st a w) (hd : dstOk dst st.n) (hs : HSim lo W' η' w') (ls : LSim lo W' η' lam' κ' w') (hh : HStep lo st.η η' W W') (hl : LStep st.lam lam' κ κ') (hsz : w.heap.size ≤ w'.heap.size)
    (oS : ∀ b, lo ≤ b → b < η'.length → 0 < W'.cs b → S (W'.ι b).block ∨ h0 ≤ (W'.ι b).block) (lS : ∀ s, 0 < (lam' s).ver → h0 ≤ κ' s) (hv : Rv lo W' η' lam' κ' v u) :
    Sim lo h0 S W' κ' (put dst v { st with lam := lam', η := η' }) (a.put dst u) w' := by
  have hn : (put dst v { st with lam := lam', η := η' }).n = st.n := by cases dst <;> rfl
  have hη : (put dst v { st with lam := lam', η := η' }).η = η' := by cases dst <;> rfl
  have hlam : (put dst v { st with lam := lam', η := η' }).lam = lam' := by cases dst <;> rfl
  refine ⟨by rw [hη]; exact hs, by rw [hη, hlam]; exact ls, ?_, fun t ht => ?_, ?_, Nat.le_trans s.h0le hsz, by rw [hη]; exact oS, by rw [hlam]; exact lS⟩
  · rw [hn, ← s.ts]; cases dst <;> simp [Act.put]
  · rw [hη, hlam]
    rw [hn] at ht
    cases dst with
    | none => exact Rv_mono hh hl (s.tm t ht)
    | some d =>
      by_cases e : t = d
      · subst e
        simp only [put, Act.put, upd_same]
        have : (a.tmps.setIfInBounds t u).getD t undef = u := by simp [s.ts, ht]
        rw [this]; exact hv
      · simp only [put, Act.put, upd_ne _ _ e]
        have : (a.tmps.setIfInBounds d u).getD t undef = a.tmps.getD t undef := by
          simp [Array.getElem?_setIfInBounds_ne (Ne.symm e)]
        rw [this]; exact Rv_mono hh hl (s.tm t ht)
  · cases dst <;> exact s.df

end Go.Proofs.YtaalpmbopkbdiaaGreat
/- The abstract logic: rows that are written, blocks that move. -/
namespace Go.Proofs.YtaalpmbopkbdiaaGreat
open Go

section
variable {lo : Nat} {W : Wit} {η : List Blk} {lam : Nat → LB} {κ : Nat → Nat} {w w' : World}

theorem HStep.set {b : Nat} {blk blk' : Blk} (hb : η[b]? = some blk) (hl : lo ≤ b) (hv : blk.ver ≤ blk'.ver) (hs : blk'.sz = blk.sz) (ht : blk'.ty = blk.ty) : HStep lo η (η.set b blk') W W := by
  refine ⟨fun c hc => ⟨by rw [List.getElem?_set_ne (by omega)], rfl, rfl⟩, fun c bl hc => ?_⟩
  by_cases e : c = b
  · subst e
    rw [hb] at hc
    obtain rfl := Option.some.inj hc
    exact ⟨blk', by rw [List.getElem?_set_self (List.getElem?_eq_some_iff.1 hb).1], hv, hs, ht, fun _ => ⟨rfl, rfl⟩⟩
  · exact ⟨bl, by rw [List.getElem?_set_ne (Ne.symm e)]; exact hc, Nat.le_refl _, rfl, rfl, fun _ => ⟨rfl, rfl⟩⟩

theorem getElem?_set_cases {b c : Nat} {blk' bl : Blk} (h : (η.set b blk')[c]? = some bl) : (c = b ∧ bl = blk') ∨ (c ≠ b ∧ η[c]? = some bl) := by
  by_cases e : c = b
  · subst e
    have hlt := (List.getElem?_eq_some_iff.1 h).1
    rw [List.length_set] at hlt
    rw [List.getElem?_set_self hlt] at h
    exact .inl ⟨rfl, (Option.some.inj h).symm⟩
  · rw [List.getElem?_set_ne (Ne.symm e)] at h
    exact .inr ⟨e, h⟩

/-- Worlds that differ in one block. -/
def OtherSame (g : Nat) (w w' : World) : Prop := w'.os = w.os ∧ w'.tape = w.tape ∧ w'.output = w.output ∧ w'.heap.size = w.heap.size ∧ ∀ k, k ≠ g → w'.heap[k]? = w.heap[k]?
theorem OtherSame.setRow (w : World) (g : Nat) (cs : Array Value) : OtherSame g w (w.setRow g cs) := ⟨rfl, rfl, rfl, by simp, fun k hk => setRow_other w g k cs hk⟩
theorem OtherSame.cell {g : Nat} (h : OtherSame g w w') {a : Addr} (ha : a.block ≠ g) : w'.cell? a = w.cell? a := by
  unfold World.cell?; rw [h.2.2.2.2 _ ha]

theorem add_block (a : Addr) (j : Nat) : (a.add j).block = a.block := by unfold Addr.add; split <;> rfl

/-- A block of the heap is written. -/
theorem HSim.set (h : HSim lo W η w) {b : Nat} {blk blk' : Blk} {B : Nat} {cur' : Array Value} (hb : η[b]? = some blk) (hl : lo ≤ b) (hc : 0 < W.cs b) (hB : W.ι b = ⟨B, 0, none⟩)
    (hv : blk.ver ≤ blk'.ver) (hs : blk'.sz = blk.sz) (ht : blk'.ty = blk.ty) (ho : OtherSame B w w') (hrow : w'.heap[B]? = some (.cells cur' blk.ty (0, 0))) (hsz : cur'.size = W.cs b) (hle : blk'.cells.length ≤ cur'.size)
    (hcells : ∀ (j : Nat) x, blk'.cells[j]? = some x → ∃ u, cur'[j]? = some u ∧ Rc lo W η lam0 kap0 x u) : HSim lo W (η.set b blk') w' := by
  have hst : HStep lo η (η.set b blk') W W := .set hb hl hv hs ht
  have hne : ∀ c bl, η[c]? = some bl → c ≠ b → (if lo ≤ c then 0 < W.cs c else bl.cells ≠ []) → (W.ι c).block ≠ B := by
    intro c bl hcb hcn hcc
    have := h.sep c b bl hcb (List.getElem?_eq_some_iff.1 hb).1 hl hc hcn hcc
    rw [hB] at this
    exact this
  refine ⟨by rw [List.length_set]; exact h.lo_le, fun c bl hcb j x hx => ?_, fun c bl hcb hlc => ?_, fun c c' bl hcb hc' hlc' hp hn hcc => ?_⟩
  · rcases getElem?_set_cases hcb with ⟨rfl, rfl⟩ | ⟨hcn, hcb⟩
    · obtain ⟨u, h1, h2⟩ := hcells j x hx
      refine ⟨u, ?_, Rc_mono hst (LStep.refl _ _) h2⟩
      rw [hB, add_zero_plain, Nat.zero_add]
      simp [World.cell?, hrow, h1]
    · obtain ⟨u, h1, h2⟩ := h.cell c bl hcb j x hx
      refine ⟨u, ?_, Rc_mono hst (LStep.refl _ _) h2⟩
      have hnn := hne c bl hcb hcn (by
        split
        · rename_i hlc
          have := (h.own c bl hcb hlc).1
          have hj := (List.getElem?_eq_some_iff.1 hx).1
          omega
        · intro e; rw [e] at hx; simp at hx)
      rw [ho.cell (by rw [add_block]; exact hnn)]
      exact h1
  · rcases getElem?_set_cases hcb with ⟨rfl, rfl⟩ | ⟨hcn, hcb⟩
    · exact ⟨by rw [← hsz]; exact hle, fun _ => ⟨B, cur', hB, by rw [ht]; exact hrow, hsz⟩⟩
    · refine ⟨(h.own c bl hcb hlc).1, fun hp => ?_⟩
      obtain ⟨B', cur, h1, h2, h3⟩ := (h.own c bl hcb hlc).2 hp
      have hnn := hne c bl hcb hcn (by rw [if_pos hlc]; exact hp)
      rw [h1] at hnn
      exact ⟨B', cur, h1, by rw [ho.2.2.2.2 _ hnn]; exact h2, h3⟩
  · rw [List.length_set] at hc'
    rcases getElem?_set_cases hcb with ⟨rfl, rfl⟩ | ⟨hcn, hcb⟩
    · refine h.sep c c' blk hb hc' hlc' hp hn ?_
      rw [if_pos hl] at hcc ⊢
      exact hcc
    · exact h.sep c c' bl hcb hc' hlc' hp hn hcc

theorem LSim.other (h : LSim lo W η lam κ w) {g : Nat} (ho : OtherSame g w w') (hg : ∀ s, 0 < (lam s).ver → κ s ≠ g) : LSim lo W η lam κ w' :=
  ⟨fun s hs => let ⟨c, h1, h2⟩ := h.row s hs; ⟨c, by rw [ho.2.2.2.2 _ (hg s hs)]; exact h1, h2⟩, h.ll, h.lh⟩

theorem LSim.set (h : LSim lo W η lam κ w) {b : Nat} {blk blk' : Blk} {B : Nat} (hb : η[b]? = some blk) (hl : lo ≤ b) (hc : 0 < W.cs b) (hB : W.ι b = ⟨B, 0, none⟩)
    (hv : blk.ver ≤ blk'.ver) (hs : blk'.sz = blk.sz) (ht : blk'.ty = blk.ty) (ho : OtherSame B w w') : LSim lo W (η.set b blk') lam κ w' := by
  have hst : HStep lo η (η.set b blk') W W := .set hb hl hv hs ht
  have h' := h.other ho (fun s hs e => by
    have := h.lh s b blk hs hb (by rw [if_pos hl]; exact hc)
    rw [hB] at this
    exact this e.symm)
  refine ⟨fun s hs => let ⟨c, h1, h2⟩ := h'.row s hs; ⟨c, h1, h2.mono fun _ _ hr => Rc_mono hst (LStep.refl _ _) hr⟩, h.ll, fun s c bl hsv hcb hcc => ?_⟩
  rcases getElem?_set_cases hcb with ⟨rfl, rfl⟩ | ⟨hcn, hcb⟩
  · refine h.lh s c blk hsv hb ?_
    rw [if_pos hl] at hcc ⊢
    exact hcc
  · exact h.lh s c bl hsv hcb hcc

/-- A local is written. -/
theorem HSim.local (h : HSim lo W η w) (ls : LSim lo W η lam κ w) {s : Nat} (hs : 0 < (lam s).ver) (ho : OtherSame (κ s) w w') : HSim lo W η w' := by
  have hne : ∀ c bl, η[c]? = some bl → (if lo ≤ c then 0 < W.cs c else bl.cells ≠ []) → (W.ι c).block ≠ κ s := fun c bl hcb hcc => ls.lh s c bl hs hcb hcc
  refine ⟨h.lo_le, fun c bl hcb j x hx => ?_, fun c bl hcb hlc => ⟨(h.own c bl hcb hlc).1, fun hp => ?_⟩, h.sep⟩
  · obtain ⟨u, h1, h2⟩ := h.cell c bl hcb j x hx
    refine ⟨u, ?_, h2⟩
    have hnn := hne c bl hcb (by
      split
      · rename_i hlc
        have := (h.own c bl hcb hlc).1
        have hj := (List.getElem?_eq_some_iff.1 hx).1
        omega
      · intro e; rw [e] at hx; simp at hx)
    rw [ho.cell (by rw [add_block]; exact hnn)]
    exact h1
  · obtain ⟨B', cur, h1, h2, h3⟩ := (h.own c bl hcb hlc).2 hp
    have hnn := hne c bl hcb (by rw [if_pos hlc]; exact hp)
    rw [h1] at hnn
    exact ⟨B', cur, h1, by rw [ho.2.2.2.2 _ hnn]; exact h2, h3⟩

theorem LStep.write (s : Nat) (cells : List AV) (hm : isMapL cells = isMapL (lam s).cells) : LStep lam (upd lam s ⟨(lam s).ver, cells⟩) κ κ := by
  intro t
  by_cases e : t = s
  · subst e; rw [upd_same]; exact ⟨Nat.le_refl _, fun _ => ⟨rfl, hm⟩⟩
  · rw [upd_ne _ _ e]; exact ⟨Nat.le_refl _, fun _ => ⟨rfl, rfl⟩⟩

theorem LSim.write (h : LSim lo W η lam κ w) {s : Nat} (hs : 0 < (lam s).ver) {cells : List AV} {o : RowO} (ho : OtherSame (κ s) w w') (hrow : w'.heap[κ s]? = some o.obj)
    (hr : o.rel (Rc lo W η lam κ) cells) (hm : isMapL cells = isMapL (lam s).cells) : LSim lo W η (upd lam s ⟨(lam s).ver, cells⟩) κ w' := by
  have hl := LStep.write (lam := lam) (κ := κ) s cells hm
  have hver : ∀ t, (upd lam s ⟨(lam s).ver, cells⟩ t).ver = (lam t).ver := by
    intro t
    by_cases e : t = s
    · subst e; rw [upd_same]
    · rw [upd_ne _ _ e]
  refine ⟨fun t ht => ?_, fun t t' ht ht' hn => h.ll t t' (by rwa [hver] at ht) (by rwa [hver] at ht') hn, fun t b bl ht hb hc => h.lh t b bl (by rwa [hver] at ht) hb hc⟩
  by_cases e : t = s
  · subst e
    rw [upd_same]
    exact ⟨o, hrow, hr.mono fun _ _ h' => Rc_mono (HStep.refl _ _ _) hl h'⟩
  · rw [upd_ne _ _ e] at ht ⊢
    obtain ⟨c, h1, h2⟩ := h.row t ht
    exact ⟨c, by rw [ho.2.2.2.2 _ (h.ll t s ht hs e)]; exact h1, h2.mono fun _ _ h' => Rc_mono (HStep.refl _ _ _) hl h'⟩

/-- A block without memory of its own. -/
theorem HSim.pushV (h : HSim lo W η w) (blk : Blk) (hc : blk.cells = []) : HSim lo (pushW W η.length ⟨0, 0, none⟩ 0) (η ++ [blk]) w := by
  have hst : HStep lo η (η ++ [blk]) W (pushW W η.length ⟨0, 0, none⟩ 0) := .push h.lo_le blk _ _
  have e1 : ∀ b, b ≠ η.length → (pushW W η.length ⟨0, 0, none⟩ 0).ι b = W.ι b := fun b hb => upd_ne _ _ hb
  have e2 : ∀ b, b ≠ η.length → (pushW W η.length ⟨0, 0, none⟩ 0).cs b = W.cs b := fun b hb => upd_ne _ _ hb
  have e4 : (pushW W η.length ⟨0, 0, none⟩ 0).cs η.length = 0 := upd_same _ _ _
  refine ⟨by rw [List.length_append]; have := h.lo_le; omega, fun b bl hb j x hx => ?_, fun b bl hb hlb => ?_, fun b b' bl hb hb' hlb' hp hne hcc => ?_⟩
  · rcases getElem?_push hb with ⟨hlt, hb⟩ | ⟨rfl, rfl⟩
    · obtain ⟨u, h1, h2⟩ := h.cell b bl hb j x hx
      exact ⟨u, by rw [e1 b (by omega)]; exact h1, Rc_mono hst (LStep.refl _ _) h2⟩
    · rw [hc] at hx; simp at hx
  · rcases getElem?_push hb with ⟨hlt, hb⟩ | ⟨rfl, rfl⟩
    · rw [e1 b (by omega), e2 b (by omega)]
      exact h.own b bl hb hlb
    · rw [e4, hc]; exact ⟨Nat.le_refl _, fun hp => absurd hp (by omega)⟩
  · have hbn' : b' ≠ η.length := by intro e; subst e; rw [e4] at hp; omega
    simp only [List.length_append, List.length_cons, List.length_nil] at hb'
    rw [e2 b' hbn'] at hp
    rcases getElem?_push hb with ⟨hlt, hb⟩ | ⟨rfl, rfl⟩
    · rw [e2 b (by omega)] at hcc
      rw [e1 b (by omega), e1 b' hbn']
      exact h.sep b b' bl hb (by omega) hlb' hp hne hcc
    · split at hcc
      · rw [e4] at hcc; omega
      · exact absurd hc hcc
theorem LSim.pushV (h : LSim lo W η lam κ w) (hs : HSim lo W η w) (blk : Blk) (hc : blk.cells = []) : LSim lo (pushW W η.length ⟨0, 0, none⟩ 0) (η ++ [blk]) lam κ w := by
  have hst : HStep lo η (η ++ [blk]) W (pushW W η.length ⟨0, 0, none⟩ 0) := .push hs.lo_le blk _ _
  refine ⟨fun s hsv => let ⟨c, h1, h2⟩ := h.row s hsv; ⟨c, h1, h2.mono fun _ _ hr => Rc_mono hst (LStep.refl _ _) hr⟩, h.ll, fun s b bl hsv hb hcc => ?_⟩
  rcases getElem?_push hb with ⟨hlt, hb⟩ | ⟨rfl, rfl⟩
  · rw [show (pushW W η.length ⟨0, 0, none⟩ 0).ι b = W.ι b from upd_ne _ _ (by omega)]
    rw [show (pushW W η.length ⟨0, 0, none⟩ 0).cs b = W.cs b from upd_ne _ _ (by omega)] at hcc
    exact h.lh s b bl hsv hb hcc
  · split at hcc
    · rw [show (pushW W η.length ⟨0, 0, none⟩ 0).cs η.length = 0 from upd_same _ _ _] at hcc; omega
    · exact absurd hc hcc

/-- A block that moves to new memory. -/
theorem HStep.move {b : Nat} {blk blk' : Blk} (hb : η[b]? = some blk) (hl : lo ≤ b) (hv : blk.ver < blk'.ver) (hs : blk'.sz = blk.sz) (ht : blk'.ty = blk.ty) (a : Addr) (c : Nat) : HStep lo η (η.set b blk') W (pushW W b a c) := by
  refine ⟨fun d hd => ⟨by rw [List.getElem?_set_ne (by omega)], upd_ne _ _ (by omega), upd_ne _ _ (by omega)⟩, fun d bl hd => ?_⟩
  by_cases e : d = b
  · subst e
    rw [hb] at hd
    obtain rfl := Option.some.inj hd
    exact ⟨blk', by rw [List.getElem?_set_self (List.getElem?_eq_some_iff.1 hb).1], by omega, hs, ht, fun e => by omega⟩
  · exact ⟨bl, by rw [List.getElem?_set_ne (Ne.symm e)]; exact hd, Nat.le_refl _, rfl, rfl, fun _ => ⟨upd_ne _ _ e, upd_ne _ _ e⟩⟩

theorem HSim.move (h : HSim lo W η w) {b : Nat} {blk blk' : Blk} {cur : Array Value} (hb : η[b]? = some blk) (hl : lo ≤ b) (hv : blk.ver < blk'.ver) (hs : blk'.sz = blk.sz) (ht : blk'.ty = blk.ty) (hle : blk'.cells.length ≤ cur.size)
    (hcells : ∀ (j : Nat) x, blk'.cells[j]? = some x → ∃ u, cur[j]? = some u ∧ Rc lo W η lam0 kap0 x u) :
    HSim lo (pushW W b ⟨w.heap.size, 0, none⟩ cur.size) (η.set b blk') (w.alloc (.cells cur blk.ty)) := by
  have hst : HStep lo η (η.set b blk') W (pushW W b ⟨w.heap.size, 0, none⟩ cur.size) := .move hb hl hv hs ht _ _
  have hrow : (w.alloc (.cells cur blk.ty)).heap[w.heap.size]? = some (.cells cur blk.ty (0, 0)) := by show (w.heap.push _)[w.heap.size]? = _; simp
  have hg := Grows.alloc w (.cells cur blk.ty)
  have e1 : ∀ c, c ≠ b → (pushW W b ⟨w.heap.size, 0, none⟩ cur.size).ι c = W.ι c := fun c hc => upd_ne _ _ hc
  have e2 : ∀ c, c ≠ b → (pushW W b ⟨w.heap.size, 0, none⟩ cur.size).cs c = W.cs c := fun c hc => upd_ne _ _ hc
  have e3 : (pushW W b ⟨w.heap.size, 0, none⟩ cur.size).ι b = ⟨w.heap.size, 0, none⟩ := upd_same _ _ _
  have e4 : (pushW W b ⟨w.heap.size, 0, none⟩ cur.size).cs b = cur.size := upd_same _ _ _
  refine ⟨by rw [List.length_set]; exact h.lo_le, fun c bl hcb j x hx => ?_, fun c bl hcb hlc => ?_, fun c c' bl hcb hc' hlc' hp hn hcc => ?_⟩
  · rcases getElem?_set_cases hcb with ⟨rfl, rfl⟩ | ⟨hcn, hcb⟩
    · obtain ⟨u, h1, h2⟩ := hcells j x hx
      refine ⟨u, ?_, Rc_mono hst (LStep.refl _ _) h2⟩
      rw [e3, add_zero_plain, Nat.zero_add, World.cell?_alloc_new]
      exact h1
    · obtain ⟨u, h1, h2⟩ := h.cell c bl hcb j x hx
      exact ⟨u, by rw [e1 c hcn]; exact hg.cell h1, Rc_mono hst (LStep.refl _ _) h2⟩
  · rcases getElem?_set_cases hcb with ⟨rfl, rfl⟩ | ⟨hcn, hcb⟩
    · rw [e3, e4]
      exact ⟨hle, fun _ => ⟨_, cur, rfl, by rw [ht]; exact hrow, rfl⟩⟩
    · rw [e1 c hcn, e2 c hcn]
      exact ⟨(h.own c bl hcb hlc).1, fun hp => let ⟨B, cc, h1, h2, h3⟩ := (h.own c bl hcb hlc).2 hp; ⟨B, cc, h1, hg.row h2, h3⟩⟩
  · rw [List.length_set] at hc'
    rcases getElem?_set_cases hcb with ⟨rfl, rfl⟩ | ⟨hcn, hcb⟩
    · have hcn' : c' ≠ c := fun e => hn e.symm
      rw [e3, e1 c' hcn']
      rw [e2 c' hcn'] at hp
      have := h.lt (List.getElem?_eq_getElem hc') (by rw [if_pos hlc']; exact hp)
      exact fun e => by simp at e; omega
    · rw [e2 c hcn] at hcc
      rw [e1 c hcn]
      have hlt := h.lt hcb hcc
      by_cases e : c' = b
      · subst e; rw [e3]; exact Nat.ne_of_lt hlt
      · rw [e1 c' e]
        rw [e2 c' e] at hp
        exact h.sep c c' bl hcb hc' hlc' hp hn hcc

theorem LSim.move (h : LSim lo W η lam κ w) {b : Nat} {blk blk' : Blk} {cur : Array Value} {T : TypeId} (hb : η[b]? = some blk) (hl : lo ≤ b) (hv : blk.ver < blk'.ver) (hs : blk'.sz = blk.sz) (ht : blk'.ty = blk.ty) :
    LSim lo (pushW W b ⟨w.heap.size, 0, none⟩ cur.size) (η.set b blk') lam κ (w.alloc (.cells cur T)) := by
  have hst : HStep lo η (η.set b blk') W (pushW W b ⟨w.heap.size, 0, none⟩ cur.size) := .move hb hl hv hs ht _ _
  have hg := Grows.alloc w (.cells cur T)
  refine ⟨fun s hsv => let ⟨c, h1, h2⟩ := h.row s hsv; ⟨c, hg.row h1, h2.mono fun _ _ hr => Rc_mono hst (LStep.refl _ _) hr⟩, h.ll, fun s c bl hsv hcb hcc => ?_⟩
  rcases getElem?_set_cases hcb with ⟨rfl, rfl⟩ | ⟨hcn, hcb⟩
  · rw [show (pushW W c ⟨w.heap.size, 0, none⟩ cur.size).ι c = ⟨w.heap.size, 0, none⟩ from upd_same _ _ _]
    have := h.lt hsv
    exact fun e => by simp at e; omega
  · rw [show (pushW W b ⟨w.heap.size, 0, none⟩ cur.size).ι c = W.ι c from upd_ne _ _ hcn]
    rw [show (pushW W b ⟨w.heap.size, 0, none⟩ cur.size).cs c = W.cs c from upd_ne _ _ hcn] at hcc
    exact h.lh s c bl hsv hcb hcc

end
end Go.Proofs.YtaalpmbopkbdiaaGreat
/- The abstract logic: what an operation does, in the machine: looking, new variables, stores, rows that are made. -/
namespace Go.Proofs.YtaalpmbopkbdiaaGreat
open Go

/-- Behind an operation. -/
def OP (lo h0 : Nat) (S : Nat → Prop) (W : Wit) (w : World) (dst : Option Tmp) (st : St) (K : AV → (Nat → LB) → List Blk → Prop) : Act → World → Prop := fun a' w' =>
  ∃ v lam' η' W' κ', K v lam' η' ∧ Sim lo h0 S W' κ' (put dst v { st with lam := lam', η := η' }) a' w' ∧ HStep lo st.η η' W W' ∧ Fr h0 S w w'

section
variable {P : Program} {lo h0 : Nat} {S : Nat → Prop} {W : Wit} {κ : Nat → Nat} {st : St} {a : Act} {w : World} {o : Oper} {K : AV → (Nat → LB) → List Blk → Prop} {Q : Exit → Act → World → Prop}

theorem wp_value {u : Value} {w' : World} {next : Act → World → Prop} (h : (execOp a.eval o).run P w = .ok (.value u) w') (hn : next (a.put o.dst u) w') : o.wp P a w next Q := by
  unfold Oper.wp; rw [h]; exact hn
theorem wp_skipN {w' : World} {next : Act → World → Prop} (h : (execOp a.eval o).run P w = .ok .skip w') (hn : next (a.put o.dst undef) w') : o.wp P a w next Q := by
  unfold Oper.wp; rw [h]; exact hn

theorem looks_ok (s : Sim lo h0 S W κ st a w) (hd : dstOk o.dst st.n) {v : AV} (h : pv P o (ev st) st.lam st.η = some v) (hK : K v st.lam st.η) : o.wp P a w (OP lo h0 S W w o.dst st K) Q := by
  obtain ⟨u, h1, h2⟩ := pv_ok s.hs s.ls (fun x => ev_ok s x) h
  refine wp_value h1 ⟨v, st.lam, st.η, W, κ, hK, ?_, .refl _ _ _, .refl _ _ _⟩
  exact Sim_put s hd s.hs s.ls (.refl _ _ _) (.refl _ _) (Nat.le_refl _) s.oS s.lS h2

/-- A new variable. -/
theorem newVar_ok (s : Sim lo h0 S W κ st a w) (hd : dstOk o.dst st.n) {H : List Nat} {T : TypeId} {cells : List AV} {c : Value}
    (hrun : (execOp a.eval o).run P w = .ok (.value (.pointer (some ⟨w.heap.size, 0, none⟩))) (w.alloc (.cells c.cells T)))
    (hr : RL (Rc lo W st.η st.lam κ) cells c.cells) (h : newVarA H o.dst T cells st.lam st.η K) : o.wp P a w (OP lo h0 S W w o.dst st K) Q := by
  unfold newVarA at h
  refine wp_value hrun ?_
  have hg := Grows.alloc w (.cells c.cells T)
  cases hdst : o.dst with
  | none => rw [hdst] at h; exact h.elim
  | some d =>
    rw [hdst] at h hd
    simp only at h
    split at h
    · obtain ⟨hnl, hK⟩ := h
      have hr0 : ∀ (j : Nat) x, (cells[j]? = some x) → ∃ u, c.cells[j]? = some u ∧ Rc lo W st.η lam0 kap0 x u := by
        intro j x hx
        obtain ⟨u, h1, h2⟩ := hr.2 j x hx
        refine ⟨u, h1, ?_⟩
        have := List.all_eq_true.1 hnl x (List.mem_of_getElem? hx)
        cases x <;> first | exact h2 | (simp [noLoc] at this)
      have hst : HStep lo st.η (st.η ++ [⟨0, T, cells.length, cells⟩]) W (pushW W st.η.length ⟨w.heap.size, 0, none⟩ c.cells.size) := .push s.hs.lo_le _ _ _
      refine ⟨.ptr st.η.length 0 0, st.lam, _, _, κ, hK, ?_, hst, hg.fr s.h0le⟩
      refine Sim_put s hd (HSim.push (blk := ⟨0, T, cells.length, cells⟩) s.hs hr0 (by rw [hr.1]; exact Nat.le_refl _)) (s.ls.push s.hs) hst (.refl _ _) (by simp) (fun b hb hlt hp => ?_) s.lS ?_
      · simp only [List.length_append, List.length_cons, List.length_nil] at hlt
        by_cases e : b = st.η.length
        · subst e; right; rw [show (pushW W st.η.length ⟨w.heap.size, 0, none⟩ c.cells.size).ι st.η.length = _ from upd_same _ _ _]; exact s.h0le
        · rw [show (pushW W st.η.length ⟨w.heap.size, 0, none⟩ c.cells.size).ι b = _ from upd_ne _ _ e]
          rw [show (pushW W st.η.length ⟨w.heap.size, 0, none⟩ c.cells.size).cs b = _ from upd_ne _ _ e] at hp
          exact s.oS b hb (by omega) hp
      · refine Rv_mkc ⟨rfl, ⟨0, T, cells.length, cells⟩, by simp, Nat.le_refl _, fun _ => ?_⟩
        rw [show (pushW W st.η.length ⟨w.heap.size, 0, none⟩ c.cells.size).ι st.η.length = _ from upd_same _ _ _]
        rfl
    · rename_i hH
      refine ⟨.loc d ((st.lam d).ver + 1) 0, upd st.lam d ⟨(st.lam d).ver + 1, cells⟩, st.η, W, upd κ d w.heap.size, h, ?_, .refl _ _ _, hg.fr s.h0le⟩
      refine Sim_put s hd (s.hs.grow hg) (s.ls.new (o := .cells _ T) s.hs d hr) (.refl _ _ _) (.new d cells w.heap.size) (by simp) s.oS (fun t ht => ?_) ?_
      · by_cases e : t = d
        · subst e; rw [upd_same]; exact s.h0le
        · rw [upd_ne _ _ e] at ht ⊢; exact s.lS t ht
      · exact Rv_mkc ⟨rfl, by omega, by rw [upd_same]; exact Nat.le_refl _, fun _ => by rw [upd_same, upd_same]; exact ⟨noMap_of hr, rfl⟩⟩

theorem alloc_run {T : TypeId} {z : List AV} (hop : o.op = .alloc T) (hz : zeroB P T = some z) : ∃ zv, (execOp a.eval o).run P w = .ok (.value (.pointer (some ⟨w.heap.size, 0, none⟩))) (w.alloc (.cells zv.cells T)) ∧ zeroOf zv = some z := by
  obtain ⟨zv, i, h1, _, _, h2⟩ := zeroB_run (w := w) hz
  exact ⟨zv, by simp [execOp, hop, Instr.alloc, h1, newVar, newRow], h2⟩
theorem box_run {T : TypeId} {x : Operand} (hop : o.op = .box T x) : (execOp a.eval o).run P w = .ok (.value (.pointer (some ⟨w.heap.size, 0, none⟩))) (w.alloc (.cells (a.eval x).cells T)) := by
  simp [execOp, hop, Instr.box, newVar, newRow]

theorem oneCells {lam : Nat → LB} {η : List Blk} {l : List AV} {arr : Array Value} (h : RL (Rc lo W η lam κ) l arr) : ∀ u ∈ arr.toList, u.oneCell' = true := by
  intro u hu
  obtain ⟨i, hi⟩ := List.getElem?_of_mem hu
  have hi' : arr[i]? = some u := by simpa using hi
  have hlt : i < l.length := by rw [← h.1]; exact (Array.getElem?_eq_some_iff.1 hi').1
  obtain ⟨v, h1, h2⟩ := h.2 i _ (List.getElem?_eq_getElem hlt)
  rw [hi'] at h1
  obtain rfl := Option.some.inj h1
  exact h2.1

theorem spliced {R : AV → Value → Prop} {cells vs : List AV} {c v : Array Value} {off : Nat} (hc : RL R cells c) (hv : RL R vs v) (ho : off + vs.length ≤ cells.length) :
    RL R (putCells cells off vs) (c.toList.take off ++ v.toList ++ c.toList.drop (off + v.toList.length)).toArray := by
  have e1 := hc.1
  have e2 := hv.1
  refine RL_put hc hv ho (by simp; omega) fun i hi => ?_
  have hl : (c.toList.take off).length = off := by simp; omega
  simp only [List.getElem?_toArray]
  by_cases h1 : i < off
  · rw [if_neg (by omega), List.append_assoc, List.getElem?_append_left (by omega), List.getElem?_take, if_pos h1]; simp
  · by_cases h2 : i < off + v.size
    · rw [if_pos ⟨by omega, h2⟩, List.append_assoc, List.getElem?_append_right (by omega), List.getElem?_append_left (by simp; omega), hl]; simp
    · rw [if_neg (by omega), List.getElem?_append_right (by simp; omega), List.getElem?_drop]
      simp
      congr 1
      omega

/-- The same where the machine's row is longer than what is known of it. -/
theorem spliced_long {R : AV → Value → Prop} {cells vs : List AV} {c v : Array Value} {off : Nat} (hl : cells.length ≤ c.size) (hc : ∀ (j : Nat) x, cells[j]? = some x → ∃ u, c[j]? = some u ∧ R x u) (hv : RL R vs v) (ho : off + vs.length ≤ cells.length) :
    (c.toList.take off ++ v.toList ++ c.toList.drop (off + v.toList.length)).toArray.size = c.size ∧
    ∀ (j : Nat) x, (putCells cells off vs)[j]? = some x → ∃ u, (c.toList.take off ++ v.toList ++ c.toList.drop (off + v.toList.length)).toArray[j]? = some u ∧ R x u := by
  have e2 := hv.1
  refine ⟨by simp; omega, fun i x hx => ?_⟩
  have hll : (c.toList.take off).length = off := by simp; omega
  simp only [List.getElem?_toArray]
  rw [getElem?_putCells ho] at hx
  by_cases h1 : i < off
  · rw [if_neg (by omega)] at hx
    obtain ⟨u, hu, hr⟩ := hc i x hx
    refine ⟨u, ?_, hr⟩
    rw [List.append_assoc, List.getElem?_append_left (by omega), List.getElem?_take, if_pos h1]; simpa using hu
  · by_cases h2 : i < off + v.size
    · rw [if_pos ⟨by omega, by omega⟩] at hx
      obtain ⟨u, hu, hr⟩ := hv.2 _ x hx
      refine ⟨u, ?_, hr⟩
      rw [List.append_assoc, List.getElem?_append_right (by omega), List.getElem?_append_left (by simp; omega), hll]; simpa using hu
    · rw [if_neg (by omega)] at hx
      obtain ⟨u, hu, hr⟩ := hc i x hx
      refine ⟨u, ?_, hr⟩
      rw [List.getElem?_append_right (by simp; omega), List.getElem?_drop]
      simp
      rw [← hu]
      congr 1
      omega

theorem storeVar_run {t : TypeId} {k : Nat} (hk : szB P t = some k) {B off : Nat} {cur : Array Value} {T : TypeId} (hrow : w.heap[B]? = some (.cells cur T (0, 0))) {u : Value} (hu : u.cells.size = k) (hoff : off + k ≤ cur.size) (h1 : ∀ x ∈ u.cells.toList, x.oneCell' = true) :
    (storeVar t ⟨B, off, none⟩ u).run P w = .ok () (w.setRow B (cur.toList.take off ++ u.cells.toList ++ cur.toList.drop (off + u.cells.toList.length)).toArray) := by
  have := run_storeCells_at P B off T u.cells.toList 0 cur w hrow (by simp; omega) h1
  simp only [Nat.add_zero] at this
  simp [storeVar, hu, szB_run hk, this]

theorem store_ok (s : Sim lo h0 S W κ st a w) (hd : dstOk o.dst st.n) {H : List Nat} {t : TypeId} {x y : Operand} (hop : o.op = .store t x y) (h : AEff P lo H o (ev st) st.lam st.η K) : o.wp P a w (OP lo h0 S W w o.dst st K) Q := by
  unfold AEff at h
  rw [hop] at h
  simp only at h
  have hx := ev_ok s x
  have hy := ev_ok s y
  cases hk : szB P t with
  | none => rw [hk] at h; exact h.elim
  | some k =>
    rw [hk] at h
    cases hxx : ev st x <;> rw [hxx] at h hx <;> try (exact h.elim)
    · rename_i b ver off
      cases hb : st.η[b]? with
      | none => simp only [hb] at h
      | some blk =>
        simp only [hb] at h
        obtain ⟨⟨hpl, hlo, hv, hk0, hlen, hoff, hnl⟩, hK⟩ := h
        have hrel := cells_rel (Rv_1 hy (by intro e; rw [e] at hpl; simp [plainV] at hpl) (by intro l e; rw [e] at hpl; simp [plainV] at hpl))
        have hpt := ptr_open hx (by simp [cur, hb, hv])
        obtain ⟨hle, hown⟩ := s.hs.own b blk hb hlo
        obtain ⟨B, c, hB, hrow, hsz⟩ := hown (by omega)
        have hcs : (a.eval y).cells.size = k := by rw [hrel.1]; exact hlen
        rw [hB, add_zero_plain, Nat.zero_add] at hpt
        have hrun : (execOp a.eval o).run P w = .ok .skip (w.setRow B (c.toList.take off ++ (a.eval y).cells.toList ++ c.toList.drop (off + (a.eval y).cells.toList.length)).toArray) := by
          have := storeVar_run (w := w) (off := off) hk hrow hcs (by omega) (oneCells hrel)
          simp [execOp, hop, hpt, Instr.storeAt, Instr.sureAddr, this]
        have hr0 : RL (Rc lo W st.η lam0 kap0) (cellsA (ev st y)) (a.eval y).cells := by
          refine ⟨hrel.1, fun i z hz => ?_⟩
          obtain ⟨u, h1, h2⟩ := hrel.2 i z hz
          refine ⟨u, h1, ?_⟩
          have := List.all_eq_true.1 hnl z (List.mem_of_getElem? hz)
          cases z <;> first | exact h2 | (simp [noLoc] at this)
        have hcell : ∀ (j : Nat) x, blk.cells[j]? = some x → ∃ u, c[j]? = some u ∧ Rc lo W st.η lam0 kap0 x u := by
          intro j z hz
          obtain ⟨u, h1, h2⟩ := s.hs.cell b blk hb j z hz
          refine ⟨u, ?_, h2⟩
          rw [hB, add_zero_plain, Nat.zero_add] at h1
          simpa [World.cell?, hrow] using h1
        obtain ⟨hsz', hcell'⟩ := spliced_long (off := off) (by omega) hcell hr0 (by omega)
        have hos := OtherSame.setRow w B (c.toList.take off ++ (a.eval y).cells.toList ++ c.toList.drop (off + (a.eval y).cells.toList.length)).toArray
        have hlp : (putCells blk.cells off (cellsA (ev st y))).length = blk.cells.length := length_putCells (by omega)
        have hlp2 : (putCells blk.cells off (cellsA (ev st y))).length ≤ (c.toList.take off ++ (a.eval y).cells.toList ++ c.toList.drop (off + (a.eval y).cells.toList.length)).toArray.size := by rw [hlp, hsz']; omega
        have hc0 : 0 < W.cs b := by omega
        have hst : HStep lo st.η (st.η.set b { blk with cells := putCells blk.cells off (cellsA (ev st y)) }) W W := .set hb hlo (Nat.le_refl _) rfl rfl
        refine wp_skipN hrun ⟨.und, st.lam, _, W, κ, hK, ?_, hst, ⟨rfl, rfl, rfl, by simp, fun q hq hS => ?_⟩⟩
        · refine Sim_put s hd (s.hs.set hb hlo hc0 hB (Nat.le_refl _) rfl rfl hos (setRow_heap w B c _ _ _ hrow) (by rw [hsz']; exact hsz) hlp2 hcell') (s.ls.set hb hlo hc0 hB (Nat.le_refl _) rfl rfl hos) hst (.refl _ _) (by simp) (fun b' hb' hlt hp => s.oS b' hb' (by simpa using hlt) hp) s.lS (Rv_und _)
        · by_cases e : q = B
          · subst e
            have := s.oS b hlo (List.getElem?_eq_some_iff.1 hb).1 hc0
            rw [hB] at this
            rcases this with h1 | h1
            · exact absurd h1 hS
            · simp at h1; omega
          · exact hos.2.2.2.2 q e
    · rename_i b ver off
      obtain ⟨⟨hpl, hv, hlen, hoff⟩, hK⟩ := h
      have hrel := cells_rel (Rv_1 hy (by intro e; rw [e] at hpl; simp [plainV] at hpl) (by intro l e; rw [e] at hpl; simp [plainV] at hpl))
      obtain ⟨g0, g1, g2⟩ := Rv_loc hx
      have hpt := g2 hv
      have hver : 0 < (st.lam b).ver := by omega
      have hnm := ((Rv_locM hx).2.2 hv).1
      obtain ⟨o', hrow, hcr⟩ := s.ls.row b hver
      cases o' with
      | mp es clk =>
        obtain ⟨ks, e, _⟩ := hcr
        rw [e] at hnm
        cases hnm
      | cells c T =>
      simp only [RowO.obj] at hrow
      have hcr : RL (Rc lo W st.η st.lam κ) (st.lam b).cells c := hcr
      have hcs : (a.eval y).cells.size = k := by rw [hrel.1]; exact hlen
      have hrun : (execOp a.eval o).run P w = .ok .skip (w.setRow (κ b) (c.toList.take off ++ (a.eval y).cells.toList ++ c.toList.drop (off + (a.eval y).cells.toList.length)).toArray) := by
        have := storeVar_run (w := w) (off := off) hk hrow hcs (by rw [hcr.1]; omega) (oneCells hrel)
        simp [execOp, hop, hpt, Instr.storeAt, Instr.sureAddr, this]
      have hos := OtherSame.setRow w (κ b) (c.toList.take off ++ (a.eval y).cells.toList ++ c.toList.drop (off + (a.eval y).cells.toList.length)).toArray
      have hnew := spliced (off := off) hcr hrel (by omega)
      subst hv
      refine wp_skipN hrun ⟨.und, _, st.η, W, κ, hK, ?_, .refl _ _ _, ⟨rfl, rfl, rfl, by simp, fun q hq hS => ?_⟩⟩
      · refine Sim_put s hd (s.hs.local s.ls hver hos) (s.ls.write (o := .cells _ T) hver hos (setRow_heap w (κ b) c _ _ _ hrow) hnew ((noMap_of hnew).trans hnm.symm)) (.refl _ _ _) (.write b _ ((noMap_of hnew).trans hnm.symm)) (by simp) s.oS (fun t ht => ?_) (Rv_und _)
        by_cases e : t = b
        · subst e; exact s.lS t hver
        · rw [upd_ne _ _ e] at ht; exact s.lS t ht
      · by_cases e : q = κ b
        · subst e; have := s.lS b hver; omega
        · exact hos.2.2.2.2 q e

end
end Go.Proofs.YtaalpmbopkbdiaaGreat
/- The abstract logic: slices that are made, appended to; calls; and all operations in one theorem. -/
namespace Go.Proofs.YtaalpmbopkbdiaaGreat
open Go

section
variable {P : Program} {lo h0 : Nat} {S : Nat → Prop} {W : Wit} {κ : Nat → Nat} {st : St} {a : Act} {w : World} {o : Oper} {K : AV → (Nat → LB) → List Blk → Prop} {Q : Exit → Act → World → Prop}

theorem pushed_ok (s : Sim lo h0 S W κ st a w) (hd : dstOk o.dst st.n) {w1 : World} {cur : Array Value} {blk : Blk} {len cap : Nat} (hg1 : Grows w w1) (hsz1 : w1.heap.size = w.heap.size) (hver : blk.ver = 0)
    (hrun : (execOp a.eval o).run P w = .ok (.value (.slice (some ⟨w.heap.size, 0, none⟩) len cap)) (w1.alloc (.cells cur blk.ty)))
    (hr : ∀ (j : Nat) x, blk.cells[j]? = some x → ∃ u, cur[j]? = some u ∧ Rc lo W st.η lam0 kap0 x u) (hl : blk.cells.length ≤ cur.size) (hlc : len ≤ cap) (hcap : cap * blk.sz ≤ cur.size)
    (hK : K (.sl st.η.length 0 0 len) st.lam (st.η ++ [blk])) : o.wp P a w (OP lo h0 S W w o.dst st K) Q := by
  have hg := hg1.trans (Grows.alloc w1 (.cells cur blk.ty))
  have hst : HStep lo st.η (st.η ++ [blk]) W (pushW W st.η.length ⟨w1.heap.size, 0, none⟩ cur.size) := .push s.hs.lo_le _ _ _
  refine wp_value hrun ⟨_, st.lam, _, _, κ, hK, ?_, hst, hg.fr s.h0le⟩
  refine Sim_put s hd (HSim.push (s.hs.grow hg1) hr hl) ((s.ls.grow hg1).push (s.hs.grow hg1)) hst (.refl _ _) (by simp [hsz1]) (fun b hb hlt hp => ?_) s.lS ?_
  · simp only [List.length_append, List.length_cons, List.length_nil] at hlt
    by_cases e : b = st.η.length
    · subst e; right; rw [show (pushW W st.η.length ⟨w1.heap.size, 0, none⟩ cur.size).ι st.η.length = _ from upd_same _ _ _]; show h0 ≤ w1.heap.size; rw [hsz1]; exact s.h0le
    · rw [show (pushW W st.η.length ⟨w1.heap.size, 0, none⟩ cur.size).ι b = _ from upd_ne _ _ e]
      rw [show (pushW W st.η.length ⟨w1.heap.size, 0, none⟩ cur.size).cs b = _ from upd_ne _ _ e] at hp
      exact s.oS b hb (by omega) hp
  · refine Rv_mkc ⟨rfl, blk, by simp, by omega, fun _ => ⟨_, cap, rfl, hlc, .inr ⟨?_, fun _ => ?_⟩⟩⟩
    · rw [show (pushW W st.η.length ⟨w1.heap.size, 0, none⟩ cur.size).ι st.η.length = _ from upd_same _ _ _]
      simp [Addr.add, hsz1]
    · rw [show (pushW W st.η.length ⟨w1.heap.size, 0, none⟩ cur.size).cs st.η.length = _ from upd_same _ _ _]
      omega

theorem replicate_rel {R : AV → Value → Prop} {z : List AV} {zc : Array Value} (h : RL R z zc) (n : Nat) {k : Nat} (hk : z.length = k) : ∀ (j : Nat) x, ((List.replicate n z).flatten)[j]? = some x → ∃ u, (madeCells zc (n * k))[j]? = some u ∧ R x u := by
  intro j x hx
  have hj : j < n * k := by
    have := (List.getElem?_eq_some_iff.1 hx).1
    simpa [hk] using this
  have hk0 : 0 < k := by
    rcases Nat.eq_zero_or_pos k with h0 | h0
    · rw [h0] at hj; omega
    · exact h0
  have hzs : zc.size = k := by rw [h.1, hk]
  have hx' : z[j % k]? = some x := by
    rw [← hx]
    have : ∀ (n j : Nat), j < n * k → ((List.replicate n z).flatten)[j]? = z[j % k]? := by
      intro n
      induction n with
      | zero => intro j hj; omega
      | succ n ih =>
        intro j hj
        rw [List.replicate_succ, List.flatten_cons]
        by_cases hjk : j < k
        · rw [List.getElem?_append_left (by omega), Nat.mod_eq_of_lt hjk]
        · have hj2 : (n + 1) * k = n * k + k := Nat.succ_mul n k
          rw [List.getElem?_append_right (by omega), hk, ih (j - k) (by omega)]
          have := Nat.mod_eq_sub_mod (show j ≥ k by omega)
          rw [this]
    exact (this n j hj).symm
  obtain ⟨u, hu, hr⟩ := h.2 _ x hx'
  refine ⟨u, ?_, hr⟩
  have hlt : j % k < zc.size := by rw [hzs]; exact Nat.mod_lt _ hk0
  have e : zc[j % k] = u := by
    rw [Array.getElem?_eq_getElem hlt] at hu; exact Option.some.inj hu
  simp only [madeCells, Array.getElem?_map, Array.getElem?_range, hj, if_true, Option.map_some, hzs]
  rw [getElem!_pos zc (j % k) hlt, e]

theorem makeSlice_ok (s : Sim lo h0 S W κ st a w) (hd : dstOk o.dst st.n) {H : List Nat} {t : TypeId} {x y : Operand} (hop : o.op = .makeSlice t x y) (h : AEff P lo H o (ev st) st.lam st.η K) : o.wp P a w (OP lo h0 S W w o.dst st K) Q := by
  unfold AEff at h
  rw [hop] at h
  simp only at h
  have hx := ev_ok s x
  have hy := ev_ok s y
  split at h
  · rename_i e k n n' he hxx hyy
    obtain ⟨hte, hse⟩ := elemB_spec he
    rw [hxx] at hx; rw [hyy] at hy
    split at h
    · rename_i z by_ hz hby
      obtain ⟨⟨rfl, h1, h2, h3, h4⟩, hK⟩ := h
      obtain ⟨zv, i, hzr, hi, hiz, hzz⟩ := zeroB_run (w := w) hz
      have hsz : i.size = k := by unfold szB at hse; rw [hi] at hse; simpa using hse
      have hb' : i.bytes = by_ := by unfold bytesB at hby; rw [hi] at hby; simpa using hby
      have hb2 : (i.bytes : Int) * n ≤ 281474976710656 := by rw [hb', Int.mul_comm]; omega
      have hrun := run_make (P := P) w t e i zv hte hi hiz .i64 .i64 n n h1 (Int.le_refl _) hb2 h3
      rw [hsz] at hrun
      have hrel := zero_rel (lo := lo) (W := W) (η := st.η) (lam := lam0) (κ := kap0) hzz
      refine pushed_ok s hd (blk := ⟨0, e, k, (List.replicate n.toNat z).flatten⟩) (Grows.refl w) rfl rfl (by simp only [execOp, hop, Rv_int hx, Rv_int hy, Sem.run_bind, hrun, Result.andThen_ok, Sem.run_pure]) (replicate_rel hrel _ h4) (by simp [madeCells, h4]) (Nat.le_refl _) (by simp [madeCells]) hK
    · exact h.elim
  · exact h.elim

theorem fillA_len {place : Nat → Option (Nat × Nat)} : ∀ {parts : List (Nat × AV)} {cells res : List AV}, fillA place cells parts = some res → res.length = cells.length
  | [], cells, res, h => by simp [fillA] at h; rw [h]
  | (i, v) :: rest, cells, res, h => by
    simp only [fillA] at h
    split at h
    · cases h
    · split at h
      · rename_i hc; rw [fillA_len h, length_putCells (by omega)]
      · cases h

theorem buildSlice_ok (s : Sim lo h0 S W κ st a w) (hd : dstOk o.dst st.n) {H : List Nat} {t : TypeId} {len : Nat} {parts : Array (Nat × Operand)} (hop : o.op = .buildSlice t len parts) (h : AEff P lo H o (ev st) st.lam st.η K) : o.wp P a w (OP lo h0 S W w o.dst st K) Q := by
  unfold AEff at h
  rw [hop] at h
  simp only at h
  split at h
  · rename_i e k he
    obtain ⟨hte, hse⟩ := elemB_spec he
    split at h
    · rename_i hl0
      subst hl0
      obtain ⟨hp0, hK⟩ := h
      obtain rfl : parts = #[] := Array.eq_empty_of_size_eq_zero hp0
      have hg := Grows.alloc w (.cells #[] e)
      have hrun : (Instr.buildSlice t 0 #[]).run P w = .ok (.slice (some ⟨w.heap.size, 0, none⟩) 0 0) (w.alloc (.cells #[] e)) := by
        simp [Instr.buildSlice, run_underlying hte, szB_run hse, Instr.fill, newRow]
        have e0 : Array.range 0 = #[] := by apply Array.ext' ; simp
        rw [e0]; simp
      refine wp_value (u := .slice (some ⟨w.heap.size, 0, none⟩) 0 0) (w' := w.alloc (.cells #[] e)) (by simp [execOp, hop, hrun]) ⟨.emp, st.lam, st.η, W, κ, hK, ?_, .refl _ _ _, hg.fr s.h0le⟩
      exact Sim_put s hd (s.hs.grow hg) (s.ls.grow hg) (.refl _ _ _) (.refl _ _) (by simp) s.oS s.lS (Rv_mkc ⟨rfl, _, rfl⟩)
    · rename_i hl0
      split at h
      · rename_i z hz
        split at h
        · rename_i cells hf
          obtain ⟨⟨h1, h2, h3, h4⟩, hK⟩ := h
          obtain ⟨zv, i, hzr, hi, hiz, hzz⟩ := zeroB_run (w := w) hz
          have hrel := zero_rel (lo := lo) (W := W) (η := st.η) (lam := st.lam) (κ := κ) hzz
          have hzs : zv.cells.size = k := by rw [hrel.1, h1]
          have hrl : RL (Rc lo W st.η st.lam κ) (List.replicate len z).flatten (madeCells zv.cells (len * k)) := ⟨by simp [madeCells, h1], replicate_rel hrel len h1⟩
          obtain ⟨rc, hrc1, hrc2⟩ := fill_ok (partsc := (parts.map fun p => (p.1, a.eval p.2)).toList) (by simp [Function.comp_def]) (fun j p q hp hq => by
            rw [List.getElem?_map] at hp
            rw [Array.toList_map, List.getElem?_map] at hq
            cases hj : parts.toList[j]? with
            | none => rw [hj] at hp; cases hp
            | some x => rw [hj] at hp hq; simp at hp hq; subst hp; subst hq; exact ev_ok s x.2) hrl hf
          have hlen : cells.length = len * k := by rw [fillA_len hf]; simp [h1]
          have hrun : (Instr.buildSlice t len (parts.map fun p => (p.1, a.eval p.2))).run P w = .ok (.slice (some ⟨w.heap.size, 0, none⟩) len len) (w.alloc (.cells rc e)) := by
            have hm : (Array.range (len * k)).map (fun x => zv.cells[x % zv.cells.size]!) = madeCells zv.cells (len * k) := by simp [madeCells]
            have hne : ¬ (len * k = 0) := by
              intro e0
              rcases Nat.mul_eq_zero.1 e0 with h | h <;> omega
            have hbig : ¬ (16777216 < len * k) := by omega
            rw [Array.toList_map] at hrc1
            simp only [Instr.buildSlice, Sem.run_bind, run_underlying hte, Result.andThen_ok, szB_run hse, Sem.run_ite]
            rw [if_neg (by simpa using hbig)]
            simp only [Sem.run_pure, Result.andThen_ok]
            rw [if_neg hne]
            simp [hzr, hm, hrc1, newRow]
          refine pushed_ok s hd (blk := ⟨0, e, k, cells⟩) (Grows.refl w) rfl rfl (cur := rc) (cap := len) (by simp [execOp, hop, hrun]) (fun j x hx => ?_) (by rw [hrc2.1]; exact Nat.le_refl _) (Nat.le_refl _) (by rw [hrc2.1, hlen]; exact Nat.le_refl _) hK
          obtain ⟨u, hu1, hu2⟩ := hrc2.2 j x hx
          refine ⟨u, hu1, ?_⟩
          have := List.all_eq_true.1 h4 x (List.mem_of_getElem? hx)
          cases x <;> first | exact hu2 | (simp [noLoc] at this)
        · exact h.elim
      · exact h.elim
  · exact h.elim

/-- What an append takes from its second argument. -/
theorem row_first {lo : Nat} {W : Wit} {η : List Blk} {lam : Nat → LB} {κ : Nat → Nat} {w : World} (hs : HSim lo W η w) {x : AV} {u : Value} {k : Nat} {new : List AV} (hx : Rv lo W η lam κ x u) (h : rowA η k x = some new) :
    ∃ news : List Value, news.length = lenA x * k ∧ RL (Rc lo W η lam0 kap0) new news.toArray ∧ (∀ w1 : World, (Builtin.lenOf u).run P w1 = .ok (lenA x) w1) ∧ ∀ w1, Grows w w1 → (Builtin.firstCells k (lenA x) u).run P w1 = .ok news.toArray w1 := by
  unfold rowA at h
  cases x <;> simp only at h <;> try (cases h; done)
  · cases h
    refine ⟨[], by simp [lenA], ⟨rfl, fun i x hx => by simp at hx⟩, fun w1 => ?_, fun w1 _ => ?_⟩
    · simp [Rv_nils hx, Builtin.lenOf, lenA]
    · simp [Rv_nils hx, Builtin.firstCells]
  · cases h
    obtain ⟨a, rfl⟩ := Rv_emp hx
    refine ⟨[], by simp [lenA], ⟨rfl, fun i x hx => by simp at hx⟩, fun w1 => ?_, fun w1 _ => ?_⟩
    · simp [Builtin.lenOf, lenA]
    · simp [Builtin.firstCells, lenA, loadCells, loadCellsFrom]
  · rename_i b ver off len
    cases hb : η[b]? with
    | none => rw [hb] at h; cases h
    | some blk =>
      rw [hb] at h
      simp only at h
      split at h
      · rename_i hc
        simp only [Option.some.injEq] at h
        subst h
        obtain ⟨a, cap, rfl, hle, hcap⟩ := sl_open hx hb hc.1
        by_cases h0 : len = 0
        · subst h0
          refine ⟨[], by simp [lenA], ⟨by simp, fun i x hx => by simp at hx⟩, fun w1 => ?_, fun w1 _ => ?_⟩
          · simp [Builtin.lenOf, lenA]
          · simp [Builtin.firstCells, lenA, loadCells, loadCellsFrom]
        · have ha : a = (W.ι b).add off := by rcases hcap with hcap | hcap; omega; exact hcap.1
          obtain ⟨cs, hl, h1, h2⟩ := row_of (w := w) (R := Rc lo W η lam0 kap0) (l := (blk.cells.drop off).take (len * k)) (a := a) (fun j x hx => by
            rw [List.getElem?_take] at hx
            split at hx
            · rw [List.getElem?_drop] at hx
              obtain ⟨u, hu, hr⟩ := hs.cell b blk hb (off + j) x hx
              exact ⟨u, by rw [ha, Deep.add_add]; exact hu, hr⟩
            · cases hx)
          have hlk : cs.length = len * k := by rw [hl]; simp; omega
          refine ⟨cs, hlk, h2, fun w1 => by simp [Builtin.lenOf, lenA], fun w1 hg => ?_⟩
          have := run_firstCells_some (P := P) w1 k len a len cap cs hlk (fun j v hv => hg.cell (h1 j v hv))
          exact this
      · cases h
  · rename_i b ver off len cap
    cases hb : η[b]? with
    | none => rw [hb] at h; cases h
    | some blk =>
      rw [hb] at h
      simp only at h
      split at h
      · rename_i hc
        simp only [Option.some.injEq] at h
        subst h
        obtain ⟨hlo, a, rfl, hle, hcap⟩ := slc_open hx hb hc.1
        by_cases h0 : len = 0
        · subst h0
          refine ⟨[], by simp [lenA], ⟨by simp, fun i x hx => by simp at hx⟩, fun w1 => ?_, fun w1 _ => ?_⟩
          · simp [Builtin.lenOf, lenA]
          · simp [Builtin.firstCells, lenA, loadCells, loadCellsFrom]
        · have ha : a = (W.ι b).add off := by rcases hcap with hcap | hcap; omega; exact hcap.1
          obtain ⟨cs, hl, h1, h2⟩ := row_of (w := w) (R := Rc lo W η lam0 kap0) (l := (blk.cells.drop off).take (len * k)) (a := a) (fun j x hx => by
            rw [List.getElem?_take] at hx
            split at hx
            · rw [List.getElem?_drop] at hx
              obtain ⟨u, hu, hr⟩ := hs.cell b blk hb (off + j) x hx
              exact ⟨u, by rw [ha, Deep.add_add]; exact hu, hr⟩
            · cases hx)
          have hlk : cs.length = len * k := by rw [hl]; simp; omega
          refine ⟨cs, hlk, h2, fun w1 => by simp [Builtin.lenOf, lenA], fun w1 hg => ?_⟩
          have := run_firstCells_some (P := P) w1 k len a len cap cs hlk (fun j v hv => hg.cell (h1 j v hv))
          exact this
      · cases h

/-- Append, by the machine's text. -/
theorem append_fits {t t' e e' ty : TypeId} {k : Nat} (ht : P.underlying t = some (.slice e)) (ht' : P.underlying t' = some (.slice e')) (hk : szB P e = some k) {base : Option Addr} {n cap m : Nat} {u : Value} {news : List Value}
    (hlen : ∀ w1 : World, (Builtin.lenOf u).run P w1 = .ok m w1) (hf : (Builtin.firstCells k m u).run P w = .ok news.toArray w) (hroom : n + m ≤ cap) :
    (Builtin.append_ #[t, t'] ty #[.slice base n cap, u]).run P w = (match base with | some a => (storeCells (a.add (n * k)) news).run P w | none => .ok () w).andThen fun _ w' => .ok (.slice base (n + m) cap) w' := by
  cases base <;> simp [Builtin.append_, run_underlying ht, run_underlying ht', szB_run hk, hlen, hf, hroom]

theorem append_grows {t t' e e' ty : TypeId} {k by_ : Nat} (ht : P.underlying t = some (.slice e)) (ht' : P.underlying t' = some (.slice e')) {i : TypeInfo} {z : Value} (hi : P.info? e = some i) (hz : i.zero = some z) (hk : i.size = k) (hb : i.bytes = by_) {base : Option Addr} {n cap m : Nat} {u : Value} {olds news : List Value}
    (hlen : ∀ w1 : World, (Builtin.lenOf u).run P w1 = .ok m w1) (hf : (Builtin.firstCells k m u).run P w.drew = .ok news.toArray w.drew) (ho : (Builtin.firstCells k n (.slice base n cap)).run P w.drew = .ok olds.toArray w.drew)
    (hroom : cap < n + m) (h63 : n + m ≤ 4611686018427387904) (hfit : (n + m) * by_ ≤ 140737488355328) :
    (Builtin.append_ #[t, t'] ty #[.slice base n cap, u]).run P w = .ok (.slice (some ⟨w.heap.size, 0, none⟩) (n + m) (grownCap w (n + m) cap e)) (w.drew.alloc (.cells (olds.toArray ++ news.toArray ++ Builtin.zeroCells z.cells (grownCap w (n + m) cap e - (n + m))) e)) := by
  have hn : ¬ (n + m ≤ cap) := by omega
  have h63' : ¬ (9223372036854775807 < ((n : Int) + (m : Int))) := by omega
  have hfit2 := growslice_fits hroom hfit
  have h48' : ¬ (281474976710656 < Builtin.nextslicecap (n + m) cap * by_) := by omega
  subst hk hb
  simp [Builtin.append_, run_underlying ht, run_underlying ht', sizeOf, typeInfo, zeroValue, hi, hz, hlen, hn, h63', h48', Question.forced, hf, ho, newRow, grownCap]
  congr 2
  apply Array.ext'
  simp [List.append_assoc]

end
end Go.Proofs.YtaalpmbopkbdiaaGreat
/- The abstract logic: append, calls, and all operations in one theorem. -/
namespace Go.Proofs.YtaalpmbopkbdiaaGreat
open Go

section
variable {P : Program} {lo h0 : Nat} {S : Nat → Prop} {W : Wit} {κ : Nat → Nat} {st : St} {a : Act} {w : World} {o : Oper} {K : AV → (Nat → LB) → List Blk → Prop} {Q : Exit → Act → World → Prop}

theorem append_rel {R : AV → Value → Prop} {l1 l2 : List AV} {c1 c2 : List Value} {r : Array Value} (h1 : RL R l1 c1.toArray) (h2 : RL R l2 c2.toArray) : ∀ (j : Nat) x, (l1 ++ l2)[j]? = some x → ∃ u, (c1.toArray ++ c2.toArray ++ r)[j]? = some u ∧ R x u := by
  intro j x hx
  have e1 : c1.length = l1.length := by have := h1.1; simpa using this
  have e2 : c2.length = l2.length := by have := h2.1; simpa using this
  by_cases hj : j < l1.length
  · rw [List.getElem?_append_left hj] at hx
    obtain ⟨u, hu, hr⟩ := h1.2 j x hx
    refine ⟨u, ?_, hr⟩
    rw [Array.append_assoc, Array.getElem?_append_left (by simpa [e1] using hj)]
    exact hu
  · rw [List.getElem?_append_right (by omega)] at hx
    obtain ⟨u, hu, hr⟩ := h2.2 _ x hx
    have hlt := (List.getElem?_eq_some_iff.1 hx).1
    refine ⟨u, ?_, hr⟩
    rw [Array.append_assoc, Array.getElem?_append_right (by simp; omega), Array.getElem?_append_left (by simp; omega)]
    simpa [e1] using hu

theorem oneCellsL {lam : Nat → LB} {η : List Blk} {l : List AV} {cs : List Value} (h : RL (Rc lo W η lam κ) l cs.toArray) : ∀ u ∈ cs, u.oneCell' = true := by
  intro u hu
  exact oneCells h u (by simpa using hu)

/-- Appended to nothing. -/
theorem append_none_ok (s : Sim lo h0 S W κ st a w) (hd : dstOk o.dst st.n) {t t' e e' ty : TypeId} {k k' by_ : Nat} (ht : elemB P t = some (e, k)) (ht' : elemB P t' = some (e', k')) (hby : bytesB P e = some by_) {z : List AV} (hz : zeroB P e = some z) (hzk : z.length = k)
    {x : AV} {u : Value} (hx : Rv lo W st.η st.lam κ x u) {new : List AV} (hrow : rowA st.η k x = some new) {base : Option Addr}
    (hrun : (execOp a.eval o).run P w = ((Builtin.append_ #[t, t'] ty #[.slice base 0 0, u]).run P w).andThen fun v w' => .ok (.value v) w')
    (h1 : lenA x * by_ ≤ 140737488355328) (h2 : lenA x ≤ 4611686018427387904) (hb : base = none → 0 < lenA x)
    (hK : K (.sl st.η.length 0 0 (lenA x)) st.lam (st.η ++ [⟨0, e, k, new⟩])) : o.wp P a w (OP lo h0 S W w o.dst st K) Q := by
  obtain ⟨hte, hse⟩ := elemB_spec ht
  obtain ⟨hte', _⟩ := elemB_spec ht'
  obtain ⟨news, hl, hrel, hlen, hf⟩ := row_first (P := P) s.hs hx hrow
  obtain ⟨zv, i, hzr, hi, hiz, hzz⟩ := zeroB_run (w := w) hz
  have hsz : i.size = k := by unfold szB at hse; rw [hi] at hse; simpa using hse
  have hb' : i.bytes = by_ := by unfold bytesB at hby; rw [hi] at hby; simpa using hby
  have hnl : new.length = news.length := by have := hrel.1; simpa using this.symm
  by_cases hm : lenA x = 0
  · cases base with
    | none => have := hb rfl; omega
    | some b0 =>
      have hr2 := append_fits (ty := ty) hte hte' hse (base := some b0) (n := 0) (cap := 0) (w := w) hlen (hf w (Grows.refl w)) (by omega)
      have hnews : news = [] := by
        rw [hm, Nat.zero_mul] at hl
        exact List.length_eq_zero_iff.1 hl
      rw [hr2] at hrun
      subst hnews
      have hnew : new = [] := List.length_eq_zero_iff.1 (by rw [hnl]; rfl)
      subst hnew
      rw [hm] at hK
      refine wp_value (u := .slice (some b0) 0 0) (w' := w) (by rw [hrun]; simp [storeCells, hm]) ⟨_, st.lam, _, pushW W st.η.length ⟨0, 0, none⟩ 0, κ, hK, ?_, .push s.hs.lo_le _ _ _, .refl _ _ _⟩
      refine Sim_put s hd (s.hs.pushV _ rfl) (s.ls.pushV s.hs _ rfl) (.push s.hs.lo_le _ _ _) (.refl _ _) (Nat.le_refl _) (fun b hb hlt hp => ?_) s.lS ?_
      · simp only [List.length_append, List.length_cons, List.length_nil] at hlt
        by_cases e : b = st.η.length
        · subst e; rw [show (pushW W st.η.length ⟨0, 0, none⟩ 0).cs st.η.length = 0 from upd_same _ _ _] at hp; omega
        · rw [show (pushW W st.η.length ⟨0, 0, none⟩ 0).ι b = _ from upd_ne _ _ e]
          rw [show (pushW W st.η.length ⟨0, 0, none⟩ 0).cs b = _ from upd_ne _ _ e] at hp
          exact s.oS b hb (by omega) hp
      · exact Rv_mkc ⟨rfl, ⟨0, e, k, []⟩, by simp, Nat.le_refl _, fun _ => ⟨b0, 0, rfl, Nat.le_refl _, .inl rfl⟩⟩
  · have hfo : (Builtin.firstCells k 0 (.slice base 0 0)).run P w.drew = .ok (([] : List Value).toArray) w.drew := by
      cases base <;> simp [Builtin.firstCells, loadCells, loadCellsFrom]
    have hr2 := append_grows (ty := ty) (base := base) (n := 0) (cap := 0) (w := w) hte hte' hi hiz hsz hb' hlen (hf w.drew (Grows.drew w)) hfo (by omega) (by omega) (by rw [Nat.zero_add]; exact h1)
    rw [hr2] at hrun
    simp only [Result.andThen_ok, Nat.zero_add] at hrun
    have hcapge := grownCap_ge w (lenA x) 0 e
    have hzc : zv.cells.size = k := by have := zero_rel (lo := lo) (W := W) (η := st.η) (lam := lam0) (κ := kap0) hzz; rw [this.1, hzk]
    refine pushed_ok s hd (blk := ⟨0, e, k, new⟩) (Grows.drew w) rfl rfl hrun (fun j y hy => ?_) ?_ hcapge ?_ hK
    · have := append_rel (l1 := []) (c1 := []) (r := Builtin.zeroCells zv.cells (grownCap w (lenA x) 0 e - lenA x)) ⟨rfl, fun i x hx => by simp at hx⟩ hrel j y (by simpa using hy)
      exact this
    · simp [hnl]
    · simp only [Array.size_append, size_zeroCells, hzc]
      simp [hl, ← Nat.add_mul]
      rw [show lenA x + (grownCap w (lenA x) 0 e - lenA x) = grownCap w (lenA x) 0 e by omega]
      exact Nat.le_refl _

/-- Appended to a row of one's own. -/
theorem append_own_ok (s : Sim lo h0 S W κ st a w) (hd : dstOk o.dst st.n) {t t' e e' ty : TypeId} {k k' by_ : Nat} (ht : elemB P t = some (e, k)) (ht' : elemB P t' = some (e', k')) (hby : bytesB P e = some by_) {z : List AV} (hz : zeroB P e = some z) (hzk : z.length = k) (hk0 : 0 < k)
    {x : AV} {u : Value} (hx : Rv lo W st.η st.lam κ x u) {new : List AV} (hrow : rowA st.η k x = some new) {b len : Nat} {blk : Blk} {us : Value} (hb : st.η[b]? = some blk) (hlo : lo ≤ b) (hus : Rv lo W st.η st.lam κ (.sl b blk.ver 0 len) us)
    (hrun : (execOp a.eval o).run P w = ((Builtin.append_ #[t, t'] ty #[us, u]).run P w).andThen fun v w' => .ok (.value v) w')
    (hbs : blk.sz = k) (hbt : blk.ty = e) (hle : len * k ≤ blk.cells.length) (h1 : (len + lenA x) * by_ ≤ 140737488355328) (h2 : len + lenA x ≤ 4611686018427387904)
    (hK : K (.sl b (blk.ver + 1) 0 (len + lenA x)) st.lam (st.η.set b { blk with ver := blk.ver + 1, cells := blk.cells.take (len * k) ++ new })) : o.wp P a w (OP lo h0 S W w o.dst st K) Q := by
  obtain ⟨hte, hse⟩ := elemB_spec ht
  obtain ⟨hte', _⟩ := elemB_spec ht'
  obtain ⟨news, hl, hrel, hlen, hf⟩ := row_first (P := P) s.hs hx hrow
  obtain ⟨zv, i, hzr, hi, hiz, hzz⟩ := zeroB_run (w := w) hz
  have hsz : i.size = k := by unfold szB at hse; rw [hi] at hse; simpa using hse
  have hb' : i.bytes = by_ := by unfold bytesB at hby; rw [hi] at hby; simpa using hby
  have hnl : new.length = news.length := by have := hrel.1; simpa using this.symm
  obtain ⟨ad, cap, rfl, hlc, hcap⟩ := sl_open hus hb rfl
  obtain ⟨hble, hown⟩ := s.hs.own b blk hb hlo
  have hblt := (List.getElem?_eq_some_iff.1 hb).1
  have hver : blk.ver ≤ blk.ver + 1 := Nat.le_succ _
  by_cases hroom : len + lenA x ≤ cap
  · -- in place
    have hr2 := append_fits (ty := ty) hte hte' hse (base := some ad) (n := len) (cap := cap) (w := w) hlen (hf w (Grows.refl w)) hroom
    rw [hr2] at hrun
    by_cases hc0 : cap = 0
    · -- nothing, appended to nothing
      have hm : lenA x = 0 := by omega
      have hl0 : len = 0 := by omega
      have hnews : news = [] := by rw [hm, Nat.zero_mul] at hl; exact List.length_eq_zero_iff.1 hl
      subst hnews
      have hnew : new = [] := List.length_eq_zero_iff.1 (by rw [hnl]; rfl)
      subst hnew
      subst hl0
      have hst : HStep lo st.η (st.η.set b { blk with ver := blk.ver + 1, cells := blk.cells.take (0 * k) ++ [] }) W W := .set hb hlo hver rfl rfl
      have hos : ∀ g, OtherSame g w w := fun g => ⟨rfl, rfl, rfl, rfl, fun _ _ => rfl⟩
      refine wp_value (u := .slice (some ad) (0 + lenA x) cap) (w' := w) (by rw [hrun]; simp [storeCells]) ⟨_, st.lam, _, W, κ, hK, ?_, hst, .refl _ _ _⟩
      have hs' : HSim lo W (st.η.set b { blk with ver := blk.ver + 1, cells := blk.cells.take (0 * k) ++ [] }) w := by
        by_cases hcs : 0 < W.cs b
        · obtain ⟨B, c, hB, hrw, hsz2⟩ := hown hcs
          exact s.hs.set hb hlo hcs hB hver rfl rfl (hos B) hrw hsz2 (by simp) (fun j y hy => by simp at hy)
        · refine ⟨by rw [List.length_set]; exact s.hs.lo_le, fun c bl hcb j y hy => ?_, fun c bl hcb hlc2 => ?_, fun c c' bl hcb hc' hlc' hp hn hcc => ?_⟩
          · rcases getElem?_set_cases hcb with ⟨rfl, rfl⟩ | ⟨hcn, hcb⟩
            · simp at hy
            · obtain ⟨u, h1, h2⟩ := s.hs.cell c bl hcb j y hy; exact ⟨u, h1, Rc_mono hst (LStep.refl _ _) h2⟩
          · rcases getElem?_set_cases hcb with ⟨rfl, rfl⟩ | ⟨hcn, hcb⟩
            · exact ⟨by simp, fun hp => absurd hp hcs⟩
            · exact s.hs.own c bl hcb hlc2
          · rw [List.length_set] at hc'
            rcases getElem?_set_cases hcb with ⟨rfl, rfl⟩ | ⟨hcn, hcb⟩
            · rw [if_pos hlo] at hcc; exact absurd hcc hcs
            · exact s.hs.sep c c' bl hcb hc' hlc' hp hn hcc
      have hls' : LSim lo W (st.η.set b { blk with ver := blk.ver + 1, cells := blk.cells.take (0 * k) ++ [] }) st.lam κ w := by
        refine ⟨fun s' hsv => let ⟨c, h1, h2⟩ := s.ls.row s' hsv; ⟨c, h1, h2.mono fun _ _ hr => Rc_mono hst (LStep.refl _ _) hr⟩, s.ls.ll, fun s' c bl hsv hcb hcc => ?_⟩
        rcases getElem?_set_cases hcb with ⟨rfl, rfl⟩ | ⟨hcn, hcb⟩
        · refine s.ls.lh s' c blk hsv hb ?_
          rw [if_pos hlo] at hcc ⊢; exact hcc
        · exact s.ls.lh s' c bl hsv hcb hcc
      refine Sim_put s hd hs' hls' hst (.refl _ _) (Nat.le_refl _) (fun b' hb' hlt hp => s.oS b' hb' (by simpa using hlt) hp) s.lS ?_
      exact Rv_mkc ⟨rfl, { blk with ver := blk.ver + 1, cells := blk.cells.take (0 * k) ++ [] }, by simp [hblt], Nat.le_refl _, fun _ => ⟨ad, cap, rfl, hroom, .inl hc0⟩⟩
    · have had : ad = (W.ι b).add 0 ∧ (lo ≤ b → 0 + cap * blk.sz ≤ W.cs b) := by rcases hcap with h | h; omega; exact h
      obtain ⟨had1, had2⟩ := had
      have hcs := had2 hlo
      have hcs0 : 0 < W.cs b := by
        have : 0 < cap * blk.sz := Nat.mul_pos (by omega) (by omega)
        omega
      obtain ⟨B, c, hB, hrw, hsz2⟩ := hown hcs0
      rw [hB] at had1
      have had3 : ad = ⟨B, 0, none⟩ := by rw [had1]; rfl
      subst had3
      have hmk : len * k + lenA x * k ≤ cap * k := by rw [← Nat.add_mul]; exact Nat.mul_le_mul_right k hroom
      have hfit : len * k + news.length ≤ c.size := by rw [hl, hsz2]; rw [hbs] at hcs; omega
      have hst0 := run_storeCells_at P B (len * k) blk.ty news 0 c w hrw (by simpa using hfit) (oneCellsL hrel)
      simp only [Nat.add_zero] at hst0
      have hcell : ∀ (j : Nat) y, (blk.cells.take (len * k) ++ new)[j]? = some y → ∃ u, (c.toList.take (len * k) ++ news ++ c.toList.drop (len * k + news.length)).toArray[j]? = some u ∧ Rc lo W st.η lam0 kap0 y u := by
        intro j y hy
        simp only [List.getElem?_toArray]
        by_cases hj : j < len * k
        · rw [List.getElem?_append_left (by simp; omega), List.getElem?_take, if_pos hj] at hy
          obtain ⟨u, h1, h2⟩ := s.hs.cell b blk hb j y hy
          rw [hB, add_zero_plain, Nat.zero_add] at h1
          refine ⟨u, ?_, h2⟩
          rw [List.append_assoc, List.getElem?_append_left (by simp; omega), List.getElem?_take, if_pos hj]
          simpa [World.cell?, hrw] using h1
        · rw [List.getElem?_append_right (by simp; omega)] at hy
          obtain ⟨u, h1, h2⟩ := hrel.2 _ y hy
          refine ⟨u, ?_, h2⟩
          have hlt := (List.getElem?_eq_some_iff.1 hy).1
          simp at hlt
          rw [List.append_assoc, List.getElem?_append_right (by simp; omega), List.getElem?_append_left (by simp; omega)]
          have e1 : min (len * k) blk.cells.length = len * k := by omega
          have e2 : min (len * k) c.size = len * k := by omega
          simpa [e1, e2] using h1
      have hos := OtherSame.setRow w B (c.toList.take (len * k) ++ news ++ c.toList.drop (len * k + news.length)).toArray
      have hst : HStep lo st.η (st.η.set b { blk with ver := blk.ver + 1, cells := blk.cells.take (len * k) ++ new }) W W := .set hb hlo hver rfl rfl
      have hsz3 : (c.toList.take (len * k) ++ news ++ c.toList.drop (len * k + news.length)).toArray.size = W.cs b := by simp; omega
      have hle3 : (blk.cells.take (len * k) ++ new).length ≤ (c.toList.take (len * k) ++ news ++ c.toList.drop (len * k + news.length)).toArray.size := by rw [hsz3]; simp; omega
      refine wp_value (u := .slice (some ⟨B, 0, none⟩) (len + lenA x) cap) (w' := w.setRow B (c.toList.take (len * k) ++ news ++ c.toList.drop (len * k + news.length)).toArray) (by
        rw [hrun]; simp only [add_zero_plain, Nat.zero_add]; rw [hst0]; simp) ⟨_, st.lam, _, W, κ, hK, ?_, hst, ⟨rfl, rfl, rfl, by simp, fun q hq hS => ?_⟩⟩
      · refine Sim_put s hd (s.hs.set hb hlo hcs0 hB hver rfl rfl hos (setRow_heap w B c _ _ _ hrw) hsz3 hle3 hcell) (s.ls.set hb hlo hcs0 hB hver rfl rfl hos) hst (.refl _ _) (by simp) (fun b' hb' hlt hp => s.oS b' hb' (by simpa using hlt) hp) s.lS ?_
        exact Rv_mkc ⟨rfl, { blk with ver := blk.ver + 1, cells := blk.cells.take (len * k) ++ new }, by simp [hblt], Nat.le_refl _, fun _ => ⟨⟨B, 0, none⟩, cap, rfl, hroom, .inr ⟨by rw [hB]; rfl, fun _ => hcs⟩⟩⟩
      · by_cases e : q = B
        · subst e
          have := s.oS b hlo hblt hcs0
          rw [hB] at this
          rcases this with h1 | h1
          · exact absurd h1 hS
          · simp at h1; omega
        · exact hos.2.2.2.2 q e
  · -- to new memory
    have hrold : ∃ olds : List Value, olds.length = len * k ∧ RL (Rc lo W st.η lam0 kap0) (blk.cells.take (len * k)) olds.toArray ∧ (Builtin.firstCells k len (.slice (some ad) len cap)).run P w.drew = .ok olds.toArray w.drew := by
      obtain ⟨news', h1, h2, _, h4⟩ := row_first (P := P) (k := k) (new := (blk.cells.drop 0).take (len * k)) s.hs hus (by simp only [rowA, hb]; rw [if_pos ⟨trivial, by omega⟩])
      refine ⟨news', by simpa [lenA] using h1, by simpa using h2, ?_⟩
      simpa [lenA] using h4 w.drew (Grows.drew w)
    obtain ⟨olds, ho1, ho2, ho3⟩ := hrold
    have hr2 := append_grows (ty := ty) (base := some ad) (n := len) (cap := cap) (w := w) hte hte' hi hiz hsz hb' hlen (hf w.drew (Grows.drew w)) ho3 (by omega) h2 h1
    rw [hr2] at hrun
    simp only [Result.andThen_ok] at hrun
    have hcapge := grownCap_ge w (len + lenA x) cap e
    have hzc : zv.cells.size = k := by have := zero_rel (lo := lo) (W := W) (η := st.η) (lam := lam0) (κ := kap0) hzz; rw [this.1, hzk]
    generalize hcur : olds.toArray ++ news.toArray ++ Builtin.zeroCells zv.cells (grownCap w (len + lenA x) cap e - (len + lenA x)) = cur at hrun
    have hcsz : cur.size = grownCap w (len + lenA x) cap e * k := by
      rw [← hcur]
      simp only [Array.size_append, size_zeroCells, hzc]
      simp [hl, ho1, ← Nat.add_mul]
      congr 1
      omega
    have hlen3 : (blk.cells.take (len * k) ++ new).length = (len + lenA x) * k := by simp [hnl, hl, Nat.add_mul]; omega
    have hle3 : (blk.cells.take (len * k) ++ new).length ≤ cur.size := by rw [hlen3, hcsz]; exact Nat.mul_le_mul_right k hcapge
    have hcell : ∀ (j : Nat) y, (blk.cells.take (len * k) ++ new)[j]? = some y → ∃ u, cur[j]? = some u ∧ Rc lo W st.η lam0 kap0 y u := by
      rw [← hcur]; exact append_rel ho2 hrel
    have hv1 : blk.ver < blk.ver + 1 := Nat.lt_succ_self _
    have hst : HStep lo st.η (st.η.set b { blk with ver := blk.ver + 1, cells := blk.cells.take (len * k) ++ new }) W (pushW W b ⟨w.drew.heap.size, 0, none⟩ cur.size) := HStep.move (blk' := { blk with ver := blk.ver + 1, cells := blk.cells.take (len * k) ++ new }) hb hlo hv1 rfl rfl _ _
    have hg := (Grows.drew w).trans (Grows.alloc w.drew (.cells cur e))
    subst hbt
    refine wp_value hrun ⟨_, st.lam, _, _, κ, hK, ?_, hst, hg.fr s.h0le⟩
    refine Sim_put s hd (HSim.move (s.hs.grow (Grows.drew w)) hb hlo hv1 rfl rfl hle3 hcell) ((s.ls.grow (Grows.drew w)).move hb hlo hv1 rfl rfl) hst (.refl _ _) (by simp) (fun b' hb2 hlt hp => ?_) s.lS ?_
    · by_cases e : b' = b
      · subst e; right; rw [show (pushW W b' ⟨w.drew.heap.size, 0, none⟩ cur.size).ι b' = _ from upd_same _ _ _]; exact s.h0le
      · rw [show (pushW W b ⟨w.drew.heap.size, 0, none⟩ cur.size).ι b' = _ from upd_ne _ _ e]
        rw [show (pushW W b ⟨w.drew.heap.size, 0, none⟩ cur.size).cs b' = _ from upd_ne _ _ e] at hp
        exact s.oS b' hb2 (by simpa using hlt) hp
    · refine Rv_mkc ⟨rfl, { blk with ver := blk.ver + 1, cells := blk.cells.take (len * k) ++ new }, by simp [hblt], Nat.le_refl _, fun _ => ⟨_, _, rfl, hcapge, .inr ⟨?_, fun _ => ?_⟩⟩⟩
      · rw [show (pushW W b ⟨w.drew.heap.size, 0, none⟩ cur.size).ι b = _ from upd_same _ _ _]; rfl
      · rw [show (pushW W b ⟨w.drew.heap.size, 0, none⟩ cur.size).cs b = _ from upd_same _ _ _, hcsz, hbs]; omega


theorem layA_rel {R : AV → Value → Prop} {cells row : List AV} {c : Array Value} {vs : List Value} {off : Nat} (hc : ∀ (j : Nat) x, cells[j]? = some x → ∃ u, c[j]? = some u ∧ R x u) (hr : RL R row vs.toArray) (ho : off ≤ cells.length) (hf : off + vs.length ≤ c.size) :
    ∀ (j : Nat) y, (layA cells off row)[j]? = some y → ∃ u, (c.toList.take off ++ vs ++ c.toList.drop (off + vs.length)).toArray[j]? = some u ∧ R y u := by
  intro j y hy
  have hl : row.length = vs.length := by have := hr.1; simpa using this.symm
  have e1 : min off cells.length = off := by omega
  have e2 : min off c.size = off := by omega
  unfold layA at hy
  simp only [List.getElem?_toArray]
  by_cases hj : j < off
  · rw [List.append_assoc, List.getElem?_append_left (by simp; omega), List.getElem?_take, if_pos hj] at hy
    obtain ⟨u, h1, h2⟩ := hc j y hy
    refine ⟨u, ?_, h2⟩
    rw [List.append_assoc, List.getElem?_append_left (by simp; omega), List.getElem?_take, if_pos hj]
    simpa using h1
  · by_cases hj2 : j < off + vs.length
    · rw [List.append_assoc, List.getElem?_append_right (by simp; omega), List.getElem?_append_left (by simp; omega)] at hy
      obtain ⟨u, h1, h2⟩ := hr.2 _ y hy
      refine ⟨u, ?_, h2⟩
      rw [List.append_assoc, List.getElem?_append_right (by simp; omega), List.getElem?_append_left (by simp; omega)]
      simpa [e1, e2] using h1
    · rw [List.append_assoc, List.getElem?_append_right (by simp; omega), List.getElem?_append_right (by simp; omega), List.getElem?_drop] at hy
      obtain ⟨u, h1, h2⟩ := hc _ y hy
      refine ⟨u, ?_, h2⟩
      rw [List.append_assoc, List.getElem?_append_right (by simp; omega), List.getElem?_append_right (by simp; omega), List.getElem?_drop]
      rw [← h1]
      simp only [List.length_take, Array.length_toList, Array.getElem?_toList]
      congr 1
      omega

/-- Cells are written over a block's cells, in place. -/
theorem write_ok (s : Sim lo h0 S W κ st a w) (hd : dstOk o.dst st.n) {b off : Nat} {blk : Blk} (hb : st.η[b]? = some blk) (hlo : lo ≤ b) {row : List AV} {vs : List Value} (hrel : RL (Rc lo W st.η lam0 kap0) row vs.toArray)
    (hoff : off ≤ blk.cells.length) {ad : Addr} (hfit : 0 < vs.length → ad = (W.ι b).add off ∧ off + vs.length ≤ W.cs b) {u : Value} {v : AV} (hv : Rv lo W st.η st.lam κ v u)
    (hrun : ∀ w', (storeCells ad vs).run P w = .ok () w' → (execOp a.eval o).run P w = .ok (.value u) w')
    (hK : K v st.lam (st.η.set b { blk with cells := layA blk.cells off row })) : o.wp P a w (OP lo h0 S W w o.dst st K) Q := by
  obtain ⟨hble, hown⟩ := s.hs.own b blk hb hlo
  have hblt := (List.getElem?_eq_some_iff.1 hb).1
  have hnl : row.length = vs.length := by have := hrel.1; simpa using this.symm
  by_cases h0v : vs.length = 0
  · obtain rfl : vs = [] := List.length_eq_zero_iff.1 h0v
    obtain rfl : row = [] := List.length_eq_zero_iff.1 hnl
    have he : st.η.set b { blk with cells := layA blk.cells off [] } = st.η := by
      have e1 : ({ blk with cells := layA blk.cells off [] } : Blk) = blk := by
        cases blk
        simp [layA]
      rw [e1]
      apply List.ext_getElem?
      intro j
      rw [List.getElem?_set]
      split
      · rename_i e
        subst e
        exact hb.symm
      · rfl
    rw [he] at hK
    exact wp_value (hrun w (by simp [storeCells])) ⟨v, st.lam, st.η, W, κ, hK, Sim_put s hd s.hs s.ls (.refl _ _ _) (.refl _ _) (Nat.le_refl _) s.oS s.lS hv, .refl _ _ _, .refl _ _ _⟩
  · obtain ⟨rfl, hfit'⟩ := hfit (by omega)
    have hcs0 : 0 < W.cs b := by omega
    obtain ⟨B, c, hB, hrw, hsz2⟩ := hown hcs0
    have hfc : off + vs.length ≤ c.size := by omega
    have hst0 := run_storeCells_at P B off blk.ty vs 0 c w hrw (by simpa using hfc) (oneCellsL hrel)
    simp only [Nat.add_zero] at hst0
    have hcell := layA_rel (R := Rc lo W st.η lam0 kap0) (cells := blk.cells) (row := row) (c := c) (vs := vs) (off := off) (fun j x hx => by
      obtain ⟨u, h1, h2⟩ := s.hs.cell b blk hb j x hx
      rw [hB, add_zero_plain, Nat.zero_add] at h1
      exact ⟨u, by simpa [World.cell?, hrw] using h1, h2⟩) hrel hoff hfc
    have hos := OtherSame.setRow w B (c.toList.take off ++ vs ++ c.toList.drop (off + vs.length)).toArray
    have hst : HStep lo st.η (st.η.set b { blk with cells := layA blk.cells off row }) W W := .set (blk' := { blk with cells := layA blk.cells off row }) hb hlo (Nat.le_refl _) rfl rfl
    have hsz3 : (c.toList.take off ++ vs ++ c.toList.drop (off + vs.length)).toArray.size = W.cs b := by simp; omega
    have hle3 : (layA blk.cells off row).length ≤ (c.toList.take off ++ vs ++ c.toList.drop (off + vs.length)).toArray.size := by rw [hsz3]; simp [layA]; omega
    refine wp_value (u := u) (w' := w.setRow B (c.toList.take off ++ vs ++ c.toList.drop (off + vs.length)).toArray) (hrun _ (by
      rw [hB, add_zero_plain, Nat.zero_add]; exact hst0)) ⟨v, st.lam, _, W, κ, hK, ?_, hst, ⟨rfl, rfl, rfl, by simp, fun q hq hS => ?_⟩⟩
    · exact Sim_put s hd (s.hs.set (blk' := { blk with cells := layA blk.cells off row }) hb hlo hcs0 hB (Nat.le_refl _) rfl rfl hos (setRow_heap w B c _ _ _ hrw) hsz3 hle3 hcell) (s.ls.set (blk' := { blk with cells := layA blk.cells off row }) hb hlo hcs0 hB (Nat.le_refl _) rfl rfl hos) hst (.refl _ _) (by simp) (fun b' hb' hlt hp => s.oS b' hb' (by simpa using hlt) hp) s.lS (Rv_mono hst (.refl _ _) hv)
    · by_cases e : q = B
      · subst e
        have := s.oS b hlo hblt hcs0
        rw [hB] at this
        rcases this with h1 | h1
        · exact absurd h1 hS
        · simp at h1; omega
      · exact hos.2.2.2.2 q e

/-- A slice that can be written to, in the machine. -/
theorem dst_open {η : List Blk} {lam : Nat → LB} {x : AV} {u : Value} {b ver off len : Nat} {blk : Blk} (hx : Rv lo W η lam κ x u) (hd : dstA lo x = some (b, ver, off, len)) (hb : η[b]? = some blk) (hv : ver = blk.ver) :
    lo ≤ b ∧ lenA x = len ∧ ∃ ad cap, u = .slice (some ad) len cap ∧ len ≤ cap ∧ (cap = 0 ∨ (ad = (W.ι b).add off ∧ off + cap * blk.sz ≤ W.cs b)) := by
  unfold dstA at hd
  split at hd
  · split at hd
    · rename_i hlo
      simp only [Option.some.injEq, Prod.mk.injEq] at hd
      obtain ⟨rfl, rfl, rfl, rfl⟩ := hd
      obtain ⟨ad, cap, h1, h2, h3⟩ := sl_open hx hb hv
      refine ⟨hlo, rfl, ad, cap, h1, h2, ?_⟩
      rcases h3 with h3 | h3
      · exact .inl h3
      · exact .inr ⟨h3.1, h3.2 hlo⟩
    · cases hd
  · simp only [Option.some.injEq, Prod.mk.injEq] at hd
    obtain ⟨rfl, rfl, rfl, rfl⟩ := hd
    obtain ⟨hlo, ad, h1, h2, h3⟩ := slc_open hx hb hv
    exact ⟨hlo, rfl, ad, _, h1, h2, h3⟩
  · cases hd

theorem copy_ok (s : Sim lo h0 S W κ st a w) (hd : dstOk o.dst st.n) {d x : Operand} {t : TypeId} {ts : List TypeId} {e : TypeId} {k : Nat} (hop : o.op = .call ⟨.builtin .copy, ⟨[d, x]⟩, ⟨t :: ts⟩⟩) (ht : elemB P t = some (e, k))
    {row : List AV} (hrow : rowA st.η k (ev st x) = some row) (h : writeA lo k (lenA (ev st x)) row st.η (ev st d) fun η' => K (.int .i64 (lenA (ev st x))) st.lam η') : o.wp P a w (OP lo h0 S W w o.dst st K) Q := by
  obtain ⟨hte, hse⟩ := elemB_spec ht
  obtain ⟨news, hl, hrel, hlen, hf⟩ := row_first (P := P) s.hs (ev_ok s x) hrow
  unfold writeA at h
  split at h
  · rename_i b ver off len hds
    split at h
    · rename_i blk hb
      obtain ⟨⟨hv, hbs, hm, hoff⟩, hK⟩ := h
      obtain ⟨hlo, hln, ad, cap, hu, hlc, hcap⟩ := dst_open (ev_ok s d) hds hb hv
      refine write_ok s hd hb hlo hrel hoff (ad := ad) (fun hp => ?_) (u := .int .i64 (lenA (ev st x))) (v := .int .i64 (lenA (ev st x))) (Rv_mkc ⟨rfl, rfl⟩) (fun w' hw' => ?_) hK
      · have h0 : 0 < lenA (ev st x) := by
          rcases Nat.eq_zero_or_pos (lenA (ev st x)) with h0 | h0
          · rw [h0, Nat.zero_mul] at hl; omega
          · exact h0
        rcases hcap with hcap | ⟨h1, h2⟩
        · omega
        · refine ⟨h1, ?_⟩
          have : lenA (ev st x) * k ≤ cap * k := Nat.mul_le_mul_right k (by omega)
          rw [hbs] at h2
          omega
      · have hmin : Nat.min (lenA (ev st x)) len = lenA (ev st x) := Nat.min_eq_left hm
        simp [execOp, hop, resolve, invoke, builtin, Builtin.copy_, run_underlying hte, hu, hlen, hmin, szB_run hse, hf w (Grows.refl w), hw', goInt]
    · exact h.elim
  · exact h.elim

theorem clear_ok (s : Sim lo h0 S W κ st a w) (hd : dstOk o.dst st.n) {x : Operand} {t : TypeId} {ts : List TypeId} {e : TypeId} {k : Nat} (hop : o.op = .call ⟨.builtin .clear, ⟨[x]⟩, ⟨t :: ts⟩⟩) (ht : elemB P t = some (e, k))
    {z : List AV} (hz : zeroB P e = some z) (hzk : z.length = k) (h : writeA lo k 0 (List.replicate (lenA (ev st x)) z).flatten st.η (ev st x) fun η' => K (.tup []) st.lam η') : o.wp P a w (OP lo h0 S W w o.dst st K) Q := by
  obtain ⟨hte, hse⟩ := elemB_spec ht
  obtain ⟨zv, i, hzr, hi, hiz, hzz⟩ := zeroB_run (w := w) hz
  unfold writeA at h
  split at h
  · rename_i b ver off len hds
    split at h
    · rename_i blk hb
      obtain ⟨⟨hv, hbs, hm, hoff⟩, hK⟩ := h
      obtain ⟨hlo, hln, ad, cap, hu, hlc, hcap⟩ := dst_open (ev_ok s x) hds hb hv
      have hzrel := zero_rel (lo := lo) (W := W) (η := st.η) (lam := lam0) (κ := kap0) hzz
      have hrr := replicate_rel hzrel len hzk
      have hzs : zv.cells.size = k := by rw [hzrel.1, hzk]
      have hzc : Builtin.zeroCells zv.cells len = madeCells zv.cells (len * k) := by simp [Builtin.zeroCells, madeCells, hzs]
      have hrel : RL (Rc lo W st.η lam0 kap0) (List.replicate len z).flatten (Builtin.zeroCells zv.cells len).toList.toArray := by
        refine ⟨by simp [Builtin.zeroCells, hzs, hzk], fun j y hy => ?_⟩
        obtain ⟨u, h1, h2⟩ := hrr j y hy
        exact ⟨u, by rw [Array.toArray_toList, hzc]; exact h1, h2⟩
      rw [hln] at hK
      refine write_ok s hd hb hlo hrel hoff (ad := ad) (fun hp => ?_) (u := .tuple #[]) (v := .tup []) (Rv_mktup ⟨rfl, fun i x hx => by simp at hx⟩) (fun w' hw' => ?_) hK
      · have hzl : (Builtin.zeroCells zv.cells len).toList.length = len * k := by simp [Builtin.zeroCells, hzs]
        have hzl' : 0 < len * k := by rw [← hzl]; exact hp
        have h0 : 0 < len := by
          rcases Nat.eq_zero_or_pos len with h0 | h0
          · rw [h0, Nat.zero_mul] at hzl'; omega
          · exact h0
        rcases hcap with hcap | ⟨h1, h2⟩
        · omega
        · refine ⟨h1, ?_⟩
          have : len * k ≤ cap * k := Nat.mul_le_mul_right k (by omega)
          rw [hbs] at h2
          rw [hzl]
          omega
      · cases len with
        | zero =>
          have hn : (Builtin.zeroCells zv.cells 0).toList = [] := by simp [Builtin.zeroCells]
          rw [hn] at hw'
          simp [storeCells] at hw'
          subst hw'
          simp [execOp, hop, resolve, invoke, builtin, Builtin.clear_, run_underlying hte, hu]
        | succ n =>
          simp [execOp, hop, resolve, invoke, builtin, Builtin.clear_, run_underlying hte, hu, hzr, hw']
    · exact h.elim
  · exact h.elim


/-- What stands in a slice of known capacity, for an append that finds no room. -/
theorem slc_olds {lam : Nat → LB} {η : List Blk} (hs : HSim lo W η w) {b len cap k : Nat} {blk : Blk} {ad : Addr} (hus : Rv lo W η lam κ (.slc b blk.ver 0 len cap) (.slice (some ad) len cap)) (hb : η[b]? = some blk) (hle : len * k ≤ blk.cells.length) :
    ∃ olds : List Value, olds.length = len * k ∧ RL (Rc lo W η lam0 kap0) (blk.cells.take (len * k)) olds.toArray ∧ (Builtin.firstCells k len (.slice (some ad) len cap)).run P w.drew = .ok olds.toArray w.drew := by
  obtain ⟨news', h1, h2, _, h4⟩ := row_first (P := P) (k := k) (new := (blk.cells.drop 0).take (len * k)) hs hus (by simp only [rowA, hb]; rw [if_pos ⟨trivial, by omega⟩])
  refine ⟨news', by simpa [lenA] using h1, by simpa using h2, ?_⟩
  simpa [lenA] using h4 w.drew (Grows.drew w)

theorem appendC_ok (s : Sim lo h0 S W κ st a w) (hd : dstOk o.dst st.n) {t t' e e' ty : TypeId} {k k' by_ : Nat} (ht : elemB P t = some (e, k)) (ht' : elemB P t' = some (e', k')) (hby : bytesB P e = some by_) {z : List AV} (hz : zeroB P e = some z) (hzk : z.length = k)
    {x : AV} {u : Value} (hx : Rv lo W st.η st.lam κ x u) {new : List AV} (hrow : rowA st.η k x = some new) {b ver off len cap : Nat} {us : Value} (hus : Rv lo W st.η st.lam κ (.slc b ver off len cap) us)
    (hrun : (execOp a.eval o).run P w = ((Builtin.append_ #[t, t'] ty #[us, u]).run P w).andThen fun v w' => .ok (.value v) w')
    (h : appendC e k by_ (lenA x) new st.η b ver off len cap fun v η' => K v st.lam η') : o.wp P a w (OP lo h0 S W w o.dst st K) Q := by
  obtain ⟨hte, hse⟩ := elemB_spec ht
  obtain ⟨hte', _⟩ := elemB_spec ht'
  obtain ⟨news, hl, hrel, hlen, hf⟩ := row_first (P := P) s.hs hx hrow
  obtain ⟨zv, i, hzr, hi, hiz, hzz⟩ := zeroB_run (w := w) hz
  have hsz : i.size = k := by unfold szB at hse; rw [hi] at hse; simpa using hse
  have hb' : i.bytes = by_ := by unfold bytesB at hby; rw [hi] at hby; simpa using hby
  have hnl : new.length = news.length := by have := hrel.1; simpa using this.symm
  unfold appendC at h
  split at h
  · rename_i blk hb
    obtain ⟨⟨rfl, rfl, hbs, hk0, hbt, hle, hm0, h1, h2⟩, hA, hB⟩ := h
    obtain ⟨hlo, ad, rfl, hlc, hcap⟩ := slc_open hus hb rfl
    by_cases hroom : len + lenA x ≤ cap
    · have hr2 := append_fits (ty := ty) hte hte' hse (base := some ad) (n := len) (cap := cap) (w := w) hlen (hf w (Grows.refl w)) hroom
      rw [hr2] at hrun
      obtain ⟨had, hcs⟩ : ad = (W.ι b).add 0 ∧ 0 + cap * blk.sz ≤ W.cs b := by
        rcases hcap with h | h
        · omega
        · exact h
      refine write_ok s hd hb hlo hrel hle (ad := ad.add (len * k)) (fun hp => ⟨by rw [had, Deep.add_add, Nat.zero_add], ?_⟩) (u := .slice (some ad) (len + lenA x) cap) (v := .slc b blk.ver 0 (len + lenA x) cap) (Rv_mkc ⟨rfl, hlo, blk, hb, Nat.le_refl _, fun _ => ⟨ad, rfl, hroom, .inr ⟨had, hcs⟩⟩⟩) (fun w' hw' => by rw [hrun]; simp [hw']) (hA hroom)
      have : (len + lenA x) * k ≤ cap * k := Nat.mul_le_mul_right k hroom
      rw [Nat.add_mul] at this
      rw [hbs] at hcs
      omega
    · obtain ⟨olds, ho1, ho2, ho3⟩ := slc_olds (P := P) s.hs hus hb hle
      have hr2 := append_grows (ty := ty) (base := some ad) (n := len) (cap := cap) (w := w) hte hte' hi hiz hsz hb' hlen (hf w.drew (Grows.drew w)) ho3 (by omega) h2 h1
      rw [hr2] at hrun
      simp only [Result.andThen_ok] at hrun
      have hcapge := grownCap_ge w (len + lenA x) cap e
      have hzc : zv.cells.size = k := by have := zero_rel (lo := lo) (W := W) (η := st.η) (lam := lam0) (κ := kap0) hzz; rw [this.1, hzk]
      have hsize : (olds.toArray ++ news.toArray ++ Builtin.zeroCells zv.cells (grownCap w (len + lenA x) cap e - (len + lenA x))).size = grownCap w (len + lenA x) cap e * k := by
        simp only [Array.size_append, size_zeroCells, hzc]
        simp [hl, ho1, ← Nat.add_mul]
        congr 1
        omega
      refine pushed_ok s hd (blk := ⟨0, e, k, blk.cells.take (len * k) ++ new⟩) (Grows.drew w) rfl rfl hrun (append_rel ho2 hrel) ?_ hcapge ?_ (hB (by omega))
      · rw [hsize]
        have : (len + lenA x) * k ≤ grownCap w (len + lenA x) cap e * k := Nat.mul_le_mul_right k hcapge
        rw [Nat.add_mul] at this
        simp [hnl, hl]
        omega
      · rw [hsize]; exact Nat.le_refl _
  · exact h.elim

theorem append_growsZ {t t' e ty : TypeId} {k by_ : Nat} {kn : IntKind} (ht : P.underlying t = some (.slice e)) (ht' : P.underlying t' = some (.int kn)) {i : TypeInfo} {z : Value} (hi : P.info? e = some i) (hz : i.zero = some z) (hk : i.size = k) (hk0 : 0 < k) (hb : i.bytes = by_) {base : Option Addr} {n cap m : Nat} {olds : List Value}
    (hm : 0 < m) (ho : (Builtin.firstCells k n (.slice base n cap)).run P w.drew = .ok olds.toArray w.drew)
    (hroom : cap < n + m) (h63 : n + m ≤ 4611686018427387904) (hfit : (n + m) * by_ ≤ 140737488355328) :
    (Builtin.append_ #[t, t'] ty #[.slice base n cap, .int .i64 m]).run P w = .ok (.slice (some ⟨w.heap.size, 0, none⟩) (n + m) (grownCap w (n + m) cap e)) (w.drew.alloc (.cells (olds.toArray ++ Builtin.zeroCells z.cells m ++ Builtin.zeroCells z.cells (grownCap w (n + m) cap e - (n + m))) e)) := by
  have hn : ¬ (n + m ≤ cap) := by omega
  have h63' : ¬ (9223372036854775807 < ((n : Int) + (m : Int))) := by omega
  have hfit2 := growslice_fits hroom hfit
  have h48' : ¬ (281474976710656 < Builtin.nextslicecap (n + m) cap * by_) := by omega
  have hw : IntKind.i64.wrap (m : Int) = m := by rw [IntKind.wrap_i64]; omega
  have h48i : ¬ (281474976710656 < (m : Int) * (by_ : Int)) := by
    rw [← Int.natCast_mul]
    have : m * by_ ≤ (n + m) * by_ := Nat.mul_le_mul_right by_ (by omega)
    omega
  have hneg : ¬ ((m : Int) < 0) := by omega
  have hns : ¬ (m * k = 0) := Nat.mul_ne_zero (by omega) (by omega)
  have hm0 : m ≠ 0 := by omega
  have hkk : k ≠ 0 := by omega
  subst hk hb
  simp [Builtin.append_, run_underlying ht, run_underlying ht', sizeOf, typeInfo, zeroValue, hi, hz, asInt, asIntOf, hw, hneg, h48i, hn, hns, hm0, hkk, h63', h48', Question.forced, ho, newRow, grownCap]

theorem appendZ_ok (s : Sim lo h0 S W κ st a w) (hd : dstOk o.dst st.n) {t t' e ty : TypeId} {k by_ : Nat} {kn : IntKind} (ht : elemB P t = some (e, k)) (ht' : intB P t' = some kn) (hby : bytesB P e = some by_) {z : List AV} (hz : zeroB P e = some z) (hzk : z.length = k)
    {m : Int} {u : Value} (hx : Rv lo W st.η st.lam κ (.int .i64 m) u) {b ver off len cap : Nat} {us : Value} (hus : Rv lo W st.η st.lam κ (.slc b ver off len cap) us)
    (hrun : (execOp a.eval o).run P w = ((Builtin.append_ #[t, t'] ty #[us, u]).run P w).andThen fun v w' => .ok (.value v) w')
    (h : appendZ e k by_ m z st.η b ver off len cap fun v η' => K v st.lam η') : o.wp P a w (OP lo h0 S W w o.dst st K) Q := by
  obtain ⟨hte, hse⟩ := elemB_spec ht
  have hte' : P.underlying t' = some (.int kn) := by
    unfold intB at ht'
    split at ht'
    · rename_i hu; cases ht'; exact hu
    · cases ht'
  obtain ⟨zv, i, hzr, hi, hiz, hzz⟩ := zeroB_run (w := w) hz
  have hsz : i.size = k := by unfold szB at hse; rw [hi] at hse; simpa using hse
  have hb' : i.bytes = by_ := by unfold bytesB at hby; rw [hi] at hby; simpa using hby
  unfold appendZ at h
  split at h
  · rename_i blk hb
    obtain ⟨⟨rfl, rfl, hbs, hk0, hbt, hle, hm0, hroom, h1, h2⟩, hK⟩ := h
    obtain ⟨hlo, ad, rfl, hlc, hcap⟩ := slc_open hus hb rfl
    obtain ⟨n, rfl⟩ : ∃ n : Nat, m = n := ⟨m.toNat, by omega⟩
    rw [Int.toNat_natCast] at hroom h1 h2 hK
    rw [Rv_int hx] at hrun
    obtain ⟨olds, ho1, ho2, ho3⟩ := slc_olds (P := P) s.hs hus hb hle
    have hr2 := append_growsZ (ty := ty) (base := some ad) (n := len) (cap := cap) (w := w) hte hte' hi hiz hsz hk0 hb' (m := n) (by omega) ho3 hroom h2 h1
    rw [hr2] at hrun
    simp only [Result.andThen_ok] at hrun
    have hcapge := grownCap_ge w (len + n) cap e
    have hzrel := zero_rel (lo := lo) (W := W) (η := st.η) (lam := lam0) (κ := kap0) hzz
    have hzc : zv.cells.size = k := by rw [hzrel.1, hzk]
    have hzm : Builtin.zeroCells zv.cells n = madeCells zv.cells (n * k) := by simp [Builtin.zeroCells, madeCells, hzc]
    have hrel : RL (Rc lo W st.η lam0 kap0) (List.replicate n z).flatten (Builtin.zeroCells zv.cells n).toList.toArray := by
      refine ⟨by simp [Builtin.zeroCells, hzc, hzk], fun j y hy => ?_⟩
      obtain ⟨u, h1, h2⟩ := replicate_rel hzrel n hzk j y hy
      exact ⟨u, by rw [Array.toArray_toList, hzm]; exact h1, h2⟩
    have hsize : (olds.toArray ++ Builtin.zeroCells zv.cells n ++ Builtin.zeroCells zv.cells (grownCap w (len + n) cap e - (len + n))).size = grownCap w (len + n) cap e * k := by
      simp only [Array.size_append, size_zeroCells, hzc]
      simp [ho1, ← Nat.add_mul]
      congr 1
      omega
    refine pushed_ok s hd (blk := ⟨0, e, k, blk.cells.take (len * k) ++ (List.replicate n z).flatten⟩) (Grows.drew w) rfl rfl hrun (fun j y hy => ?_) ?_ hcapge ?_ hK
    · have := append_rel (r := Builtin.zeroCells zv.cells (grownCap w (len + n) cap e - (len + n))) ho2 hrel j y hy
      simpa using this
    · rw [hsize]
      have : (len + n) * k ≤ grownCap w (len + n) cap e * k := Nat.mul_le_mul_right k hcapge
      rw [Nat.add_mul] at this
      simp [hzk]
      omega
    · rw [hsize]; exact Nat.le_refl _
  · exact h.elim


theorem mapB_spec {t kt : TypeId} {n : Nat} (h : mapB P t = some (kt, n)) : ∃ e, P.underlying t = some (.map kt e) ∧ plainStructB P kt = true ∧ nfieldsB P kt = some n ∧ ∀ w : World, (zeroValue e).run P w = .ok (.bool false) w := by
  unfold mapB at h
  split at h
  · rename_i k e hu
    split at h
    · rename_i hp
      split at h
      · rename_i hz
        cases hn : nfieldsB P k with
        | none => rw [hn] at h; cases h
        | some m =>
          rw [hn] at h
          simp only [Option.map_some, Option.some.injEq, Prod.mk.injEq] at h
          obtain ⟨rfl, rfl⟩ := h
          refine ⟨e, hu, hp, hn, fun w => ?_⟩
          cases hi : P.info? e with
          | none => rw [hi] at hz; cases hz
          | some i =>
            rw [hi] at hz
            simp only [Option.bind_some] at hz
            simp [zeroValue, typeInfo, hi, hz]
      · cases h
    · cases h
  · cases h

/-- A key of whole numbers is a key. -/
theorem checkKey_ok {kt : TypeId} (hp : plainStructB P kt = true) {n : Nat} (hn : nfieldsB P kt = some n) {a : List (IntKind × Int)} (ha : a.length = n) (em : Bool) : (Instr.checkKey em 10000 kt (.agg (a.map fun p => Value.int p.1 p.2).toArray)).run P w = .ok () w := by
  unfold plainStructB at hp
  split at hp
  · rename_i fs hu
    simp only [Bool.and_eq_true, Bool.not_eq_true'] at hp
    obtain ⟨⟨h1, h2⟩, h3⟩ := hp
    unfold nfieldsB at hn
    rw [hu] at hn
    simp only [Option.some.injEq] at hn
    have hf : ∀ (j : Nat) f, fs.toList[j]? = some f → f.offset = j ∧ f.name ≠ "_" ∧ ∃ k, P.underlying f.type = some (.int k) := by
      intro j f hj
      have hj' : fs[j]? = some f := by simpa using hj
      have hlt : j < fs.size := (Array.getElem?_eq_some_iff.1 hj').1
      have := List.all_eq_true.1 h1 j (List.mem_range.2 hlt)
      rw [hj'] at this
      simp only [Bool.and_eq_true, beq_iff_eq, bne_iff_ne, ne_eq] at this
      obtain ⟨⟨q1, q2⟩, q3⟩ := this
      refine ⟨q1, q2, ?_⟩
      split at q3
      · rename_i k hk; exact ⟨k, hk⟩
      · cases q3
    rw [show (10000 : Nat) = 9999 + 1 from rfl, Instr.checkKey]
    simp only [Sem.run_bind, run_underlying hu, Result.andThen_ok]
    rw [← Array.forIn_toList]
    have each : ∀ f ∈ fs.toList, f.name ≠ "_" ∧ ∃ v, (part f.type (a.map fun p => Value.int p.1 p.2).toArray f.offset).run P w = .ok v w ∧ (Instr.checkKey em 9999 f.type v).run P w = .ok () w := by
      intro f hfm
      obtain ⟨j, hj⟩ := List.getElem?_of_mem hfm
      obtain ⟨ho, hn', k, hk⟩ := hf j f hj
      have hlt : j < fs.toList.length := (List.getElem?_eq_some_iff.1 hj).1
      simp only [Array.length_toList] at hlt
      have hia : j < a.length := by omega
      have hg : (isAgg f.type).run P w = .ok false w := by simp [isAgg, run_underlying hk]
      refine ⟨hn', .int a[j].1 a[j].2, by simp [part, hg, ho, hia], ?_⟩
      rw [show (9999 : Nat) = 9998 + 1 from rfl, Instr.checkKey]
      simp [run_underlying hk]
    generalize fs.toList = L at each
    induction L with
    | nil => simp
    | cons f L ih =>
      obtain ⟨hn', v, p1, p2⟩ := each f (by simp)
      simp only [List.forIn_cons, Sem.run_bind, hn', ne_eq, not_false_eq_true, if_true, Result.andThen_ok, p1, p2, Sem.run_pure]
      exact ih (fun y hy => each y (by simp [hy]))
  · cases hp

theorem RL_ints {lo : Nat} {W : Wit} {η : List Blk} {lam : Nat → LB} {κ : Nat → Nat} {l : List AV} {a : List (IntKind × Int)} (h : intsOf l = some a) : RL (Rc lo W η lam κ) l (a.map fun p => Value.int p.1 p.2).toArray := by
  induction l generalizing a with
  | nil => cases h; exact ⟨rfl, fun i x hx => by simp at hx⟩
  | cons y l ih =>
    cases y <;> simp only [intsOf] at h <;> try (cases h; done)
    rename_i k n
    cases hl : intsOf l with
    | none => rw [hl] at h; cases h
    | some b =>
      rw [hl] at h
      simp only [Option.map_some, Option.some.injEq] at h
      subst h
      obtain ⟨h1, h2⟩ := ih hl
      refine ⟨by simpa using h1, fun i x hx => ?_⟩
      match i, hx with
      | 0, hx => simp at hx; subst hx; exact ⟨_, rfl, rfl, rfl⟩
      | i + 1, hx =>
        obtain ⟨u, q1, q2⟩ := h2 i x (by simpa using hx)
        exact ⟨u, by simpa using q1, q2⟩

/-- A key is looked for. -/
theorem find_ok {kt : TypeId} (hp : plainStructB P kt = true) {n : Nat} (hn : nfieldsB P kt = some n) {l : List AV} {a : List (IntKind × Int)} (hl : intsOf l = some a) : ∀ (ks : List AV) (es : List MapEntry) (i : Nat), keyOk n ks l = true → es.length = ks.length →
    (∀ (j : Nat) k, ks[j]? = some k → ∃ e l' b, es[j]? = some e ∧ k = .agg l' ∧ intsOf l' = some b ∧ e.key = .agg (b.map fun p => Value.int p.1 p.2).toArray ∧ e.val = .bool true) →
    ∃ r, (Instr.findAsking kt (.agg (a.map fun p => Value.int p.1 p.2).toArray) es i).run P w = .ok r w ∧ (hasK ks (.agg l) = true ∧ (∃ j e, r = some (i + j, .bool true) ∧ es[j]? = some e ∧ e.key = .agg (a.map fun p => Value.int p.1 p.2).toArray) ∨ hasK ks (.agg l) = false ∧ r = none)
  | [], es, i, hk, he, _ => by
    obtain rfl : es = [] := List.length_eq_zero_iff.1 he
    exact ⟨none, by simp [Instr.findAsking], .inr ⟨rfl, rfl⟩⟩
  | k :: ks, [], i, hk, he, _ => by simp at he
  | k :: ks, e :: es, i, hk, he, h => by
    obtain ⟨e', l', b, h1, rfl, hb, hkey, hval⟩ := h 0 k rfl
    simp only [List.getElem?_cons_zero, Option.some.injEq] at h1
    subst h1
    have hk' := hk
    unfold keyOk at hk
    rw [hl] at hk
    simp only [Bool.and_eq_true, beq_iff_eq, List.all_cons, hb] at hk
    obtain ⟨hlen, hkk, hall⟩ := hk
    have heq := (structEq_ok (lo := 0) (W := ⟨fun _ => ⟨0, 0, none⟩, fun _ => 0⟩) (η := []) (lam := lam0) (κ := kap0) (w := w) hp (RL_ints hl) (RL_ints hb) hl hb (by rw [hn, hlen]) hkk.symm).1
    have hkr : keyOk n ks l = true := by
      unfold keyOk
      rw [hl]
      simp only [Bool.and_eq_true, beq_iff_eq]
      exact ⟨hlen, hall⟩
    have hcons : hasK (.agg l' :: ks) (.agg l) = (sameInts a b || hasK ks (.agg l)) := by simp [hasK, eqK, hl, hb]
    cases hs : sameInts a b with
    | true =>
      rw [hs] at heq
      refine ⟨some (i, .bool true), by rw [Instr.findAsking]; simp [hkey, heq, hval], .inl ⟨by rw [hcons, hs]; rfl, 0, e, rfl, rfl, ?_⟩⟩
      rw [hkey]
      have h2 : a = b := by
        unfold sameInts at hs
        have e1 : a.map (·.2) = b.map (·.2) := by simpa using hs
        apply List.ext_getElem?
        intro j
        have q1 := congrArg (fun l : List Int => l[j]?) e1
        have q2 := congrArg (fun l : List IntKind => l[j]?) hkk
        simp only [List.getElem?_map] at q1 q2
        cases ha : a[j]? <;> cases hb' : b[j]? <;> rw [ha, hb'] at q1 q2 <;> simp at q1 q2
        all_goals first
          | rfl
          | exact congrArg some (Prod.ext q2.symm q1)
      rw [h2]
    | false =>
      rw [hs] at heq
      obtain ⟨r, hr, hr2⟩ := find_ok hp hn hl ks es (i + 1) hkr (by simpa using he) (fun j k hj => h (j + 1) k (by simpa using hj))
      refine ⟨r, by rw [Instr.findAsking]; simp [hkey, heq, hr], ?_⟩
      rw [hcons, hs, Bool.false_or]
      rcases hr2 with ⟨q1, j, e2, q2, q3, q4⟩ | ⟨q1, q2⟩
      · exact .inl ⟨q1, j + 1, e2, by rw [q2]; congr 2; omega, by simpa using q3, q4⟩
      · exact .inr ⟨q1, q2⟩

end
end Go.Proofs.YtaalpmbopkbdiaaGreat
/- The abstract logic: calls; all operations in one theorem; regions in the order of the text; functions. -/
namespace Go.Proofs.YtaalpmbopkbdiaaGreat
open Go

section
variable {P : Program} {lo h0 : Nat} {S : Nat → Prop} {W : Wit} {κ : Nat → Nat} {st : St} {a : Act} {w : World} {o : Oper} {K : AV → (Nat → LB) → List Blk → Prop} {Q : Exit → Act → World → Prop}

theorem Rv_noLoc {η : List Blk} {lam : Nat → LB} {x : AV} {u : Value} (h : Rv lo W η lam κ x u) (hx : noLocV x = true) : Rv lo W η lam0 kap0 x u := by
  have one : ∀ (y : AV) (v : Value), noLoc y = true → Rc lo W η lam κ y v → Rc lo W η lam0 kap0 y v := by
    intro y v hy hr
    cases y <;> first | exact hr | (simp [noLoc] at hy)
  have one1 : ∀ (y : AV) (v : Value), noLoc1 y = true → R1 lo W η lam κ y v → R1 lo W η lam0 kap0 y v := by
    intro y v hy hr
    rcases hr with ⟨l, arr, rfl, rfl, ha⟩ | hr
    · refine .inl ⟨l, arr, rfl, rfl, ha.1, fun i z hz => ?_⟩
      obtain ⟨u, h1, h2⟩ := ha.2 i z hz
      exact ⟨u, h1, one z u (List.all_eq_true.1 (by simpa [noLoc1] using hy) z (List.mem_of_getElem? hz)) h2⟩
    · refine .inr ?_
      cases y <;> first | exact hr | (simp [noLoc1] at hy; done) | exact hr.2.elim
  rcases h with rfl | ⟨l, arr, rfl, rfl, ha⟩ | h
  · exact .inl rfl
  · refine .inr (.inl ⟨l, arr, rfl, rfl, ha.1, fun i z hz => ?_⟩)
    obtain ⟨u, h1, h2⟩ := ha.2 i z hz
    exact ⟨u, h1, one1 z u (List.all_eq_true.1 (by simpa [noLocV] using hx) z (List.mem_of_getElem? hz)) h2⟩
  · refine .inr (.inr (one1 _ _ ?_ h))
    cases x <;> first | exact hx | (rcases h with ⟨_, _, h, _⟩ | h; cases h; exact h.2.elim)

theorem call_ok (s : Sim lo h0 S W κ st a w) (hd : dstOk o.dst st.n) {c : Call} {f : Operand} (hop : o.op = .call c) (hc : c.callee = .value f) {g : Nat} {caps : List AV} (hf : ev st f = .fn g caps)
    (hn : (c.args.toList.map (ev st)).all noLoc1 = true) (h : AF P lo g (c.args.toList.map (ev st) ++ caps) st.η fun v η' => K v st.lam η') : o.wp P a w (OP lo h0 S W w o.dst st K) Q := by
  obtain ⟨⟨fn, hfn, hname, hbody⟩, hAF⟩ := h
  have hfr := ev_ok s f
  rw [hf] at hfr
  obtain ⟨arr, hfc, harr⟩ := Rv_fn hfr
  have hrun : (execOp a.eval o).run P w = .ok (.enter g (c.args.map a.eval ++ arr)) w := by
    have hname' : ¬ (fn.name = "runtime.NumGoroutine") := by simpa using hname
    have hbody' : ¬ (fn.body = none) := by intro e; rw [e] at hbody; cases hbody
    simp [execOp, hop, resolve, hc, hfc, Deferred.ofValue, invoke, callFunc, hfn, hname', hbody']
  have hargs : RL (Rv lo W st.η lam0 kap0) (c.args.toList.map (ev st) ++ caps) (c.args.map a.eval ++ arr) := by
    refine ⟨by simp [harr.1], fun i x hx => ?_⟩
    by_cases hi : i < c.args.size
    · rw [List.getElem?_append_left (by simpa using hi), List.getElem?_map, Array.getElem?_toList] at hx
      rw [Array.getElem?_eq_getElem hi] at hx
      simp only [Option.map_some, Option.some.injEq] at hx
      refine ⟨a.eval c.args[i], by rw [Array.getElem?_append_left (by simpa using hi)]; simp [hi], ?_⟩
      subst hx
      have h1 := List.all_eq_true.1 hn (ev st c.args[i]) (List.mem_map.2 ⟨c.args[i], by simp, rfl⟩)
      refine Rv_noLoc (ev_ok s _) ?_
      cases hx : ev st c.args[i] <;> rw [hx] at h1 <;> first | exact h1 | (simp [noLoc1] at h1)
    · rw [List.getElem?_append_right (by simpa using hi)] at hx
      simp only [List.length_map, Array.length_toList] at hx
      obtain ⟨u, h1, h2⟩ := harr.2 _ x hx
      refine ⟨u, by rw [Array.getElem?_append_right (by simpa using hi)]; simpa using h1, ?_⟩
      cases x <;> first | exact h2.2.elim | skip
      exact Rv_mkc h2
  unfold Oper.wp
  rw [hrun]
  refine (hAF W w _ s.hs hargs).mono ?_
  rintro e w' ⟨v, η', W', u, rfl, hK, hv, hs', hst, hown, hfr'⟩
  have hlt : ∀ t, 0 < (st.lam t).ver → w'.heap[κ t]? = w.heap[κ t]? := fun t ht => hfr'.block _ (s.ls.lt ht) (by
    rintro ⟨b, hb, hbl, hcs, he⟩
    exact s.ls.lh t b _ ht (List.getElem?_eq_getElem hbl) (by rw [if_pos hb]; exact hcs) he)
  have hls' : LSim lo W' η' st.lam κ w' := by
    refine ⟨fun t ht => ?_, s.ls.ll, fun t b bl ht hb hcc => ?_⟩
    · obtain ⟨cr, h1, h2⟩ := s.ls.row t ht
      exact ⟨cr, by rw [hlt t ht]; exact h1, h2.mono fun _ _ hr => Rc_mono hst (.refl _ _) hr⟩
    · split at hcc
      · rename_i hlb
        rcases hown b hlb (List.getElem?_eq_some_iff.1 hb).1 hcc with ⟨b0, h1, h2, h3, h4⟩ | h5
        · rw [← h4]; exact s.ls.lh t b0 _ ht (List.getElem?_eq_getElem h2) (by rw [if_pos h1]; exact h3)
        · have := s.ls.lt ht; omega
      · rename_i hlb
        obtain ⟨p1, p2, p3⟩ := hst.pre b (by omega)
        rw [p2]
        rw [p1] at hb
        exact s.ls.lh t b bl ht hb (by rw [if_neg hlb]; exact hcc)
  refine ⟨v, st.lam, η', W', κ, hK, ?_, hst, ⟨hfr'.os, hfr'.tape, hfr'.output, hfr'.size, fun k hk hS => hfr'.block k (Nat.lt_of_lt_of_le hk s.h0le) ?_⟩⟩
  · refine Sim_put s hd hs' hls' hst (.refl _ _) hfr'.size (fun b hb hbl hcs => ?_) s.lS (Rv_lam0 hv)
    rcases hown b hb hbl hcs with ⟨b0, h1, h2, h3, h4⟩ | h5
    · rw [← h4]; exact s.oS b0 h1 h2 h3
    · right; exact Nat.le_trans s.h0le h5
  · rintro ⟨b, hb, hbl, hcs, rfl⟩
    rcases s.oS b hb hbl hcs with h1 | h1
    · exact hS h1
    · omega

theorem callX_ok (s : Sim lo h0 S W κ st a w) (hd : dstOk o.dst st.n) {c : Call} {f : Operand} (hop : o.op = .call c) (hc : c.callee = .value f) {g : Nat} {caps : List AV} (hf : ev st f = .fn g caps)
    (hn : (c.args.toList.map (ev st)).all noLoc1 = true) (h : AX P lo g (c.args.toList.map (ev st) ++ caps) st.η fun v η' => K v st.lam η') : o.wp P a w (OP lo h0 S W w o.dst st K) Q := by
  obtain ⟨v, hK, hAX⟩ := h
  have hfr := ev_ok s f
  rw [hf] at hfr
  obtain ⟨arr, hfc, harr⟩ := Rv_fn hfr
  have hargs : RL (Rv lo W st.η lam0 kap0) (c.args.toList.map (ev st) ++ caps) (c.args.map a.eval ++ arr) := by
    refine ⟨by simp [harr.1], fun i x hx => ?_⟩
    by_cases hi : i < c.args.size
    · rw [List.getElem?_append_left (by simpa using hi), List.getElem?_map, Array.getElem?_toList] at hx
      rw [Array.getElem?_eq_getElem hi] at hx
      simp only [Option.map_some, Option.some.injEq] at hx
      refine ⟨a.eval c.args[i], by rw [Array.getElem?_append_left (by simpa using hi)]; simp [hi], ?_⟩
      subst hx
      have h1 := List.all_eq_true.1 hn (ev st c.args[i]) (List.mem_map.2 ⟨c.args[i], by simp, rfl⟩)
      refine Rv_noLoc (ev_ok s _) ?_
      cases hx : ev st c.args[i] <;> rw [hx] at h1 <;> first | exact h1 | (simp [noLoc1] at h1)
    · rw [List.getElem?_append_right (by simpa using hi)] at hx
      simp only [List.length_map, Array.length_toList] at hx
      obtain ⟨u, h1, h2⟩ := harr.2 _ x hx
      refine ⟨u, by rw [Array.getElem?_append_right (by simpa using hi)]; simpa using h1, ?_⟩
      cases x <;> first | exact h2.2.elim | skip
      exact Rv_mkc h2
  obtain ⟨u, hu, hv⟩ := hAX W w _ s.hs hargs
  have hrun : (execOp a.eval o).run P w = .ok (.value u) w := by
    simp [execOp, hop, resolve, hc, hfc, Deferred.ofValue, invoke, hu]
  exact wp_value hrun ⟨v, st.lam, st.η, W, κ, hK, Sim_put s hd s.hs s.ls (.refl _ _ _) (.refl _ _) (Nat.le_refl _) s.oS s.lS (Rv_lam0 hv), .refl _ _ _, .refl _ _ _⟩

theorem sameBits_ints (a : List (IntKind × Int)) : Instr.sameBits 10000 (.agg (a.map fun p => Value.int p.1 p.2).toArray) (.agg (a.map fun p => Value.int p.1 p.2).toArray) = true := by
  rw [show (10000 : Nat) = 9999 + 1 from rfl, Instr.sameBits]
  simp only [BEq.rfl, Bool.true_and, List.all_eq_true]
  rintro ⟨x, y⟩ hxy
  obtain ⟨i, hi⟩ := List.getElem?_of_mem hxy
  rw [List.getElem?_zip_eq_some] at hi
  obtain ⟨h1, h2⟩ := hi
  rw [h1] at h2
  cases h2
  simp only [List.getElem?_map] at h1
  cases ha : a[i]? with
  | none => rw [ha] at h1; cases h1
  | some p =>
    rw [ha] at h1
    simp at h1
    subst h1
    simp [Instr.sameBits]

theorem makeMap_ok (s : Sim lo h0 S W κ st a w) (hd : dstOk o.dst st.n) {t : TypeId} (hop : o.op = .makeMap t none) {d : Nat} (hds : o.dst = some d) (hK : K (.mp d ((st.lam d).ver + 1)) (upd st.lam d ⟨(st.lam d).ver + 1, [.tup []]⟩) st.η) : o.wp P a w (OP lo h0 S W w o.dst st K) Q := by
  have hrun : (execOp a.eval o).run P w = .ok (.value (.map (some w.heap.size))) (w.alloc (RowO.mp #[] 0).obj) := by
    simp [execOp, hop, Instr.makeMap, RowO.obj]
  have hg := Grows.alloc w (RowO.mp #[] 0).obj
  have hr : (RowO.mp #[] 0).rel (Rc lo W st.η st.lam κ) [.tup []] := ⟨[], rfl, rfl, fun i k hk => by simp at hk⟩
  refine wp_value hrun ⟨.mp d ((st.lam d).ver + 1), upd st.lam d ⟨(st.lam d).ver + 1, [.tup []]⟩, st.η, W, upd κ d w.heap.size, hK, ?_, .refl _ _ _, hg.fr s.h0le⟩
  refine Sim_put s hd (s.hs.grow hg) (s.ls.new (o := .mp #[] 0) s.hs d hr) (.refl _ _ _) (.new d [.tup []] w.heap.size) (by simp) s.oS (fun t ht => ?_) ?_
  · by_cases e : t = d
    · subst e; rw [upd_same]; exact s.h0le
    · rw [upd_ne _ _ e] at ht ⊢; exact s.lS t ht
  · exact Rv_mkc ⟨rfl, by omega, by rw [upd_same]; exact Nat.le_refl _, fun _ => by rw [upd_same, upd_same]; exact ⟨rfl, rfl⟩⟩

/-- A map and a key, in the machine. -/
theorem map_open (s : Sim lo h0 S W κ st a w) {m k : Operand} {kt : TypeId} {n sl ver : Nat} {l : List AV} {ks : List AV} (hp : plainStructB P kt = true) (hn : nfieldsB P kt = some n) (hm : ev st m = .mp sl ver) (hk : ev st k = .agg l) (hc : (st.lam sl).cells = [.tup ks]) (hv : ver = (st.lam sl).ver) (h0v : 0 < ver) (hok : keyOk n ks l = true) :
    ∃ es clk x r, a.eval m = .map (some (κ sl)) ∧ w.heap[κ sl]? = some (.map es clk) ∧ MRel ks es ∧ intsOf l = some x ∧ a.eval k = .agg (x.map fun p => Value.int p.1 p.2).toArray ∧ (∀ em, (Instr.checkKey em 10000 kt (a.eval k)).run P w = .ok () w) ∧
      (Instr.findKey kt (a.eval k) es.toList).run P w = .ok r w ∧ (hasK ks (.agg l) = true ∧ (∃ (j : Nat) (e : MapEntry), r = some (j, .bool true) ∧ es[j]? = some e ∧ e.key = a.eval k) ∨ hasK ks (.agg l) = false ∧ r = none) := by
  have hme := ev_ok s m
  have hke := ev_ok s k
  rw [hm] at hme
  rw [hk] at hke
  obtain ⟨g0, g1, g2⟩ := Rv_mp hme
  obtain ⟨arr, hka, hkr⟩ := Rv_agg hke
  obtain ⟨ro, hro, hrr⟩ := s.ls.row sl (by omega)
  rw [hc] at hrr
  cases ro with
  | cells c T => have := noMap_of hrr; cases this
  | mp es clk =>
    obtain ⟨ks', e, hmr⟩ := hrr
    simp only [List.cons.injEq, AV.tup.injEq, and_true] at e
    subst e
    have hi : ∃ x, intsOf l = some x := by
      unfold keyOk at hok
      cases hx : intsOf l with
      | none => rw [hx] at hok; cases hok
      | some x => exact ⟨x, rfl⟩
    obtain ⟨x, hx⟩ := hi
    have hxa : arr = (x.map fun p => Value.int p.1 p.2).toArray := by
      have := intsOf_rel (arr := arr.toList) hx (fun i y hy => by obtain ⟨v, hv, hr⟩ := hkr.2 i y hy; exact ⟨v, by simpa using hv, hr⟩) (by simpa using hkr.1)
      rw [← this]
    subst hxa
    have hxn : x.length = n := by
      unfold keyOk at hok
      rw [hx] at hok
      simp only [Bool.and_eq_true, beq_iff_eq] at hok
      exact hok.1
    obtain ⟨r, hr, hr2⟩ := find_ok (P := P) (w := w) hp hn hx ks es.toList 0 hok (by simpa using hmr.1) (fun j k hj => by
      obtain ⟨e, l', b, q1, q2⟩ := hmr.2 j k hj
      exact ⟨e, l', b, by simpa using q1, q2⟩)
    have hwide : (match P.underlying kt with | some (.array _ _) | some (.struct _) => true | _ => false) = true := by
      unfold plainStructB at hp
      split at hp
      · rename_i fs hu; rw [hu]
      · cases hp
    refine ⟨es, clk, x, r, (g2 hv).2, hro, hmr, hx, hka, fun em => by rw [hka]; exact checkKey_ok hp hn hxn em, by rw [hka, run_findKey_eq w hwide]; exact hr, ?_⟩
    rw [hka]
    rcases hr2 with ⟨q1, j, e, q2, q3, q4⟩ | q
    · exact .inl ⟨q1, j, e, by rw [q2]; congr 2; omega, by simpa using q3, q4⟩
    · exact .inr q

theorem lookup_ok (s : Sim lo h0 S W κ st a w) (hd : dstOk o.dst st.n) {t kt : TypeId} {n : Nat} {m k : Operand} (hop : o.op = .lookup t m k false) (ht : mapB P t = some (kt, n)) {sl ver : Nat} {l : List AV} (hm : ev st m = .mp sl ver) (hk : ev st k = .agg l)
    (h : mapGet st.lam n sl ver l fun b => K (.bool b) st.lam st.η) : o.wp P a w (OP lo h0 S W w o.dst st K) Q := by
  obtain ⟨e, hu, hp, hn, hz⟩ := mapB_spec ht
  unfold mapGet at h
  split at h
  · rename_i ks hc
    obtain ⟨⟨hv, h0v, hok⟩, hK⟩ := h
    obtain ⟨es, clk, x, r, q1, q2, q3, q4, q5, q6, q7, q8⟩ := map_open (P := P) s hp hn hm hk hc hv h0v hok
    have hrun : (execOp a.eval o).run P w = .ok (.value (.bool (hasK ks (.agg l)))) w := by
      rcases q8 with ⟨z1, j, e', rfl, _⟩ | ⟨z1, rfl⟩
      · simp [execOp, hop, Instr.lookup, run_underlying hu, q1, MapKept.run_getObj_map q2, q6, q7, z1]
      · simp [execOp, hop, Instr.lookup, run_underlying hu, q1, MapKept.run_getObj_map q2, q6, q7, hz, z1]
    exact wp_value hrun ⟨.bool (hasK ks (.agg l)), st.lam, st.η, W, κ, hK, Sim_put s hd s.hs s.ls (.refl _ _ _) (.refl _ _) (Nat.le_refl _) s.oS s.lS (Rv_mkc ⟨rfl, rfl⟩), .refl _ _ _, .refl _ _ _⟩
  · exact h.elim

theorem mapUpdate_ok (s : Sim lo h0 S W κ st a w) (hd : dstOk o.dst st.n) {t kt : TypeId} {n : Nat} {m k v : Operand} (hop : o.op = .mapUpdate t m k v) (ht : mapB P t = some (kt, n)) {sl ver : Nat} {l : List AV} (hm : ev st m = .mp sl ver) (hk : ev st k = .agg l) (hvv : ev st v = .bool true)
    (h : mapPut st.lam n sl ver l fun lam' => K .und lam' st.η) : o.wp P a w (OP lo h0 S W w o.dst st K) Q := by
  obtain ⟨e, hu, hp, hn, hz⟩ := mapB_spec ht
  have hve := ev_ok s v
  rw [hvv] at hve
  unfold mapPut at h
  split at h
  · rename_i ks hc
    obtain ⟨⟨hv, h0v, hok⟩, hK⟩ := h
    obtain ⟨es, clk, x, r, q1, q2, q3, q4, q5, q6, q7, q8⟩ := map_open (P := P) s hp hn hm hk hc hv h0v hok
    have hver : 0 < (st.lam sl).ver := by omega
    have fin : ∀ (es' : Array MapEntry) (clk' : Nat), (execOp a.eval o).run P w = .ok .skip { w with heap := w.heap.setIfInBounds (κ sl) (.map es' clk') } → MRel (addK ks (.agg l)) es' → o.wp P a w (OP lo h0 S W w o.dst st K) Q := by
      intro es' clk' hrun hmr
      have hh := MapKept.heap_set (o' := .map es' clk') q2
      have hos : OtherSame (κ sl) w { w with heap := w.heap.setIfInBounds (κ sl) (.map es' clk') } := ⟨rfl, rfl, rfl, by simp, fun q hq => hh.2 q hq⟩
      have hmm : isMapL [AV.tup (addK ks (.agg l))] = isMapL (st.lam sl).cells := by rw [hc]; rfl
      refine wp_skipN hrun ⟨.und, _, st.η, W, κ, hK, ?_, .refl _ _ _, ⟨rfl, rfl, rfl, by simp, fun q hq hS => ?_⟩⟩
      · refine Sim_put s hd (s.hs.local s.ls hver hos) (s.ls.write (o := .mp es' clk') hver hos hh.1 ⟨_, rfl, hmr⟩ hmm) (.refl _ _ _) (.write sl _ hmm) (by simp) s.oS (fun t ht => ?_) (Rv_und _)
        by_cases e : t = sl
        · subst e; exact s.lS t hver
        · rw [upd_ne _ _ e] at ht; exact s.lS t ht
      · by_cases e : q = κ sl
        · subst e; have := s.lS sl hver; omega
        · exact hos.2.2.2.2 q e
    rcases q8 with ⟨z1, j, e', rfl, z2, z3⟩ | ⟨z1, rfl⟩
    · refine fin (es.modify j fun e => { e with key := a.eval k, val := .bool true }) clk ?_ ?_
      · have hst : (Instr.keyThatStays (((es[j]?).map (·.key)).getD (a.eval k)) (a.eval k)).run P w = .ok (a.eval k) w := by
          rw [z2]
          simp only [Option.map_some, Option.getD_some, z3, Instr.keyThatStays, q5, sameBits_ints, if_true]
          rfl
        simp [execOp, hop, Instr.mapUpdate, run_underlying hu, q1, MapKept.run_getObj_map q2, q6, q7, hst, MapKept.run_setObj_map _ q2, Rv_bool hve]
      · rw [addK, if_pos z1]
        refine ⟨by simpa using q3.1, fun i k' hk' => ?_⟩
        obtain ⟨e2, l', b, p1, p2, p3, p4, p5⟩ := q3.2 i k' hk'
        by_cases hij : j = i
        · subst hij
          rw [z2] at p1
          cases p1
          refine ⟨_, l', b, by rw [Array.getElem?_modify]; simp [z2]; rfl, p2, p3, ?_, rfl⟩
          show a.eval k = _
          rw [← z3, p4]
        · exact ⟨e2, l', b, by rw [Array.getElem?_modify, if_neg hij]; exact p1, p2, p3, p4, p5⟩
    · refine fin (es.push { key := a.eval k, val := .bool true, born := clk }) (clk + 1) ?_ ?_
      · simp [execOp, hop, Instr.mapUpdate, run_underlying hu, q1, MapKept.run_getObj_map q2, q6, q7, MapKept.run_setObj_map _ q2, Rv_bool hve]
      · rw [addK, if_neg (by rw [z1]; exact Bool.false_ne_true)]
        refine ⟨by simp [q3.1], fun i k' hk' => ?_⟩
        by_cases hi : i < ks.length
        · rw [List.getElem?_append_left hi] at hk'
          obtain ⟨e2, l', b, p1, p2⟩ := q3.2 i k' hk'
          exact ⟨e2, l', b, by rw [Array.getElem?_push_lt (by rw [q3.1]; exact hi)]; rw [← p1, Array.getElem?_eq_getElem], p2⟩
        · have hi2 : i = ks.length := by
            have := (List.getElem?_eq_some_iff.1 hk').1
            simp at this
            omega
          subst hi2
          simp at hk'
          subst hk'
          exact ⟨_, l, x, by rw [← q3.1]; simp; rfl, rfl, q4, q5, rfl⟩
  · exact h.elim

theorem AEff_ok (s : Sim lo h0 S W κ st a w) (hd : dstOk o.dst st.n) {H : List Nat} (h : AEff P lo H o (ev st) st.lam st.η K) : o.wp P a w (OP lo h0 S W w o.dst st K) Q := by
  have dflt : (match pv P o (ev st) st.lam st.η with | some v => K v st.lam st.η | none => False) → o.wp P a w (OP lo h0 S W w o.dst st K) Q := by
    intro h
    split at h
    · rename_i v hv; exact looks_ok s hd hv h
    · exact h.elim
  cases hop : o.op with
  | alloc T =>
    unfold AEff at h
    rw [hop] at h
    simp only at h
    split at h
    · rename_i z hz
      obtain ⟨zv, h1, h2⟩ := alloc_run (a := a) (w := w) hop hz
      exact newVar_ok s hd h1 (zero_rel h2) h
    · exact h.elim
  | box T x =>
    unfold AEff at h
    rw [hop] at h
    simp only at h
    obtain ⟨hp, h⟩ := h
    exact newVar_ok s hd (box_run hop) (cells_rel (Rv_1 (ev_ok s x) (by intro e; rw [e] at hp; simp [plainV] at hp) (by intro l e; rw [e] at hp; simp [plainV] at hp))) h
  | store t x y => exact store_ok s hd hop h
  | makeSlice t x y => exact makeSlice_ok s hd hop h
  | buildSlice t n ps => exact buildSlice_ok s hd hop h
  | call c =>
    unfold AEff at h
    rw [hop] at h
    simp only at h
    split at h
    · rename_i f hcf
      split at h
      · rename_i g caps hg
        exact h.2.elim (call_ok s hd hop hcf hg h.1) (callX_ok s hd hop hcf hg h.1)
      · exact h.elim
    · rename_i hcb
      split at h
      · rename_i sx x t t' hargs htys
        obtain ⟨callee, cargs, ctys⟩ := c
        obtain ⟨cargs⟩ := cargs
        obtain ⟨ctys⟩ := ctys
        simp only at hcb hargs htys
        subst hcb hargs htys
        split at h
        · rename_i e k e' k' he he'
          split at h
          · rename_i by_ new hby hrow
            obtain ⟨⟨h1, h2, h3, h4⟩, h⟩ := h
            cases hz : zeroB P e with
            | none => rw [hz] at h3; cases h3
            | some z =>
              rw [hz] at h3
              simp only [Option.map_some, Option.some.injEq] at h3
              have hss := ev_ok s sx
              have hrun : (execOp a.eval o).run P w = ((Builtin.append_ #[t, t'] o.type #[a.eval sx, a.eval x]).run P w).andThen fun v w' => .ok (.value v) w' := by
                simp [execOp, hop, resolve, invoke, builtin]
              split at h
              · rename_i hemp
                rw [hemp] at hss
                obtain ⟨b0, hb0⟩ := Rv_emp hss
                rw [hb0] at hrun
                exact append_none_ok s hd he he' hby hz h3 (ev_ok s x) hrow hrun h.1.1 h.1.2 (fun e => by cases e) h.2
              · rename_i hemp
                rw [hemp] at hss
                rw [Rv_nils hss] at hrun
                exact append_none_ok s hd he he' hby hz h3 (ev_ok s x) hrow hrun h.1.2.1 h.1.2.2 (fun _ => h.1.1) h.2
              · rename_i b ver off len hsl
                rw [hsl] at hss
                split at h
                · rename_i blk hb
                  obtain ⟨⟨g1, rfl, rfl, g4, g5, g6, g7, g8⟩, h⟩ := h
                  exact append_own_ok s hd he he' hby hz h3 h2 (ev_ok s x) hrow hb g1 hss hrun g4 g5 g6 g7 g8 h
                · exact h.elim
              · rename_i b ver off len cap hsl
                rw [hsl] at hss
                exact appendC_ok s hd he he' hby hz h3 (ev_ok s x) hrow hss hrun h
              · exact h.elim
          · exact h.elim
        · rename_i e k he he'
          split at h
          · rename_i kn by_ z m b ver off len cap hkn hby hz hxx hss'
            have hss := ev_ok s sx
            have hxs := ev_ok s x
            rw [hss'] at hss
            rw [hxx] at hxs
            have hrun : (execOp a.eval o).run P w = ((Builtin.append_ #[t, t'] o.type #[a.eval sx, a.eval x]).run P w).andThen fun v w' => .ok (.value v) w' := by
              simp [execOp, hop, resolve, invoke, builtin]
            exact appendZ_ok s hd he hkn hby hz h.1 hxs hss hrun h.2
          · exact h.elim
        · exact h.elim
      · exact h.elim
    · rename_i hcb
      split at h
      · rename_i d x t ts hargs htys
        obtain ⟨callee, cargs, ctys⟩ := c
        obtain ⟨cargs⟩ := cargs
        obtain ⟨ctys⟩ := ctys
        simp only at hcb hargs htys
        subst hcb hargs htys
        split at h
        · rename_i e k he
          split at h
          · rename_i row hrow
            exact copy_ok s hd hop he hrow h
          · exact h.elim
        · exact h.elim
      · exact h.elim
    · rename_i hcb
      split at h
      · rename_i x t ts hargs htys
        obtain ⟨callee, cargs, ctys⟩ := c
        obtain ⟨cargs⟩ := cargs
        obtain ⟨ctys⟩ := ctys
        simp only at hcb hargs htys
        subst hcb hargs htys
        split at h
        · rename_i e k he
          split at h
          · rename_i z hz
            exact clear_ok s hd hop he hz h.1 h.2
          · exact h.elim
        · exact h.elim
      · exact h.elim
    · exact dflt h
  | makeMap t r =>
    unfold AEff at h
    rw [hop] at h
    simp only at h
    split at h
    · rename_i d kn hds hmb
      exact makeMap_ok s hd hop hds h
    · exact h.elim
  | mapUpdate t m k v =>
    unfold AEff at h
    rw [hop] at h
    simp only at h
    split at h
    · rename_i kt n sl ver l hmb hm hk hv
      exact mapUpdate_ok s hd hop hmb hm hk hv h
    · exact h.elim
  | lookup t m k ok =>
    unfold AEff at h
    rw [hop] at h
    simp only at h
    split at h
    · rename_i kt n sl ver l hmb hm hk
      exact lookup_ok s hd hop hmb hm hk h
    · exact h.elim
  | _ => (unfold AEff at h; rw [hop] at h; exact dflt h)

end
end Go.Proofs.YtaalpmbopkbdiaaGreat
/- The abstract logic: regions, in the order of the text. -/
namespace Go.Proofs.YtaalpmbopkbdiaaGreat
open Go

/-- Behind operations. -/
def SK (lo h0 : Nat) (S : Nat → Prop) (W0 : Wit) (η0 : List Blk) (w0 : World) (K : St → Prop) : Act → World → Prop := fun a' w' =>
  ∃ st' W' κ', K st' ∧ Sim lo h0 S W' κ' st' a' w' ∧ HStep lo η0 st'.η W0 W' ∧ Fr h0 S w0 w'

section
variable {P : Program} {lo h0 : Nat} {S : Nat → Prop} {W : Wit} {κ : Nat → Nat} {st : St} {a : Act} {w : World} {o : Oper} {Q : Exit → Act → World → Prop} {ops : Array Oper} {H : List Nat} {K : St → Prop}

theorem SK.trans {W0 W1 : Wit} {η0 η1 : List Blk} {w0 w1 : World} {a' : Act} {w' : World} (h : HStep lo η0 η1 W0 W1) (hf : Fr h0 S w0 w1) (k : SK lo h0 S W1 η1 w1 K a' w') : SK lo h0 S W0 η0 w0 K a' w' :=
  let ⟨st', W', κ', q, s, h', f'⟩ := k
  ⟨st', W', κ', q, s, h.trans h', hf.trans f'⟩
theorem SK.mono {W0 : Wit} {η0 : List Blk} {w0 : World} {a' : Act} {w' : World} {K' : St → Prop} (h : ∀ st, K st → K' st) (k : SK lo h0 S W0 η0 w0 K a' w') : SK lo h0 S W0 η0 w0 K' a' w' :=
  let ⟨st', W', κ', q, s, h', f'⟩ := k
  ⟨st', W', κ', h _ q, s, h', f'⟩

theorem put_η (dst : Option Tmp) (v : AV) (st : St) : (put dst v st).η = st.η := by cases dst <;> rfl
theorem put_lam (dst : Option Tmp) (v : AV) (st : St) : (put dst v st).lam = st.lam := by cases dst <;> rfl
theorem put_n (dst : Option Tmp) (v : AV) (st : St) : (put dst v st).n = st.n := by cases dst <;> rfl

theorem AOp_ok (s : Sim lo h0 S W κ st a w) (h : AOp P lo H o K st) : o.wp P a w (SK lo h0 S W st.η w K) Q := by
  refine Oper.wp_mono ?_ (AEff_ok s h.1 h.2)
  rintro a' w' ⟨v, lam', η', W', κ', hK, s', hh, hf⟩
  exact ⟨_, W', κ', hK, s', by rw [put_η]; exact hh, hf⟩

theorem Rv_skip : Rv lo W st.η st.lam κ skipV undef := .inr (.inl ⟨[], #[], rfl, rfl, rfl, fun i x hx => by simp at hx⟩)
theorem yielded_ok (s : Sim lo h0 S W κ st a w) {j : Nat} {want b : Bool} (h : yieldedA ops st j want = some b) : (yielded ops a.tmps j == some want) = b := by
  unfold yieldedA at h
  cases hd : (ops[j]?).bind (·.dst) with
  | none => rw [hd] at h; cases h
  | some t =>
    rw [hd] at h
    simp only at h
    by_cases ht : t < st.n
    · rw [if_pos ht] at h
      have htm := s.tm t ht
      have hlt : t < a.tmps.size := by rw [s.ts]; exact ht
      split at h
      · rename_i b' hb
        rw [hb] at htm
        have := Rv_bool htm
        unfold yielded
        rw [hd]
        have e : a.tmps[t]? = some (.bool b') := by
          rw [Array.getElem?_eq_getElem hlt]
          simpa [hlt] using this
        simp only [Option.bind_some, e]
        simp only [Option.some.injEq] at h
        rw [← h]
        cases b' <;> cases want <;> rfl
      · rename_i hb
        rw [hb] at htm
        have this : a.tmps.getD t undef = .tuple #[] := by
          rcases htm with h1 | ⟨l, arr, h1, h2, h3⟩ | h1
          · cases h1
          · injection h1 with h1
            subst h1
            have : arr = #[] := Array.size_eq_zero_iff.1 h3.1
            rw [h2, this]
          · rcases h1 with ⟨l, arr, h1, _⟩ | ⟨_, h1⟩
            · cases h1
            · exact h1.elim
        unfold yielded
        rw [hd]
        have e : a.tmps[t]? = some (.tuple #[]) := by
          rw [Array.getElem?_eq_getElem hlt]
          simpa [hlt] using this
        simp only [Option.bind_some, e]
        simp only [Option.some.injEq] at h
        rw [← h]
        rfl
      · cases h
    · rw [if_neg ht] at h
      simp at h

theorem AOpG_ok (s : Sim lo h0 S W κ st a w) {i : Nat} (hi : ops[i]? = some o) (h : AOpG P lo H ops o K st) : wpOp P ops Q i (SK lo h0 S W st.η w K) a w := by
  unfold wpOp
  rw [hi]
  simp only
  unfold AOpG at h
  cases hg : o.guard with
  | none =>
    rw [hg] at h
    have : Region.wanted o (yielded ops a.tmps) = true := by simp [Region.wanted, hg]
    rw [if_pos this]
    exact .inl (AOp_ok s h)
  | some jw =>
    obtain ⟨j, want⟩ := jw
    rw [hg] at h
    simp only at h
    cases hy : yieldedA ops st j want with
    | none => rw [hy] at h; exact h.elim
    | some b =>
      rw [hy] at h
      have hyc := yielded_ok (ops := ops) s hy
      cases b with
      | true =>
        have : Region.wanted o (yielded ops a.tmps) = true := by simp only [Region.wanted, hg, hyc]
        rw [if_pos this]
        exact .inl (AOp_ok s h)
      | false =>
        have : ¬ (Region.wanted o (yielded ops a.tmps) = true) := by simp only [Region.wanted, hg, hyc]; exact Bool.false_ne_true
        rw [if_neg this]
        refine ⟨_, W, κ, h.2, ?_, by rw [put_η]; exact .refl _ _ _, .refl _ _ _⟩
        exact Sim_put s h.1 s.hs s.ls (.refl _ _ _) (.refl _ _) (Nat.le_refl _) s.oS s.lS Rv_skip

theorem AOps_ok : ∀ (l : List Oper) (k : Nat) {st : St} {W : Wit} {κ : Nat → Nat} {a : Act} {w : World} {Q : Exit → Act → World → Prop}, (∀ j, l[j]? = ops[k + j]?) → Sim lo h0 S W κ st a w → AOps P lo H ops K l st →
    (∀ a' w', SK lo h0 S W st.η w K a' w' → Q .normal a' w') → wpOps P ops Q (List.range' k l.length) a w
  | [], k, st, W, κ, a, w, Q, _, s, h, hq => by
    simp only [List.length_nil, List.range'_zero, wpOps]
    exact hq _ _ ⟨st, W, κ, h, s, .refl _ _ _, .refl _ _ _⟩
  | o :: l, k, st, W, κ, a, w, Q, hl, s, h, hq => by
    have h0 : ops[k]? = some o := by simpa using (hl 0).symm
    rw [List.length_cons, List.range'_succ, wpOps_cons]
    refine wpOp_mono ?_ (AOpG_ok s h0 h)
    rintro a' w' ⟨st', W', κ', hK, s', hh, hf⟩
    exact AOps_ok l (k + 1) (fun j => by have := hl (j + 1); simpa [Nat.add_assoc, Nat.add_comm 1 j] using this) s' hK (fun a'' w'' hk => hq _ _ (hk.trans hh hf))

theorem AW_region {id : Nat} {Q : Exit → St → Prop} (h : AOps P lo H ops (Q .normal) ops.toList st) : AW P lo (.region id ops false) Q st := by
  intro h0 S W κ a w s
  refine wp_region ?_
  rw [List.range_eq_range', show ops.size = ops.toList.length by simp]
  exact AOps_ok ops.toList 0 (by simp) s h (fun a' w' ⟨st', W', κ', hK, s', hh, hf⟩ => ⟨st', W', κ', hK, s', hh, hf⟩)

theorem AW_cond {c : Operand} {x y : Code} {Q : Exit → St → Prop} {b : Bool} (hc : ev st c = .bool b) (hx : b = true → AW P lo x Q st) (hy : b = false → AW P lo y Q st) : AW P lo (.cond c x y) Q st := by
  intro h0 S W κ a w s
  have hcc := ev_ok s c
  rw [hc] at hcc
  refine wp_cond (Rv_bool hcc) ?_
  cases b
  · exact hy rfl h0 S W κ a w s
  · exact hx rfl h0 S W κ a w s

/-! ### functions -/
def resA1 (P : Program) (st : St) : ResultVar → Option AV
  | .tmp t => some (ev st (.tmp t))
  | .cell t ty => pv P ⟨none, .load ty (.tmp t), 0, "", #[], none⟩ (ev st) st.lam st.η
def resA (P : Program) (rs : List ResultVar) (st : St) : Option AV :=
  match rs.mapM (resA1 P st) with
  | some [v] => some v
  | some l => if l.all plainV then some (.tup l) else none
  | none => none

theorem resA_ok (s : Sim lo h0 S W κ st a w) {fn : Func} {v : AV} (h : resA P fn.results.toList st = some v) : ∃ u, (results fn a.tmps).run P w = .ok u w ∧ Rv lo W st.η st.lam κ v u := by
  have one : ∀ (r : ResultVar) (v : AV), resA1 P st r = some v → ∃ u, (match r with | .tmp t => pure (a.tmps.getD t undef) | .cell b t => do loadVar t (← asAddr (a.tmps.getD b undef)) : Sem Value).run P w = .ok u w ∧ Rv lo W st.η st.lam κ v u := by
    intro r v hv
    cases r with
    | tmp t =>
      simp only [resA1, Option.some.injEq] at hv
      subst hv
      exact ⟨_, rfl, ev_ok s (.tmp t)⟩
    | cell b t =>
      simp only [resA1] at hv
      obtain ⟨r, h1, h2⟩ := load_ok s.hs s.ls (ev_ok s (.tmp b)) rfl hv
      refine ⟨r, ?_, h2⟩
      have h1' : (Instr.loadAt t (a.tmps.getD b undef)).run P w = .ok r w := h1
      show (do loadVar t (← asAddr (a.tmps.getD b undef)) : Sem Value).run P w = .ok r w
      generalize a.tmps.getD b undef = ub at h1' ⊢
      cases ub <;> simp [Instr.loadAt, Instr.sureAddr, asAddr] at h1' ⊢
      rename_i p
      cases p <;> simp at h1' ⊢
      exact h1'
  have many : ∀ (l : List ResultVar) (vs : List AV), l.mapM (resA1 P st) = some vs → ∃ us : List Value, (l.mapM fun r => (match r with | .tmp t => pure (a.tmps.getD t undef) | .cell b t => do loadVar t (← asAddr (a.tmps.getD b undef)) : Sem Value)).run P w = .ok us w ∧
      us.length = vs.length ∧ ∀ (i : Nat) x, vs[i]? = some x → ∃ u, us[i]? = some u ∧ Rv lo W st.η st.lam κ x u := by
    intro l
    induction l with
    | nil => intro vs hv; simp at hv; subst hv; exact ⟨[], by simp, rfl, fun i x hx => by simp at hx⟩
    | cons r l ih =>
      intro vs hv
      rw [List.mapM_cons] at hv
      cases hr : resA1 P st r with
      | none => rw [hr] at hv; simp at hv
      | some v =>
        rw [hr] at hv
        cases hl : l.mapM (resA1 P st) with
        | none => rw [hl] at hv; simp at hv
        | some vs' =>
          rw [hl] at hv
          simp at hv
          subst hv
          obtain ⟨us, h1, h2, h3⟩ := ih vs' hl
          obtain ⟨u, h4, h5⟩ := one r v hr
          refine ⟨u :: us, ?_, by simp [h2], fun i x hx => ?_⟩
          · rw [List.mapM_cons]
            simp only [Sem.run_bind, h4, Result.andThen_ok, h1, Sem.run_pure]
          · cases i with
            | zero => simp at hx; subst hx; exact ⟨u, rfl, h5⟩
            | succ i => exact h3 i x (by simpa using hx)
  unfold resA at h
  cases hm : fn.results.toList.mapM (resA1 P st) with
  | none => rw [hm] at h; cases h
  | some vs =>
    obtain ⟨us, h1, h2, h3⟩ := many _ _ hm
    have hrun : (results fn a.tmps).run P w = .ok (if h : us.toArray.size = 1 then us.toArray[0] else .tuple us.toArray) w := by
      unfold results
      rw [Array.mapM_eq_mapM_toList]
      have h1' := h1
      simp only [Sem.run_bind, Sem.run_map]
      erw [h1']
      simp only [Result.andThen_ok, Sem.run_pure]
    refine ⟨_, hrun, ?_⟩
    rw [hm] at h
    clear hm
    match vs, h, h2, h3 with
    | [x], h, h2, h3 =>
      simp only [Option.some.injEq] at h
      subst h
      obtain ⟨u, hu, hr⟩ := h3 0 x rfl
      have hl1 : us.toArray.size = 1 := by simpa using h2
      rw [dif_pos hl1]
      have e : us.toArray[0] = u := by
        have hlt : 0 < us.length := by simp at h2; omega
        rw [List.getElem?_eq_getElem hlt] at hu
        simpa using hu
      rw [e]; exact hr
    | [], h, h2, h3 =>
      simp only [List.all_nil, if_true, Option.some.injEq] at h
      subst h
      rw [dif_neg (by simp [h2])]
      exact Rv_mktup ⟨by simp [h2], fun i x hx => by simp at hx⟩
    | x :: y :: r, h, h2, h3 =>
      simp only at h
      split at h
      · rename_i hall
        simp only [Option.some.injEq] at h
        subst h
        rw [dif_neg (by simp [h2])]
        refine Rv_mktup ⟨by simp [h2], fun i z hz => ?_⟩
        obtain ⟨u, hu, hr⟩ := h3 i z hz
        refine ⟨u, by simpa using hu, ?_⟩
        have hp := List.all_eq_true.1 hall z (List.mem_of_getElem? hz)
        exact Rv_1 hr (by rintro rfl; simp [plainV] at hp) (by rintro l rfl; simp [plainV] at hp)
      · cases h

/-- The state in which a function begins. -/
def st0 (n : Nat) (args : List AV) (η : List Blk) : St := ⟨n, fun t => args.getD t .und, lam0, η⟩

theorem AF_enter {f : FuncId} {fn : Func} {c : Code} {args : List AV} {η : List Blk} {R : AV → List Blk → Prop} (hf : P.funcs[f]? = some fn) (hb : fn.body = some c) (hname : (fn.name == "runtime.NumGoroutine") = false) (hn : args.length ≤ fn.ntmps)
    (h : AW P lo c (fun e st => (e = .normal ∨ e = .ret) ∧ ∃ v, resA P fn.results.toList st = some v ∧ noLocV v = true ∧ R v st.η) (st0 fn.ntmps args η)) : AF P lo f args η R := by
  refine ⟨⟨fn, hf, hname, by rw [hb]; rfl⟩, fun W w us hs hargs => ?_⟩
  refine calls_of_wp hf hb ?_
  have s : Sim lo w.heap.size (fun k => ∃ b, lo ≤ b ∧ b < η.length ∧ 0 < W.cs b ∧ (W.ι b).block = k) W kap0 (st0 fn.ntmps args η) { tmps := us ++ Array.replicate (fn.ntmps - us.size) undef, defers := [] } w := by
    refine ⟨hs, ⟨fun s hv => absurd hv (by simp [st0, lam0]), fun s _ hv => absurd hv (by simp [st0, lam0]), fun s _ _ hv => absurd hv (by simp [st0, lam0])⟩, ?_, fun t ht => ?_, rfl, Nat.le_refl _, fun b h1 h2 h3 => .inl ⟨b, h1, h2, h3, rfl⟩, fun s hv => absurd hv (by simp [st0, lam0])⟩
    · simp [st0, hargs.1]; omega
    · simp only [st0]
      by_cases hta : t < args.length
      · obtain ⟨u, hu, hr⟩ := hargs.2 t _ (List.getElem?_eq_getElem hta)
        have e : (us ++ Array.replicate (fn.ntmps - us.size) undef).getD t undef = u := by
          have hlt : t < us.size := by rw [hargs.1]; exact hta
          rw [Array.getElem?_eq_getElem hlt] at hu
          have : us[t] = u := Option.some.inj hu
          simp [Array.getElem?_append_left hlt, hlt, this]
        rw [e]
        have e2 : args.getD t .und = args[t] := by simp [List.getD, hta]
        rw [e2]; exact hr
      · have e2 : args.getD t .und = .und := by simp [List.getD, List.getElem?_eq_none (Nat.le_of_not_lt hta)]
        rw [e2]; exact Rv_und _
  refine wp_mono (h _ _ _ _ _ _ s) ?_
  rintro e a' w' ⟨st', W', κ', ⟨he, v, hv, hnl, hR⟩, s', hh, hfr⟩
  obtain ⟨u, hu1, hu2⟩ := resA_ok s' hv
  have fin : a'.defers = [] ∧ ∃ u, (results fn a'.tmps).run P w' = .ok u w' ∧ ∃ v η' W' u', Ending.returned u = .returned u' ∧ R v η' ∧ Rv lo W' η' lam0 kap0 v u' ∧ HSim lo W' η' w' ∧ HStep lo η η' W W' ∧
      (∀ b, lo ≤ b → b < η'.length → 0 < W'.cs b → (∃ b0, lo ≤ b0 ∧ b0 < η.length ∧ 0 < W.cs b0 ∧ (W.ι b0).block = (W'.ι b).block) ∨ w.heap.size ≤ (W'.ι b).block) ∧
      Fr w.heap.size (fun k => ∃ b, lo ≤ b ∧ b < η.length ∧ 0 < W.cs b ∧ (W.ι b).block = k) w w' :=
    ⟨s'.df, u, hu1, v, st'.η, W', u, rfl, hR, Rv_noLoc hu2 hnl, s'.hs, hh, s'.oS, hfr⟩
  rcases he with rfl | rfl
  · exact fin
  · exact fin

end
end Go.Proofs.YtaalpmbopkbdiaaGreat
/- The abstract logic: what operations do depends on their operands alone; looking operations are kept by what only adds. -/
namespace Go.Proofs.YtaalpmbopkbdiaaGreat
open Go

section congr
variable {P : Program} {lo : Nat} {H : List Nat} {o : Oper} {ρ ρ' : Operand → AV} {lam : Nat → LB} {η : List Blk}

theorem pairs_congr {ps : Array (Nat × Operand)} (hp : ∀ x ∈ ps.map (·.2), ρ x = ρ' x) : (ps.toList.map fun p => (p.1, ρ p.2)) = ps.toList.map fun p => (p.1, ρ' p.2) :=
  List.map_congr_left fun p hm => by rw [hp p.2 (Array.mem_map.2 ⟨p, by simpa using hm, rfl⟩)]
theorem args_congr {l : List Operand} (hp : ∀ x ∈ l, ρ x = ρ' x) : l.map ρ = l.map ρ' := List.map_congr_left hp
theorem max_congr : ∀ (r : List Operand) (acc : Option AV), (∀ x ∈ r, ρ x = ρ' x) → r.foldl (maxStep ρ) acc = r.foldl (maxStep ρ') acc
  | [], _, _ => rfl
  | x :: r, acc, h => by
    have e : maxStep ρ acc x = maxStep ρ' acc x := by simp only [maxStep, h x (by simp)]
    rw [List.foldl_cons, List.foldl_cons, e]
    exact max_congr r _ fun y hy => h y (by simp [hy])
theorem min_congr : ∀ (r : List Operand) (acc : Option AV), (∀ x ∈ r, ρ x = ρ' x) → r.foldl (minStep ρ) acc = r.foldl (minStep ρ') acc
  | [], _, _ => rfl
  | x :: r, acc, h => by
    have e : minStep ρ acc x = minStep ρ' acc x := by simp only [minStep, h x (by simp)]
    rw [List.foldl_cons, List.foldl_cons, e]
    exact min_congr r _ fun y hy => h y (by simp [hy])

theorem pv_congr (h : ∀ x ∈ o.op.operands, ρ x = ρ' x) : pv P o ρ lam η = pv P o ρ' lam η := by
  obtain ⟨dst, op, type, pos, after, guard⟩ := o
  cases op <;> simp only [Op.operands] at h <;> simp only [pv]
  case build t ps => rw [pairs_congr fun x hx => h x (by simpa using hx)]
  case makeFunc fn first captured => rw [args_congr (l := captured.toList) fun x hx => h x (by simp at hx; simp [hx])]
  case slice t x lo hi mx => cases lo <;> cases hi <;> cases mx <;> simp_all
  case call c =>
    have ha : ∀ x ∈ c.args.toList, ρ x = ρ' x := fun x hx => h x (by simp at hx; simp [Call.operands, hx])
    cases hc : c.callee with
    | value f => rfl
    | invoke r m => rfl
    | builtin b =>
      cases b <;> try rfl
      case len =>
        generalize c.args.toList = l at ha
        match l with
        | [] => rfl
        | [x] => cases c.argTypes.toList with
          | nil => rfl
          | cons t ts => simp only [ha x (by simp)]
        | _ :: _ :: _ => rfl
      case cap =>
        generalize c.args.toList = l at ha
        match l with
        | [] => rfl
        | [x] => cases c.argTypes.toList with
          | nil => rfl
          | cons t ts => simp only [ha x (by simp)]
        | _ :: _ :: _ => rfl
      case max =>
        generalize c.args.toList = l at ha
        match l with
        | [] => rfl
        | x :: r => simp only [ha x (by simp)]; exact max_congr r _ fun y hy => ha y (by simp [hy])
      case min =>
        generalize c.args.toList = l at ha
        match l with
        | [] => rfl
        | x :: r => simp only [ha x (by simp)]; exact min_congr r _ fun y hy => ha y (by simp [hy])
  all_goals (first | rfl | (simp_all; done))

theorem newVarA_mono {dst : Option Tmp} {t : TypeId} {cells : List AV} {K K' : AV → (Nat → LB) → List Blk → Prop} (hk : ∀ v l e, K v l e → K' v l e) (h : newVarA H dst t cells lam η K) : newVarA H dst t cells lam η K' := by
  unfold newVarA at *
  split at h
  · exact h
  · split at h
    · rename_i hd; rw [if_pos hd]; exact ⟨h.1, hk _ _ _ h.2⟩
    · rename_i hd; rw [if_neg hd]; exact hk _ _ _ h

theorem AEff_congr (K : AV → (Nat → LB) → List Blk → Prop) (h : ∀ x ∈ o.op.operands, ρ x = ρ' x) : AEff P lo H o ρ lam η K = AEff P lo H o ρ' lam η K := by
  have hpv := pv_congr (P := P) (lam := lam) (η := η) h
  obtain ⟨dst, op, type, pos, after, guard⟩ := o
  cases op <;> simp only [Op.operands] at h <;> simp only [AEff]
  case call c =>
    have ha : ∀ x ∈ c.args.toList, ρ x = ρ' x := fun x hx => h x (by simp at hx; simp [Call.operands, hx])
    cases hc : c.callee with
    | value f =>
      have hf : ρ f = ρ' f := h f (by simp [Call.operands, hc])
      simp only [hf, args_congr ha]
    | invoke r m => simp only [hpv]
    | builtin b =>
      cases b <;> try simp only [hpv]
      case append =>
        generalize c.args.toList = l at ha
        match l with
        | [] => rfl
        | [_] => rfl
        | [s, x] =>
          generalize c.argTypes.toList = ts
          match ts with
          | [] => rfl
          | [_] => rfl
          | [t, t'] => simp only [ha s (by simp), ha x (by simp)]
          | _ :: _ :: _ :: _ => rfl
        | _ :: _ :: _ :: _ => rfl
      case copy =>
        generalize c.args.toList = l at ha
        match l with
        | [] => rfl
        | [_] => rfl
        | [s, x] => cases c.argTypes.toList with
          | nil => rfl
          | cons t ts => simp only [ha s (by simp), ha x (by simp)]
        | _ :: _ :: _ :: _ => rfl
      case clear =>
        generalize c.args.toList = l at ha
        match l with
        | [] => rfl
        | [x] => cases c.argTypes.toList with
          | nil => rfl
          | cons t ts => simp only [ha x (by simp)]
        | _ :: _ :: _ => rfl
  case buildSlice t n ps => rw [pairs_congr fun x hx => h x (by simpa using hx)]
  case box t x => rw [h x (by simp)]
  case store t a x => rw [h a (by simp), h x (by simp)]
  case makeSlice t l c => rw [h l (by simp), h c (by simp)]
  case mapUpdate t m k v => rw [h m (by simp), h k (by simp), h v (by simp)]
  case lookup t m k ok => rw [h m (by simp), h k (by simp)]
  all_goals (first | rfl | rw [hpv])
end congr

/-! ### looking operations -/
def isLook (o : Oper) : Bool :=
  match o.op with
  | .alloc _ => false
  | .box _ _ => false
  | .store _ _ _ => false
  | .makeSlice _ _ _ => false
  | .buildSlice _ n _ => n == 0
  | .makeMap _ _ => false
  | .mapUpdate _ _ _ _ => false
  | .lookup _ _ _ _ => false
  | .call c => match c.callee with
    | .value _ => false
    | .builtin .append => false
    | .builtin .copy => false
    | .builtin .clear => false
    | _ => true
  | _ => true
def isStore (o : Oper) : Bool :=
  match o.op with
  | .store _ _ _ => true
  | _ => false
def isLoad (o : Oper) : Bool :=
  match o.op with
  | .load _ _ => true
  | _ => false

def pvL (P : Program) (o : Oper) (ρ : Operand → AV) (lam : Nat → LB) (η : List Blk) : Option AV :=
  match o.op with
  | .buildSlice t _ parts => if (elemB P t).isSome = true ∧ parts.size = 0 then some .emp else none
  | _ => pv P o ρ lam η

theorem AEff_look {P : Program} {lo : Nat} {H : List Nat} {o : Oper} {ρ : Operand → AV} {lam : Nat → LB} {η : List Blk} {K : AV → (Nat → LB) → List Blk → Prop} (hl : isLook o = true) :
    AEff P lo H o ρ lam η K ↔ ∃ v, pvL P o ρ lam η = some v ∧ K v lam η := by
  have gen : (match pv P o ρ lam η with | some v => K v lam η | none => False) ↔ ∃ v, pv P o ρ lam η = some v ∧ K v lam η := by
    cases pv P o ρ lam η <;> simp
  obtain ⟨dst, op, type, pos, after, guard⟩ := o
  cases op <;> simp only [isLook] at hl <;> simp only [AEff, pvL]
  case buildSlice t n ps =>
    have hn : n = 0 := by simpa using hl
    subst hn
    cases elemB P t with
    | none => simp
    | some ek => simp only [Option.isSome_some, true_and]; by_cases hz : ps.size = 0 <;> simp [hz]
  case call c =>
    cases hc : c.callee with
    | value f => rw [hc] at hl; cases hl
    | invoke r m => simp only; exact gen
    | builtin b => rw [hc] at hl; cases b <;> first | exact gen | (cases hl)
  all_goals first | exact gen | (cases hl)

/-- What only adds: what was there keeps its number; where 'strict', its cells as well. -/
def Ks (strict : Bool) (lam : Nat → LB) (η : List Blk) (lam' : Nat → LB) (η' : List Blk) : Prop :=
  (∀ s, 0 < (lam s).ver → (lam' s).ver = (lam s).ver ∧ (strict = true → lam' s = lam s)) ∧
  (∀ (b : Nat) (blk : Blk), η[b]? = some blk → ∃ blk' : Blk, η'[b]? = some blk' ∧ blk'.ver = blk.ver ∧ blk'.sz = blk.sz ∧ (strict = true → blk' = blk))

theorem Ks.refl (s : Bool) (lam : Nat → LB) (η : List Blk) : Ks s lam η lam η := ⟨fun _ _ => ⟨rfl, fun _ => rfl⟩, fun _ blk h => ⟨blk, h, rfl, rfl, fun _ => rfl⟩⟩
theorem Ks.cur {s : Bool} {lam lam' : Nat → LB} {η η' : List Blk} (h : Ks s lam η lam' η') {b v : Nat} (hc : cur η b v = true) : cur η' b v = true := by
  unfold Proofs.YtaalpmbopkbdiaaGreat.cur at *
  cases hb : η[b]? with
  | none => rw [hb] at hc; cases hc
  | some blk =>
    rw [hb] at hc
    obtain ⟨blk', h1, h2, _⟩ := h.2 b blk hb
    rw [h1]
    simpa [h2] using hc
theorem Ks.strict {lam lam' : Nat → LB} {η η' : List Blk} (h : Ks true lam η lam' η') : ∀ s, Ks s lam η lam' η' := fun _ =>
  ⟨fun i hi => ⟨(h.1 i hi).1, fun _ => (h.1 i hi).2 rfl⟩, fun b blk hb => let ⟨blk', h1, h2, h3, h4⟩ := h.2 b blk hb; ⟨blk', h1, h2, h3, fun _ => h4 rfl⟩⟩
theorem Ks.grow (lam : Nat → LB) (η l : List Blk) : Ks true lam η lam (η ++ l) :=
  ⟨fun _ _ => ⟨rfl, fun _ => rfl⟩, fun b blk h => ⟨blk, by rw [List.getElem?_append_left (List.getElem?_eq_some_iff.1 h).1]; exact h, rfl, rfl, fun _ => rfl⟩⟩

theorem pv_keep {P : Program} {o : Oper} {ρ : Operand → AV} {lam lam' : Nat → LB} {η η' : List Blk} {s : Bool} {v : AV} (hk : Ks s lam η lam' η') (hs : isLoad o = false ∨ s = true) (h : pv P o ρ lam η = some v) : pv P o ρ lam' η' = some v := by
  have blkc : ∀ (b : Nat) (blk : Blk), η[b]? = some blk → ∃ blk' : Blk, η'[b]? = some blk' ∧ blk'.ver = blk.ver ∧ blk'.sz = blk.sz ∧ (s = true → blk' = blk) := hk.2
  obtain ⟨dst, op, type, pos, after, guard⟩ := o
  cases op <;> simp only [pv] at h ⊢
  case nilCheck x =>
    cases hx : ρ x <;> rw [hx] at h <;> simp only at h ⊢ <;> try contradiction
    · split at h
      · rename_i hc; rw [if_pos (hk.cur hc)]; exact h
      · contradiction
    · split at h
      · rename_i hc
        rw [if_pos ⟨by rw [(hk.1 _ (by omega)).1]; exact hc.1, hc.2⟩]; exact h
      · contradiction
  case load t x =>
    have hs : s = true := by simpa [isLoad] using hs
    revert h
    cases isAggB P t with
    | none => intro h; simp at h
    | some g =>
    cases szB P t with
    | none => intro h; simp at h
    | some k =>
    intro h
    cases hx : ρ x <;> rw [hx] at h <;> simp only at h ⊢ <;> try contradiction
    · rename_i b ver off
      cases hb : η[b]? with
      | none => rw [hb] at h; contradiction
      | some blk =>
        rw [hb] at h
        obtain ⟨blk', h1, _, _, h4⟩ := blkc b blk hb
        rw [h1, h4 hs]; exact h
    · rename_i sl ver off
      by_cases hc : (ver = (lam sl).ver ∧ 0 < ver) ∧ off + k ≤ (lam sl).cells.length
      · have e := (hk.1 sl (by omega)).2 hs
        rw [e]; exact h
      · rw [if_neg hc] at h; contradiction
  case binOp op t x y z =>
    cases hx : ρ x <;> rw [hx] at h <;> cases hy : ρ y <;> rw [hy] at h <;> simp only at h ⊢ <;> try first | exact h | contradiction
    rename_i b ver _ _
    cases hb : η[b]? with
    | none => rw [hb] at h; contradiction
    | some blk =>
      rw [hb] at h
      obtain ⟨blk', h1, h2, _⟩ := blkc b blk hb
      rw [h1]
      simp only [h2] at h ⊢
      exact h
  case slice t x l hh m =>
    cases m with
    | some _ => simp at h
    | none =>
    simp only at h ⊢
    revert h
    cases elemB P t with
    | none => intro h; simp at h
    | some ek =>
    intro h
    cases hx : ρ x <;> rw [hx] at h <;> simp only at h ⊢ <;> try contradiction
    case sl b ver _ _ =>
      cases hb : η[b]? with
      | none => rw [hb] at h; contradiction
      | some blk =>
        rw [hb] at h
        obtain ⟨blk', h1, h2, h3, _⟩ := blkc b blk hb
        rw [h1]
        simp only [h2, h3] at h ⊢
        exact h
    case slc b ver _ _ _ =>
      cases hb : η[b]? with
      | none => rw [hb] at h; contradiction
      | some blk =>
        rw [hb] at h
        obtain ⟨blk', h1, h2, h3, _⟩ := blkc b blk hb
        rw [h1]
        simp only [h2, h3] at h ⊢
        exact h
  case fieldAddr t x f =>
    revert h
    cases fieldB P t f with
    | none => intro h; simp at h
    | some os =>
    intro h
    cases hx : ρ x <;> rw [hx] at h <;> simp only at h ⊢ <;> try contradiction
    · split at h
      · rename_i hc; rw [if_pos ⟨hc.1, hk.cur hc.2⟩]; exact h
      · contradiction
    · split at h
      · rename_i hc
        rw [if_pos ⟨hc.1, by rw [(hk.1 _ (by omega)).1]; exact hc.2.1, hc.2.2⟩]; exact h
      · contradiction
  case indexAddr t x i =>
    revert h
    cases elemB P t with
    | none => intro h; simp at h
    | some ek =>
    intro h
    cases hx : ρ x <;> rw [hx] at h <;> cases hi : ρ i <;> rw [hi] at h <;> simp only at h ⊢ <;> try contradiction
    rename_i b ver _ _ _ _
    cases hb : η[b]? with
    | none => rw [hb] at h; contradiction
    | some blk =>
      rw [hb] at h
      obtain ⟨blk', h1, h2, _⟩ := blkc b blk hb
      rw [h1]
      simp only [h2] at h ⊢
      exact h
  case call c =>
    revert h
    cases c.callee with
    | value f => intro h; contradiction
    | invoke r m => intro h; contradiction
    | builtin b =>
      generalize c.args.toList = l
      generalize c.argTypes.toList = ts
      by_cases hb : b = .len ∨ b = .cap
      case neg => cases b <;> cases l <;> first | exact id | exact absurd (.inl rfl) hb | exact absurd (.inr rfl) hb
      rcases hb with rfl | rfl
      · skip
        match l, ts with
        | [], _ => intro h; exact h
        | [_], [] => intro h; exact h
        | _ :: _ :: _, _ => intro h; exact h
        | [x], t :: _ =>
          simp only
          cases elemB P t with
          | none => intro h; simp at h
          | some ek =>
          intro h
          cases hx : ρ x <;> rw [hx] at h <;> simp only at h ⊢ <;> try first | exact h | contradiction
          case sl b ver _ _ =>
            cases hb : η[b]? with
            | none => rw [hb] at h; contradiction
            | some blk =>
              rw [hb] at h
              obtain ⟨blk', h1, h2, _⟩ := blkc b blk hb
              rw [h1]
              simp only [h2] at h ⊢
              exact h
          case slc b ver _ _ _ =>
            cases hb : η[b]? with
            | none => rw [hb] at h; contradiction
            | some blk =>
              rw [hb] at h
              obtain ⟨blk', h1, h2, _⟩ := blkc b blk hb
              rw [h1]
              simp only [h2] at h ⊢
              exact h
      · skip
        match l, ts with
        | [], _ => intro h; exact h
        | [_], [] => intro h; exact h
        | _ :: _ :: _, _ => intro h; exact h
        | [x], t :: _ =>
          simp only
          cases elemB P t with
          | none => intro h; simp at h
          | some ek =>
          intro h
          cases hx : ρ x <;> rw [hx] at h <;> simp only at h ⊢ <;> try first | exact h | contradiction
          case slc b ver _ _ _ =>
            cases hb : η[b]? with
            | none => rw [hb] at h; contradiction
            | some blk =>
              rw [hb] at h
              obtain ⟨blk', h1, h2, _⟩ := blkc b blk hb
              rw [h1]
              simp only [h2] at h ⊢
              exact h
  all_goals exact h

theorem pvL_keep {P : Program} {o : Oper} {ρ : Operand → AV} {lam lam' : Nat → LB} {η η' : List Blk} {s : Bool} {v : AV} (hk : Ks s lam η lam' η') (hs : isLoad o = false ∨ s = true) (h : pvL P o ρ lam η = some v) : pvL P o ρ lam' η' = some v := by
  unfold pvL at *
  split at h
  · exact h
  · exact pv_keep hk hs h
/-- A load whose address is a local's. -/
def locLoadB (ρ : Operand → AV) (o : Oper) : Bool :=
  match o.op with
  | .load _ x => (match ρ x with
    | .loc _ _ _ => true
    | _ => false)
  | _ => false
theorem locLoadB_congr {o : Oper} {ρ ρ' : Operand → AV} (h : ∀ x ∈ o.op.operands, ρ x = ρ' x) : locLoadB ρ o = locLoadB ρ' o := by
  obtain ⟨dst, op, type, pos, after, guard⟩ := o
  cases op <;> simp only [locLoadB]
  case load t x => rw [h x (by simp [Op.operands])]
/-- What changes cells of blocks alone. -/
def KsW (lam : Nat → LB) (η : List Blk) (lam' : Nat → LB) (η' : List Blk) : Prop := Ks false lam η lam' η' ∧ ∀ s, 0 < (lam s).ver → lam' s = lam s
theorem KsW.refl (lam : Nat → LB) (η : List Blk) : KsW lam η lam η := ⟨.refl _ _ _, fun _ _ => rfl⟩
theorem pvL_keepW {P : Program} {o : Oper} {ρ : Operand → AV} {lam lam' : Nat → LB} {η η' : List Blk} {v : AV} (hk : KsW lam η lam' η') (hs : isLoad o = false ∨ locLoadB ρ o = true) (h : pvL P o ρ lam η = some v) : pvL P o ρ lam' η' = some v := by
  rcases hs with hs | hs
  · exact pvL_keep hk.1 (.inl hs) h
  obtain ⟨dst, op, type, pos, after, guard⟩ := o
  cases op <;> simp only [locLoadB, Bool.false_eq_true] at hs
  case load t x =>
    simp only [pvL, pv] at h ⊢
    revert h
    cases isAggB P t with
    | none => intro h; simp at h
    | some g =>
    cases szB P t with
    | none => intro h; simp at h
    | some k =>
    intro h
    cases hx : ρ x <;> rw [hx] at h hs <;> simp only [Bool.false_eq_true] at h hs ⊢
    rename_i sl ver off
    by_cases hc : (ver = (lam sl).ver ∧ 0 < ver) ∧ off + k ≤ (lam sl).cells.length
    · rw [hk.2 sl (by omega)]; exact h
    · rw [if_neg hc] at h; contradiction
/-- A load whose address is a local's, or an old block's. -/
def oldLoadB (N : Nat) (ρ : Operand → AV) (o : Oper) : Bool :=
  match o.op with
  | .load _ x => (match ρ x with
    | .loc _ _ _ => true
    | .ptr b _ _ => decide (b < N)
    | _ => false)
  | _ => false
theorem oldLoadB_congr {N : Nat} {o : Oper} {ρ ρ' : Operand → AV} (h : ∀ x ∈ o.op.operands, ρ x = ρ' x) : oldLoadB N ρ o = oldLoadB N ρ' o := by
  obtain ⟨dst, op, type, pos, after, guard⟩ := o
  cases op <;> simp only [oldLoadB]
  case load t x => rw [h x (by simp [Op.operands])]
/-- What changes cells of new blocks alone. -/
def KsO (N : Nat) (lam : Nat → LB) (η : List Blk) (lam' : Nat → LB) (η' : List Blk) : Prop := KsW lam η lam' η' ∧ ∀ (b : Nat) (blk : Blk), b < N → η[b]? = some blk → η'[b]? = some blk
theorem KsO.refl (N : Nat) (lam : Nat → LB) (η : List Blk) : KsO N lam η lam η := ⟨.refl _ _, fun _ _ _ h => h⟩
theorem pvL_keepO {P : Program} {N : Nat} {o : Oper} {ρ : Operand → AV} {lam lam' : Nat → LB} {η η' : List Blk} {v : AV} (hk : KsO N lam η lam' η') (hs : isLoad o = false ∨ oldLoadB N ρ o = true) (h : pvL P o ρ lam η = some v) : pvL P o ρ lam' η' = some v := by
  rcases hs with hs | hs
  · exact pvL_keepW hk.1 (.inl hs) h
  by_cases hl : locLoadB ρ o = true
  · exact pvL_keepW hk.1 (.inr hl) h
  obtain ⟨dst, op, type, pos, after, guard⟩ := o
  cases op <;> simp only [oldLoadB, Bool.false_eq_true] at hs
  case load t x =>
    simp only [pvL, pv] at h ⊢
    revert h
    cases isAggB P t with
    | none => intro h; simp at h
    | some g =>
    cases szB P t with
    | none => intro h; simp at h
    | some k =>
    intro h
    cases hx : ρ x <;> rw [hx] at h hs <;> simp only [Bool.false_eq_true, decide_eq_true_eq] at h hs ⊢
    · rename_i b ver off
      cases hb : η[b]? with
      | none => rw [hb] at h; contradiction
      | some blk =>
        rw [hb] at h
        rw [hk.2 b blk hs hb]
        exact h
    · exact absurd (show locLoadB ρ _ = true by unfold locLoadB; simp only [hx]) hl
/-- A look that reads no block. -/
def noBlkB (ρ : Operand → AV) (o : Oper) : Bool :=
  match o.op with
  | .move _ => true
  | .assign _ => true
  | .pick _ _ _ => true
  | .unOp _ _ _ => true
  | .convert _ _ _ => true
  | .extract _ _ => true
  | .buildSlice _ _ _ => true
  | .load _ x => (match ρ x with
    | .loc _ _ _ => true
    | _ => false)
  | .fieldAddr _ x _ => (match ρ x with
    | .loc _ _ _ => true
    | _ => false)
  | .binOp _ _ x y _ => (match ρ x, ρ y with
    | .int _ _, .int _ _ => true
    | .bool _, .bool _ => true
    | _, _ => false)
  | _ => false
theorem noBlkB_congr {o : Oper} {ρ ρ' : Operand → AV} (h : ∀ x ∈ o.op.operands, ρ x = ρ' x) : noBlkB ρ o = noBlkB ρ' o := by
  obtain ⟨dst, op, type, pos, after, guard⟩ := o
  cases op <;> simp only [noBlkB]
  case load t x => rw [h x (by simp [Op.operands])]
  case fieldAddr t x i => rw [h x (by simp [Op.operands])]
  case binOp a t x y c => rw [h x (by simp [Op.operands]), h y (by simp [Op.operands])]
/-- What keeps locals. -/
def KsL (lam lam' : Nat → LB) : Prop := ∀ s, 0 < (lam s).ver → lam' s = lam s
theorem KsL.refl (lam : Nat → LB) : KsL lam lam := fun _ _ => rfl
theorem pvL_keepL {P : Program} {o : Oper} {ρ : Operand → AV} {lam lam' : Nat → LB} {η η' : List Blk} {v : AV} (hk : KsL lam lam') (hs : noBlkB ρ o = true) (h : pvL P o ρ lam η = some v) : pvL P o ρ lam' η' = some v := by
  obtain ⟨dst, op, type, pos, after, guard⟩ := o
  cases op <;> simp only [noBlkB, Bool.false_eq_true] at hs
  case load t x =>
    simp only [pvL, pv] at h ⊢
    revert h
    cases isAggB P t with
    | none => intro h; simp at h
    | some g =>
    cases szB P t with
    | none => intro h; simp at h
    | some k =>
    intro h
    cases hx : ρ x <;> rw [hx] at h hs <;> simp only [Bool.false_eq_true] at h hs ⊢
    rename_i sl ver off
    by_cases hc : (ver = (lam sl).ver ∧ 0 < ver) ∧ off + k ≤ (lam sl).cells.length
    · rw [hk sl (by omega)]; exact h
    · rw [if_neg hc] at h; contradiction
  case fieldAddr t x f =>
    simp only [pvL, pv] at h ⊢
    revert h
    cases fieldB P t f with
    | none => intro h; simp at h
    | some q =>
    intro h
    cases hx : ρ x <;> rw [hx] at h hs <;> simp only [Bool.false_eq_true] at h hs ⊢
    rename_i sl ver off
    by_cases hc : q.2 ≠ 0 ∧ ver = (lam sl).ver ∧ 0 < ver
    · rw [hk sl (by omega)]; exact h
    · rw [if_neg hc] at h; contradiction
  case binOp a t x y c =>
    simp only [pvL, pv] at h ⊢
    revert h hs
    cases ρ x <;> cases ρ y <;> simp only [Bool.false_eq_true, false_implies, true_implies, imp_self, reduceCtorEq]
  all_goals exact h
theorem pvL_congr {P : Program} {o : Oper} {ρ ρ' : Operand → AV} {lam : Nat → LB} {η : List Blk} (h : ∀ x ∈ o.op.operands, ρ x = ρ' x) : pvL P o ρ lam η = pvL P o ρ' lam η := by
  unfold pvL
  split
  · rfl
  · exact pv_congr h

end Go.Proofs.YtaalpmbopkbdiaaGreat
