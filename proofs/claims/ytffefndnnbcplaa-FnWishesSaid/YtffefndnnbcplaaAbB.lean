/- The abstract logic's operations: what each does to abstract values, to the locals and to the heap. -/
import Derived.Test.YtffefndnnbcplaaAbA
namespace Go.Proofs.Ytffefndnnbcplaa
open Go

/-! ### what is asked of the types -/
def isAggB (P : Program) (t : TypeId) : Option Bool :=
  match P.underlying t with
  | none => none
  | some (.struct _) => some true
  | some (.array _ _) => some true
  | some _ => some false
def szB (P : Program) (t : TypeId) : Option Nat := (P.info? t).map (·.size)
def bytesB (P : Program) (t : TypeId) : Option Nat := (P.info? t).map (·.bytes)
def zeroOf (z : Value) : Option (List AV) := match cv z with
  | .agg l => some l
  | .und => none
  | x => some [x]
def zeroB (P : Program) (t : TypeId) : Option (List AV) := (P.info? t).bind fun i => i.zero.bind zeroOf
/-- The elements' type and size of a slice type. -/
def elemB (P : Program) (t : TypeId) : Option (TypeId × Nat) :=
  match P.underlying t with
  | some (.slice e) => (szB P e).map fun s => (e, s)
  | _ => none
/-- A field's offset and size. -/
def fieldB (P : Program) (t : TypeId) (f : Nat) : Option (Nat × Nat) :=
  match P.underlying t with
  | some (.struct fs) => (fs[f]?).bind fun x => (szB P x.type).map fun s => (x.offset, s)
  | _ => none
/-- All fields' offsets and sizes. -/
def placesB (P : Program) (t : TypeId) : Option (List (Nat × Nat)) :=
  match P.underlying t with
  | some (.struct fs) => fs.toList.mapM fun f => (szB P f.type).map fun s => (f.offset, s)
  | _ => none
def intB (P : Program) (t : TypeId) : Option IntKind :=
  match P.underlying t with
  | some (.int k) => some k
  | _ => none

def boolB (P : Program) (t : TypeId) : Bool :=
  match P.underlying t with
  | some .bool => true
  | _ => false

/-- The cells of a value. -/
def cellsA : AV → List AV
  | .agg l => l
  | x => [x]

def noLoc : AV → Bool
  | .loc .. => false
  | .agg _ => false
  | .tup _ => false
  | _ => true
def noLoc1 : AV → Bool
  | .loc .. => false
  | .agg l => l.all noLoc
  | .tup _ => false
  | _ => true
/-- No address of a local in it. -/
def noLocV : AV → Bool
  | .tup l => l.all noLoc1
  | x => noLoc1 x
/-- A value that a variable can hold. -/
def plainV : AV → Bool
  | .und => false
  | .tup _ => false
  | _ => true
def noLocs (l : List AV) : Bool := l.all noLoc

def putCells (cs : List AV) (off : Nat) (vs : List AV) : List AV := cs.take off ++ vs ++ cs.drop (off + vs.length)

def fillA (place : Nat → Option (Nat × Nat)) (cells : List AV) : List (Nat × AV) → Option (List AV)
  | [] => some cells
  | (i, v) :: rest =>
    match place i with
    | none => none
    | some (off, size) => if plainV v = true ∧ (cellsA v).length = size ∧ off + size ≤ cells.length then fillA place (putCells cells off (cellsA v)) rest else none

def binI (op : BinOp) (k : IntKind) (x y : Int) : Option AV :=
  match op with
  | .add => some (.int k (k.wrap (x + y)))
  | .sub => some (.int k (k.wrap (x - y)))
  | .mul => some (.int k (k.wrap (x * y)))
  | .quo => if y = 0 then none else some (.int k (k.wrap (x.tdiv y)))
  | .rem => if y = 0 then none else some (.int k (x.tmod y))
  | .and => some (.int k (k.wrap (BitVec.ofInt k.bits x &&& BitVec.ofInt k.bits y).toNat))
  | .or => some (.int k (k.wrap (BitVec.ofInt k.bits x ||| BitVec.ofInt k.bits y).toNat))
  | .xor => some (.int k (k.wrap (BitVec.ofInt k.bits x ^^^ BitVec.ofInt k.bits y).toNat))
  | .andNot => some (.int k (k.wrap (BitVec.ofInt k.bits x &&& ~~~ BitVec.ofInt k.bits y).toNat))
  | .shl => if y < 0 then none else some (.int k (k.wrap (x * 2 ^ min y.toNat k.bits)))
  | .shr => if y < 0 then none else some (.int k (x.fdiv (2 ^ min y.toNat k.bits)))
  | .eql => some (.bool (x == y))
  | .neq => some (.bool (x != y))
  | .lss => some (.bool (decide (x < y)))
  | .leq => some (.bool (decide (x ≤ y)))
  | .gtr => some (.bool (decide (x > y)))
  | .geq => some (.bool (decide (x ≥ y)))

def intsOf : List AV → Option (List (IntKind × Int))
  | [] => some []
  | .int k n :: r => (intsOf r).map ((k, n) :: ·)
  | _ :: _ => none

/-- A struct type all of whose fields are whole numbers of one cell, in a row. -/
def plainStructB (P : Program) (t : TypeId) : Bool :=
  match P.underlying t with
  | some (.struct fs) => (List.range fs.size).all (fun i => match fs[i]? with
      | some f => f.offset == i && f.name != "_" && (match P.underlying f.type with | some (.int _) => true | _ => false)
      | none => false) && !P.stoodInHeld t && !P.eqGuardType P.depth t
  | _ => false

def nfieldsB (P : Program) (t : TypeId) : Option Nat :=
  match P.underlying t with
  | some (.struct fs) => some fs.size
  | _ => none

def sameInts (a b : List (IntKind × Int)) : Bool := a.map (·.2) == b.map (·.2)

def isPtr : AV → Bool
  | .ptr .. => true
  | _ => false
/-- Is this the block's present number? -/
def cur (η : List Blk) (b ver : Nat) : Bool :=
  match η[b]? with
  | some blk => ver == blk.ver
  | none => false
def maxStep (ρ : Operand → AV) (acc : Option AV) (y : Operand) : Option AV :=
  match acc, ρ y with
  | some (.int k a), .int _ b => some (.int k (if b > a then b else a))
  | _, _ => none
def minStep (ρ : Operand → AV) (acc : Option AV) (y : Operand) : Option AV :=
  match acc, ρ y with
  | some (.int k a), .int _ b => some (.int k (if b < a then b else a))
  | _, _ => none

/-- The number of an operation that only looks at temporaries, locals and the heap. -/
def pv (P : Program) (o : Oper) (ρ : Operand → AV) (lam : Nat → LB) (η : List Blk) : Option AV :=
  match o.op with
  | .move x => some (ρ x)
  | .assign x => some (ρ x)
  | .pick c a b => match ρ c with
    | .bool t => some (if t then ρ a else ρ b)
    | _ => none
  | .nilCheck x => match ρ x with
    | .ptr b v off => if cur η b v then some (.ptr b v off) else none
    | .loc s v off => if v = (lam s).ver ∧ 0 < v then some (.loc s v off) else none
    | _ => none
  | .build t parts => match zeroB P t, placesB P t with
    | some z, some pl => (fillA (fun i => pl[i]?) z (parts.toList.map fun p => (p.1, ρ p.2))).map .agg
    | _, _ => none
  | .load t a => match isAggB P t, szB P t, ρ a with
    | some g, some k, .loc s ver off => if (ver = (lam s).ver ∧ 0 < ver) ∧ off + k ≤ (lam s).cells.length then (if g then some (.agg (((lam s).cells.drop off).take k)) else (lam s).cells[off]?) else none
    | some g, some k, .ptr b ver off => match η[b]? with
      | some blk => if ver = blk.ver ∧ off + k ≤ blk.cells.length then (if g then some (.agg ((blk.cells.drop off).take k)) else blk.cells[off]?) else none
      | none => none
    | _, _, _ => none
  | .binOp op t x y _ => match ρ x, ρ y with
    | .int k a, .int k' b => if k = k' ∨ op = .shl ∨ op = .shr then binI op k a b else none
    | .bool a, .bool b => if boolB P t then (match op with | .eql => some (.bool (a == b)) | .neq => some (.bool (a != b)) | _ => none) else none
    | .nils, .nils => match op with | .eql => if (elemB P t).isSome then some (.bool true) else none | .neq => if (elemB P t).isSome then some (.bool false) else none | _ => none
    | .sl b ver _ _, .nils => match η[b]? with
      | some blk => if ver = blk.ver then (match op with | .eql => if (elemB P t).isSome then some (.bool false) else none | .neq => if (elemB P t).isSome then some (.bool true) else none | _ => none) else none
      | none => none
    | .agg l, .agg l' => if plainStructB P t then (match intsOf l, intsOf l', op with
        | some a, some b, .eql => if nfieldsB P t = some a.length ∧ a.map (·.1) = b.map (·.1) then some (.bool (sameInts a b)) else none
        | some a, some b, .neq => if nfieldsB P t = some a.length ∧ a.map (·.1) = b.map (·.1) then some (.bool (!sameInts a b)) else none
        | _, _, _ => none) else none
    | _, _ => none
  | .unOp op _ x => match op, ρ x with
    | .neg, .int k n => some (.int k (k.wrap (0 - n)))
    | .not, .bool b => some (.bool !b)
    | _, _ => none
  | .convert src dst x => match intB P src, intB P dst, ρ x with
    | some _, some k, .int _ n => some (.int k (k.wrap n))
    | _, _, _ => none
  | .makeFunc f first caps => match f with
    | .func g => if first.size = 0 ∧ (caps.toList.map ρ).all isPtr = true then some (.fn g (caps.toList.map ρ)) else none
    | _ => none
  | .slice t x l h none => match elemB P t, ρ x with
    | some (_, k), .sl b ver off len => match η[b]? with
      | some blk =>
        if blk.sz = k ∧ ver = blk.ver then
          match (match l with | some l => (match ρ l with | .int _ n => some n | _ => none) | none => some 0), (match h with | some h => (match ρ h with | .int _ n => some n | _ => none) | none => some (len : Int)) with
          | some i, some j => if 0 ≤ i ∧ i ≤ j ∧ j ≤ len then some (.sl b ver (off + i.toNat * k) (j.toNat - i.toNat)) else none
          | _, _ => none
        else none
      | none => none
    | _, _ => none
  | .fieldAddr t x f => match fieldB P t f, ρ x with
    | some (o, s), .ptr b ver off => if s ≠ 0 ∧ cur η b ver = true then some (.ptr b ver (off + o)) else none
    | some (o, s), .loc b ver off => if s ≠ 0 ∧ ver = (lam b).ver ∧ 0 < ver then some (.loc b ver (off + o)) else none
    | _, _ => none
  | .indexAddr t x i => match elemB P t, ρ x, ρ i with
    | some (_, k), .sl b ver off len, .int _ n => match η[b]? with
      | some blk => if ver = blk.ver ∧ 0 ≤ n ∧ n < len then some (.ptr b ver (off + n.toNat * k)) else none
      | none => none
    | _, _, _ => none
  | .extract x i => match ρ x with
    | .tup l => l[i]?
    | _ => none
  | .call c => match c.callee, c.args.toList, c.argTypes.toList with
    | .builtin .len, [x], t :: _ => match elemB P t, ρ x with
      | some _, .sl b ver _ len => match η[b]? with
        | some blk => if ver = blk.ver then some (.int .i64 len) else none
        | none => none
      | some _, .nils => some (.int .i64 0)
      | some _, .emp => some (.int .i64 0)
      | _, _ => none
    | .builtin .max, x :: r, _ => r.foldl (maxStep ρ) (match ρ x with | .int k a => some (.int k a) | _ => none)
    | .builtin .min, x :: r, _ => r.foldl (minStep ρ) (match ρ x with | .int k a => some (.int k a) | _ => none)
    | _, _, _ => none
  | _ => none

/-- A new variable: among the heap's blocks where its slot is listed in H, else a local. -/
def newVarA (H : List Nat) (dst : Option Tmp) (t : TypeId) (cells : List AV) (lam : Nat → LB) (η : List Blk) (K : AV → (Nat → LB) → List Blk → Prop) : Prop :=
  match dst with
  | none => False
  | some d => if d ∈ H then noLocs cells = true ∧ K (.ptr η.length 0 0) lam (η ++ [⟨0, t, cells.length, cells⟩])
    else K (.loc d ((lam d).ver + 1) 0) (upd lam d ⟨(lam d).ver + 1, cells⟩) η

/-- What stands in a slice, as cells. -/
def rowA (η : List Blk) (k : Nat) : AV → Option (List AV)
  | .nils => some []
  | .emp => some []
  | .sl b ver off len => match η[b]? with
    | some blk => if ver = blk.ver ∧ off + len * k ≤ blk.cells.length then some ((blk.cells.drop off).take (len * k)) else none
    | none => none
  | _ => none
def lenA : AV → Nat
  | .sl _ _ _ len => len
  | _ => 0

/-- What an operation does: its value, the locals, the heap. -/
def AEff (P : Program) (lo : Nat) (H : List Nat) (o : Oper) (ρ : Operand → AV) (lam : Nat → LB) (η : List Blk) (K : AV → (Nat → LB) → List Blk → Prop) : Prop :=
  match o.op with
  | .alloc t => match zeroB P t with
    | some z => newVarA H o.dst t z lam η K
    | none => False
  | .box t x => plainV (ρ x) = true ∧ newVarA H o.dst t (cellsA (ρ x)) lam η K
  | .store t a x => match szB P t, ρ a with
    | some k, .loc s ver off => (plainV (ρ x) = true ∧ ver = (lam s).ver ∧ (cellsA (ρ x)).length = k ∧ off + k ≤ (lam s).cells.length) ∧ K .und (upd lam s ⟨ver, putCells (lam s).cells off (cellsA (ρ x))⟩) η
    | some k, .ptr b ver off => match η[b]? with
      | some blk => (plainV (ρ x) = true ∧ lo ≤ b ∧ ver = blk.ver ∧ 0 < k ∧ (cellsA (ρ x)).length = k ∧ off + k ≤ blk.cells.length ∧ noLocs (cellsA (ρ x)) = true) ∧ K .und lam (η.set b { blk with cells := putCells blk.cells off (cellsA (ρ x)) })
      | none => False
    | _, _ => False
  | .makeSlice t l c => match elemB P t, ρ l, ρ c with
    | some (e, k), .int .i64 n, .int .i64 n' => match zeroB P e, bytesB P e with
      | some z, some by_ => (n = n' ∧ 0 ≤ n ∧ n * by_ ≤ 140737488355328 ∧ n ≤ 9223372036854775807 ∧ z.length = k) ∧ K (.sl η.length 0 0 n.toNat) lam (η ++ [⟨0, e, k, (List.replicate n.toNat z).flatten⟩])
      | _, _ => False
    | _, _, _ => False
  | .buildSlice t len parts => match elemB P t with
    | some (e, k) => if len = 0 then parts.size = 0 ∧ K .emp lam η else match zeroB P e with
      | some z => match fillA (fun i => some (i * k, k)) (List.replicate len z).flatten (parts.toList.map fun p => (p.1, ρ p.2)) with
        | some cells => (z.length = k ∧ len * k ≤ 1024 ∧ 0 < k ∧ noLocs cells = true) ∧ K (.sl η.length 0 0 len) lam (η ++ [⟨0, e, k, cells⟩])
        | none => False
      | none => False
    | none => False
  | .call c => match c.callee with
    | .value f => match ρ f with
      | .fn g caps => (c.args.toList.map ρ).all noLoc1 = true ∧ AF P lo g (c.args.toList.map ρ ++ caps) η fun v η' => K v lam η'
      | _ => False
    | .builtin .append => match c.args.toList, c.argTypes.toList with
      | [s, x], [t, t'] => match elemB P t, elemB P t' with
        | some (e, k), some (_, k') => match bytesB P e, rowA η k (ρ x) with
          | some by_, some new =>
            (k' = k ∧ 0 < k ∧ (zeroB P e).map List.length = some k ∧ noLocs new = true) ∧
            match ρ s with
            | .emp => (lenA (ρ x) * by_ ≤ 140737488355328 ∧ lenA (ρ x) ≤ 4611686018427387904) ∧ K (.sl η.length 0 0 (lenA (ρ x))) lam (η ++ [⟨0, e, k, new⟩])
            | .nils => (0 < lenA (ρ x) ∧ lenA (ρ x) * by_ ≤ 140737488355328 ∧ lenA (ρ x) ≤ 4611686018427387904) ∧ K (.sl η.length 0 0 (lenA (ρ x))) lam (η ++ [⟨0, e, k, new⟩])
            | .sl b ver off len => match η[b]? with
              | some blk => (lo ≤ b ∧ ver = blk.ver ∧ off = 0 ∧ blk.sz = k ∧ blk.ty = e ∧ len * k ≤ blk.cells.length ∧ (len + lenA (ρ x)) * by_ ≤ 140737488355328 ∧ len + lenA (ρ x) ≤ 4611686018427387904) ∧
                K (.sl b (ver + 1) 0 (len + lenA (ρ x))) lam (η.set b { blk with ver := ver + 1, cells := blk.cells.take (len * k) ++ new })
              | none => False
            | _ => False
          | _, _ => False
        | _, _ => False
      | _, _ => False
    | _ => match pv P o ρ lam η with
      | some v => K v lam η
      | none => False
  | _ => match pv P o ρ lam η with
    | some v => K v lam η
    | none => False

def put (dst : Option Tmp) (v : AV) (st : St) : St :=
  match dst with
  | some d => { st with τ := upd st.τ d v }
  | none => st

def dstOk (dst : Option Tmp) (n : Nat) : Prop :=
  match dst with
  | some d => d < n
  | none => True

def AOp (P : Program) (lo : Nat) (H : List Nat) (o : Oper) (K : St → Prop) (st : St) : Prop :=
  dstOk o.dst st.n ∧ AEff P lo H o (ev st) st.lam st.η fun v lam' η' => K (put o.dst v { st with lam := lam', η := η' })

/-- What a skipped operation leaves. -/
def skipV : AV := .tup []
/-- Is the guard met? A skipped operation's outcome meets none. -/
def yieldedA (ops : Array Oper) (st : St) (j : Nat) (want : Bool) : Option Bool :=
  match (ops[j]?).bind (·.dst) with
  | some t => match (if t < st.n then st.τ t else .und) with
    | .bool b => some (b == want)
    | .tup [] => some false
    | _ => none
  | none => none

def AOpG (P : Program) (lo : Nat) (H : List Nat) (ops : Array Oper) (o : Oper) (K : St → Prop) (st : St) : Prop :=
  match o.guard with
  | none => AOp P lo H o K st
  | some (j, want) => match yieldedA ops st j want with
    | some true => AOp P lo H o K st
    | some false => dstOk o.dst st.n ∧ K (put o.dst skipV st)
    | none => False

def AOps (P : Program) (lo : Nat) (H : List Nat) (ops : Array Oper) (K : St → Prop) : List Oper → St → Prop
  | [], st => K st
  | o :: rest, st => AOpG P lo H ops o (AOps P lo H ops K rest) st

end Go.Proofs.Ytffefndnnbcplaa
