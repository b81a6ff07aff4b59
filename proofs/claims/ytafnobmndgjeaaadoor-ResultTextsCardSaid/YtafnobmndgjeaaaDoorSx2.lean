/- Symbolic values and states, the normal forms of operations, trees. Generic. -/
import Derived.Test.YtafnobmndgjeaaaDoorSx1
import Derived.Laws.Sem
namespace Go.Sx
open Go

/-- An element of a list of values, by a short name. -/
def g (vs : List Value) (i : Nat) : Value := vs.getD i undef

def ptrAdd (x : Value) (n : Nat) : Value :=
  match x with
  | .pointer (some a) => .pointer (some (a.add n))
  | _ => undef
def isPtr : Value → Bool
  | .pointer (some _) => true
  | _ => false

inductive Cp where
  | b (n r off : Nat)
  | v (x : Value)
def Cp.den : Cp → Value
  | .b _ r off => .pointer (some ⟨r, off, none⟩)
  | .v x => x

/-- What one cell holds: nothing that is known, a constant, an opaque value, an opaque pointer moved on, a pointer into an own block (its name, its number, the cell), a slice of one, a closure. -/
inductive At where
  | any
  | k (v : Value)
  | v (x : Value)
  | px (x : Value) (off : Nat)
  | p (n r off : Nat)
  | sl (n r off len cap : Nat)
  | clo (f : Nat) (caps : List Cp)
def At.den : At → Value
  | .any => undef
  | .k x => x
  | .v x => x
  | .px x off => ptrAdd x off
  | .p _ r off => .pointer (some ⟨r, off, none⟩)
  | .sl _ r off len cap => .slice (some ⟨r, off, none⟩) len cap
  | .clo f caps => .func (.func f) #[] (caps.map Cp.den).toArray
def At.known : At → Bool
  | .any => false
  | _ => true

/-- May it lie in a cell? -/
def At.fit : At → Bool
  | .any | .px .. => false
  | .k x => x.oneCell'
  | _ => true
def At.ok : At → Prop
  | .v x => x.oneCell' = true
  | _ => True

inductive S1 where
  | at (a : At)
  | agg (l : List At)
def S1.den : S1 → Value
  | .at a => a.den
  | .agg l => .agg (l.map At.den).toArray
def S1.cells : S1 → List At
  | .at a => [a]
  | .agg l => l

def S1.isAgg : S1 → Bool
  | .agg _ => true
  | _ => false

inductive SV where
  | s (x : S1)
  | tup (l : List S1)
  | opt (gl : List (At × Bool)) (x : S1)

abbrev Gd := List (Value × Bool)
def On : Gd → Prop
  | [] => True
  | p :: r => p.1 = .bool p.2 ∧ On r
def gden (gl : List (At × Bool)) : Gd := gl.map fun p => (p.1.den, p.2)

def SV.rel : SV → Value → Prop
  | .s (.at .any), _ => True
  | .s x, v => v = x.den
  | .tup l, v => v = .tuple (l.map S1.den).toArray
  | .opt gl x, v => (On (gden gl) → v = x.den) ∧ (¬ On (gden gl) → v = undef)

structure Bx where
  r : Nat
  T : TypeId
  cs : List At
structure SS where
  sz : Nat
  tmps : Nat → SV
  mem : Nat → Option Bx
  next : Nat
def SS.set (s : SS) (d : Option Nat) (v : SV) : SS :=
  match d with
  | none => s
  | some d => { s with tmps := fun t => if t = d then v else s.tmps t }
def SS.setBox (s : SS) (n : Nat) (b : Option Bx) : SS := { s with mem := fun m => if m = n then b else s.mem m }

/-! Pure operations -/
inductive BK where
  | int | bool | str | slice | ptr | iface | map | func
def evalInt (op : BinOp) (k : IntKind) (a b : Int) : Option Value :=
  match op with
  | .add => some (.int k (k.wrap (a + b)))
  | .sub => some (.int k (k.wrap (a - b)))
  | .mul => some (.int k (k.wrap (a * b)))
  | .quo => if b = 0 then none else some (.int k (k.wrap (a.tdiv b)))
  | .rem => if b = 0 then none else some (.int k (a.tmod b))
  | .and => some (.int k (k.wrap (BitVec.ofInt k.bits a &&& BitVec.ofInt k.bits b).toNat))
  | .or => some (.int k (k.wrap (BitVec.ofInt k.bits a ||| BitVec.ofInt k.bits b).toNat))
  | .xor => some (.int k (k.wrap (BitVec.ofInt k.bits a ^^^ BitVec.ofInt k.bits b).toNat))
  | .andNot => some (.int k (k.wrap (BitVec.ofInt k.bits a &&& ~~~ BitVec.ofInt k.bits b).toNat))
  | .eql => some (.bool (a == b))
  | .neq => some (.bool (a != b))
  | .lss => some (.bool (decide (a < b)))
  | .leq => some (.bool (decide (a ≤ b)))
  | .gtr => some (.bool (decide (a > b)))
  | .geq => some (.bool (decide (a ≥ b)))
  | _ => none
def evalShift (op : BinOp) (k : IntKind) (a b : Int) : Option Value :=
  if b < 0 then none else
  match op with
  | .shl => some (.int k (k.wrap (a * 2 ^ (min b.toNat k.bits))))
  | .shr => some (.int k (a.fdiv (2 ^ (min b.toNat k.bits))))
  | _ => none
def evalStr (op : BinOp) (a b : ByteArray) : Option Value :=
  match op with
  | .add => if ((a.size + b.size : Nat) : Int) > IntKind.i64.max then none else some (.string (a ++ b))
  | .eql => some (.bool (a.toList == b.toList))
  | .neq => some (.bool (!(a.toList == b.toList)))
  | _ => none
def nilR (bk : BK) (x y : Value) : Option Bool :=
  match bk, x, y with
  | .bool, .bool a, .bool b => some (a == b)
  | .slice, .slice none _ _, .slice b _ _ => some b.isNone
  | .slice, .slice _ _ _, .slice none _ _ => some false
  | .ptr, .pointer none, .pointer b => some b.isNone
  | .ptr, .pointer _, .pointer none => some false
  | .map, .map none, .map b => some b.isNone
  | .map, .map _, .map none => some false
  | .func, .nilFunc, .nilFunc => some true
  | .func, .nilFunc, .func _ _ _ => some false
  | .func, .func _ _ _, .nilFunc => some false
  | _, _, _ => none
def evalNil (op : BinOp) (bk : BK) (x y : Value) : Option Value :=
  match op with
  | .eql => (nilR bk x y).map .bool
  | .neq => (nilR bk x y).map fun b => .bool (!b)
  | _ => none
def evalBin (op : BinOp) (bk : BK) (x y : Value) : Option Value :=
  match bk, x, y with
  | .int, .int k a, .int k' b =>
    match op with
    | .shl | .shr => evalShift op k a b
    | _ => if k = k' then evalInt op k a b else none
  | .str, .string a, .string b => evalStr op a b
  | _, _, _ => evalNil op bk x y

inductive POp where
  | bin (op : BinOp) (bk : BK)
  | not | neg | compl
  | pick
  | len | slen | cap
  | idx (size : Nat)
  | pidx (len size : Nat)
  | sidx
  | aidx
  | conv (k : IntKind)
  | slc (size : Nat) (lo hi mx : Bool)
  | sslc (lo hi : Bool)
  | min2 | max2
def evalIdx (size : Nat) (s i : Value) : Option Value :=
  match s, i with
  | .slice (some a) len _, .int _ i => if 0 ≤ i ∧ i < len then some (.pointer (some (a.add (i.toNat * size)))) else none
  | _, _ => none
def evalPidx (len size : Nat) (p i : Value) : Option Value :=
  match p, i with
  | .pointer (some a), .int _ i => if 0 ≤ i ∧ i < len then some (.pointer (some (a.add (i.toNat * size)))) else none
  | _, _ => none
def evalSidx (s i : Value) : Option Value :=
  match s, i with
  | .string s, .int _ i => (if 0 ≤ i then s[i.toNat]? else none).map fun b => .int .u8 b.toNat
  | _, _ => none
def evalAidx (i : Value) (cs : List Value) : Option Value :=
  match i with
  | .int _ i => if 0 ≤ i ∧ i < cs.length then cs[i.toNat]? else none
  | _ => none
def asI : Value → Option Int
  | .int _ i => some i
  | _ => none
def boundI (v : Value) (y : Nat) : Option Nat := (asI v).bind fun i => if 0 ≤ i ∧ i ≤ y then some i.toNat else none
def boundOr (x : Option Value) (y d : Nat) : Option Nat :=
  match x with
  | some v => boundI v y
  | none => some d
def boundHi (x : Option Value) (full : Bool) (y d : Nat) : Option Nat :=
  match x with
  | some v => boundI v y
  | none => if full then none else some d
def slcBounds (len cap : Nat) (lo hi mx : Option Value) : Option (Nat × Nat × Nat) :=
  (boundOr mx cap cap).bind fun m => (boundHi hi mx.isSome m len).bind fun h => (boundOr lo h 0).bind fun l => some (l, h, m)
def takeArgs : List Bool → List Value → List (Option Value)
  | [], _ => []
  | true :: bs, v :: vs => some v :: takeArgs bs vs
  | true :: bs, [] => none :: takeArgs bs []
  | false :: bs, vs => none :: takeArgs bs vs
def evalSlc (size : Nat) (x : Value) (lo hi mx : Option Value) : Option Value :=
  match x with
  | .slice a len cap => (slcBounds len cap lo hi mx).map fun (l, h, m) => .slice (if m = l then a else a.map (·.add (l * size))) (h - l) (m - l)
  | _ => none
def evalSslc (x : Value) (lo hi : Option Value) : Option Value :=
  match x with
  | .string s => (slcBounds s.size s.size lo hi none).map fun (l, h, _) => .string (s.extract l h)
  | _ => none
def evalPure (op : POp) (args : List Value) : Option Value :=
  match op, args with
  | .bin op bk, [x, y] => evalBin op bk x y
  | .not, [.bool b] => some (.bool (!b))
  | .neg, [.int k n] => some (.int k (k.wrap (0 - n)))
  | .compl, [.int k n] => evalInt .xor k (if k.signed then -1 else k.max) n
  | .pick, [.bool b, x, y] => some (if b then x else y)
  | .len, [.slice _ n _] => some (goInt n)
  | .slen, [.string s] => some (goInt s.size)
  | .cap, [.slice _ _ n] => some (goInt n)
  | .idx size, [s, i] => evalIdx size s i
  | .pidx len size, [p, i] => evalPidx len size p i
  | .sidx, [s, i] => evalSidx s i
  | .aidx, i :: cs => evalAidx i cs
  | .conv k, [.int _ n] => some (.int k (k.wrap n))
  | .slc size lo hi mx, x :: rest => match takeArgs [lo, hi, mx] rest with | [l, h, m] => evalSlc size x l h m | _ => none
  | .sslc lo hi, x :: rest => match takeArgs [lo, hi] rest with | [l, h] => evalSslc x l h | _ => none
  | .min2, [.int k x, .int _ y] => some (.int k (if y < x then y else x))
  | .max2, [.int k x, .int _ y] => some (.int k (if y > x then y else x))
  | _, _ => none

/-! Operations that are met by a lemma of their own -/
inductive PrimOp where
  | bi (b : Builtin) (argTypes : Array TypeId) (type : TypeId)
  | makeSlice (t : TypeId)
  | makeMap (t : TypeId) (has : Bool)
  | lookup (t : TypeId) (ok : Bool)
  | mapUpdate (t : TypeId)
  | range (t : TypeId)
  | next (str : Bool) (type : TypeId)
  | convert (src dst : TypeId)
  | eqv (op : BinOp) (t : TypeId) (const : Bool)
  | typeAssert (x a : TypeId) (ok : Bool)
  | intr (f : FuncId)
def PrimOp.sem (o : PrimOp) (args : List Value) : Sem Next :=
  let v (s : Sem Value) : Sem Next := do pure (.value (← s))
  match o, args with
  | .bi b at_ ty, args => builtin b at_ ty #[] args.toArray
  | .makeSlice t, [l, c] => v (Instr.makeSlice t l c)
  | .makeMap t false, [] => v (Instr.makeMap t none)
  | .makeMap t true, [r] => v (Instr.makeMap t (some r))
  | .lookup t ok, [m, k] => v (Instr.lookup t m k ok)
  | .mapUpdate t, [m, k, x] => do Instr.mapUpdate t m k x; pure (.value undef)
  | .range t, [x] => v (Instr.range t x)
  | .next str ty, [x] => v (Instr.next x str ty)
  | .convert a b, [x] => v (Go.convert a b x)
  | .eqv op t c, [x, y] => v (do eqGuard op t (if c then .const undef else .global 0) (.global 0) x y; binOp op t x y)
  | .typeAssert t a ok, [x] => v (Instr.typeAssert x t a ok)
  | .intr f, args => callFunc f args.toArray
  | _, _ => stuck "prim"


/-- The shape of a result. -/
inductive Shp where
  | one
  | agg (m : Nat)
  | tup (l : List (Option Nat))
def Shp.openList : List (Option Nat) → List Value → Option (List Value)
  | [], [] => some []
  | none :: r, v :: vs => (Shp.openList r vs).map (v :: ·)
  | some m :: r, .agg cs :: vs => if cs.size = m then (Shp.openList r vs).map (cs.toList ++ ·) else none
  | _, _ => none
def Shp.open : Shp → Value → Option (List Value)
  | .one, v => some [v]
  | .agg m, .agg cs => if cs.size = m then some cs.toList else none
  | .tup l, .tuple vs => Shp.openList l vs.toList
  | _, _ => none
def atsFrom (vs : List Value) (i m : Nat) : List At := (List.range m).map fun j => .v (g vs (i + j))
def Shp.svList (vs : List Value) : Nat → List (Option Nat) → List S1
  | _, [] => []
  | i, none :: r => .at (.v (g vs i)) :: Shp.svList vs (i + 1) r
  | i, some m :: r => .agg (atsFrom vs i m) :: Shp.svList vs (i + m) r
def Shp.sv (vs : List Value) : Shp → SV
  | .one => .s (.at (.v (g vs 0)))
  | .agg m => .s (.agg (atsFrom vs 0 m))
  | .tup l => .tup (Shp.svList vs 0 l)
def Shp.count : Shp → Nat
  | .one => 1
  | .agg m => m
  | .tup l => l.foldr (fun o n => o.getD 1 + n) 0

def Shp.isAgg : Shp → Nat → Bool
  | .agg m, n => m == n
  | _, _ => false

/-- An own block as it is handed to a call: its number, type, cells. -/
structure BV where
  r : Nat
  T : TypeId
  vs : List Value
def BV.obj (b : BV) : Nat × Obj := (b.r, .cells b.vs.toArray b.T (0, 0))

/-- Small checks: two numbers of blocks are one; two values are one; a pointer is not nil, where the operation is run. -/
inductive Ck where
  | eqN (a b : Nat)
  | eqV (a b : Value)
  | ptr (g : Gd) (v : Value)
def Ck.holds : Ck → Prop
  | .eqN a b => a = b
  | .eqV a b => a = b
  | .ptr g v => On g → isPtr v = true

/-- The trees: what is left of a function's text. -/
inductive Tree where
  | stuck (why : Nat)
  | ret (v : Value) (own : List BV)
  | pure (g : Gd) (op : POp) (args : List Value) (k : Value → Tree)
  | raw (g : Gd) (op : PrimOp) (args : List Value) (k : Value → Tree)
  | load (g : Gd) (p : Value) (m : Nat) (k : List Value → Tree)
  | chk (c : Ck) (t : Tree)
  | newbox (k : Nat → Tree)
  | br (v : Value) (t e : Tree)
  | sw (v : Value) (i : Nat) (t e : Tree)
  | call (d : Bool) (f : FuncId) (args : List Value) (frz own : List BV) (shp : Shp) (k : List Value → List (List Value) → Tree)
  | callv (d : Bool) (fv : Value) (args : List Value) (frz own : List BV) (shp : Shp) (k : List Value → List (List Value) → Tree)
  | prim (op : PrimOp) (args : List Value) (frz own : List BV) (shp : Shp) (k : List Value → List (List Value) → Tree)
  | store (p : Value) (vs : List Value) (t : Tree)
  | loop (lab key : Nat) (init : List Value) (body : (List Value → Heap → Own → Prop) → List Value → Tree)
  | cut (lab key : Nat) (body : (List Value → Heap → Own → Prop) → Tree) (rest : List Value → Tree)
  | cont (lab : Nat) (C : List Value → Heap → Own → Prop) (vals : List Value) (eqs : List (List Value × List Value))

/-! What a tree says -/
def Heap.insAll (H : Heap) : List BV → Heap
  | [] => H
  | b :: r => Heap.insAll (H.ins b.r b.obj.2) r
theorem Heap.le_insAll : ∀ (l : List BV) (H : Heap), Heap.le H (H.insAll l)
  | [], H => Heap.le_refl H
  | b :: r, H => Heap.le_trans (Heap.le_ins H b.r b.obj.2) (Heap.le_insAll r _)

def OwnRead (O : Own) (p : Value) (m : Nat) (vs : List Value) : Prop :=
  ∃ a cs T, p = .pointer (some a) ∧ a.spot = none ∧ (a.block, Obj.cells cs T (0, 0)) ∈ O ∧ (cs.toList.drop a.off).take m = vs ∧ vs.length = m
def Reads (H : Heap) (O : Own) (p : Value) (m : Nat) (vs : List Value) : Prop := H.read p m = some vs ∨ OwnRead O p m vs

def splice (cs : List Value) (off : Nat) (vs : List Value) : List Value := cs.take off ++ vs ++ cs.drop (off + vs.length)
def OwnStore (O : Own) (p : Value) (vs : List Value) (O' : Own) : Prop :=
  ∃ a cs T L, p = .pointer (some a) ∧ a.spot = none ∧ O.Perm ((a.block, Obj.cells cs T (0, 0)) :: L) ∧ a.off + vs.length ≤ cs.size ∧
    O' = (a.block, Obj.cells (splice cs.toList a.off vs).toArray T (0, 0)) :: L

/-- The own blocks behind a call: as many, of the same numbers and types, with new cells. -/
def newCells : List BV → List (List Value) → List BV
  | b :: bs, c :: cs => { b with vs := c } :: newCells bs cs
  | _, _ => []
def Ones : List Value → Prop
  | [] => True
  | v :: r => v.oneCell' = true ∧ Ones r
def Fits : List BV → List (List Value) → Prop
  | [], [] => True
  | b :: bs, c :: cs => c.length = b.vs.length ∧ Ones c ∧ Fits bs cs
  | _, _ => False
def Eqs : List (List Value × List Value) → Prop
  | [] => True
  | p :: r => p.1 = p.2 ∧ Eqs r

/-- A function of the program that has a text. -/
def OkFn (P : Program) (f : FuncId) : Prop := ∃ fn, P.funcs[f]? = some fn ∧ (fn.name == "runtime.NumGoroutine") = false ∧ fn.body.isNone = false
def CallD (T : Heap → Own → (Value → Heap → Own → Prop) → Prop) (d : Bool) (frz own : List BV) (shp : Shp) (K : List Value → List (List Value) → Heap → Own → Prop)
    (H : Heap) (O : Own) : Prop :=
  Cons H (frz.map BV.obj ++ (own.map BV.obj ++ O)) → ∃ H1 O1 O2 Q, (if d then H1 = H.insAll frz ∧ O1 = [] ∧ O2 = O else Ghost (H.insAll frz) O H1 (O1 ++ O2)) ∧ T H1 (own.map BV.obj ++ O1) Q ∧
    ∀ v H' O', Q v H' O' → Heap.le H1 H' → ∃ vs cs O3, shp.open v = some vs ∧ Ones vs ∧ Fits own cs ∧ O' = (newCells own cs).map BV.obj ++ O3 ∧ K vs cs H' (O3 ++ O2)

def Tree.den (P : Program) (Q : Value → Heap → Own → Prop) : Tree → Heap → Own → Prop
  | .stuck _, _, _ => False
  | .ret v own, H, O => Cons H (own.map BV.obj ++ O) → ∃ H' O', Ghost H (own.map BV.obj ++ O) H' O' ∧ Q v H' O'
  | .pure gd op args k, H, O => ∃ v, (On gd → evalPure op args = some v) ∧ (gd = [] ∨ v.oneCell' = true) ∧ (k v).den P Q H O
  | .raw gd op args k, H, O => ∃ v, (On gd → ∀ w, (op.sem args).run P w = .ok (.value v) w) ∧ v.oneCell' = true ∧ (k v).den P Q H O
  | .load gd p m k, H, O => ∃ vs, vs.length = m ∧ Ones vs ∧ (On gd → Reads H O p m vs) ∧ (k vs).den P Q H O
  | .chk c t, H, O => c.holds ∧ t.den P Q H O
  | .newbox k, H, O => ∀ r, (k r).den P Q H O
  | .br v t e, H, O => ∃ b, v = .bool b ∧ (b = true → t.den P Q H O) ∧ (b = false → e.den P Q H O)
  | .sw v i t e, H, O => ∃ kd n, v = .int kd n ∧ (n = i → t.den P Q H O) ∧ (n ≠ i → e.den P Q H O)
  | .call d f args frz own shp k, H, O => CallD (fun H1 O1 R => Triple P f args H1 O1 R) d frz own shp (fun vs cs => (k vs cs).den P Q) H O
  | .callv d fv args frz own shp k, H, O => ∃ f caps, fv = .func (.func f) #[] caps ∧ OkFn P f ∧
      CallD (fun H1 O1 R => Triple P f (args ++ caps.toList) H1 O1 R) d frz own shp (fun vs cs => (k vs cs).den P Q) H O
  | .prim op args frz own shp k, H, O => CallD (fun H1 O1 R => OpTriple P (op.sem args) H1 O1 R) false frz own shp (fun vs cs => (k vs cs).den P Q) H O
  | .store p vs t, H, O => ∃ O', OwnStore O p vs O' ∧ t.den P Q H O'
  | .loop _ _ init body, H, O => ∃ (I : List Value → Heap → Own → Prop) (μ : List Value → Heap → Own → Nat),
      (Cons H O → ∃ H1 O1, Ghost H O H1 O1 ∧ I init H1 O1) ∧
      ∀ vs H' O', vs.length = init.length → Ones vs → Heap.le H H' → I vs H' O' →
        (body (fun vs' H'' O'' => Cons H'' O'' → ∃ H3 O3, Ghost H'' O'' H3 O3 ∧ I vs' H3 O3 ∧ μ vs' H3 O3 < μ vs H' O') vs).den P Q H' O'
  | .cut _ _ body rest, H, O => ∃ R : List Value → Heap → Own → Prop,
      (body (fun vs' H'' O'' => Cons H'' O'' → ∃ H3 O3, Ghost H'' O'' H3 O3 ∧ R vs' H3 O3)).den P Q H O ∧
      ∀ vs H' O', Ones vs → Heap.le H H' → R vs H' O' → (rest vs).den P Q H' O'
  | .cont _ C vals eqs, H, O => Eqs eqs ∧ C vals H O
end Go.Sx
