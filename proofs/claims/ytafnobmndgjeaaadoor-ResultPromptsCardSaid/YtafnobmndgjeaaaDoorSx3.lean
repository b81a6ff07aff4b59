/- The evaluator of single operations: normal forms. Generic. -/
import Derived.Test.YtafnobmndgjeaaaDoorSx2
namespace Go.Sx
open Go

inductive FK where
  | sil
  | pure (g : Gd) (op : POp) (args : List Value)
  | raw (g : Gd) (op : PrimOp) (args : List Value)
  | load (g : Gd) (p : Value) (m : Nat)
  | split (c : Value)
  | isplit (c : Value) (n : Nat)
inductive HK where
  | call (f : FuncId) (args : List Value)
  | callv (fv : Value) (args : List Value)
  | prim (op : PrimOp) (args : List Value)
/-- The normal form of an operation that writes the slot dst: quiet; a new box; a store into a box; a call or the like; a store behind a pointer. -/
inductive NF where
  | fl (cs : List Ck) (k : FK) (X : List Value → SV)
  | box (cs : List Ck) (name : Nat) (T : TypeId) (cells : List At) (val : Nat → At)
  | stb (cs : List Ck) (n : Nat) (b : Bx)
  | hv (cs : List Ck) (k : HK) (frz own : List (Nat × Bx)) (shp : Shp) (post : List Value → List Ck) (sv : List Value → SV)
  | st (cs : List Ck) (p : Value) (vs : List Value)
/-- What it reads: own boxes by name. -/
structure FP where
  reads : List Nat := []
def FK.ch : FK → Bool
  | .pure gd _ _ | .raw gd _ _ => !gd.isEmpty
  | .load .. => true
  | _ => false
def NF.ch : NF → Bool
  | .fl _ k _ => k.ch
  | _ => false
def NF.bx : NF → Bool
  | .box .. => true
  | _ => false
def NF.hvy : NF → Bool
  | .stb .. | .hv .. | .st .. => true
  | _ => false
def NF.starW : NF → Bool
  | .hv _ (.prim ..) .. | .st .. => true
  | _ => false
def NF.writes : NF → List Nat
  | .box _ n _ _ _ => [n]
  | .stb _ n _ => [n]
  | .hv _ _ frz own _ _ _ => (frz ++ own).map (·.1)
  | _ => []

def szOf (P : Program) (t : TypeId) : Option Nat :=
  match P.info? t, P.underlying t with
  | some i, some _ => some i.size
  | _, _ => none
def isAggT (P : Program) (t : TypeId) : Bool :=
  match P.underlying t with
  | some (.struct _) | some (.array _ _) => true
  | _ => false
def zeroOf (P : Program) (t : TypeId) : Option (List At) := ((P.info? t).bind (·.zero)).map fun z => z.cells.toList.map .k
def fieldOf (P : Program) (t : TypeId) (f : Nat) : Option Field :=
  match P.underlying t with
  | some (.struct fs) => fs[f]?
  | _ => none
def mkS1 (P : Program) (t : TypeId) (cs : List At) : Option S1 :=
  if isAggT P t then some (.agg cs) else match cs with | [a] => some (.at a) | _ => none
def S1.known (x : S1) : Bool := x.cells.all At.known
def constS1 : Value → S1
  | .agg cs => .agg (cs.toList.map .k)
  | v => .at (.k v)

/-- the guard under which a value was made is the rear of the present one -/
def sufEqs (gl gl' : List (At × Bool)) : Option (List Ck) :=
  let rear := gl.drop (gl.length - gl'.length)
  if rear.length = gl'.length && (rear.zip gl').all (fun p => p.1.2 == p.2.2) then some ((rear.zip gl').map fun p => .eqV p.1.1.den p.2.1.den) else none
def opS1 (s : SS) (gl : List (At × Bool)) (x : Operand) : Option (S1 × List Ck) :=
  match x with
  | .tmp t =>
    match s.tmps t with
    | .s x => if x.known then some (x, []) else none
    | .opt gl' x => if x.known then (sufEqs gl gl').map fun c => (x, c) else none
    | .tup _ => none
  | .const v => some (constS1 v, [])
  | .global n => some (.at (.k (.pointer (some ⟨n, 0, none⟩))), [])
  | .func f => some (.at (.clo f []), [])
def opAt (s : SS) (gl : List (At × Bool)) (x : Operand) : Option (At × List Ck) :=
  match opS1 s gl x with
  | some (.at a, c) => some (a, c)
  | _ => none
def opAts (s : SS) (gl : List (At × Bool)) : List Operand → Option (List At × List Ck)
  | [] => some ([], [])
  | x :: r =>
    match opAt s gl x, opAts s gl r with
    | some (a, c), some (as, cs) => some (a :: as, c ++ cs)
    | _, _ => none
def opS1s (s : SS) (gl : List (At × Bool)) : List Operand → Option (List S1 × List Ck)
  | [] => some ([], [])
  | x :: r =>
    match opS1 s gl x, opS1s s gl r with
    | some (a, c), some (as, cs) => some (a :: as, c ++ cs)
    | _, _ => none

/-- The guard of an operation: it is run under these, or surely not. -/
inductive GR where
  | go (gl : List (At × Bool))
  | skip
  | bad
def guardOf (tgt : Nat → Option Tmp) (s : SS) (o : Oper) : GR :=
  match o.guard with
  | none => .go []
  | some (j, want) =>
    match tgt j with
    | none => .bad
    | some t =>
      match s.tmps t with
      | .s (.at (.k (.bool b))) => if b == want then .go [] else .skip
      | .s (.at (.k (.tuple _))) => .skip
      | .s (.at c) => if c.known then .go [(c, want)] else .bad
      | .opt gl (.at c) => if c.known then .go ((c, want) :: gl) else .bad
      | _ => .bad

def mkSV (gl : List (At × Bool)) (x : S1) : SV := if gl.isEmpty then .s x else .opt gl x

def plainK : At → Option Value
  | .k (.int k n) => some (.int k n)
  | .k (.bool b) => some (.bool b)
  | _ => none
def folds (op : POp) (args : List At) : Option Value :=
  (args.mapM plainK).bind (evalPure op)
def pureNF (gl : List (At × Bool)) (total : Bool) (dst : Option Tmp) (op : POp) (args : List At) (cs : List Ck) : NF :=
  match folds op args with
  | some v => .fl cs .sil (fun _ => (mkSV gl (.at (.k v))))
  | none => .fl cs (.pure (if total then [] else gden gl) op (args.map At.den)) (fun vs => (mkSV gl (.at (.v (g vs 0)))))

def bkOf (P : Program) (t : TypeId) : Option BK :=
  match P.underlying t with
  | some (.int _) => some .int
  | some .bool => some .bool
  | some .string => some .str
  | some (.slice _) => some .slice
  | some (.pointer _) => some .ptr
  | some (.map _ _) => some .map
  | some (.func _ _ _) => some .func
  | _ => none

def fillAt (cells : List At) (off : Nat) (v : List At) : List At := cells.take off ++ v ++ cells.drop (off + v.length)
/-- the parts of a composite value, laid over zeros -/
def fillParts (s : SS) (gl : List (At × Bool)) (place : Nat → Option (Nat × Nat)) : List (Nat × Operand) → List At → Option (List At × List Ck)
  | [], cells => some (cells, [])
  | (i, x) :: r, cells =>
    match place i, opS1 s gl x with
    | some (off, size), some (v, c) =>
      if v.cells.length = size && off + size ≤ cells.length && v.cells.all At.fit then
        (fillParts s gl place r (fillAt cells off v.cells)).map fun (cs, c') => (cs, c ++ c')
      else none
    | _, _ => none
def repCells (z : List At) : Nat → List At
  | 0 => []
  | n + 1 => z ++ repCells z n

/-- The own boxes that a value points to: those behind slices are given up (frozen), those behind pointers are lent. -/
def addNat (l : List Nat) (n : Nat) : List Nat := if l.contains n then l else l ++ [n]
def namesSl : List At → List Nat → List Nat
  | [], acc => acc
  | .sl n .. :: r, acc => namesSl r (addNat acc n)
  | _ :: r, acc => namesSl r acc
def namesCp : List Cp → List Nat → List Nat
  | [], acc => acc
  | .b n .. :: r, acc => namesCp r (addNat acc n)
  | _ :: r, acc => namesCp r acc
def namesP : List At → List Nat → List Nat
  | [], acc => acc
  | .p n .. :: r, acc => namesP r (addNat acc n)
  | .clo _ cs :: r, acc => namesP r (namesCp cs acc)
  | _ :: r, acc => namesP r acc
def liveBoxes (s : SS) (l : List Nat) : List (Nat × Bx) := l.filterMap fun n => (s.mem n).map fun b => (n, b)
def Bx.bv (b : Bx) : BV := ⟨b.r, b.T, b.cs.map At.den⟩
def delBoxes : List Nat → SS → SS
  | [], s => s
  | n :: r, s => delBoxes r (s.setBox n none)
/-- own boxes behind a call, by the places of their cells -/
def putB : Nat → List (Nat × Bx) → List (List Value) → SS → SS
  | _, [], _, s => s
  | i, (n, b) :: r, css, s => putB (i + 1) r css (s.setBox n (some { b with cs := atsFrom (css.getD i []) 0 b.cs.length }))
def putBoxes : List (Nat × Bx) → List (List Value) → SS → SS
  | (n, b) :: r, vs :: vss, s => putBoxes r vss (s.setBox n (some { b with cs := atsFrom vs 0 b.cs.length }))
  | _, _, s => s
/-- all boxes that are reached from atoms: first those behind slices and what they reach, which are frozen; then those behind pointers -/
def reachSl (s : SS) : Nat → List Nat → List Nat → List Nat
  | 0, r, acc => r ++ acc
  | _, [], acc => acc
  | fuel + 1, n :: r, acc =>
    if acc.contains n then reachSl s fuel r acc else
    match s.mem n with
    | none => reachSl s fuel r (acc ++ [n])
    | some b => reachSl s fuel (namesSl b.cs (namesP b.cs r)) (acc ++ [n])
def reachP (s : SS) : Nat → List Nat → List Nat → List Nat
  | 0, r, acc => r ++ acc
  | _, [], acc => acc
  | fuel + 1, n :: r, acc =>
    if acc.contains n then reachP s fuel r acc else
    match s.mem n with
    | none => reachP s fuel r (acc ++ [n])
    | some b => reachP s fuel (namesP b.cs r) (acc ++ [n])
def slOfBoxes (s : SS) : List Nat → List Nat → List Nat
  | [], acc => acc
  | n :: r, acc => slOfBoxes s r (match s.mem n with | some b => namesSl b.cs acc | none => acc)

def shpOf (P : Program) (t : TypeId) : Option Shp :=
  match P.underlying t with
  | some (.tuple ts) => some (.tup (ts.toList.map fun t => if isAggT P t then szOf P t else none))
  | some (.struct _) | some (.array _ _) => (szOf P t).map .agg
  | some _ => some .one
  | none => none

def noDup : List Nat → Bool
  | [] => true
  | n :: r => !r.contains n && noDup r
def heavyNF (s : SS) (dst : Option Tmp) (shp : Shp) (hk : HK) (atoms : List At) (cs : List Ck) : Option (NF × FP) :=
  let ps := reachP s 50 (namesP atoms []) []
  let frzN := reachSl s 50 (slOfBoxes s ps (namesSl atoms [])) []
  let ownN := ps.filter (!frzN.contains ·)
  let frz := liveBoxes s frzN
  let own := liveBoxes s ownN
  let rds := ps ++ frzN
  if (frz ++ own).all (fun p => p.2.cs.all At.known) && noDup ((frz ++ own).map (·.1)) then
    some (.hv cs hk frz own shp (fun _ => []) shp.sv, { reads := rds })
  else none

def refName : At → List Nat
  | .p n .. => [n]
  | .sl n .. => [n]
  | _ => []
/-- a pointer's place, moved on -/
def moveAt (gl : List (At × Bool)) (x : At) (o : Nat) : Option (At × List Ck) :=
  match x with
  | .p n r off => some (.p n r (off + o), [])
  | .v x => some (if o = 0 then .v x else if gl.isEmpty then .v (ptrAdd x o) else .px x o, [.ptr (gden gl) x])
  | .px x off => some (.px x (off + o), [.ptr (gden gl) x])
  | .k x => some (if o = 0 then .k x else if gl.isEmpty then .v (ptrAdd x o) else .px x o, [.ptr (gden gl) x])
  | _ => none
def loadNF (P : Program) (s : SS) (gl : List (At × Bool)) (dst : Option Tmp) (t : TypeId) (x : At) (cs : List Ck) : Option (NF × FP) :=
  (szOf P t).bind fun m =>
  let far (y : Value) : Option (NF × FP) := some (.fl cs (.load (gden gl) y m)
      (fun vs => (mkSV gl (if isAggT P t then .agg (atsFrom vs 0 m) else .at (.v (g vs 0))))), { reads := refName x })
  match x with
  | .p n r off =>
    match s.mem n with
    | some b =>
      let cells := (b.cs.drop off).take m
      if cells.length = m && cells.all At.known then
        (mkS1 P t cells).map fun v => (.fl (.eqN r b.r :: cs) .sil (fun _ => (mkSV gl v)), { reads := [n] })
      else none
    | none => if !isAggT P t && m != 1 then none else far x.den
  | .v _ | .px _ _ | .k _ => if !isAggT P t && m != 1 then none else far x.den
  | _ => none

def storeNF (P : Program) (s : SS) (t : TypeId) (x : At) (y : S1) (cs : List Ck) : Option (NF × FP) :=
  (szOf P t).bind fun m =>
  if y.cells.length ≠ m || !y.cells.all At.fit then none else
  match x with
  | .p n r off =>
    match s.mem n with
    | some b =>
      if off + m ≤ b.cs.length then
        some (.stb (.eqN r b.r :: cs) n { b with cs := fillAt b.cs off y.cells }, { reads := [n] })
      else none
    | none => none
  | .v _ | .px _ _ => if m = 0 then none else some (.st (.ptr [] x.den :: cs) x.den (y.cells.map At.den), {})
  | _ => none

def partS1 (P : Program) (t : TypeId) (cs : List At) (off : Nat) : Option S1 :=
  (szOf P t).bind fun m =>
  let l := (cs.drop off).take m
  if l.length = m then mkS1 P t l else none

def constNat : At → Option Nat
  | .k (.int _ n) => if 0 ≤ n then some n.toNat else none
  | _ => none

def indexAddrNF (P : Program) (gl : List (At × Bool)) (dst : Option Tmp) (t : TypeId) (x i : At) (cs : List Ck) : Option (NF × FP) :=
  match P.underlying t with
  | some (.array len elem) =>
    (szOf P elem).bind fun size =>
    match constNat i with
    | some n => if n < len then (moveAt gl x (n * size)).map fun (a, c) => (.fl (c ++ cs) .sil (fun _ => (mkSV gl (.at a))), {}) else none
    | none =>
      match x with
      | .p n r off => if gl.isEmpty && len ≤ 16 then some (.fl cs (.isplit i.den len) (fun vs => (.s (.at (.p n r (off + (match g vs 0 with | .int _ n => n.toNat | _ => 0) * size))))), {}) else none
      | .v _ | .px _ _ | .k _ => if len ≤ 1 then none else some (pureNF gl false dst (.pidx len size) [x, i] cs, {})
      | _ => none
  | some (.slice elem) =>
    (szOf P elem).bind fun size =>
    match x, constNat i with
    | .sl n r off len _, some k => if k < len then some (.fl cs .sil (fun _ => (mkSV gl (.at (.p n r (off + k * size))))), {}) else none
    | _, _ => some (pureNF gl false dst (.idx size) [x, i] cs, {})
  | _ => none

def sliceNF (P : Program) (gl : List (At × Bool)) (dst : Option Tmp) (t : TypeId) (x : At) (lo hi mx : Option At) (cs : List Ck) : Option (NF × FP) :=
  let rest := lo.toList ++ hi.toList ++ mx.toList
  match P.underlying t with
  | some .string => if mx.isSome then none else some (pureNF gl false dst (.sslc lo.isSome hi.isSome) (x :: rest) cs, {})
  | some (.slice elem) =>
    (szOf P elem).bind fun size =>
    match x, lo.map constNat, hi.map constNat, mx with
    | .sl n r off len cap, l, h, none =>
      match l.getD (some 0), h.getD (some len) with
      | some l, some h => if l ≤ h && h ≤ cap then some (.fl cs .sil (fun _ => (mkSV gl (.at (.sl n r (if cap = l then off else off + l * size) (h - l) (cap - l))))), {}) else none
      | _, _ => some (pureNF gl false dst (.slc size lo.isSome hi.isSome mx.isSome) (x :: rest) cs, {})
    | _, _, _, _ => some (pureNF gl false dst (.slc size lo.isSome hi.isSome mx.isSome) (x :: rest) cs, {})
  | some (.array len elem) =>
    (szOf P elem).bind fun size =>
    match x, lo.map constNat, hi.map constNat, mx with
    | .p n r off, l, h, none =>
      match l.getD (some 0), h.getD (some len) with
      | some l, some h => if l ≤ h && h ≤ len then some (.fl cs .sil (fun _ => (mkSV gl (.at (.sl n r (if len = l then off else off + l * size) (h - l) (len - l))))), {}) else none
      | _, _ => none
    | .k (.pointer (some ⟨r, off, none⟩)), l, h, none =>
      match l.getD (some 0), h.getD (some len) with
      | some l, some h => if l ≤ h && h ≤ len then some (.fl cs .sil (fun _ => (mkSV gl (.at (.k (.slice (some ⟨r, if len = l then off else off + l * size, none⟩) (h - l) (len - l)))))), {}) else none
      | _, _ => none
    | _, _, _, _ => none
  | _ => none

def capsOf : List At → Option (List Cp)
  | [] => some []
  | .p n r off :: l => (capsOf l).map (.b n r off :: ·)
  | .v x :: l => (capsOf l).map (.v x :: ·)
  | .k x :: l => (capsOf l).map (.v x :: ·)
  | _ => none

/-- pointers into the first argument's place -/
def ruleAts (x : At) : List Nat → Option (List At)
  | [] => some []
  | o :: r => match x, ruleAts x r with
    | .p n r' off, some l => some (.p n r' (off + o) :: l)
    | _, _ => none
def postEqs (vs : List Value) : List At → Nat → List Ck
  | [], _ => []
  | a :: r, i => .eqV (g vs i) a.den :: postEqs vs r (i + 1)
def plainNF (gl : List (At × Bool)) (dst : Option Tmp) (v : S1) (cs : List Ck) : Option (NF × FP) := some (.fl cs .sil (fun _ => (mkSV gl v)), {})
def boxedNF (s : SS) (gl : List (At × Bool)) (dst : Option Tmp) (name : Nat) (T : TypeId) (cells : List At) (val : Nat → At) (cs : List Ck) : Option (NF × FP) :=
  if gl.isEmpty && (s.mem name).isNone then some (.box cs name T cells val, { reads := [name] }) else none
def moveNF (s : SS) (gl : List (At × Bool)) (dst : Option Tmp) (sp : Bool) (x : Operand) : Option (NF × FP) :=
  if sp then
    if gl.isEmpty then
      (opAt s gl x).bind fun (a, cs) =>
        match a with
        | .k v => plainNF gl dst (.at (.k v)) cs
        | a => some (.fl cs (.split a.den) (fun vs => (.s (.at (.k (g vs 0))))), {})
    else none
  else
    match x with
    | .tmp t => match s.tmps t with
      | .tup l => if gl.isEmpty then some (.fl [] .sil (fun _ => (.tup l)), {}) else none
      | _ => (opS1 s gl x).bind fun (v, cs) => plainNF gl dst v cs
    | x => (opS1 s gl x).bind fun (v, cs) => plainNF gl dst v cs
def pickNF (s : SS) (gl : List (At × Bool)) (dst : Option Tmp) (c a b : Operand) : Option (NF × FP) :=
  (opAt s gl c).bind fun (c, cs) =>
    match c with
    | .k (.bool true) => (opS1 s gl a).bind fun (v, cs') => plainNF gl dst v (cs ++ cs')
    | .k (.bool false) => (opS1 s gl b).bind fun (v, cs') => plainNF gl dst v (cs ++ cs')
    | c =>
      match opAt s ((c, true) :: gl) a, opAt s ((c, false) :: gl) b with
      | some (a, ca), some (b, cb) => if a.fit && b.fit then some (pureNF gl true dst .pick [c, a, b] (cs ++ ca ++ cb), {}) else none
      | _, _ => none
def buildNF (P : Program) (s : SS) (gl : List (At × Bool)) (dst : Option Tmp) (T : TypeId) (parts : List (Nat × Operand)) : Option (NF × FP) :=
  (zeroOf P T).bind fun zero =>
    match P.underlying T with
    | some (.struct fs) =>
      (fs.toList.mapM fun f => (P.info? f.type).map fun i => (f.offset, i.size)).bind fun places =>
        (fillParts s gl (fun i => places.toArray[i]?) parts zero).bind fun (cells, cs) => plainNF gl dst (.agg cells) cs
    | some (.array _ elem) =>
      (szOf P elem).bind fun size => (fillParts s gl (fun i => some (i * size, size)) parts zero).bind fun (cells, cs) => plainNF gl dst (.agg cells) cs
    | _ => none
def buildSliceNF (P : Program) (s : SS) (gl : List (At × Bool)) (dst : Option Tmp) (name : Nat) (T : TypeId) (len : Nat) (parts : List (Nat × Operand)) : Option (NF × FP) :=
  match P.underlying T with
  | some (.slice elem) =>
    (szOf P elem).bind fun size => (zeroOf P elem).bind fun zero =>
      if zero.length = size && size ≠ 0 && len * size ≤ 65536 then
        (fillParts s gl (fun i => some (i * size, size)) parts (repCells zero len)).bind fun (cells, cs) => boxedNF s gl dst name elem cells (fun r => .sl name r 0 len len) cs
      else none
  | _ => none
def nilNF (gl : List (At × Bool)) (dst : Option Tmp) (x : At) (cs : List Ck) : Option (NF × FP) :=
  match x with
  | .p .. | .clo .. => plainNF gl dst (.at x) cs
  | .v y | .k y => plainNF gl dst (.at x) (.ptr (gden gl) y :: cs)
  | .px y _ => plainNF gl dst (.at x) (.ptr (gden gl) y :: cs)
  | _ => none
def isConst : Operand → Bool
  | .const _ => true
  | _ => false
def totalBin : BinOp → Bool
  | .quo | .rem | .shl | .shr => false
  | _ => true
def binNF (P : Program) (s : SS) (gl : List (At × Bool)) (dst : Option Tmp) (op : BinOp) (t : TypeId) (x y : Operand) : Option (NF × FP) :=
  match bkOf P t with
  | some bk => (opAts s gl [x, y]).bind fun (as, cs) => some (pureNF gl (totalBin op) dst (.bin op bk) as cs, {})
  | none =>
    match op with
    | .eql | .neq => (opS1s s gl [x, y]).bind fun (as, cs) => some (.fl cs (.raw (gden gl) (.eqv op t (isConst x || isConst y)) (as.map S1.den)) (fun vs => (mkSV gl (.at (.v (g vs 0))))), {})
    | _ => none
def unNF (P : Program) (gl : List (At × Bool)) (dst : Option Tmp) (op : UnOp) (t : TypeId) (x : At) (cs : List Ck) : Option (NF × FP) :=
  match op, P.underlying t with
  | .not, some .bool => some (pureNF gl true dst .not [x] cs, {})
  | .neg, some (.int _) => some (pureNF gl true dst .neg [x] cs, {})
  | .xor, some (.int _) => some (pureNF gl true dst .compl [x] cs, {})
  | _, _ => none
def convNF (P : Program) (s : SS) (gl : List (At × Bool)) (dst : Option Tmp) (a b : TypeId) (x : At) (cs : List Ck) : Option (NF × FP) :=
  match P.underlying a, P.underlying b with
  | some (.int _), some (.int k) => some (pureNF gl true dst (.conv k) [x] cs, {})
  | _, _ => if gl.isEmpty then heavyNF s dst .one (.prim (.convert a b) [x.den]) [x] cs else none
def ifaceNF (P : Program) (s : SS) (gl : List (At × Bool)) (dst : Option Tmp) (t : TypeId) (x : Operand) : Option (NF × FP) :=
  match P.underlying t with
  | some (.interface _) | none => none
  | some _ => (opS1 s gl x).bind fun (v, cs) => if (namesP v.cells (namesSl v.cells [])).isEmpty then plainNF gl dst (.at (.v (.iface t v.den))) cs else none
def indexNF (P : Program) (gl : List (At × Bool)) (dst : Option Tmp) (t : TypeId) (x : S1) (i : At) (cs : List Ck) : Option (NF × FP) :=
  match P.underlying t, x with
  | some (.array len elem), .agg cells =>
    (szOf P elem).bind fun size =>
      match constNat i with
      | some n => if n < len then (partS1 P elem cells (n * size)).bind fun v => plainNF gl dst v cs else none
      | none => if size = 1 && !isAggT P elem && cells.length = len && cells.all At.fit && (namesP cells (namesSl cells [])).isEmpty then some (pureNF gl false dst .aidx (i :: cells) cs, {}) else none
  | some .string, .at x => some (pureNF gl false dst .sidx [x, i] cs, {})
  | _, _ => none
def extractNF (s : SS) (gl : List (At × Bool)) (dst : Option Tmp) (x : Operand) (i : Nat) : Option (NF × FP) :=
  match x with
  | .tmp t => match s.tmps t with
    | .tup l => (l[i]?).bind fun v => if v.known then plainNF gl dst v [] else none
    | _ => none
  | _ => none
def lenNF (P : Program) (s : SS) (gl : List (At × Bool)) (dst : Option Tmp) (ty t : TypeId) (x : At) (cs : List Ck) : Option (NF × FP) :=
  match P.underlying t with
  | some (.slice _) =>
    match x with
    | .sl _ _ _ n _ => plainNF gl dst (.at (.k (goInt n))) cs
    | x => some (pureNF gl true dst .len [x] cs, {})
  | some .string => some (pureNF gl true dst .slen [x] cs, {})
  | some (.array n _) => plainNF gl dst (.at (.k (goInt n))) cs
  | some (.map _ _) => if gl.isEmpty then heavyNF s dst .one (.prim (.bi .len #[t] ty) [x.den]) [x] cs else none
  | _ => none
def capNF (P : Program) (gl : List (At × Bool)) (dst : Option Tmp) (t : TypeId) (x : At) (cs : List Ck) : Option (NF × FP) :=
  match P.underlying t with
  | some (.slice _) =>
    match x with
    | .sl _ _ _ _ n => plainNF gl dst (.at (.k (goInt n))) cs
    | x => some (pureNF gl true dst .cap [x] cs, {})
  | _ => none
def one1 {α : Type} : List α → Option α
  | [x] => some x
  | _ => none
def two2 {α : Type} : List α → Option (α × α)
  | [x, y] => some (x, y)
  | _ => none
def builtinNF (P : Program) (s : SS) (gl : List (At × Bool)) (dst : Option Tmp) (ty : TypeId) (b : Builtin) (argTypes : Array TypeId) (args : List Operand) : Option (NF × FP) :=
  match b with
  | .len => (one1 argTypes.toList).bind fun t => (one1 args).bind fun x => (opAt s gl x).bind fun (x, cs) => lenNF P s gl dst ty t x cs
  | .cap => (one1 argTypes.toList).bind fun t => (one1 args).bind fun x => (opAt s gl x).bind fun (x, cs) => capNF P gl dst t x cs
  | .min => (two2 args).bind fun (x, y) => (opAts s gl [x, y]).bind fun (as, cs) => some (pureNF gl true dst .min2 as cs, {})
  | .max => (two2 args).bind fun (x, y) => (opAts s gl [x, y]).bind fun (as, cs) => some (pureNF gl true dst .max2 as cs, {})
  | .append | .copy | .delete | .clear =>
    if gl.isEmpty then (opAts s gl args).bind fun (as, cs) => heavyNF s dst .one (.prim (.bi b argTypes ty) (as.map At.den)) as cs else none
  | _ => none
def callNF (P : Program) (okf : FuncId → Bool) (rules : FuncId → Option (List Nat)) (s : SS) (dst : Option Tmp) (ty : TypeId) (f : At) (as : List S1) (cs : List Ck) : Option (NF × FP) :=
  (shpOf P ty).bind fun shp =>
    match f with
    | .clo n caps =>
      if !okf n then (if caps.isEmpty then heavyNF s dst shp (.prim (.intr n) (as.map S1.den)) (as.flatMap S1.cells) cs else none) else
      match caps.isEmpty, rules n, one1 as with
      | true, some offs, some (.at x) =>
        (ruleAts x offs).bind fun l => if shp.isAgg l.length then
          some (.hv cs (.call n [x.den]) [] [] shp (fun vs => postEqs vs l 0) (fun _ => .s (.agg l)), {}) else none
      | _, _, _ => heavyNF s dst shp (.call n (as.map S1.den ++ caps.map Cp.den)) (f :: as.flatMap S1.cells) cs
    | .v x => heavyNF s dst shp (.callv x (as.map S1.den)) (as.flatMap S1.cells) cs
    | .k x => heavyNF s dst shp (.callv x (as.map S1.den)) (as.flatMap S1.cells) cs
    | _ => none
def primNF (s : SS) (gl : List (At × Bool)) (dst : Option Tmp) (shp : Shp) (op : PrimOp) (xs : List Operand) : Option (NF × FP) :=
  if gl.isEmpty then (opAts s gl xs).bind fun (as, cs) => heavyNF s dst shp (.prim op (as.map At.den)) as cs else none
/-- The normal form of an operation at a state. 'name': the name of the box that it may make; 'sp': must its bool be known from here on? -/
def nfGo (P : Program) (okf : FuncId → Bool) (rules : FuncId → Option (List Nat)) (sp : Bool) (name : Nat) (o : Oper) (gl : List (At × Bool)) (s : SS) : Option (NF × FP) :=
  match o.op with
  | .move x => moveNF s gl o.dst sp x
  | .assign x => moveNF s gl o.dst sp x
  | .pick c a b => pickNF s gl o.dst c a b
  | .alloc T => (zeroOf P T).bind fun cells => boxedNF s gl o.dst name T cells (fun r => .p name r 0) []
  | .box T x => (opS1 s gl x).bind fun (v, cs) => if v.cells.all At.fit then boxedNF s gl o.dst name T v.cells (fun r => .p name r 0) cs else none
  | .build T parts => buildNF P s gl o.dst T parts.toList
  | .buildSlice T len parts => buildSliceNF P s gl o.dst name T len parts.toList
  | .load t x => (opAt s gl x).bind fun (x, cs) => loadNF P s gl o.dst t x cs
  | .store t x y => if gl.isEmpty && o.dst.isNone then (opAt s gl x).bind fun (x, cs) => (opS1 s gl y).bind fun (y, cs') => storeNF P s t x y (cs ++ cs') else none
  | .nilCheck x => (opAt s gl x).bind fun (x, cs) => nilNF gl o.dst x cs
  | .binOp op t x y _ => binNF P s gl o.dst op t x y
  | .unOp op t x => (opAt s gl x).bind fun (x, cs) => unNF P gl o.dst op t x cs
  | .convert a b x => (opAt s gl x).bind fun (x, cs) => convNF P s gl o.dst a b x cs
  | .makeInterface t x => ifaceNF P s gl o.dst t x
  | .makeFunc (.func f) first caps =>
    if first.isEmpty then (opAts s gl caps.toList).bind fun (as, cs) => (capsOf as).bind fun l => plainNF gl o.dst (.at (.clo f l)) cs else none
  | .fieldAddr t x f =>
    (fieldOf P t f).bind fun fd => (szOf P fd.type).bind fun m =>
      if m = 0 then none else (opAt s gl x).bind fun (x, cs) => (moveAt gl x fd.offset).bind fun (a, c) => plainNF gl o.dst (.at a) (c ++ cs)
  | .field t x f =>
    (fieldOf P t f).bind fun fd => (opS1 s gl x).bind fun (x, cs) => (partS1 P fd.type x.cells fd.offset).bind fun v => if x.isAgg then plainNF gl o.dst v cs else none
  | .indexAddr t x i => (opAts s gl [x, i]).bind fun (as, cs) => (two2 as).bind fun (x, i) => indexAddrNF P gl o.dst t x i cs
  | .index t x i => (opS1 s gl x).bind fun (x, cs) => (opAt s gl i).bind fun (i, cs') => indexNF P gl o.dst t x i (cs ++ cs')
  | .slice t x lo hi mx =>
    (opAt s gl x).bind fun (x, c0) => (opAts s gl lo.toList).bind fun (l, c1) => (opAts s gl hi.toList).bind fun (h, c2) => (opAts s gl mx.toList).bind fun (m, c3) =>
      sliceNF P gl o.dst t x l.head? h.head? m.head? (c0 ++ c1 ++ c2 ++ c3)
  | .extract x i => extractNF s gl o.dst x i
  | .call c =>
    match c.callee with
    | .builtin b => builtinNF P s gl o.dst o.type b c.argTypes c.args.toList
    | .value f =>
      if gl.isEmpty then (opAt s gl f).bind fun (f, cs) => (opS1s s gl c.args.toList).bind fun (as, cs') => callNF P okf rules s o.dst o.type f as (cs ++ cs') else none
    | _ => none
  | .makeSlice t l c => primNF s gl o.dst .one (.makeSlice t) [l, c]
  | .makeMap t r => primNF s gl o.dst .one (.makeMap t r.isSome) r.toList
  | .lookup t x i ok => primNF s gl o.dst (if ok then .tup [none, none] else .one) (.lookup t ok) [x, i]
  | .mapUpdate t m k x => if o.dst.isNone then primNF s gl o.dst .one (.mapUpdate t) [m, k, x] else none
  | .insert t m k x => if o.dst.isNone then primNF s gl o.dst .one (.mapUpdate t) [m, k, x] else none
  | .range t x => primNF s gl o.dst .one (.range t) [x]
  | .next x str => primNF s gl o.dst (if str then .tup [none, none, none] else .tup [none, none, none]) (.next str o.type) [x]
  | _ => none
def dstOk (s : SS) : Option Tmp → Bool
  | some d => decide (d < s.sz)
  | none => true
def nf (P : Program) (okf : FuncId → Bool) (rules : FuncId → Option (List Nat)) (tgt : Nat → Option Tmp) (sp : Bool) (name : Nat) (o : Oper) (s : SS) : Option (NF × FP) :=
  if !dstOk s o.dst then none else
  match guardOf tgt s o with
  | .bad => none
  | .skip => some (.fl [] .sil (fun _ => (.s (.at (.k undef)))), {})
  | .go gl => nfGo P okf rules sp name o gl s
end Go.Sx
