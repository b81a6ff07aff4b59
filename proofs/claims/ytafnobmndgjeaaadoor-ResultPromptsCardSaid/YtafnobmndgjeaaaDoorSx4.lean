/- The evaluator of code: trees. Generic. -/
import Derived.Test.YtafnobmndgjeaaaDoorSx3
namespace Go.Sx
open Go

def iswTree (c : Value) (kk : Nat → Tree) : Nat → Nat → Tree
  | _, 0 => .stuck 901
  | i, n + 1 => .sw c i (kk i) (iswTree c kk (i + 1) n)
def chks : List Ck → Tree → Tree
  | [], t => t
  | p :: r, t => .chk p (chks r t)
def hvUpd (dst : Option Tmp) (frz own : List (Nat × Bx)) (sv : List Value → SV) (s : SS) (vs : List Value) (css : List (List Value)) : SS :=
  (putB 0 own css (delBoxes ((frz ++ own).map (·.1)) s)).set dst (sv vs)
def bvs (l : List (Nat × Bx)) : List BV := l.map (·.2.bv)
def nfTree (d : Bool) (dst : Option Tmp) (x : NF) (s : SS) (kk : SS → Tree) : Tree :=
  match x with
  | .fl cs k X => chks cs <|
    match k with
    | .sil => kk (s.set dst (X []))
    | .pure gd op args => .pure gd op args fun v => kk (s.set dst (X [v]))
    | .raw gd op args => .raw gd op args fun v => kk (s.set dst (X [v]))
    | .load gd p m => .load gd p m fun vs => kk (s.set dst (X vs))
    | .split c => .br c (kk (s.set dst (X [.bool true]))) (kk (s.set dst (X [.bool false])))
    | .isplit c n => iswTree c (fun i => kk (s.set dst (X [.int .i64 i]))) 0 n
  | .box cs n T cells val => chks cs (.newbox fun r => kk ((s.setBox n (some ⟨r, T, cells⟩)).set dst (.s (.at (val r)))))
  | .stb cs n b => chks cs (kk (s.setBox n (some b)))
  | .hv cs k frz own shp post sv => chks cs <|
    match k with
    | .call f args => .call d f args (bvs frz) (bvs own) shp fun vs css => chks (post vs) (kk (hvUpd dst frz own sv s vs css))
    | .callv fv args => .callv d fv args (bvs frz) (bvs own) shp fun vs css => chks (post vs) (kk (hvUpd dst frz own sv s vs css))
    | .prim op args => .prim op args (bvs frz) (bvs own) shp fun vs css => chks (post vs) (kk (hvUpd dst frz own sv s vs css))
  | .st cs p vs => chks cs (.store p vs (kk s))

def disj (a b : List Nat) : Bool := a.all (!b.contains ·)
def FK.isLoad : FK → Bool
  | .load .. => true
  | _ => false
def HK.isCall' : HK → Bool
  | .prim .. => false
  | _ => true
def kindOk : NF → NF → Bool
  | .hv .., .box cs .. => cs.isEmpty
  | .hv .., _ => false
  | .st .., .box .. => true
  | .st .., _ => false
  | .box .., .hv .. => false
  | .box .., .st .. => false
  | .box .., b => !b.ch
  | .fl _ k _, .hv _ hk .. => !k.isLoad || hk.isCall'
  | .fl _ k _, .st .. => !k.isLoad
  | _, _ => true
/-- May the second, which comes later in the order, be run before the first? -/
def early (a : NF) (fa : FP) (b : NF) (fb : FP) : Bool :=
  disj a.writes fb.reads && disj a.writes b.writes && disj fa.reads b.writes && kindOk a b

def heavyOp : Op → Bool
  | .alloc _ | .box _ _ | .buildSlice _ _ _ | .makeSlice _ _ _ | .makeMap _ _ | .lookup _ _ _ _ | .mapUpdate _ _ _ _ | .range _ _ | .convert _ _ _ => true
  | .call c => match c.callee with
    | .builtin .len | .builtin .cap | .builtin .min | .builtin .max => false
    | _ => true
  | _ => false
def splitList : List (Nat × Oper) → List Nat
  | [] => []
  | (i, o) :: r =>
    let S := splitList r
    match o.guard with
    | some (j, _) => if heavyOp o.op || S.contains i then (if S.contains j then S else j :: S) else S
    | none => S
def tgtOf (ops : Array Oper) (j : Nat) : Option Tmp := (ops[j]?).bind (·.dst)

/-- Classes for the order in which the operations of a drawn region are taken: quiet ones, heavy ones, new boxes. -/
def clsOf : Op → Nat
  | .alloc _ | .box _ _ | .buildSlice _ _ _ => 2
  | .store _ _ _ | .makeSlice _ _ _ | .makeMap _ _ | .lookup _ _ _ _ | .mapUpdate _ _ _ _ | .insert _ _ _ _ | .range _ _ | .next _ _ => 1
  | .call c => match c.callee with
    | .builtin .len | .builtin .cap | .builtin .min | .builtin .max => 0
    | _ => 1
  | _ => 0
def predsOf (o : Oper) : List Nat := o.after.toList.filterMap fun e => if Region.binds .any e then some e.on else none
def isReady (done : Nat) (o : Oper) : Bool := (predsOf o).all fun p => done.testBit p
def firstOf (done c : Nat) : List (Nat × Oper) → Option (Nat × Oper)
  | [] => none
  | (i, o) :: r => if clsOf o.op == c && isReady done o then some (i, o) else firstOf done c r
def dropIdx (i : Nat) : List (Nat × Oper) → List (Nat × Oper)
  | [] => []
  | (j, o) :: r => if j = i then r else (j, o) :: dropIdx i r
def schedGo : Nat → Nat → List (Nat × Oper) → List (Nat × Oper)
  | 0, _, l => l
  | fuel + 1, done, l =>
    match (firstOf done 0 l).orElse fun _ => (firstOf done 1 l).orElse fun _ => firstOf done 2 l with
    | none => l
    | some (i, o) => (i, o) :: schedGo fuel (done ||| 1 <<< i) (dropIdx i l)
def lookNat (tab : List (Nat × Nat)) (p : Nat) : Nat :=
  match tab with
  | [] => 0
  | (q, m) :: r => if q = p then m else lookNat r p
/-- what must come before: bits -/
def maskOf (tab : List (Nat × Nat)) : List Nat → Nat
  | [] => 0
  | p :: r => (1 <<< p) ||| lookNat tab p ||| maskOf tab r
def maskTab : List (Nat × Oper) → List (Nat × Nat) → List (Nat × Nat)
  | [], tab => tab
  | (i, o) :: r, tab => maskTab r ((i, maskOf tab (predsOf o)) :: tab)
def ordB (tab : List (Nat × Nat)) (a i : Nat) : Bool := (lookNat tab i).testBit a
structure Ent where
  i : Nat
  o : Oper
  x : NF
  fp : FP
def okLog (ops : Array Oper) (tab : List (Nat × Nat)) (i : Nat) (o : Oper) (x : NF) (fp : FP) (log : List Ent) : Bool :=
  log.all fun e => ordB tab e.i i || (early e.x e.fp x fp && Oper.apart ops e.o o)

/-- Behind a call and the like there may only come, unordered, new boxes that are ready now. -/
def hvOk (nfi : Nat → Oper → Option (NF × FP)) (ops : Array Oper) (tab : List (Nat × Nat)) (a : Nat) (oa : Oper) (x : NF) (fp : FP) (log : List Ent) (r : List (Nat × Oper)) : Bool :=
  match x with
  | .hv .. =>
    let U := r.filter fun k => !ordB tab a k.1
    U.all fun k =>
      match nfi k.1 k.2 with
      | some (y, fpy) => early x fp y fpy && Oper.apart ops oa k.2 && okLog ops tab k.1 k.2 y fpy log &&
        U.all fun m => m.1 == k.1 || (Oper.apart ops m.2 k.2 && match nfi m.1 m.2 with | some (z, _) => disj z.writes fpy.reads | none => false)
      | none => false
  | _ => true
def regTree (P : Program) (okf : FuncId → Bool) (rules : FuncId → Option (List Nat)) (draw : Bool) (ops : Array Oper) (tab : List (Nat × Nat)) (sp : List Nat) (base : Nat) : List (Nat × Oper) → List Ent → SS → (SS → Tree) → Tree
  | [], _, s, kk => kk s
  | (i, o) :: r, log, s, kk =>
    match nf P okf rules (tgtOf ops) (sp.contains i) (base + i) o s with
    | none => .stuck (1000 + i)
    | some (x, fp) =>
      if draw && !(okLog ops tab i o x fp log && hvOk (fun k ok => nf P okf rules (tgtOf ops) (sp.contains k) (base + k) ok s) ops tab i o x fp log r) then .stuck (2000 + i)
      else nfTree draw o.dst x s fun s' => regTree P okf rules draw ops tab sp base r (if draw then ⟨i, o, x, fp⟩ :: log else log) s' kk
def enumFrom {α : Type} (n : Nat) : List α → List (Nat × α)
  | [] => []
  | a :: r => (n, a) :: enumFrom (n + 1) r
/-- Is the order one of all operations, in which each comes behind those that must be before it? -/
def topo (n : Nat) : Nat → List (Nat × Oper) → Bool
  | done, [] => done == 2 ^ n - 1
  | done, (i, o) :: r => !done.testBit i && isReady done o && topo n (done ||| 1 <<< i) r
def regionTree (P : Program) (okf : FuncId → Bool) (rules : FuncId → Option (List Nat)) (ops : Array Oper) (draw : Bool) (s : SS) (kk : SS → Tree) : Tree :=
  let l := enumFrom 0 ops.toList
  if draw then
    let l' := schedGo ops.size 0 l
    if topo ops.size 0 l' then
      regTree P okf rules true ops (maskTab l' []) (splitList l) s.next l' [] s fun s' => kk { s' with next := s.next + ops.size }
    else .stuck 3000
  else regTree P okf rules false ops [] (splitList l) s.next l [] s fun s' => kk { s' with next := s.next + ops.size }

inductive LMode where
  | unroll (n : Nat)
  | inv (carry keep : List Nat) (boxes : List (Nat × List Nat))
structure Opts where
  okf : FuncId → Bool
  rules : FuncId → Option (List Nat)
  loop : Nat → LMode
  cut : Nat → Option (List Nat × List Nat × List (Nat × List Nat))
def firstRegion : Code → Nat
  | .region id _ _ => id
  | .seq a _ => firstRegion a
  | .block _ b => firstRegion b
  | .loop b => firstRegion b
  | .cond _ a b => match a with | .skip => firstRegion b | _ => firstRegion a
  | _ => 99999

def atOf (s : SS) (t : Nat) : At := match s.tmps t with | .s (.at a) => a | _ => .any
def boxName (s : SS) (t : Nat) : Option Nat := match atOf s t with | .p n _ _ => some n | .sl n _ _ _ _ => some n | _ => none
def idxOf (l : List Nat) (t : Nat) : Option Nat :=
  match l with
  | [] => none
  | a :: r => if a = t then some 0 else (idxOf r t).map (· + 1)
/-- own boxes that are kept over a loop's head, with the cells that turn: name, box, cells, the place of their first value -/
def headBoxes (s : SS) : List (Nat × List Nat) → Nat → List (Nat × Bx × List Nat × Nat)
  | [], _ => []
  | (t, cells) :: r, i =>
    match boxName s t with
    | none => headBoxes s r i
    | some n => match s.mem n with
      | none => headBoxes s r i
      | some b =>
        let rest := headBoxes s r (i + cells.length)
        (n, b, cells, i) :: rest.filter (fun x => x.1 != n)
def turnCells (cs : List At) (vs : List Value) : List Nat → Nat → List At
  | [], _ => cs
  | c :: r, i => turnCells (cs.set c (.v (g vs i))) vs r (i + 1)
def headSS (s : SS) (carry keep : List Nat) (hb : List (Nat × Bx × List Nat × Nat)) (vs : List Value) : SS :=
  { s with
    tmps := fun t => match idxOf carry t with | some i => .s (.at (.v (g vs i))) | none => if keep.contains t then s.tmps t else .s (.at .any)
    mem := fun n => match hb.find? (·.1 == n) with | some (_, b, cells, i) => some { b with cs := turnCells b.cs vs cells i } | none => none }
def headVals (s : SS) (carry : List Nat) (hb : List (Nat × Bx × List Nat × Nat)) : List Value :=
  carry.map (fun t => (atOf s t).den) ++ hb.flatMap fun (n, _, cells, _) => match s.mem n with | some b => cells.map fun c => (b.cs.getD c .any).den | none => []
def knownVals (s : SS) (carry : List Nat) (hb : List (Nat × Bx × List Nat × Nat)) : Bool :=
  carry.all (fun t => (atOf s t).fit) && hb.all fun (n, _, cells, _) => match s.mem n with | some b => cells.all fun c => (b.cs.getD c .any).fit | none => false
def svCells : SV → Option (List At)
  | .s x => some x.cells
  | .tup l => some (l.flatMap S1.cells)
  | .opt _ _ => none
def svLike : SV → SV → Bool
  | .s (.at _), .s (.at _) => true
  | .s (.agg a), .s (.agg b) => a.length == b.length
  | .tup a, .tup b => a.length == b.length && (a.zip b).all fun p => match p.1, p.2 with | .at _, .at _ => true | .agg a, .agg b => a.length == b.length | _, _ => false
  | _, _ => false
def maskCells (cs : List At) (cells : List Nat) : List At := (enumFrom 0 cs).map fun (i, a) => if cells.contains i then .k undef else a
def posOk : Nat → List (Nat × Bx × List Nat × Nat) → Bool
  | _, [] => true
  | p, (_, _, cells, i) :: r => i == p && posOk (p + cells.length) r
/-- back at a loop's head (h) with the state s -/
def backTree (lab : Nat) (C : List Value → Heap → Own → Prop) (carry keep : List Nat) (hb : List (Nat × Bx × List Nat × Nat)) (h s : SS) : Tree :=
  if s.sz == h.sz && posOk carry.length hb && knownVals s carry hb &&
    keep.all (fun t => (idxOf carry t).isSome || (svLike (s.tmps t) (h.tmps t) && match svCells (s.tmps t) with | some l => l.all At.known | none => false)) &&
    hb.all (fun (n, b, _, _) => match s.mem n with | some b' => b'.T == b.T && b'.cs.length == b.cs.length && b'.cs.all At.known | none => false)
  then .cont lab C (headVals s carry hb)
    ((keep.filter fun t => (idxOf carry t).isNone).map (fun t => (((svCells (s.tmps t)).getD []).map At.den, ((svCells (h.tmps t)).getD []).map At.den)) ++
     hb.map fun (n, b, cells, _) => match s.mem n with
      | some b' => (.pointer (some ⟨b'.r, 0, none⟩) :: (maskCells b'.cs cells).map At.den, .pointer (some ⟨b.r, 0, none⟩) :: (maskCells b.cs cells).map At.den)
      | none => ([], []))
  else .stuck 902

def unrollTree (f : SS → (SS → Tree) → Tree) : Nat → SS → Tree
  | 0, _ => .stuck 903
  | n + 1, s => f s fun s' => unrollTree f n s'

def sx (P : Program) (opts : Opts) : Code → SS → (SS → Tree) → (Nat → Option (SS → Tree)) → (SS → Tree) → Tree
  | .skip, s, k, _, _ => k s
  | .label _, s, k, _, _ => k s
  | .region _ ops draw, s, k, _, _ => regionTree P opts.okf opts.rules ops draw s k
  | .seq a b, s, k, X, R => sx P opts a s (fun s' => sx P opts b s' k X R) X R
  | .cond c a b, s, k, X, R =>
    let whole (s : SS) (k : SS → Tree) : Tree :=
      match opAt s [] c with
      | some (.k (.bool true), _) => sx P opts a s k X R
      | some (.k (.bool false), _) => sx P opts b s k X R
      | some (v, _) => .br v.den (sx P opts a s k X R) (sx P opts b s k X R)
      | none => .stuck 904
    match opts.cut (firstRegion (.cond c a b)) with
    | none => whole s k
    | some (carry, keep, boxes) =>
      let hb := headBoxes s boxes carry.length
      .cut s.next (firstRegion (.cond c a b)) (fun C => whole { s with next := s.next + 1 } fun s' => backTree s.next C carry keep hb s s') fun vs => k (headSS { s with next := s.next + 1 } carry keep hb vs)
  | .block id b, s, k, X, R => sx P opts b s k (fun j => if j = id then some k else X j) R
  | .exit id, s, _, X, _ => match X id with | some k => k s | none => .stuck 905
  | .ret, s, _, _, R => R s
  | .loop b, s, _, X, R =>
    match opts.loop (firstRegion b) with
    | .unroll n => unrollTree (fun s k => sx P opts b s k X R) n s
    | .inv carry keep boxes =>
      let hb := headBoxes s boxes carry.length
      if posOk carry.length hb && knownVals s carry hb then
        .loop s.next (firstRegion b) (headVals s carry hb) fun C vs =>
          sx P opts b (headSS { s with next := s.next + 1 } carry keep hb vs) (fun s' => backTree s.next C carry keep hb s s') X R
      else .stuck 906
  | _, _, _, _, _ => .stuck 907

/-- The state at a function's entry, its arguments given cell by cell. -/
def entrySVs (P : Program) : List TypeId → Nat → List Value → List SV
  | [], _, _ => []
  | T :: r, i, vs =>
    if isAggT P T then (let m := (szOf P T).getD 0; .s (.agg (atsFrom vs i m)) :: entrySVs P r (i + m) vs)
    else .s (.at (.v (g vs i))) :: entrySVs P r (i + 1) vs
def entrySS (P : Program) (fn : Func) (vs : List Value) : SS :=
  let svs := entrySVs P (fn.params.toList ++ List.replicate fn.nfree 0) 0 vs
  { sz := fn.ntmps, tmps := fun t => (svs[t]?).getD (.s (.at (.k undef))), mem := fun _ => none, next := 0 }
def resS1 (P : Program) (s : SS) : ResultVar → Option S1
  | .tmp t => match s.tmps t with
    | .s x => if x.known then some x else none
    | _ => none
  | .cell a T => match atOf s a with
    | .p n r 0 => (s.mem n).bind fun b => if b.cs.all At.known && some b.cs.length == szOf P T then mkS1 P T b.cs else none
    | _ => none
def resChk (s : SS) : ResultVar → List Ck
  | .tmp _ => []
  | .cell a _ => match atOf s a with
    | .p n r _ => (match s.mem n with | some b => [.eqN r b.r] | none => [])
    | _ => []
def resAll (P : Program) (s : SS) : List ResultVar → Option (List S1)
  | [] => some []
  | x :: r => match resS1 P s x, resAll P s r with
    | some v, some vs => some (v :: vs)
    | _, _ => none
def retTree (P : Program) (fn : Func) (s : SS) : Tree :=
  match resAll P s fn.results.toList with
  | none => .stuck 908
  | some l =>
    let atoms := l.flatMap S1.cells
    let own := liveBoxes s (reachSl s 50 (namesP atoms (namesSl atoms [])) [])
    if own.all (fun b => b.2.cs.all At.known) && noDup (own.map (·.1)) then
      chks (fn.results.toList.flatMap (resChk s)) (.ret (match l with | [v] => v.den | l => .tuple (l.map S1.den).toArray) (bvs own))
    else .stuck 909
def sxFun (P : Program) (fn : Func) (opts : Opts) (vs : List Value) : Tree :=
  match fn.body with
  | some c => sx P opts c (entrySS P fn vs) (retTree P fn) (fun _ => none) (retTree P fn)
  | none => .stuck 910
end Go.Sx
