/- My framework, part 3: a function's code is reckoned to a tree; what the tree says, the function does. Generic: no program in sight. -/
import Derived.Deep.AppendSrc
import Derived.Laws.BytesArg
import Derived.Laws.IdiomStrings
import Derived.Test.YtpcpmblfhlcmaaaGreatDoorFw2
namespace Go.Sx
open Go
noncomputable section
def lit : At → Option Value
 | .k v => some v
 | .v v => some v
 | _ => none
def yy (a : At) : Bool := a.known && a.fit
def mN (x : CS) (size : Nat) (a : At) : Option (List At × Nat × List Ck × List Nat) :=
 match a with
 | .sl n r off len _ =>
  match x.s.mem n with
  | some b =>
   let l := (b.cs.drop off).take (len * size)
   if l.length == len * size && l.all yy then some (l, len, [.eqN r b.r], [n]) else none
  | none => none
 | .k (.slice _ 0 _) | .v (.slice _ 0 _) => some ([], 0, [], [])
 | _ => none
def EZ (P : Program) (x : CS) (size : Nat) (t2 : TypeId) (a : At) : Option (List At × Nat × List Ck × List Nat) :=
 match P.underlying t2 with
 | some (.slice _) => mN x size a
 | some .string => match lit a with
  | some (.string s) => if size = 1 then some ((byteCells s).map .k, s.size, [], []) else none
  | _ => none
 | _ => none
def wide (l : List At) (c size : Nat) : List At := l ++ List.replicate (c * size) .any
def vG (x : CS) (e : TypeId) (size need : Nat) (known : List At) (old : List (Nat × Option Bx)) : G Upd :=
 .box fun r => .box fun c => .done ⟨some (.s (.at (.sl x.s.next r 0 need (c + need)))), (x.s.next, some ⟨r, e, wide known c size⟩) :: old,
  some (x.s.next + 1, { x.h with gr := (x.s.next, known.length, c) :: x.h.gr })⟩
def lw : At → Bool
 | .k (.slice _ 0 0) | .v (.slice _ 0 0) => true
 | _ => false
def lz (P : Program) (e : TypeId) : Nat := ((P.info? e).map (·.bytes)).getD 0
def qh (P : Program) (t e : TypeId) (size : Nat) : Bool :=
 match P.underlying t, P.info? e with
 | some (.slice e'), some i => e' == e && i.size == size && (i.zero.map fun z => z.cells.size == size).getD false && decide (0 < size)
 | _, _ => false
def GF : At → Option (Nat × Nat)
 | .sl _ _ _ len cap => some (len, cap)
 | .k (.slice _ len cap) | .v (.slice _ len cap) => some (len, cap)
 | _ => none
def fm (P : Program) (x : CS) (e : TypeId) (size : Nat) (sa : At) (news : List At) (m : Nat) (ck : List Ck) (rd : List Nat) : Option Ef :=
 if m = 0 then
  match GF sa with
  | some (len, cap) => if len ≤ cap then some ⟨ck, .done ⟨some (.s (.at (qN sa))), [], some (x.s.next, x.h)⟩, rd, [], some x.s.next⟩ else none
  | none => none
 else
 match sa with
 | .sl n r off len cap =>
  let need := len + m
  if need * lz P e > 140737488355328 || need ≥ 2 ^ 63 then none else
  match x.s.mem n with
  | none => none
  | some b =>
   let ck' := .eqN r b.r :: ck
   let rows := (b.cs.drop off).take (len * size)
   if rows.length != len * size || !rows.all yy then none else
   let inPlace : Option Ef :=
    if (b.cs.take (off + need * size)).length == off + need * size then
     some ⟨ck', .done ⟨some (.s (.at (.sl n r off need cap))), [(n, some { b with cs := dl b.cs (off + len * size) news })], some (x.s.next, x.h)⟩, n :: rd, [n], some x.s.next⟩
    else none
   match uL x.h.gr n with
   | none => if need ≤ cap then inPlace else some ⟨ck', vG x e size need (rows ++ news) [], n :: rd, [], some x.s.next⟩
   | some (k, c) =>
    if off + need * size ≤ k then (if need ≤ cap then inPlace else none)
    else if off = 0 ∧ b.T = e then
     some ⟨.eqN cap (c + len) :: ck', .eql b.cs (wide rows c size) (vG x e size need (rows ++ news) [(n, none)]), n :: rd, [n], some x.s.next⟩
    else none
 | sa =>
  if lw sa then
   if m * lz P e > 140737488355328 || m ≥ 2 ^ 63 then none else
   some ⟨ck, vG x e size m news [], rd, [], some x.s.next⟩
  else none
def rq (P : Program) (x : CS) (argTypes : Array TypeId) (args : List Operand) : Option Ef :=
 match argTypes.toList, bI x.s [] args with
 | [t, t2], some ([sa, ya], cs) =>
  match P.underlying t with
  | some (.slice e) =>
   (eP P e).bind fun size =>
   if !qh P t e size then none else
   (EZ P x size t2 ya).bind fun p => if sa.fit then fm P x e size sa p.1 p.2.1 (p.2.2.1 ++ cs) p.2.2.2 else none
  | _ => none
 | _, _ => none
def AH (P : Program) (x : CS) (argTypes : Array TypeId) (args : List Operand) : Option Ef :=
 match argTypes.toList, bI x.s [] args with
 | [t, t2], some ([da, ya], cs) =>
  match P.underlying t with
  | some (.slice e) =>
   (eP P e).bind fun size =>
   if t != t2 || !qh P t e size then none else
   (mN x size ya).bind fun (news, m, ck, rd) =>
   match da with
   | .sl n r off len _ =>
    match x.s.mem n with
    | none => none
    | some b =>
     let k := min m len
     let l := news.take (k * size)
     let old := (b.cs.drop off).take (k * size)
     if old.length != k * size then none else
     some ⟨.eqN r b.r :: ck ++ cs, .done ⟨some (.s (.at (.k (goInt k)))), [(n, some { b with cs := dl b.cs off l })], none⟩, n :: rd, [n], none⟩
   | da => if lw da then some ⟨ck ++ cs, .done ⟨some (.s (.at (.k (goInt 0)))), [], none⟩, rd, [], none⟩ else none
  | _ => none
 | _, _ => none
def ll (P : Program) (t : TypeId) : Option (TypeId × Option IntKind) :=
 match P.underlying t with
 | some (.map kt et) => some (et, match P.underlying kt with | some (.int k) => some k | _ => none)
 | _ => none
def nP (l : List (Nat × MB)) (n : Nat) : Option MB :=
 match l with
 | [] => none
 | (k, a) :: r => if n = k then some a else nP r n
def rL : List (Nat × MB) → Nat → MB → List (Nat × MB)
 | [], _, _ => []
 | (k, a) :: r, n, m => if n = k then (k, m) :: r else (k, a) :: rL r n m
def pJ (P : Program) (t : TypeId) : Bool :=
 match P.underlying t with
 | some (.map kt _) => match P.underlying kt with | some .string => true | _ => false
 | _ => false
def mz (P : Program) (x : CS) (t : TypeId) : Option Ef :=
 (ll P t).bind fun (_, k) =>
  some ⟨[], .box fun r => .done ⟨some (.s (.at (.mp x.s.next r))), [], some (x.s.next + 1, { x.h with ms := (x.s.next, ⟨r, k.getD .i64, [], if pJ P t then some [] else none⟩) :: x.h.ms })⟩, [], [], some x.s.next⟩
def BA (P : Program) (t : TypeId) : Option Value := (P.info? t).bind (·.zero)
def F6 (v : Value) : Option S1 :=
 if v.oneCell' then some (.at (.v v)) else
 match v with
 | .agg l => if l.toList.all (fun v => v.oneCell') then some (.agg (l.toList.map fun v => .v v)) else none
 | _ => none
def lj (m : FZ) (k : List UInt8) : Option Value := (m.find? fun p => k == p.1).map (·.2)
def qT (P : Program) (x : CS) (t : TypeId) (m k : Operand) (ok : Bool) : Option Ef :=
 (ll P t).bind fun (et, kk) => (BA P et).bind fun z =>
 match dh x.s [] m, dh x.s [] k with
 | some (.mp n r, cm), some (ka, ck) =>
  match lit ka, nP x.h.ms n with
  | some (.int kd i), some b =>
   if kd = b.kd ∧ b.sm = none ∧ kk.isSome = true then
    (F6 ((aP b.m i).getD z)).bind fun a =>
     some ⟨.eqN r b.r :: cm ++ ck, .done ⟨some (du (if ok then .tup [a, .at (.k (.bool (aP b.m i).isSome))] else .s a)), [], some (x.s.next, x.h)⟩, [], [], some x.s.next⟩
   else none
  | some (.string y), some b =>
   match b.sm with
   | some l => if pJ P t && ok then
     (F6 ((lj l y.data.toList).getD z)).bind fun a =>
      some ⟨.eqN r b.r :: cm ++ ck, .done ⟨some (du (.tup [a, .at (.k (.bool (lj l y.data.toList).isSome))])), [], some (x.s.next, x.h)⟩, [], [], some x.s.next⟩
    else none
   | none => none
  | _, _ => none
 | _, _ => none
def mK (P : Program) (x : CS) (t : TypeId) (m k v : Operand) : Option Ef :=
 (ll P t).bind fun (_, kk) =>
 match dh x.s [] m, bI x.s [] [k, v] with
 | some (.mp n r, cm), some ([ka, va], ck) =>
  match lit ka, lit va, nP x.h.ms n with
  | some (.int kd i), some u, some b =>
   if kd = b.kd ∧ b.sm = none ∧ u.oneCell' = true ∧ kk.isSome = true then
    some ⟨.eqN r b.r :: cm ++ ck, .done ⟨none, [], some (x.s.next, { x.h with ms := rL x.h.ms n { b with m := kY b.m i u } })⟩, [], [], some x.s.next⟩
   else none
  | some (.string y), some u, some b =>
   match b.sm with
   | some l => if pJ P t && u.oneCell' && (lj l y.data.toList).isNone then
     some ⟨.eqN r b.r :: cm ++ ck, .done ⟨none, [], some (x.s.next, { x.h with ms := rL x.h.ms n { b with sm := some (l ++ [(y.data.toList, u)]) } })⟩, [], [], some x.s.next⟩
    else none
   | none => none
  | _, _, _ => none
 | _, _ => none
def Ae (P : Program) (x : CS) (ts : Array TypeId) (args : List Operand) : Option Ef :=
 match ts.toList, bI x.s [] args with
 | [t], some ([.mp n r], cs) =>
  match P.underlying t, nP x.h.ms n with
  | some (.map _ _), some b => some ⟨.eqN r b.r :: cs, .done ⟨some (.s (.at (.k (goInt b.rows.length)))), [], some (x.s.next, x.h)⟩, [], [], some x.s.next⟩
  | _, _ => none
 | _, _ => none
def uS (P : Program) (x : CS) (ts : Array TypeId) (args : List Operand) : Option Ef :=
 match ts.toList, bI x.s [] args with
 | [t], some ([a], cs) =>
  match P.underlying t with
  | some (.slice e) =>
   (eP P e).bind fun size => (jL P e).bind fun z =>
   if z.length != size || size == 0 || !z.all yy then none else
   match a with
   | .sl n r off len _ =>
    match x.s.mem n with
    | none => none
    | some b =>
     if off + len * size ≤ b.cs.length then
      some ⟨.eqN r b.r :: cs, .done ⟨none, [(n, some { b with cs := dl b.cs off (bg z len) })], none⟩, [n], [n], none⟩
     else none
   | a => if lw a then some ⟨cs, .done ⟨none, [], none⟩, [], [], none⟩ else none
  | _ => none
 | _, _ => none
def jH : List At → Option (List UInt8)
 | [] => some []
 | .k (.int .u8 n) :: r => if 0 ≤ n ∧ n < 256 then (jH r).map (UInt8.ofNat n.toNat :: ·) else none
 | _ => none
def AI (P : Program) (x : CS) (src dst : TypeId) (y : Operand) : Option Ef :=
 match P.underlying src, P.underlying dst, dh x.s [] y with
 | some (.slice e), some .string, some (ya, cs) =>
  match P.underlying e with
  | some (.int .u8) =>
   (mN x 1 ya).bind fun (l, _, ck, rd) => (jH l).bind fun bs =>
    some ⟨ck ++ cs, .done ⟨some (.s (.at (.k (.string ⟨bs.toArray⟩)))), [], none⟩, rd, [], none⟩
  | _ => none
 | _, _, _ => none
structure Cfg where
 P : Program
 ok : FuncId → Bool
 glob : Bw
 pur : FuncId → Bool
 np : Nat
inductive PK where
 | light
 | mlen (ts : Array TypeId) (args : List Operand)
 | clear (ts : Array TypeId) (args : List Operand)
 | call (f : Operand) (args : List Operand)
 | app (ts : Array TypeId) (args : List Operand)
 | copy (ts : Array TypeId) (args : List Operand)
 | mkmap (t : TypeId)
 | lookup (t : TypeId) (m k : Operand) (ok : Bool)
 | update (t : TypeId) (m k v : Operand)
 | conv (a b : TypeId) (y : Operand)
 | mks (t : TypeId) (l c : Operand)
def Bi (P : Program) (t : TypeId) : Bool := match P.underlying t with | some (.int _) => true | _ => false
def FI (P : Program) (t : TypeId) : Bool := match P.underlying t with | some (.map _ _) => true | _ => false
def Be (P : Program) (o : Op) : PK :=
 match o with
 | .call c => match c.callee with
  | .value f => .call f c.args.toList
  | .builtin .append => .app c.argTypes c.args.toList
  | .builtin .clear => .clear c.argTypes c.args.toList
  | .builtin .len => if FI P (c.argTypes.toList.headD 0) then .mlen c.argTypes c.args.toList else .light
  | .builtin .copy => .copy c.argTypes c.args.toList
  | _ => .light
 | .makeMap t none => .mkmap t
 | .lookup t m k ok => .lookup t m k ok
 | .mapUpdate t m k v => .update t m k v
 | .insert t m k v => .update t m k v
 | .makeSlice t l c => .mks t l c
 | .convert a b y => if Bi P a && Bi P b then .light else .conv a b y
 | _ => .light
def F8 (c : Cfg) (ops : Array Oper) (name : Nat) (o : Oper) (x : CS) (t : TypeId) (l k : Operand) : Option Ef :=
 match dh x.s [] l, dh x.s [] k with
 | some (.k lv, _), some (.k kv, _) => (nf c.P (fun _ => false) (fun _ => none) (aJ ops) false name { o with op := .makeSlice t (.const lv) (.const kv) } x.s).bind fun p => En c.P c.glob p.1 p.2
 | _, _ => none
def dW (c : Cfg) (call : dj) (ops : Array Oper) (name : Nat) (o : Oper) (x : CS) : PK → Option Ef
 | .light => none
 | .call f args => ow c.P c.np c.pur c.ok call x f args
 | .mlen ts args => Ae c.P x ts args
 | .clear ts args => if o.dst.isNone then uS c.P x ts args else none
 | .app ts args => rq c.P x ts args
 | .copy ts args => AH c.P x ts args
 | .mkmap t => mz c.P x t
 | .lookup t m k ok => qT c.P x t m k ok
 | .update t m k v => if o.dst.isNone then mK c.P x t m k v else none
 | .conv a b y => AI c.P x a b y
 | .mks t l k => F8 c ops name o x t l k
def PK.isLight : PK → Bool
 | .light => true
 | _ => false
abbrev NFF := Program → (FuncId → Bool) → (FuncId → Option (List Nat)) → Bool → Nat → Oper → List (At × Bool) → SS → Option (NF × FP)
def Fz (op : Op) : NFF :=
 Op.rec (motive := fun _ => NFF)
  (move := fun x P okf rules sp name o gl s =>
   ia s gl o.dst sp x)
  (assign := fun x P okf rules sp name o gl s =>
   ia s gl o.dst sp x)
  (pick := fun c a b P okf rules sp name o gl s =>
   ny s gl o.dst c a b)
  (alloc := fun T P okf rules sp name o gl s =>
   (jL P T).bind fun cells => d5 s gl o.dst name T cells (fun r => .p name r 0) [])
  (box := fun T x P okf rules sp name o gl s =>
   (gP s gl x).bind fun (v, cs) => if v.cells.all At.fit then d5 s gl o.dst name T v.cells (fun r => .p name r 0) cs else none)
  (build := fun T parts P okf rules sp name o gl s =>
   jI P s gl o.dst T parts.toList)
  (buildSlice := fun T len parts P okf rules sp name o gl s =>
   cF P s gl o.dst name T len parts.toList)
  (insert := fun t m k x P okf rules sp name o gl s =>
   if o.dst.isNone then cL s gl o.dst .one (.mapUpdate t) [m, k, x] else none)
  (load := fun t x P okf rules sp name o gl s =>
   (dh s gl x).bind fun (x, cs) => j7 P s gl o.dst t x cs)
  (store := fun t x y P okf rules sp name o gl s =>
   if gl.isEmpty && o.dst.isNone then (dh s gl x).bind fun (x, cs) => (gP s gl y).bind fun (y, cs') => ga P s t x y (cs ++ cs') else none)
  (ready := fun _ _ _ _ _ _ _ _ _ => none)
  (waits := fun _ _ _ _ _ _ _ _ _ => none)
  (nilCheck := fun x P okf rules sp name o gl s =>
   (dh s gl x).bind fun (x, cs) => Ac gl o.dst x cs)
  (binOp := fun op t x y _ P okf rules sp name o gl s =>
   s4 P s gl o.dst op t x y)
  (unOp := fun op t x P okf rules sp name o gl s =>
   (dh s gl x).bind fun (x, cs) => F3 P gl o.dst op t x cs)
  (convert := fun a b x P okf rules sp name o gl s =>
   (dh s gl x).bind fun (x, cs) => oq P s gl o.dst a b x cs)
  (sliceToArrayPointer := fun _ _ _ _ _ _ _ _ _ _ => none)
  (makeInterface := fun t x P okf rules sp name o gl s =>
   jw P s gl o.dst t x)
  (makeFunc := fun xf first caps P okf rules sp name o gl s =>
   match xf with
    | .func f =>    if first.isEmpty then (bI s gl caps.toList).bind fun (as, cs) => (kn as).bind fun l => aS gl o.dst (.at (.clo f l)) cs else none
    | _ => none)
  (makeMap := fun t r P okf rules sp name o gl s =>
   cL s gl o.dst .one (.makeMap t r.isSome) r.toList)
  (makeChan := fun _ _ _ _ _ _ _ _ _ _ => none)
  (makeSlice := fun t l c P okf rules sp name o gl s =>
   cD P s gl o.dst name t l c)
  (slice := fun t x lo hi mx P okf rules sp name o gl s =>
   (dh s gl x).bind fun (x, c0) => (bI s gl lo.toList).bind fun (l, c1) => (bI s gl hi.toList).bind fun (h, c2) => (bI s gl mx.toList).bind fun (m, c3) =>
     qw P gl o.dst t x l.head? h.head? m.head? (c0 ++ c1 ++ c2 ++ c3))
  (fieldAddr := fun t x f P okf rules sp name o gl s =>
   (jz P t f).bind fun fd => (eP P fd.type).bind fun m =>
     if m = 0 then none else (dh s gl x).bind fun (x, cs) => (so gl x fd.offset).bind fun (a, c) => aS gl o.dst (.at a) (c ++ cs))
  (field := fun t x f P okf rules sp name o gl s =>
   (jz P t f).bind fun fd => (gP s gl x).bind fun (x, cs) => (jW P fd.type x.cells fd.offset).bind fun v => if x.isAgg then aS gl o.dst v cs else none)
  (indexAddr := fun t x i P okf rules sp name o gl s =>
   (bI s gl [x, i]).bind fun (as, cs) => (EY as).bind fun (x, i) => gn P gl o.dst t x i cs)
  (index := fun t x i P okf rules sp name o gl s =>
   (gP s gl x).bind fun (x, cs) => (dh s gl i).bind fun (i, cs') => qV P gl o.dst t x i (cs ++ cs'))
  (lookup := fun t x i ok P okf rules sp name o gl s =>
   cL s gl o.dst (if ok then .tup [none, none] else .one) (.lookup t ok) [x, i])
  (mapUpdate := fun t m k x P okf rules sp name o gl s =>
   if o.dst.isNone then cL s gl o.dst .one (.mapUpdate t) [m, k, x] else none)
  (mapEntry := fun _ _ _ _ _ _ _ _ _ _ _ => none)
  (entryStore := fun _ _ _ _ _ _ _ _ _ _ _ _ => none)
  (range := fun t x P okf rules sp name o gl s =>
   cL s gl o.dst .one (.range t) [x])
  (next := fun x str P okf rules sp name o gl s =>
   cL s gl o.dst (if str then .tup [none, none, none] else .tup [none, none, none]) (.next str o.type) [x])
  (entry := fun x P okf rules sp name o gl s =>
   cL s gl o.dst (.tup [none, none]) .entry [x])
  (typeAssert := fun _ _ _ _ _ _ _ _ _ _ _ _ => none)
  (extract := fun x i P okf rules sp name o gl s =>
   cQ s gl o.dst x i)
  (call := fun c P okf rules sp name o gl s =>
   match c.callee with
    | .builtin b => eN P s gl o.dst o.type b c.argTypes c.args.toList
    | .value f =>
     if gl.isEmpty then (dh s gl f).bind fun (f, cs) => (fA s gl c.args.toList).bind fun (as, cs') => ox P okf rules s o.dst o.type f as (cs ++ cs') else none
    | .invoke r m =>
     if gl.isEmpty then (dh s gl r).bind fun (x, cs) => (fA s gl c.args.toList).bind fun (as, cs') => nL P s o.dst o.type m x as (cs ++ cs') else none)
  (go := fun _ _ _ _ _ _ _ _ _ => none)
  (defer := fun _ _ _ _ _ _ _ _ _ => none)
  (panic := fun _ _ _ _ _ _ _ _ _ => none)
  (send := fun _ _ _ _ _ _ _ _ _ _ => none)
  (recv := fun _ _ _ _ _ _ _ _ _ _ _ => none)
  (select := fun _ _ _ _ _ _ _ _ _ _ => none)
  op
theorem Ad (P : Program) (okf : FuncId → Bool) (rules : FuncId → Option (List Nat)) (sp : Bool) (name : Nat) (o : Oper) (gl : List (At × Bool)) (s : SS) : Fz o.op P okf rules sp name o gl s = vW P okf rules sp name o gl s := by
 unfold vW
 cases o.op with
 | makeFunc f first caps => cases f <;> rfl
 | _ => rfl
def nfF (P : Program) (okf : FuncId → Bool) (rules : FuncId → Option (List Nat)) (tgt : Nat → Option Tmp) (sp : Bool) (name : Nat) (o : Oper) (s : SS) : Option (NF × FP) :=
 if !kh s o.dst then none else
 match ar tgt s o with
 | .bad => none
 | .skip => some (.fl [] .sil (fun _ => (.s (.at (.k undef)))), {})
 | .go gl => Fz o.op P okf rules sp name o gl s
theorem FA (P : Program) (okf : FuncId → Bool) (rules : FuncId → Option (List Nat)) (tgt : Nat → Option Tmp) (sp : Bool) (name : Nat) (o : Oper) (s : SS) : nfF P okf rules tgt sp name o s = nf P okf rules tgt sp name o s := by
 unfold nfF nf
 cases kh s o.dst with
 | false => rfl
 | true =>
  simp only [Bool.not_true, Bool.false_eq_true, if_false]
  cases ar tgt s o with
  | bad => rfl
  | skip => rfl
  | go gl => exact Ad P okf rules sp name o gl s
theorem tJ : nfF = nf := by
 funext P okf rules tgt sp name o s
 exact FA P okf rules tgt sp name o s
def cN (c : Cfg) (call : dj) : NF1 := fun ops base i o x =>
 let pk := Be c.P o.op
 if pk.isLight then (nfF c.P (fun _ => false) (fun _ => none) (aJ ops) false (base + i) o x.s).bind fun p => En c.P c.glob p.1 p.2
 else if !kh x.s o.dst then none else
 match ar (aJ ops) x.s o with
 | .skip => some ⟨[], .done ⟨some (.s (.at (.k undef))), [], none⟩, [], [], none⟩
 | .go [] => dW c call ops (base + i) o x pk
 | _ => none
def F7 (c : Cfg) (depth loops : Nat) : dj := FU c.P (cN c) loops depth
end
noncomputable section
variable {P : Program}
theorem jE {hi : Nat} {F : Own} {x : CS} {H : Heap} {O : Own} {a : Act} {w w' : World} {dst : Option Tmp} {v : Value} {sv : SV} {u : Upd} {nx : Nat} {h' : HS} {L' O' : Own}
  (hc : Conc F x.s H O a w) (hd : ∀ d, dst = some d → d < x.s.sz) (hrel : sv.rel v) (hsok : sv.ok) (hv : dst = none ∨ u.val = some (du sv)) (hu : u.hv = some (nx, h'))
  (hok : ∀ n b, (x.app dst u).s.mem n = some b → ∀ a, a ∈ b.cs → a.ok) (hB : Boxes (x.app dst u).s.mem L') (hM : oN h'.ms O') (hm : Models w' H (L' ++ (O' ++ F)))
  (hf : ∀ n, nx ≤ n → (x.app dst u).s.mem n = none) (hn : hi ≤ nx) : CC hi F (x.app dst u) H (a.put dst v) w' := by
 have hnx : (x.app dst u).s.next = nx := by simp only [CS.app, hu]
 have hhx : (x.app dst u).h = h' := by simp only [CS.app, hu]
 refine ⟨⟨O', by rw [hhx]; exact hM, ?_⟩, fun n h => hf n (by rw [hnx] at h; exact h), by rw [hnx]; exact hn⟩
 have hput : Conc F (x.s.set dst sv) H O (a.put dst v) w := hc.put hd hrel hsok
 have htm : ∀ t, ((x.app dst u).s.tmps t) = (x.s.set dst sv).tmps t ∨ ((x.app dst u).s.tmps t) = du ((x.s.set dst sv).tmps t) := by
  intro t
  cases dst with
  | none => left; simp [CS.app, o6, SS.set]
  | some d =>
   have hv1 : u.val = some (du sv) := hv.resolve_left (by simp)
   by_cases e : t = d
   ·right; subst e; simp [CS.app, SS.set, hv1, nn]
   ·left; simp [CS.app, o6, SS.set, e, hv1]
 refine ⟨⟨fun t => ?_, hok⟩, hput.df, ?_, fun t => ?_, L', hB, hm⟩
 ·rcases htm t with e | e
  ·rw [e]; exact hput.ok.1 t
  ·rw [e]; exact qJ (hput.ok.1 t)
 ·rw [hput.sz]; cases dst <;> rfl
 ·rcases htm t with e | e
  ·rw [e]; exact hput.tm t
  ·rw [e]; exact nF (hput.tm t)
theorem ou {hi : Nat} {F : Own} {x : CS} {H : Heap} {O : Own} {a : Act} {w : World} {dst : Option Tmp} {v : Value} {sv : SV} (hM : oN x.h.ms O)
  (hc : Conc F x.s H O a w) (hd : ∀ d, dst = some d → d < x.s.sz) (hrel : sv.rel v) (hsok : sv.ok) (hf : ∀ n, x.s.next ≤ n → x.s.mem n = none) (hn : hi ≤ x.s.next) :
  CC hi F (x.app dst ⟨some (du sv), [], some (x.s.next, x.h)⟩) H (a.put dst v) w := by
 obtain ⟨L, hB, hm⟩ := hc.mm
 exact jE (u := ⟨some (du sv), [], some (x.s.next, x.h)⟩) hc hd hrel hsok (.inr rfl) rfl hc.ok.2 hB hM hm hf hn
theorem eQ {ops : Array Oper} {o : Oper} {s : SS} {F : Own} {H : Heap} {O : Own} {a : Act} {w w' : World} {v : Value} {K : Act → World → Prop} {Q : Exit → Act → World → Prop}
  (hc : Conc F s H O a w) (hg : ar (aJ ops) s o = .go []) (hrun : (execOp a.eval o).run P w = .ok (.value v) w') (hk : K (a.put o.dst v) w') : wp1 P ops Q o K a w := by
 unfold wp1
 rw [if_pos ((dS hc hg).2 trivial)]
 refine .inl ?_
 unfold Oper.wp
 rw [hrun, Oper.upon_value]
 exact hk
theorem uo {ops : Array Oper} {o : Oper} {s : SS} {F : Own} {H : Heap} {O : Own} {a : Act} {w w' : World} {K : Act → World → Prop} {Q : Exit → Act → World → Prop}
  (hc : Conc F s H O a w) (hg : ar (aJ ops) s o = .go []) (hrun : (execOp a.eval o).run P w = .ok .skip w') (hk : K (a.put o.dst undef) w') : wp1 P ops Q o K a w := by
 unfold wp1
 rw [if_pos ((dS hc hg).2 trivial)]
 refine .inl ?_
 unfold Oper.wp
 rw [hrun, Oper.upon_skip]
 exact hk
theorem iO {w : World} {H : Heap} {r : Nat} {vs vs' : List Value} {T : TypeId} {O : Own} (hm : Models w H ((r, .cells vs.toArray T (0, 0)) :: O)) : Models (w.setRow r vs'.toArray) H ((r, .cells vs'.toArray T (0, 0)) :: O) := by
 have hr := (hm.own (r, .cells vs.toArray T (0, 0)) (by simp)).1
 refine hm.update (fun b hb => ?_) (setRow_heap w r _ _ _ _ hr) rfl
 simp only [World.setRow, Array.getElem?_modify]
 rw [if_neg (fun e => hb e.symm)]
theorem ib {w : World} {H : Heap} {O : Own} (hm : Models w H O) (cs : Array Value) (e : TypeId) : Models (w.drew.alloc (.cells cs e)) H ((w.heap.size, .cells cs e (0, 0)) :: O) := by
 have h1 : Models w.drew H O := hm.same rfl rfl
 exact (h1.push (.cells cs e (0, 0)))
theorem ke {l : List At} (h : l.all yy = true) : l.all At.known = true ∧ ∀ a ∈ l, a.fit = true := by
 rw [List.all_eq_true] at h
 refine ⟨List.all_eq_true.2 fun a ha => ?_, fun a ha => ?_⟩
 ·have := h a ha
  simp only [yy, Bool.and_eq_true] at this
  exact this.1
 ·have := h a ha
  simp only [yy, Bool.and_eq_true] at this
  exact this.2
theorem rk {F : Own} {s : SS} {H : Heap} {O : Own} {a : Act} {w : World} (hc : Conc F s H O a w) {n : Nat} {b : Bx} (hb : s.mem n = some b) {off m : Nat} (hl : ((b.cs.drop off).take m).length = m) (hk : ((b.cs.drop off).take m).all yy = true) :
  (∀ j v, (((b.cs.drop off).take m).map At.den)[j]? = some v → w.cell? ((⟨b.r, off, none⟩ : Addr).add j) = some v) ∧ ∀ v ∈ ((b.cs.drop off).take m).map At.den, v.oneCell' = true := by
 obtain ⟨vs, hv, hr⟩ := rc hc hb
 obtain ⟨h1, h2⟩ := ke hk
 have e := CellsRel.known ((hv.drop off).take m) h1
 refine ⟨fun j v hj => ?_, fun v hv => ?_⟩
 ·rw [← e] at hj
  exact fj hr off j v hj
 ·obtain ⟨a', ha, rfl⟩ := List.mem_map.1 hv
  exact At.fit_one (h2 a' ha) (hc.ok.2 n b hb a' (List.mem_of_mem_drop (List.mem_of_mem_take ha)))
theorem ju {a : At} {v : Value} (h : lit a = some v) : a.den = v := by
 cases a <;> simp [lit] at h <;> subst h <;> rfl
theorem rJ {F : Own} {x : CS} {H : Heap} {O : Own} {a : Act} {w : World} (hc : Conc F x.s H O a w) {t2 e' : TypeId} (ht2 : P.underlying t2 = some (.slice e')) {size : Nat} {ya : At} {news : List At} {m : Nat} {ck : List Ck} {rd : List Nat}
  (h : mN x size ya = some (news, m, ck, rd)) (hck : AllCk ck) : Src P size t2 ya.den m (news.map At.den) w ∧ news.length = m * size ∧ news.all yy = true ∧ ∀ a ∈ news, a.ok := by
 unfold mN at h
 split at h
 ·rename_i n r off len cap
  split at h
  ·rename_i b hb
   simp only [] at h
   split at h
   ·rename_i hcond
    simp only [Bool.and_eq_true, beq_iff_eq] at hcond
    simp only [Option.some.injEq, Prod.mk.injEq] at h
    obtain ⟨rfl, rfl, rfl, rfl⟩ := h
    have hr : r = b.r := hck.1
    subst hr
    obtain ⟨h1, h2⟩ := rk hc hb hcond.1 hcond.2
    refine ⟨?_, hcond.1, hcond.2, fun a' ha => hc.ok.2 n b hb a' (List.mem_of_mem_drop (List.mem_of_mem_take ha))⟩
    exact Src.ofSlice w ht2 ⟨b.r, off, none⟩ len cap _ (by rw [List.length_map]; exact hcond.1) h1 h2
   ·simp at h
  ·simp at h
 ·rename_i va vc
  simp only [Option.some.injEq, Prod.mk.injEq] at h
  obtain ⟨rfl, rfl, rfl, rfl⟩ := h
  refine ⟨?_, by simp, rfl, by simp⟩
  cases va with
  | none => exact Src.ofNil w ht2 vc
  | some ad => exact Src.ofSlice w ht2 ad 0 vc [] (by simp) (by simp) (by simp)
 ·rename_i va vc
  simp only [Option.some.injEq, Prod.mk.injEq] at h
  obtain ⟨rfl, rfl, rfl, rfl⟩ := h
  refine ⟨?_, by simp, rfl, by simp⟩
  cases va with
  | none => exact Src.ofNil w ht2 vc
  | some ad => exact Src.ofSlice w ht2 ad 0 vc [] (by simp) (by simp) (by simp)
 ·simp at h
theorem jR {F : Own} {x : CS} {H : Heap} {O : Own} {a : Act} {w : World} (hc : Conc F x.s H O a w) {t2 : TypeId} {size : Nat} {ya : At} {news : List At} {m : Nat} {ck : List Ck} {rd : List Nat}
  (h : EZ P x size t2 ya = some (news, m, ck, rd)) (hck : AllCk ck) : Src P size t2 ya.den m (news.map At.den) w ∧ news.length = m * size ∧ news.all yy = true ∧ ∀ a ∈ news, a.ok := by
 unfold EZ at h
 split at h
 ·rename_i e' ht; exact rJ hc ht h hck
 ·rename_i ht
  split at h
  ·rename_i s hl
   split at h
   ·rename_i hs1
    subst hs1
    simp only [Option.some.injEq, Prod.mk.injEq] at h
    obtain ⟨rfl, rfl, rfl, rfl⟩ := h
    rw [ju hl]
    have e : ((byteCells s).map At.k).map At.den = byteCells s := by simp [Function.comp_def, At.den]
    refine ⟨by rw [e]; exact Src.ofString w ht s, by rw [List.length_map, byteCells_length, Nat.mul_one], ?_, ?_⟩
    ·rw [List.all_eq_true]
     intro a ha
     obtain ⟨v, hv, rfl⟩ := List.mem_map.1 ha
     obtain ⟨u, _, rfl⟩ := List.mem_map.1 hv
     rfl
    ·intro a ha
     obtain ⟨v, hv, rfl⟩ := List.mem_map.1 ha
     trivial
   ·simp at h
  ·simp at h
 ·simp at h
theorem jT {t tx ty e : TypeId} {i : TypeInfo} (ht : P.underlying t = some (.slice e)) (hi : P.info? e = some i) {w : World} {r off len cap : Nat} {vs : List Value} {T : TypeId} (hr : w.heap[r]? = some (.cells vs.toArray T (0, 0)))
  {x : Value} {m : Nat} {news : List Value} (hs : Src P i.size tx x m news w) (hroom : len + m ≤ cap) (hfit : off + (len + m) * i.size ≤ vs.length) :
  (Builtin.append_ #[t, tx] ty #[.slice (some ⟨r, off, none⟩) len cap, x]).run P w =
   .ok (.slice (some ⟨r, off, none⟩) (len + m) cap) (w.setRow r (vs.take (off + len * i.size) ++ news ++ vs.drop (off + len * i.size + news.length)).toArray) := by
 have hn := hs.newsLen
 have hst := run_storeCells_at P r (off + len * i.size) T news 0 vs.toArray w hr (by simp [hn]; rw [Nat.add_mul] at hfit; omega) hs.one
 simp only [Nat.add_zero] at hst
 rcases hs.kind with ⟨e', hk⟩ | hk <;> simp [Builtin.append_, run_underlying ht, run_underlying hk, sizeOf, typeInfo, hi, hs.len, hroom, hs.cells, Addr.add_lit, hst]
theorem qD {t tx ty e : TypeId} {i : TypeInfo} (ht : P.underlying t = some (.slice e)) (hi : P.info? e = some i) {w : World} {base : Option Addr} {len cap : Nat} {x : Value} {news : List Value} (hs : Src P i.size tx x 0 news w) (hle : len ≤ cap) :
  (Builtin.append_ #[t, tx] ty #[.slice base len cap, x]).run P w = .ok (.slice base len cap) w := by
 have hn : news = [] := List.eq_nil_of_length_eq_zero (by rw [hs.newsLen, Nat.zero_mul])
 subst hn
 rcases hs.kind with ⟨e', hk⟩ | hk <;> cases base <;> simp [Builtin.append_, run_underlying ht, run_underlying hk, sizeOf, typeInfo, hi, hs.len, hle, hs.cells, storeCells]
theorem qg {t e : TypeId} {size : Nat} (h : qh P t e size = true) : P.underlying t = some (.slice e) ∧ ∃ i z, P.info? e = some i ∧ i.size = size ∧ i.zero = some z ∧ z.cells.size = size ∧ 0 < size ∧ lz P e = i.bytes := by
 unfold qh at h
 split at h
 ·rename_i e' i hu hi
  simp only [Bool.and_eq_true, beq_iff_eq, decide_eq_true_eq] at h
  obtain ⟨⟨⟨rfl, hsz⟩, hz⟩, h0⟩ := h
  cases hzz : i.zero with
  | none => rw [hzz] at hz; simp at hz
  | some z =>
   rw [hzz] at hz
   simp only [Option.map_some, Option.getD_some, beq_iff_eq] at hz
   exact ⟨hu, i, z, hi, hsz, hzz, hz, h0, by simp [lz, hi]⟩
 ·cases h
theorem iJ {l : List At} {vs : List Value} {c size : Nat} {zs : List Value} (h : CellsRel l vs) (hz : zs.length = c * size) : CellsRel (wide l c size) (vs ++ zs) := by
 refine h.append ?_
 rw [← hz]
 clear hz
 induction zs with
 | nil => simp [CellsRel]
 | cons z r ih => exact ⟨fun h => by simp [At.known] at h, ih⟩
end
noncomputable section
variable {P : Program}
theorem kc {hi : Nat} {F : Own} {x : CS} {H : Heap} {O L1 : Own} {a : Act} {w w' : World} {dst : Option Tmp} {e : TypeId} {size need r c : Nat} {known : List At} {vs : List Value} {old : List (Nat × Option Bx)}
  (hc : Conc F x.s H O a w) (hd : ∀ d, dst = some d → d < x.s.sz) (hM : oN x.h.ms O) (hold : ∀ p ∈ old, p.2 = none) (hf : ∀ n, x.s.next ≤ n → x.s.mem n = none) (hn : hi ≤ x.s.next)
  (hB : Boxes (Ba old x.s.mem) L1) (hm : Models w' H ((r, .cells vs.toArray e (0, 0)) :: (L1 ++ (O ++ F)))) (hv : CellsRel (wide known c size) vs) (hk : ∀ a ∈ known, a.ok) :
  CC hi F (x.app dst ⟨some (.s (.at (.sl x.s.next r 0 need (c + need)))), (x.s.next, some ⟨r, e, wide known c size⟩) :: old, some (x.s.next + 1, { x.h with gr := (x.s.next, known.length, c) :: x.h.gr })⟩) H
   (a.put dst (.slice (some ⟨r, 0, none⟩) need (c + need))) w' := by
 have hmem : ∀ n, (x.app dst ⟨some (.s (.at (.sl x.s.next r 0 need (c + need)))), (x.s.next, some ⟨r, e, wide known c size⟩) :: old, some (x.s.next + 1, { x.h with gr := (x.s.next, known.length, c) :: x.h.gr })⟩).s.mem n =
   if n = x.s.next then some ⟨r, e, wide known c size⟩ else Ba old x.s.mem n := by
  intro n
  rw [CS.app_mem]
  simp only [aO]
  by_cases e : n = x.s.next
  ·simp [e]
  ·simp only [e, if_false]; rw [nq]
 have hnone : ∀ n, x.s.next ≤ n → Ba old x.s.mem n = none := by
  intro n hn
  rw [nq]
  cases hl : aO old n with
  | none => exact hf n hn
  | some b => exact hold _ (lk hl)
 have hbx : Boxes (x.app dst ⟨some (.s (.at (.sl x.s.next r 0 need (c + need)))), (x.s.next, some ⟨r, e, wide known c size⟩) :: old, some (x.s.next + 1, { x.h with gr := (x.s.next, known.length, c) :: x.h.gr })⟩).s.mem ((r, .cells vs.toArray e (0, 0)) :: L1) := by
  have := hB.put (n := x.s.next) (b := ⟨r, e, wide known c size⟩) (hnone _ (Nat.le_refl _)) hv
  refine (congrArg (fun m => Boxes m _) (funext fun n => ?_)).mpr this
  exact hmem n
 refine jE (sv := .s (.at (.sl x.s.next r 0 need (c + need)))) (h' := { x.h with gr := (x.s.next, known.length, c) :: x.h.gr }) (nx := x.s.next + 1) hc hd rfl (cM trivial) (.inr rfl) rfl ?_ hbx hM (by simpa using hm) ?_ (by omega)
 ·intro n b hb a ha
  rw [hmem] at hb
  split at hb
  ·simp only [Option.some.injEq] at hb
   subst hb
   simp only [wide, List.mem_append] at ha
   rcases ha with ha | ha
   ·exact hk a ha
   ·have := List.eq_of_mem_replicate ha
    subst this; trivial
  ·rw [nq] at hb
   split at hb
   ·rename_i b' hl
    have := hold _ (lk hl)
    simp only at this
    rw [this] at hb; cases hb
   ·exact hc.ok.2 n b hb a ha
 ·intro n hn
  rw [hmem, if_neg (by omega)]
  exact hnone n (by omega)
theorem mI {ops : Array Oper} {o : Oper} {c : Call} {b : Builtin} {a : Act} {w w' : World} {v : Value} {vs : List Value} (hop : o.op = .call c) (hcal : c.callee = .builtin b) (hb : b ≠ .print) (hb' : b ≠ .println)
  (ha : (c.args.map a.eval).toList = vs) (h : (builtin b c.argTypes o.type #[] vs.toArray).run P w = .ok (.value v) w') : (execOp a.eval o).run P w = .ok (.value v) w' := by
 rw [dm hop hcal hb hb']
 have : c.args.map a.eval = vs.toArray := by apply Array.ext'; simpa using ha
 rw [this, h]
theorem re {cs : List At} {vs : List Value} (h : CellsRel cs vs) {off m : Nat} (hk : ((cs.drop off).take m).all yy = true) : (vs.drop off).take m = ((cs.drop off).take m).map At.den :=
 CellsRel.known ((h.drop off).take m) (ke hk).1
theorem qY {t tx ty e : TypeId} {i : TypeInfo} {z : Value} {size : Nat} (ht : P.underlying t = some (.slice e)) (hi : P.info? e = some i) (hz : i.zero = some z) (hsz : i.size = size) (hzs : z.cells.size = size) (hby : lz P e = i.bytes) {w : World}
  {base : Option Addr} {len cap m : Nat} {olds news : List Value} {x : Value} (hold : (Builtin.firstCells i.size len (.slice base len cap)).run P w.drew = .ok olds.toArray w.drew) (holdl : olds.length = len * size) (hs : Src P size tx x m news w)
  (hg : cap < len + m) (hb : (len + m) * lz P e ≤ 140737488355328) (h63 : len + m < 2 ^ 63) :
  ∃ zs cc, zs.length = cc * size ∧ (Builtin.append_ #[t, tx] ty #[.slice base len cap, x]).run P w = .ok (.slice (some ⟨w.heap.size, 0, none⟩) (len + m) (cc + (len + m))) (w.drew.alloc (.cells (olds ++ news ++ zs).toArray e)) := by
 subst hsz
 have hge := grownCap_ge w (len + m) cap e
 refine ⟨(Builtin.zeroCells z.cells (grownCap w (len + m) cap e - (len + m))).toList, grownCap w (len + m) cap e - (len + m), ?_, ?_⟩
 ·rw [Array.length_toList, size_zeroCells, hzs]
 ·rw [run_append_grow_src (P := P) w t tx ty e i z ht hi hz base len cap olds hold x m news hs hg (by omega) (growslice_fits hg (by rw [← hby]; exact hb))]
  have e1 : grownCap w (len + m) cap e - (len + m) + (len + m) = grownCap w (len + m) cap e := by omega
  rw [e1]
  congr 3
  apply Array.ext'
  simp
theorem lr {cs ys : List At} {off : Nat} {a : At} (h : a ∈ dl cs off ys) : a ∈ cs ∨ a ∈ ys := by
 simp only [dl, List.mem_append] at h
 rcases h with (h | h) | h
 ·exact .inl (List.mem_of_mem_take h)
 ·exact .inr h
 ·exact .inl (List.mem_of_mem_drop h)
theorem rp {ops : Array Oper} {o : Oper} {x : CS} {c : Call} {e : Ef} (hop : o.op = .call c) (hcal : c.callee = .builtin .append) (hg : ar (aJ ops) x.s o = .go []) (hd : ∀ d, o.dst = some d → d < x.s.sz)
  (he : rq P x c.argTypes c.args.toList = some e) {hi : Nat} {F : Own} {H : Heap} {a : Act} {w : World} {K : CS → Prop} {Q : Exit → Act → World → Prop} (hC : CC hi F x H a w) (hr : e.run hi o.dst x K) :
  wp1 P ops Q o (fun a' w' => ∃ x', CC hi F x' H a' w' ∧ K x') a w := by
 obtain ⟨⟨O, hM, hc⟩, hf, hn⟩ := hC
 unfold rq at he
 split at he
 ·rename_i t t2 sa ya cs hts hops
  split at he
  ·rename_i el hu
   simp only [Option.bind_eq_some_iff] at he
   obtain ⟨size, hsize, he⟩ := he
   split at he
   ·cases he
   ·rename_i happ
    simp only [Bool.not_eq_true, Bool.not_eq_false', Bool.not_eq_eq_eq_not, Bool.not_true] at happ
    have happ : qh P t el size = true := by simpa using happ
    simp only [Option.bind_eq_some_iff] at he
    obtain ⟨⟨news, m, ck, rd⟩, hsrc, he⟩ := he
    simp only [] at he
    split at he
    ·rename_i hfit
     obtain ⟨_, i, z, hinf, hsz, hzz, hzs, h0, hby⟩ := qg happ
     have hts' : c.argTypes = #[t, t2] := by apply Array.ext'; simpa using hts
     have main : ∀ (v : Value) (w' : World), AllCk cs → (Builtin.append_ #[t, t2] o.type #[sa.den, ya.den]).run P w = .ok v w' → (∃ x', CC hi F x' H (a.put o.dst v) w' ∧ K x') → wp1 P ops Q o (fun a' w' => ∃ x', CC hi F x' H a' w' ∧ K x') a w := by
      intro v w' hcs hrun hk
      refine eQ hc hg (w' := w') (v := v) (mI (ops := ops) hop hcal (by simp) (by simp) (vs := [sa.den, ya.den]) ?_ ?_) hk
      ·have := bS hc hops hcs trivial
       simpa using this
      ·rw [hts']
       simp only [builtin, Sem.run_bind]
       rw [hrun]; rfl
     unfold fm at he
     split at he
     ·
      rename_i hm0
      subst hm0
      split at he
      ·rename_i len cap hlc
       split at he
       ·rename_i hle
        simp only [Option.some.injEq] at he
        subst he
        obtain ⟨hcs, _, hk⟩ := hr
        rw [AllCk.append] at hcs
        obtain ⟨hS, hnl, _, _⟩ := jR hc hsrc hcs.1
        have hden : ∃ base, sa.den = .slice base len cap := by
         unfold GF at hlc
         split at hlc
         ·simp only [Option.some.injEq, Prod.mk.injEq] at hlc; obtain ⟨rfl, rfl⟩ := hlc; exact ⟨_, rfl⟩
         ·simp only [Option.some.injEq, Prod.mk.injEq] at hlc; obtain ⟨rfl, rfl⟩ := hlc; exact ⟨_, rfl⟩
         ·simp only [Option.some.injEq, Prod.mk.injEq] at hlc; obtain ⟨rfl, rfl⟩ := hlc; exact ⟨_, rfl⟩
         ·cases hlc
        obtain ⟨base, hden⟩ := hden
        have hn0 : news = [] := List.eq_nil_of_length_eq_zero (by rw [hnl, Nat.zero_mul])
        subst hn0
        have hone : sa.ok := mw hc.ok hops sa (by simp)
        refine main sa.den w hcs.2 ?_ ⟨_, ?_, hk⟩
        ·rw [hden]
         exact qD hu hinf (by rw [hsz]; exact hS) hle
        ·exact ou (dst := o.dst) (v := sa.den) (sv := .s (.at sa)) hM hc hd (cg rfl) (cM hone) hf hn
       ·cases he
      ·cases he
     ·rename_i hm0
      have hsa : sa.ok := mw hc.ok hops sa (by simp)
      split at he
      ·rename_i n r off len cap
       simp only [] at he
       split at he
       ·cases he
       ·rename_i hlim
        simp only [Bool.or_eq_true, decide_eq_true_eq, not_or, Nat.not_lt, Nat.not_le, gt_iff_lt, ge_iff_le] at hlim
        obtain ⟨hbytes, h63⟩ := hlim
        split at he
        ·cases he
        ·rename_i b hb
         split at he
         ·cases he
         ·rename_i hrows
          simp only [Bool.or_eq_true, bne_iff_ne, ne_eq, Bool.not_eq_true', not_or, Decidable.not_not, Bool.not_eq_false] at hrows
          obtain ⟨hrl, hrk⟩ := hrows
          obtain ⟨L, hB, hmo⟩ := hc.mm
          obtain ⟨vs, L', hv, hp, hB'⟩ := hB.take hb
          have hmo' : Models w H ((b.r, .cells vs.toArray b.T (0, 0)) :: (L' ++ (O ++ F))) := hmo.perm (by simpa using hp.append_right (O ++ F))
          have hrow : w.heap[b.r]? = some (.cells vs.toArray b.T (0, 0)) := (hmo'.own (b.r, .cells vs.toArray b.T (0, 0)) (by simp)).1
          have hbok := hc.ok.2 n b hb
          obtain ⟨holdc, _⟩ := rk hc hb hrl hrk
          have hrowok : ∀ a' ∈ (b.cs.drop off).take (len * size), a'.ok := fun a' ha => hbok a' (List.mem_of_mem_drop (List.mem_of_mem_take ha))
          have hOld : (Builtin.firstCells i.size len (.slice (some ⟨b.r, off, none⟩) len cap)).run P w.drew = .ok (((b.cs.drop off).take (len * size)).map At.den).toArray w.drew :=
           run_firstCells_some w.drew i.size len _ len cap _ (by rw [List.length_map, hrl, hsz]) holdc
          have inP : ∀ (hcs : AllCk (.eqN r b.r :: (ck ++ cs))), (b.cs.take (off + (len + m) * size)).length = off + (len + m) * size → len + m ≤ cap →
            (okU hi e ⟨some (.s (.at (.sl n r off (len + m) cap))), [(n, some { b with cs := dl b.cs (off + len * size) news })], some (x.s.next, x.h)⟩ = true → True) →
            K (x.app o.dst ⟨some (.s (.at (.sl n r off (len + m) cap))), [(n, some { b with cs := dl b.cs (off + len * size) news })], some (x.s.next, x.h)⟩) → n < hi ∨ n < x.s.next →
            wp1 P ops Q o (fun a' w' => ∃ x', CC hi F x' H a' w' ∧ K x') a w := by
           intro hcs hlen hcap _ hk hnlt
           obtain ⟨hrb, hcs⟩ := hcs
           have hrb : r = b.r := hrb
           subst hrb
           rw [AllCk.append] at hcs
           obtain ⟨hS, hnl, hnk, hno⟩ := jR hc hsrc hcs.1
           have hfit2 : off + (len + m) * size ≤ vs.length := by
            rw [← hv.length]
            rw [List.length_take] at hlen
            omega
           have hrun := jT (ty := o.type) hu hinf hrow (off := off) (len := len) (cap := cap) (by rw [hsz]; exact hS) hcap (by rw [hsz]; exact hfit2)
           refine main _ _ hcs.2 hrun ⟨_, ?_, hk⟩
           have hm2 := iO (vs' := vs.take (off + len * i.size) ++ news.map At.den ++ vs.drop (off + len * i.size + (news.map At.den).length)) hmo'
           have hv2 : CellsRel (dl b.cs (off + len * size) news) (vs.take (off + len * i.size) ++ news.map At.den ++ vs.drop (off + len * i.size + (news.map At.den).length)) := by
            rw [hsz, List.length_map]; exact hv.fill _ _
           have hB2 := hB'.put (n := n) (b := { b with cs := dl b.cs (off + len * size) news }) (by simp) hv2
           rw [rl] at hB2
           have hmem : ∀ k, (x.app o.dst ⟨some (.s (.at (.sl n b.r off (len + m) cap))), [(n, some { b with cs := dl b.cs (off + len * size) news })], some (x.s.next, x.h)⟩).s.mem k = if k = n then some { b with cs := dl b.cs (off + len * size) news } else x.s.mem k := by
            intro k
            rw [CS.app_mem]
            by_cases e : k = n <;> simp [aO, e]
           refine jE (sv := .s (.at (.sl n b.r off (len + m) cap))) (u := ⟨some (.s (.at (.sl n b.r off (len + m) cap))), [(n, some { b with cs := dl b.cs (off + len * size) news })], some (x.s.next, x.h)⟩)
            (L' := (b.r, .cells (vs.take (off + len * i.size) ++ news.map At.den ++ vs.drop (off + len * i.size + (news.map At.den).length)).toArray b.T (0, 0)) :: L') hc hd rfl (cM trivial) (.inr rfl) rfl ?_ ?_ hM (by simpa using hm2) ?_ hn
           ·intro k b' hb' a' ha'
            rw [hmem] at hb'
            split at hb'
            ·simp only [Option.some.injEq] at hb'
             subst hb'
             rcases lr ha' with h | h
             ·exact hbok a' h
             ·exact hno a' h
            ·exact hc.ok.2 k b' hb' a' ha'
           ·refine (congrArg (fun m => Boxes m _) (funext fun k => ?_)).mpr hB2
            exact hmem k
           ·intro k hk'
            rw [hmem]
            have hnn : n < x.s.next := by
             rcases Nat.lt_or_ge n x.s.next with h | h
             ·exact h
             ·have := hf n h; rw [hb] at this; cases this
            rw [if_neg (by omega)]
            exact hf k hk'
          have hnn : n < x.s.next := by
           rcases Nat.lt_or_ge n x.s.next with h | h
           ·exact h
           ·have := hf n h; rw [hb] at this; cases this
          split at he
          ·rename_i hgr
           split at he
           ·rename_i hcap
            split at he
            ·rename_i hlen
             simp only [beq_iff_eq] at hlen
             simp only [Option.some.injEq] at he
             subst he
             obtain ⟨hcs, _, hk⟩ := hr
             exact inP hcs hlen hcap (fun _ => trivial) hk (.inr hnn)
            ·cases he
           ·
            rename_i hcap
            simp only [Option.some.injEq] at he
            subst he
            obtain ⟨⟨hrb, hcs⟩, hr⟩ := hr
            have hrb : r = b.r := hrb
            subst hrb
            rw [AllCk.append] at hcs
            obtain ⟨hS, hnl, hnk, hno⟩ := jR hc hsrc hcs.1
            obtain ⟨zs, cc, hzl, hrun⟩ := qY (ty := o.type) hu hinf hzz hsz hzs hby hOld (by rw [List.length_map, hrl]) hS (by omega) hbytes h63
            obtain ⟨_, hk⟩ := hr w.heap.size cc
            refine main _ _ hcs.2 hrun ⟨_, ?_, hk⟩
            refine kc (old := []) (L1 := L) (vs := ((b.cs.drop off).take (len * size)).map At.den ++ news.map At.den ++ zs) hc hd hM (by simp) hf hn hB ?_ ?_ ?_
            ·exact ib hmo _ _
            ·rw [← List.map_append]
             exact iJ (CellsRel.map _) hzl
            ·intro a' ha'
             rcases List.mem_append.1 ha' with h | h
             ·exact hrowok a' h
             ·exact hno a' h
          ·rename_i k c0 hgr
           split at he
           ·split at he
            ·rename_i hcap
             split at he
             ·rename_i hlen
              simp only [beq_iff_eq] at hlen
              simp only [Option.some.injEq] at he
              subst he
              obtain ⟨hcs, _, hk⟩ := hr
              exact inP hcs hlen hcap (fun _ => trivial) hk (.inr hnn)
             ·cases he
            ·cases he
           ·split at he
            ·rename_i hoff
             obtain ⟨hoff, hT⟩ := hoff
             subst hoff
             simp only [Option.some.injEq] at he
             subst he
             obtain ⟨⟨hcapeq, hrb, hcs⟩, hcells, hr⟩ := hr
             have hrb : r = b.r := hrb
             have hcapeq : cap = c0 + len := hcapeq
             subst hrb
             rw [AllCk.append] at hcs
             obtain ⟨hS, hnl, hnk, hno⟩ := jR hc hsrc hcs.1
             have hvl : vs.length = len * size + c0 * size := by
              rw [← hv.length, hcells, wide, List.length_append, List.length_replicate, hrl]
             have hvt : vs.take (len * size) = ((b.cs.drop 0).take (len * size)).map At.den := by
              have := re hv hrk
              simpa using this
             have hmemN : Ba [(n, none)] x.s.mem = fun k => if k = n then none else x.s.mem k := by
              funext k
              rw [nq]
              by_cases e : k = n <;> simp [aO, e]
             have hBN : Boxes (Ba [(n, none)] x.s.mem) L' := by rw [hmemN]; exact hB'
             have hoks : ∀ a' ∈ (b.cs.drop 0).take (len * size) ++ news, a'.ok := by
              intro a' ha'
              rcases List.mem_append.1 ha' with h | h
              ·exact hrowok a' h
              ·exact hno a' h
             by_cases hroom : len + m ≤ cap
             ·have hmul : (len + m) * size ≤ vs.length := by
               rw [hvl, ← Nat.add_mul]
               exact Nat.mul_le_mul_right _ (by omega)
              have hrun := jT (ty := o.type) hu hinf hrow (off := 0) (len := len) (cap := cap) (by rw [hsz]; exact hS) hroom (by rw [hsz]; omega)
              have hm2 := iO (vs' := vs.take (0 + len * i.size) ++ news.map At.den ++ vs.drop (0 + len * i.size + (news.map At.den).length)) hmo'
              obtain ⟨_, hk⟩ := hr b.r (c0 - m)
              have ecap : c0 - m + (len + m) = cap := by omega
              rw [ecap] at hk
              refine main _ _ hcs.2 hrun ⟨_, ?_, hk⟩
              rw [hT] at hm2
              have := kc (need := len + m) (c := c0 - m) (e := el) (known := (b.cs.drop 0).take (len * size) ++ news) (size := size) (old := [(n, none)]) (dst := o.dst) hc hd hM (by simp) hf hn hBN hm2 ?_ hoks
              ·rw [ecap] at this
               exact this
              ·rw [hsz, Nat.zero_add, hvt, List.length_map, ← List.map_append]
               refine iJ (CellsRel.map _) ?_
               rw [List.length_drop, hvl, hnl, Nat.sub_mul]
               omega
             ·obtain ⟨zs, cc, hzl, hrun⟩ := qY (ty := o.type) hu hinf hzz hsz hzs hby hOld (by rw [List.length_map, hrl]) hS (by omega) hbytes h63
              obtain ⟨_, hk⟩ := hr w.heap.size cc
              refine main _ _ hcs.2 hrun ⟨_, ?_, hk⟩
              refine kc (old := [(n, none)]) (L1 := L') (vs := ((b.cs.drop 0).take (len * size)).map At.den ++ news.map At.den ++ zs) hc hd hM (by simp) hf hn hBN ?_ ?_ hoks
              ·have := ib hmo' (((b.cs.drop 0).take (len * size)).map At.den ++ news.map At.den ++ zs).toArray el
               exact this.sub (List.Sublist.cons_cons _ (List.sublist_cons_self _ _))
              ·rw [← List.map_append]
               exact iJ (CellsRel.map _) hzl
            ·cases he
      ·rename_i hnsl
       split at he
       ·rename_i hemp
        split at he
        ·cases he
        ·rename_i hlim
         simp only [Bool.or_eq_true, decide_eq_true_eq, not_or, Nat.not_lt, Nat.not_le, gt_iff_lt, ge_iff_le] at hlim
         obtain ⟨hbytes, h63⟩ := hlim
         simp only [Option.some.injEq] at he
         subst he
         obtain ⟨hcs, hr⟩ := hr
         rw [AllCk.append] at hcs
         obtain ⟨hS, hnl, hnk, hno⟩ := jR hc hsrc hcs.1
         have hden : ∃ base, sa.den = .slice base 0 0 := by
          unfold lw at hemp
          split at hemp
          ·exact ⟨_, rfl⟩
          ·exact ⟨_, rfl⟩
          ·cases hemp
         obtain ⟨base, hden⟩ := hden
         obtain ⟨L, hB, hmo⟩ := hc.mm
         have hOld : (Builtin.firstCells i.size 0 (.slice base 0 0)).run P w.drew = .ok ([] : List Value).toArray w.drew := by
          cases base with
          | none => exact run_firstCells_none w.drew i.size 0 0 0
          | some ad => exact run_firstCells_some w.drew i.size 0 ad 0 0 [] (by simp) (by simp)
         obtain ⟨zs, cc, hzl, hrun⟩ := qY (ty := o.type) (len := 0) (olds := []) hu hinf hzz hsz hzs hby hOld (by simp) hS (by omega) (by rw [Nat.zero_add]; exact hbytes) (by omega)
         obtain ⟨_, hk⟩ := hr w.heap.size cc
         rw [Nat.zero_add] at hrun
         refine main _ _ hcs.2 (by rw [hden]; exact hrun) ⟨_, ?_, hk⟩
         refine kc (old := []) (L1 := L) (vs := news.map At.den ++ zs) hc hd hM (by simp) hf hn hB ?_ ?_ hno
         ·exact ib hmo _ _
         ·exact iJ (CellsRel.map _) hzl
       ·cases he
    ·cases he
  ·cases he
 ·cases he
end
noncomputable section
variable {P : Program}
theorem mF {hi : Nat} {F : Own} {x : CS} {H : Heap} {O : Own} {a : Act} {w : World} {dst : Option Tmp} {v : Value} {sv : SV} (hM : oN x.h.ms O)
  (hc : Conc F x.s H O a w) (hd : ∀ d, dst = some d → d < x.s.sz) (hrel : sv.rel v) (hsok : sv.ok) (hf : ∀ n, x.s.next ≤ n → x.s.mem n = none) (hn : hi ≤ x.s.next) :
  CC hi F (x.app dst ⟨some (du sv), [], none⟩) H (a.put dst v) w := by
 have h := ou (dst := dst) hM hc hd hrel hsok hf hn
 exact h
theorem Bq {hi : Nat} {F : Own} {x : CS} {H : Heap} {O L' : Own} {a : Act} {w w' : World} {dst : Option Tmp} {v : Value} {sv : SV} {val : Option SV} {n : Nat} {b : Bx} {cs : List At} {vs' : List Value} (hM : oN x.h.ms O)
  (hc : Conc F x.s H O a w) (hd : ∀ d, dst = some d → d < x.s.sz) (hrel : sv.rel v) (hsok : sv.ok) (hval : dst = none ∨ val = some (du sv)) (hf : ∀ n, x.s.next ≤ n → x.s.mem n = none) (hn : hi ≤ x.s.next)
  (hb : x.s.mem n = some b) (hB : Boxes (fun k => if k = n then none else x.s.mem k) L') (hm : Models w' H ((b.r, .cells vs'.toArray b.T (0, 0)) :: (L' ++ (O ++ F)))) (hv : CellsRel cs vs') (hok : ∀ a ∈ cs, a.ok) :
  CC hi F (x.app dst ⟨val, [(n, some { b with cs := cs })], none⟩) H (a.put dst v) w' := by
 have hB2 := hB.put (n := n) (b := { b with cs := cs }) (by simp) hv
 rw [rl] at hB2
 have hmem : ∀ k, (x.app dst ⟨val, [(n, some { b with cs := cs })], none⟩).s.mem k = if k = n then some { b with cs := cs } else x.s.mem k := by
  intro k
  rw [CS.app_mem]
  by_cases e : k = n <;> simp [aO, e]
 have hx : x.app dst ⟨val, [(n, some { b with cs := cs })], none⟩ = x.app dst ⟨val, [(n, some { b with cs := cs })], some (x.s.next, x.h)⟩ := rfl
 rw [hx]
 have hnn : n < x.s.next := by
  rcases Nat.lt_or_ge n x.s.next with h | h
  ·exact h
  ·have := hf n h; rw [hb] at this; cases this
 refine jE (sv := sv) (L' := (b.r, .cells vs'.toArray b.T (0, 0)) :: L') hc hd hrel hsok hval rfl ?_ ?_ hM (by simpa using hm) ?_ hn
 ·intro k b' hb' a' ha'
  have hb'' := hmem k
  rw [hx] at hb''
  rw [hb''] at hb'
  split at hb'
  ·simp only [Option.some.injEq] at hb'
   subst hb'
   exact hok a' ha'
  ·exact hc.ok.2 k b' hb' a' ha'
 ·refine (congrArg (fun m => Boxes m _) (funext fun k => ?_)).mpr hB2
  exact hmem k
 ·intro k hk'
  have hb'' := hmem k
  rw [hx] at hb''
  rw [hb'', if_neg (by omega)]
  exact hf k hk'
theorem tz {t t2 ty e : TypeId} {i : TypeInfo} (ht : P.underlying t = some (.slice e)) (hi : P.info? e = some i) {w : World} {r off dLen dCap : Nat} {vs : List Value} {T : TypeId} (hr : w.heap[r]? = some (.cells vs.toArray T (0, 0)))
  {x : Value} {k m : Nat} {cs : List Value} (hl : ∀ w' : World, (Builtin.lenOf x).run P w' = .ok m w') (hk : k = min m dLen) (hcells : (Builtin.firstCells i.size k x).run P w = .ok cs.toArray w) (hfit : off + cs.length ≤ vs.length) (h1 : ∀ v ∈ cs, v.oneCell' = true) :
  (Builtin.copy_ #[t, t2] ty #[.slice (some ⟨r, off, none⟩) dLen dCap, x]).run P w = .ok (goInt k) (w.setRow r (vs.take off ++ cs ++ vs.drop (off + cs.length)).toArray) := by
 have hst := run_storeCells_at P r off T cs 0 vs.toArray w hr (by simpa using hfit) h1
 simp only [Nat.add_zero] at hst
 have hk' : m.min dLen = k := hk.symm
 simp [Builtin.copy_, run_underlying ht, sizeOf, typeInfo, hi, hl, hk', hcells, hst]
theorem qB {t t2 ty e : TypeId} {i : TypeInfo} (ht : P.underlying t = some (.slice e)) (hi : P.info? e = some i) {w : World} {base : Option Addr} {dCap : Nat}
  {x : Value} {m : Nat} (hl : ∀ w' : World, (Builtin.lenOf x).run P w' = .ok m w') (hcells : (Builtin.firstCells i.size 0 x).run P w = .ok #[] w) :
  (Builtin.copy_ #[t, t2] ty #[.slice base 0 dCap, x]).run P w = .ok (goInt 0) w := by
 cases base <;> simp [Builtin.copy_, run_underlying ht, sizeOf, typeInfo, hi, hl, hcells, storeCells]
theorem mM {F : Own} {x : CS} {H : Heap} {O : Own} {a : Act} {w : World} (hc : Conc F x.s H O a w) {size : Nat} {ya : At} {news : List At} {m : Nat} {ck : List Ck} {rd : List Nat}
  (h : mN x size ya = some (news, m, ck, rd)) (hck : AllCk ck) {k : Nat} (hk : k ≤ m) : (∀ w' : World, (Builtin.lenOf ya.den).run P w' = .ok m w') ∧ (Builtin.firstCells size k ya.den).run P w = .ok ((news.take (k * size)).map At.den).toArray w := by
 unfold mN at h
 split at h
 ·rename_i n r off len cap
  split at h
  ·rename_i b hb
   simp only [] at h
   split at h
   ·rename_i hcond
    simp only [Bool.and_eq_true, beq_iff_eq] at hcond
    simp only [Option.some.injEq, Prod.mk.injEq] at h
    obtain ⟨rfl, rfl, rfl, rfl⟩ := h
    have hr : r = b.r := hck.1
    subst hr
    obtain ⟨h1, h2⟩ := rk hc hb hcond.1 hcond.2
    refine ⟨fun _ => rfl, run_firstCells_some w size k _ len cap _ ?_ ?_⟩
    ·rw [List.length_map, List.length_take, hcond.1]
     exact Nat.min_eq_left (Nat.mul_le_mul_right _ hk)
    ·intro j v hj
     refine h1 j v ?_
     rw [List.map_take, List.getElem?_take] at hj
     split at hj
     ·exact hj
     ·cases hj
   ·simp at h
  ·simp at h
 ·rename_i va vc
  simp only [Option.some.injEq, Prod.mk.injEq] at h
  obtain ⟨rfl, rfl, rfl, rfl⟩ := h
  have : k = 0 := Nat.le_zero.1 hk
  subst this
  refine ⟨fun _ => rfl, ?_⟩
  cases va with
  | none => simpa [At.den] using run_firstCells_none (P := P) w size 0 0 vc
  | some ad => simpa [At.den] using run_firstCells_some (P := P) w size 0 ad 0 vc [] (by simp) (by simp)
 ·rename_i va vc
  simp only [Option.some.injEq, Prod.mk.injEq] at h
  obtain ⟨rfl, rfl, rfl, rfl⟩ := h
  have : k = 0 := Nat.le_zero.1 hk
  subst this
  refine ⟨fun _ => rfl, ?_⟩
  cases va with
  | none => simpa [At.den] using run_firstCells_none (P := P) w size 0 0 vc
  | some ad => simpa [At.den] using run_firstCells_some (P := P) w size 0 ad 0 vc [] (by simp) (by simp)
 ·simp at h
theorem oi {sa : At} (h : lw sa = true) : ∃ base, sa.den = .slice base 0 0 := by
 unfold lw at h
 split at h
 ·exact ⟨_, rfl⟩
 ·exact ⟨_, rfl⟩
 ·cases h
theorem t7 {ops : Array Oper} {o : Oper} {x : CS} {c : Call} {e : Ef} (hop : o.op = .call c) (hcal : c.callee = .builtin .copy) (hg : ar (aJ ops) x.s o = .go []) (hd : ∀ d, o.dst = some d → d < x.s.sz)
  (he : AH P x c.argTypes c.args.toList = some e) {hi : Nat} {F : Own} {H : Heap} {a : Act} {w : World} {K : CS → Prop} {Q : Exit → Act → World → Prop} (hC : CC hi F x H a w) (hr : e.run hi o.dst x K) :
  wp1 P ops Q o (fun a' w' => ∃ x', CC hi F x' H a' w' ∧ K x') a w := by
 obtain ⟨⟨O, hM, hc⟩, hf, hn⟩ := hC
 unfold AH at he
 split at he
 ·rename_i t t2 da ya cs hts hops
  split at he
  ·rename_i el hu
   simp only [Option.bind_eq_some_iff] at he
   obtain ⟨size, hsize, he⟩ := he
   split at he
   ·cases he
   ·rename_i happ
    simp only [Bool.or_eq_true, not_or, bne_iff_ne, ne_eq, Decidable.not_not, Bool.not_eq_true'] at happ
    obtain ⟨htt, happ⟩ := happ
    have happ : qh P t el size = true := by simpa using happ
    subst htt
    simp only [Option.bind_eq_some_iff] at he
    obtain ⟨⟨news, m, ck, rd⟩, hsrc, he⟩ := he
    simp only [] at he
    obtain ⟨_, i, z, hinf, hsz, hzz, hzs, h0, hby⟩ := qg happ
    have hts' : c.argTypes = #[t, t] := by apply Array.ext'; simpa using hts
    have main : ∀ (v : Value) (w' : World), AllCk cs → (Builtin.copy_ #[t, t] o.type #[da.den, ya.den]).run P w = .ok v w' → (∃ x', CC hi F x' H (a.put o.dst v) w' ∧ K x') → wp1 P ops Q o (fun a' w' => ∃ x', CC hi F x' H a' w' ∧ K x') a w := by
     intro v w' hcs hrun hk
     refine eQ hc hg (w' := w') (v := v) (mI (ops := ops) hop hcal (by simp) (by simp) (vs := [da.den, ya.den]) ?_ ?_) hk
     ·have := bS hc hops hcs trivial
      simpa using this
     ·rw [hts']
      simp only [builtin, Sem.run_bind]
      rw [hrun]; rfl
    split at he
    ·rename_i n r off len cap
     split at he
     ·cases he
     ·rename_i b hb
      split at he
      ·cases he
      ·rename_i hold
       simp only [bne_iff_ne, ne_eq, Decidable.not_not] at hold
       simp only [Option.some.injEq] at he
       subst he
       obtain ⟨⟨hrb, hcs⟩, _, hk⟩ := hr
       have hrb : r = b.r := hrb
       subst hrb
       have hcs := AllCk.append.1 hcs
       obtain ⟨hS, hnl, hnk, hno⟩ := rJ hc hu hsrc hcs.1
       obtain ⟨hl1, hl2⟩ := mM (P := P) hc hsrc hcs.1 (k := min m len) (Nat.min_le_left _ _)
       obtain ⟨L, hB, hmo⟩ := hc.mm
       obtain ⟨vs, L', hv, hp, hB'⟩ := hB.take hb
       have hmo' : Models w H ((b.r, .cells vs.toArray b.T (0, 0)) :: (L' ++ (O ++ F))) := hmo.perm (by simpa using hp.append_right (O ++ F))
       have hrow : w.heap[b.r]? = some (.cells vs.toArray b.T (0, 0)) := (hmo'.own (b.r, .cells vs.toArray b.T (0, 0)) (by simp)).1
       have hll : ((news.take (min m len * size)).map At.den).length = min m len * size := by
        rw [List.length_map, List.length_take, hnl]
        exact Nat.min_eq_left (Nat.mul_le_mul_right _ (Nat.min_le_left _ _))
       have hfit : off + min m len * size ≤ vs.length ∨ min m len * size = 0 := by
        rw [← hv.length]
        rw [List.length_take, List.length_drop] at hold
        omega
       have hrun : (Builtin.copy_ #[t, t] o.type #[.slice (some ⟨b.r, off, none⟩) len cap, ya.den]).run P w = .ok (goInt ((min m len : Nat) : Int)) (w.setRow b.r (vs.take off ++ (news.take (min m len * size)).map At.den ++ vs.drop (off + ((news.take (min m len * size)).map At.den).length)).toArray) := by
        rcases hfit with hfit | h00
        ·exact tz (t := t) (t2 := t) hu hinf hrow hl1 rfl (by rw [hsz]; exact hl2) (by rw [hll]; exact hfit) (by
          intro v hv'
          obtain ⟨a', ha', rfl⟩ := List.mem_map.1 hv'
          have ha2 := List.mem_of_mem_take ha'
          exact At.fit_one ((ke hnk).2 a' ha2) (hno a' ha2))
        ·have hm0 : min m len = 0 := (Nat.mul_eq_zero.1 h00).resolve_right (by omega)
         have hem : ((news.take (min m len * size)).map At.den) = [] := by rw [hm0]; simp
         rw [hem]
         simp only [List.append_nil, List.length_nil, Nat.add_zero, List.take_append_drop]
         rw [setRow_self w b.r vs.toArray b.T (0, 0) hrow]
         have hcl := hl2
         rw [hem, hm0] at hcl
         rw [hm0]
         have hk' : m.min len = 0 := hm0
         simp [Builtin.copy_, run_underlying hu, sizeOf, typeInfo, hinf, hl1, hk', hsz, hcl, storeCells]
       refine main _ _ hcs.2 hrun ⟨_, ?_, hk⟩
       have hm2 := iO (vs' := vs.take off ++ (news.take (min m len * size)).map At.den ++ vs.drop (off + ((news.take (min m len * size)).map At.den).length)) hmo'
       refine Bq (sv := .s (.at (.k (goInt ((min m len : Nat) : Int))))) (vs' := vs.take off ++ (news.take (min m len * size)).map At.den ++ vs.drop (off + ((news.take (min m len * size)).map At.den).length)) hM hc hd rfl (jZ _) (.inr rfl) hf hn hb hB' hm2 ?_ ?_
       ·rw [List.length_map]; exact hv.fill _ _
       ·intro a' ha'
        rcases lr ha' with h | h
        ·exact hc.ok.2 n b hb a' h
        ·exact hno a' (List.mem_of_mem_take h)
    ·split at he
     ·rename_i hemp
      simp only [Option.some.injEq] at he
      subst he
      obtain ⟨hcs, _, hk⟩ := hr
      rw [AllCk.append] at hcs
      obtain ⟨hl1, hl2⟩ := mM (P := P) hc hsrc hcs.1 (k := 0) (Nat.zero_le _)
      obtain ⟨base, hden⟩ := oi hemp
      refine main (goInt 0) w hcs.2 ?_ ⟨_, ?_, hk⟩
      ·rw [hden]
       exact qB hu hinf hl1 (by rw [hsz, hl2]; simp)
      ·exact mF (sv := .s (.at (.k (goInt 0)))) hM hc hd rfl (jZ _) hf hn
     ·cases he
  ·cases he
 ·cases he
theorem rT {t ty e : TypeId} {z : Value} (ht : P.underlying t = some (.slice e)) (hz : ∀ w, (zeroValue e).run P w = .ok z w) {w : World} {r off n cap : Nat} {vs : List Value} {T : TypeId} (hr : w.heap[r]? = some (.cells vs.toArray T (0, 0)))
  (hfit : off + n * z.cells.size ≤ vs.length) (h1 : ∀ v ∈ (Builtin.zeroCells z.cells n).toList, v.oneCell' = true) :
  (Builtin.clear_ #[t] ty #[.slice (some ⟨r, off, none⟩) n cap]).run P w = .ok (.tuple #[]) (w.setRow r (vs.take off ++ (Builtin.zeroCells z.cells n).toList ++ vs.drop (off + (Builtin.zeroCells z.cells n).toList.length)).toArray) := by
 cases n with
 | zero =>
  have e0 : (Builtin.zeroCells z.cells 0).toList = [] := by simp [Builtin.zeroCells]
  rw [e0]
  simp only [List.append_nil, List.length_nil, Nat.add_zero, List.take_append_drop]
  rw [setRow_self w r vs.toArray T (0, 0) hr]
  simp [Builtin.clear_, run_underlying ht]
 | succ n =>
  have hst := run_storeCells_at P r off T (Builtin.zeroCells z.cells (n + 1)).toList 0 vs.toArray w hr (by simpa [size_zeroCells] using hfit) h1
  simp only [Nat.add_zero] at hst
  simp [Builtin.clear_, run_underlying ht, hz, hst]
theorem sU {ops : Array Oper} {o : Oper} {x : CS} {c : Call} {e : Ef} (hop : o.op = .call c) (hcal : c.callee = .builtin .clear) (hg : ar (aJ ops) x.s o = .go []) (hdst : o.dst = none)
  (he : uS P x c.argTypes c.args.toList = some e) {hi : Nat} {F : Own} {H : Heap} {a : Act} {w : World} {K : CS → Prop} {Q : Exit → Act → World → Prop} (hC : CC hi F x H a w) (hr : e.run hi o.dst x K) :
  wp1 P ops Q o (fun a' w' => ∃ x', CC hi F x' H a' w' ∧ K x') a w := by
 obtain ⟨⟨O, hM, hc⟩, hf, hn⟩ := hC
 unfold uS at he
 split at he
 ·rename_i t sa cs hts hops
  split at he
  ·rename_i el hu
   simp only [Option.bind_eq_some_iff] at he
   obtain ⟨size, hsize, z, hz, he⟩ := he
   split at he
   ·cases he
   ·rename_i hcond
    simp only [Bool.or_eq_true, not_or, bne_iff_ne, ne_eq, Decidable.not_not, beq_iff_eq, Bool.not_eq_true', Bool.not_eq_false] at hcond
    obtain ⟨⟨hzl, hs0⟩, hzf⟩ := hcond
    obtain ⟨zv, hzr, hzc, hzk, hzo⟩ := fE hz
    have hts' : c.argTypes = #[t] := by apply Array.ext'; simpa using hts
    have main : ∀ (w' : World), AllCk cs → (Builtin.clear_ #[t] o.type #[sa.den]).run P w = .ok (.tuple #[]) w' → (∃ x', CC hi F x' H (a.put o.dst (.tuple #[])) w' ∧ K x') → wp1 P ops Q o (fun a' w' => ∃ x', CC hi F x' H a' w' ∧ K x') a w := by
     intro w' hcs hrun hk
     refine eQ hc hg (w' := w') (v := .tuple #[]) (mI (ops := ops) hop hcal (by simp) (by simp) (vs := [sa.den]) ?_ ?_) hk
     ·have := bS hc hops hcs trivial
      simpa using this
     ·rw [hts']
      simp only [builtin, Sem.run_bind]
      rw [hrun]; rfl
    rw [hdst] at hr main
    split at he
    ·rename_i n r off len cap
     split at he
     ·cases he
     ·rename_i b hb
      split at he
      ·rename_i hfit
       simp only [Option.some.injEq] at he
       subst he
       obtain ⟨⟨hrb, hcs⟩, _, hk⟩ := hr
       have hrb : r = b.r := hrb
       subst hrb
       obtain ⟨L, hB, hmo⟩ := hc.mm
       obtain ⟨vs, L', hv, hp, hB'⟩ := hB.take hb
       have hmo' : Models w H ((b.r, .cells vs.toArray b.T (0, 0)) :: (L' ++ (O ++ F))) := hmo.perm (by simpa using hp.append_right (O ++ F))
       have hrow : w.heap[b.r]? = some (.cells vs.toArray b.T (0, 0)) := (hmo'.own (b.r, .cells vs.toArray b.T (0, 0)) (by simp)).1
       have hzc' : zv.cells = (z.map At.den).toArray := by rw [← hzc]
       have hzz : (Builtin.zeroCells zv.cells len).toList = (bg z len).map At.den := by
        have := ed (z.map At.den) (by rw [List.length_map, hzl]; exact hs0) len
        rw [eT, ← this]
        simp only [Builtin.zeroCells, hzc', List.size_toArray]
       have hzz2 : zv.cells.size = size := by rw [hzc']; simp [hzl]
       have hrl : (bg z len).length = len * size := by
        have := congrArg List.length hzz
        rw [Array.length_toList, size_zeroCells, hzz2, List.length_map] at this
        exact this.symm
       have hrun := rT (ty := o.type) (cap := cap) (n := len) (off := off) hu hzr hrow (by rw [hzz2, ← hv.length]; exact hfit) (by
        rw [hzz]
        intro v hv'
        obtain ⟨a', ha', rfl⟩ := List.mem_map.1 hv'
        have ha2 := dV ha'
        exact At.fit_one ((ke hzf).2 a' ha2) (hzo a' ha2))
       rw [hzz] at hrun
       refine main _ hcs hrun ⟨_, ?_, hk⟩
       have hm2 := iO (vs' := vs.take off ++ (bg z len).map At.den ++ vs.drop (off + ((bg z len).map At.den).length)) hmo'
       refine Bq (dst := none) (sv := .s (.at (.k (.tuple #[])))) (v := .tuple #[]) (vs' := vs.take off ++ (bg z len).map At.den ++ vs.drop (off + ((bg z len).map At.den).length)) hM hc (by simp) rfl (jZ _) (.inl rfl) hf hn hb hB' hm2 ?_ ?_
       ·rw [List.length_map]; exact hv.fill _ _
       ·intro a' ha'
        rcases lr ha' with h | h
        ·exact hc.ok.2 n b hb a' h
        ·exact hzo a' (dV h)
      ·cases he
    ·split at he
     ·rename_i hemp
      simp only [Option.some.injEq] at he
      subst he
      obtain ⟨hcs, _, hk⟩ := hr
      obtain ⟨base, hden⟩ := oi hemp
      refine main w hcs ?_ ⟨_, ?_, hk⟩
      ·rw [hden]
       cases base <;> simp [Builtin.clear_, run_underlying hu]
      ·exact mF (dst := none) (v := .tuple #[]) (sv := .s (.at (.k (.tuple #[])))) hM hc (by simp) rfl (jZ _) hf hn
     ·cases he
  ·cases he
 ·cases he
end
noncomputable section
variable {P : Program}
theorem eu : ∀ {ms : List (Nat × MB)} {O : Own} {n : Nat} {b : MB}, oN ms O → nP ms n = some b →
  ∃ p O1 O2, O = O1 ++ p :: O2 ∧ b.is p ∧ ∀ b' p', b'.is p' → oN (rL ms n b') (O1 ++ p' :: O2)
 | [], O, n, b, _, h => by simp [nP] at h
 | (k, m) :: r, O, n, b, hM, h => by
  obtain ⟨p, O', rfl, hp, hr⟩ := hM
  simp only [nP] at h
  split at h
  ·rename_i e
   simp only [Option.some.injEq] at h
   subst h
   refine ⟨p, [], O', rfl, hp, fun b' p' hb' => ?_⟩
   simp only [rL, e, if_true]
   exact ⟨p', O', rfl, hb', hr⟩
  ·rename_i e
   obtain ⟨q, O1, O2, rfl, hq, hs⟩ := eu hr h
   refine ⟨q, p :: O1, O2, rfl, hq, fun b' p' hb' => ?_⟩
   simp only [rL, e, if_false]
   exact ⟨p, O1 ++ p' :: O2, rfl, hp, hs b' p' hb'⟩
theorem MB.omap {b : MB} {p : Nat × Obj} (h : b.is p) (hs : b.sm = none) : OMap b.kd (.map (some b.r)) b.m [p] := by
 obtain ⟨es, clock, rfl, he⟩ := h
 refine ⟨b.r, es, clock, rfl, rfl, ?_⟩
 simpa only [MB.rows, hs] using he
theorem MB.is_int {b : MB} {p : Nat × Obj} (hs : b.sm = none) (h : ∃ es clock, p = (b.r, .map es clock) ∧ es.toList.map (fun e => (e.key, e.val)) = b.m.map fun p => ((.int b.kd p.1 : Value), p.2)) : b.is p := by
 obtain ⟨es, clock, rfl, he⟩ := h
 exact ⟨es, clock, rfl, by simpa only [MB.rows, hs] using he⟩
theorem rM {v : Value} {a : S1} (h : F6 v = some a) : a.den = v ∧ a.ok := by
 unfold F6 at h
 split at h
 ·rename_i h1
  simp only [Option.some.injEq] at h
  subst h
  exact ⟨rfl, cM h1⟩
 ·split at h
  ·rename_i l
   split at h
   ·rename_i hall
    simp only [Option.some.injEq] at h
    subst h
    refine ⟨?_, fun a ha => ?_⟩
    ·simp only [S1.den, List.map_map, Function.comp_def, At.den, List.map_id']
    ·simp only [S1.cells, List.mem_map] at ha
     obtain ⟨u, hu, rfl⟩ := ha
     exact List.all_eq_true.1 hall u hu
   ·cases h
  ·cases h
theorem nV {t : TypeId} (h : pJ P t = true) : ∃ kt et, P.underlying t = some (.map kt et) ∧ P.underlying kt = some .string := by
 unfold pJ at h
 split at h
 ·rename_i kt et hu
  split at h
  ·rename_i hk; exact ⟨kt, et, hu, hk⟩
  ·cases h
 ·cases h
theorem yY (a b : List UInt8) : ((⟨a.toArray⟩ : ByteArray) == ⟨b.toArray⟩) = (a == b) := by
 show (a.toArray == b.toArray) = _
 rw [Bool.eq_iff_iff, beq_iff_eq, beq_iff_eq]
 exact ⟨fun h => by simpa using congrArg Array.toList h, fun h => by rw [h]⟩
theorem il {x : List UInt8} : ∀ {es : List MapEntry} {m : FZ} {i : Nat}, es.map (fun e => (e.key, e.val)) = m.map (fun p => ((.string ⟨p.1.toArray⟩ : Value), p.2)) →
  (Instr.findNow .string (.string ⟨x.toArray⟩) es i = some none ∧ lj m x = none) ∨ ∃ j v, Instr.findNow .string (.string ⟨x.toArray⟩) es i = some (some (i + j, v)) ∧ lj m x = some v
 | [], [], i, _ => .inl ⟨rfl, rfl⟩
 | [], _ :: _, _, h => by simp at h
 | _ :: _, [], _, h => by simp at h
 | e :: es, p :: m, i, h => by
  simp only [List.map_cons, List.cons.injEq, Prod.mk.injEq] at h
  obtain ⟨⟨h1, h2⟩, h3⟩ := h
  have hs : Instr.sameNow .string (.string ⟨x.toArray⟩) e.key = some (x == p.1) := by
   rw [h1]
   show some ((⟨x.toArray⟩ : ByteArray) == ⟨p.1.toArray⟩) = _
   rw [yY]
  simp only [Instr.findNow, hs]
  by_cases hx : x = p.1
  ·right
   refine ⟨0, p.2, ?_, ?_⟩
   ·simp [hx, h2]
   ·simp [lj, hx]
  ·have hb : (x == p.1) = false := by simpa using hx
   rw [hb]
   rcases il (i := i + 1) h3 with ⟨a, b⟩ | ⟨j, v, a, b⟩
   ·left
    refine ⟨by simpa using a, ?_⟩
    simp only [lj, List.find?_cons, hb]; exact b
   ·right
    refine ⟨j + 1, v, ?_, ?_⟩
    ·simp only; rw [a]; congr 3; omega
    ·simp only [lj, List.find?_cons, hb]; exact b
theorem kl {kt : TypeId} (hk : P.underlying kt = some .string) (em : Bool) (v : Value) (w : World) : (Instr.checkKey em 10000 kt v).run P w = .ok () w := by
 show (Instr.checkKey em (9999 + 1) kt v).run P w = _
 unfold Instr.checkKey
 rw [Sem.run_bind, al hk]
 rfl
theorem tu {t kt et : TypeId} (ht : P.underlying t = some (.map kt et)) (hk : P.underlying kt = some .string) {z : Value} (hz : ∀ w, (zeroValue et).run P w = .ok z w)
  {r : Nat} {es : Array MapEntry} {clock : Nat} {m : FZ} (he : es.toList.map (fun e => (e.key, e.val)) = m.map (fun p => ((.string ⟨p.1.toArray⟩ : Value), p.2))) {w : World} (hrow : w.heap[r]? = some (.map es clock)) (x : List UInt8) :
  ((PrimOp.lookup t true).sem [.map (some r), .string ⟨x.toArray⟩]).run P w = .ok (.value (.tuple #[(lj m x).getD z, .bool (lj m x).isSome])) w := by
 have hg : (getObj r).run P w = .ok (.map es clock) w := by simp [getObj, Sem.run, hrow]
 simp only [PrimOp.sem, Instr.lookup, Sem.run_bind, al ht, Result.andThen_ok, hg, Sem.run_pure, kl hk, Instr.findKey, al hk]
 rcases il (x := x) (i := 0) he with ⟨a, b⟩ | ⟨j, u, a, b⟩
 ·rw [a, b]
  simp only [Sem.run_pure, Result.andThen_ok, hz, Option.getD_none, Option.isSome_none, Sem.run_bind]
  rfl
 ·rw [a, b]
  simp only [Sem.run_pure, Result.andThen_ok, Option.getD_some, Option.isSome_some, Sem.run_bind]
  rfl
theorem oS {t kt et : TypeId} (ht : P.underlying t = some (.map kt et)) (hk : P.underlying kt = some .string) {r : Nat} {es : Array MapEntry} {clock : Nat} {m : FZ}
  (he : es.toList.map (fun e => (e.key, e.val)) = m.map (fun p => ((.string ⟨p.1.toArray⟩ : Value), p.2))) (H : Heap) (x : List UInt8) (u : Value) (hx : lj m x = none) (w : World) (F : Own) (hm : Models w H ([(r, .map es clock)] ++ F)) :
  ∃ w' es' clock', (Instr.mapUpdate t (.map (some r)) (.string ⟨x.toArray⟩) u).run P w = .ok () w' ∧ es'.toList.map (fun e => (e.key, e.val)) = (m ++ [(x, u)]).map (fun p => ((.string ⟨p.1.toArray⟩ : Value), p.2)) ∧ Models w' H ([(r, .map es' clock')] ++ F) := by
 have hrow := (hm.own (r, .map es clock) (by simp)).1
 have hlt : r < w.heap.size := (Array.getElem?_eq_some_iff.1 hrow).1
 have hg : (getObj r).run P w = .ok (.map es clock) w := by simp [getObj, Sem.run, hrow]
 have hset : ∀ o, (setObj r o).run P w = .ok () { w with heap := w.heap.setIfInBounds r o } := fun o => by
  simp only [setObj, Sem.run, hrow]
 rcases il (x := x) (i := 0) he with ⟨a, _⟩ | ⟨j, u', _, b⟩
 case inr => rw [hx] at b; cases b
 have hm0 : Models w H ((r, .map es clock) :: F) := by simpa using hm
 refine ⟨{ w with heap := w.heap.setIfInBounds r (.map (es.push { key := .string ⟨x.toArray⟩, val := u, born := clock }) (clock + 1)) }, es.push { key := .string ⟨x.toArray⟩, val := u, born := clock }, clock + 1, ?_, ?_, ?_⟩
 ·simp only [Instr.mapUpdate, Sem.run_bind, al ht, Result.andThen_ok, hg, kl hk, Instr.findKey, al hk]
  rw [a]
  simp only [Sem.run_pure, Result.andThen_ok, hset, Sem.run_bind]
 ·simp [he]
 ·exact hm0.update (fun b hb => by simp [Ne.symm hb]) (by simp [hlt]) rfl
theorem lI {t et : TypeId} {k : IntKind} (h : ll P t = some (et, some k)) : ∃ kt, P.underlying t = some (.map kt et) ∧ P.underlying kt = some (.int k) := by
 unfold ll at h
 split at h
 ·rename_i kt et' hu
  simp only [Option.some.injEq, Prod.mk.injEq] at h
  obtain ⟨rfl, h⟩ := h
  split at h
  ·rename_i k' hk
   simp only [Option.some.injEq] at h
   subst h
   exact ⟨kt, hu, hk⟩
  ·cases h
 ·cases h
theorem pm {t : TypeId} {v : Value} (h : BA P t = some v) : ∀ w, (zeroValue t).run P w = .ok v w := by
 unfold BA at h
 simp only [Option.bind_eq_some_iff] at h
 obtain ⟨i, hi, hz⟩ := h
 intro w
 simp [zeroValue, typeInfo, hi, hz]
theorem pa {ops : Array Oper} {o : Oper} {x : CS} {t : TypeId} {e : Ef} (hop : o.op = .makeMap t none) (hg : ar (aJ ops) x.s o = .go []) (hd : ∀ d, o.dst = some d → d < x.s.sz)
  (he : mz P x t = some e) {hi : Nat} {F : Own} {H : Heap} {a : Act} {w : World} {K : CS → Prop} {Q : Exit → Act → World → Prop} (hC : CC hi F x H a w) (hr : e.run hi o.dst x K) :
  wp1 P ops Q o (fun a' w' => ∃ x', CC hi F x' H a' w' ∧ K x') a w := by
 obtain ⟨⟨O, hM, hc⟩, hf, hn⟩ := hC
 unfold mz at he
 simp only [Option.bind_eq_some_iff] at he
 obtain ⟨⟨et, k⟩, hk, he⟩ := he
 simp only [Option.some.injEq] at he
 subst he
 obtain ⟨_, hr⟩ := hr
 obtain ⟨_, hk⟩ := hr w.heap.size
 have hrun : (execOp a.eval o).run P w = .ok (.value (.map (some w.heap.size))) { w with heap := w.heap.push (.map #[] 0) } := by
  simp only [execOp, hop, Instr.makeMap, Sem.run_bind, Sem.run_pure, Result.andThen_ok, run_newObj, Option.map_none]
 refine eQ hc hg hrun ⟨_, ?_, hk⟩
 obtain ⟨L, hB, hmo⟩ := hc.mm
 refine jE (sv := .s (.at (.mp x.s.next w.heap.size))) (L' := L) (O' := (w.heap.size, .map #[] 0) :: O) (h' := { x.h with ms := (x.s.next, ⟨w.heap.size, k.getD .i64, [], if pJ P t then some [] else none⟩) :: x.h.ms }) (nx := x.s.next + 1) hc hd rfl (cM trivial) (.inr rfl) rfl hc.ok.2 hB ?_ ?_ ?_ (by omega)
 ·refine ⟨_, O, rfl, ⟨#[], 0, rfl, ?_⟩, hM⟩
  simp only [MB.rows]
  split
  ·rfl
  ·rename_i l hl
   split at hl
   ·simp only [Option.some.injEq] at hl; subst hl; rfl
   ·cases hl
 ·exact (hmo.push (.map #[] 0)).perm (List.perm_middle.symm)
 ·intro n h; exact hf n (by omega)
theorem tL {ops : Array Oper} {o : Oper} {x : CS} {c : Call} {e : Ef} (hop : o.op = .call c) (hcal : c.callee = .builtin .len) (hg : ar (aJ ops) x.s o = .go []) (hd : ∀ d, o.dst = some d → d < x.s.sz)
  (he : Ae P x c.argTypes c.args.toList = some e) {hi : Nat} {F : Own} {H : Heap} {a : Act} {w : World} {K : CS → Prop} {Q : Exit → Act → World → Prop} (hC : CC hi F x H a w) (hr : e.run hi o.dst x K) :
  wp1 P ops Q o (fun a' w' => ∃ x', CC hi F x' H a' w' ∧ K x') a w := by
 obtain ⟨⟨O, hM, hc⟩, hf, hn⟩ := hC
 unfold Ae at he
 split at he
 ·rename_i t n r cs hts hops
  split at he
  ·rename_i kt et b hu hb
   simp only [Option.some.injEq] at he
   subst he
   obtain ⟨⟨hrb, hcs⟩, _, hk⟩ := hr
   have hrb : r = b.r := hrb
   subst hrb
   obtain ⟨p, O1, O2, rfl, hp, _⟩ := eu hM hb
   obtain ⟨es, clock, rfl, hes⟩ := hp
   obtain ⟨L, hB, hmo⟩ := hc.mm
   have hrow := (hmo.own (b.r, .map es clock) (by simp)).1
   have hts' : c.argTypes = #[t] := by apply Array.ext'; simpa using hts
   have hg' : (getObj b.r).run P w = .ok (.map es clock) w := by simp [getObj, Sem.run, hrow]
   have hlen : es.size = b.rows.length := by
    have := congrArg List.length hes
    simpa using this
   refine eQ hc hg (v := goInt b.rows.length) (w' := w) (mI (ops := ops) hop hcal (by simp) (by simp) (vs := [(At.mp n b.r).den]) ?_ ?_) ⟨_, ?_, hk⟩
   ·have := bS hc hops hcs trivial
    simpa using this
   ·rw [hts']
    simp only [builtin, Sem.run_bind]
    have : (Builtin.len_ #[t] o.type #[(At.mp n b.r).den]).run P w = .ok (goInt b.rows.length) w := by
     simp only [Builtin.len_, At.den]
     simp [run_underlying hu, hg', hlen]
    rw [this]; rfl
   ·exact ou (sv := .s (.at (.k (goInt b.rows.length)))) hM hc hd rfl (jZ _) hf hn
  ·cases he
 ·cases he
theorem qS {ops : Array Oper} {o : Oper} {x : CS} {t : TypeId} {m k : Operand} {ok : Bool} {e : Ef} (hop : o.op = .lookup t m k ok) (hg : ar (aJ ops) x.s o = .go []) (hd : ∀ d, o.dst = some d → d < x.s.sz)
  (he : qT P x t m k ok = some e) {hi : Nat} {F : Own} {H : Heap} {a : Act} {w : World} {K : CS → Prop} {Q : Exit → Act → World → Prop} (hC : CC hi F x H a w) (hr : e.run hi o.dst x K) :
  wp1 P ops Q o (fun a' w' => ∃ x', CC hi F x' H a' w' ∧ K x') a w := by
 obtain ⟨⟨O, hM, hc⟩, hf, hn⟩ := hC
 unfold qT at he
 simp only [Option.bind_eq_some_iff] at he
 obtain ⟨⟨et, kk⟩, hkk, z, hz, he⟩ := he
 simp only at he
 split at he
 ·rename_i n r cm ka ck hm hk
  split at he
  ·rename_i kd i b hlit hb
   split at he
   ·rename_i hcond
    obtain ⟨hkd, hsm, hkk'⟩ := hcond
    subst hkd
    cases kk with
    | none => cases hkk'
    | some kd0 =>
    obtain ⟨kt, hu, hkt⟩ := lI hkk
    simp only [Option.bind_eq_some_iff, Option.some.injEq] at he
    obtain ⟨av, hav, rfl⟩ := he
    obtain ⟨hden, hokv⟩ := rM hav
    obtain ⟨⟨hrb, hcs⟩, _, hK⟩ := hr
    have hrb : r = b.r := hrb
    subst hrb
    have hcs := AllCk.append.1 hcs
    obtain ⟨p, O1, O2, rfl, hp, _⟩ := eu hM hb
    obtain ⟨L, hB, hmo⟩ := hc.mm
    have em : a.eval m = .map (some b.r) := ay hc hm hcs.1 trivial
    have ek : a.eval k = .int b.kd i := (ay hc hk hcs.2 trivial).trans (ju hlit)
    have hl := fx hu hkt (pm hz) (MB.omap hp hsm) (O := L ++ (O1 ++ p :: O2)) (by simp) (H := H) (w := w) (F := F) (by simpa using hmo) i ok
    have hrun : (execOp a.eval o).run P w = .ok (.value (if ok then .tuple #[(aP b.m i).getD z, .bool (aP b.m i).isSome] else (aP b.m i).getD z)) w := by
     rw [← hl]
     simp only [execOp, hop, PrimOp.sem, em, ek]
    refine eQ hc hg hrun ⟨_, ?_, hK⟩
    refine ou hM hc hd ?_ ?_ hf hn
    ·cases ok with
     | true =>
      show _ = Value.tuple #[av.den, _]
      rw [hden]; rfl
     | false => exact cg hden.symm
    ·cases ok with
     | true =>
      intro y hy
      simp only [if_true, List.mem_cons, List.not_mem_nil, or_false] at hy
      rcases hy with rfl | rfl
      ·exact hokv
      ·exact jZ _
     | false => exact hokv
   ·cases he
  ·rename_i y b hlit hb
   split at he
   ·rename_i l hsm
    split at he
    ·rename_i hcond
     simp only [Bool.and_eq_true] at hcond
     obtain ⟨hstr, rfl⟩ := hcond
     obtain ⟨kt, et', hu, hkt⟩ := nV hstr
     have het : et' = et := by
      unfold ll at hkk
      rw [hu] at hkk
      simp only [Option.some.injEq, Prod.mk.injEq] at hkk
      exact hkk.1
     subst het
     simp only [Option.bind_eq_some_iff, Option.some.injEq] at he
     obtain ⟨av, hav, rfl⟩ := he
     obtain ⟨hden, hokv⟩ := rM hav
     obtain ⟨⟨hrb, hcs⟩, _, hK⟩ := hr
     have hrb : r = b.r := hrb
     subst hrb
     have hcs := AllCk.append.1 hcs
     obtain ⟨p, O1, O2, rfl, ⟨es, clock, rfl, hes⟩, _⟩ := eu hM hb
     obtain ⟨L, hB, hmo⟩ := hc.mm
     have em : a.eval m = .map (some b.r) := ay hc hm hcs.1 trivial
     have ek : a.eval k = .string ⟨y.data.toList.toArray⟩ := (ay hc hk hcs.2 trivial).trans ((ju hlit).trans (by simp))
     have hrow := (hmo.own (b.r, .map es clock) (by simp)).1
     have hl := tu hu hkt (pm hz) (by simpa only [MB.rows, hsm] using hes) hrow y.data.toList
     have hrun : (execOp a.eval o).run P w = .ok (.value (.tuple #[(lj l y.data.toList).getD z, .bool (lj l y.data.toList).isSome])) w := by
      rw [← hl]
      simp only [execOp, hop, PrimOp.sem, em, ek]
     refine eQ hc hg hrun ⟨_, ?_, hK⟩
     refine ou hM hc hd ?_ ?_ hf hn
     ·show _ = Value.tuple #[av.den, _]
      rw [hden]; rfl
     ·intro y hy
      simp only [List.mem_cons, List.not_mem_nil, or_false] at hy
      rcases hy with rfl | rfl
      ·exact hokv
      ·exact jZ _
    ·cases he
   ·cases he
  ·cases he
 ·cases he
theorem jN {ops : Array Oper} {o : Oper} {x : CS} {t : TypeId} {m k v : Operand} {e : Ef} (hop : o.op = .mapUpdate t m k v ∨ o.op = .insert t m k v) (hg : ar (aJ ops) x.s o = .go []) (hdst : o.dst = none)
  (he : mK P x t m k v = some e) {hi : Nat} {F : Own} {H : Heap} {a : Act} {w : World} {K : CS → Prop} {Q : Exit → Act → World → Prop} (hC : CC hi F x H a w) (hr : e.run hi o.dst x K) :
  wp1 P ops Q o (fun a' w' => ∃ x', CC hi F x' H a' w' ∧ K x') a w := by
 obtain ⟨⟨O, hM, hc⟩, hf, hn⟩ := hC
 unfold mK at he
 simp only [Option.bind_eq_some_iff] at he
 obtain ⟨⟨et, kk⟩, hkk, he⟩ := he
 simp only at he
 split at he
 ·rename_i n r cm ka va ck hm hk
  split at he
  ·rename_i kd i u b hlit hlu hb
   split at he
   ·rename_i hkd
    obtain ⟨hkd, hsm, hone, hkk'⟩ := hkd
    subst hkd
    cases kk with
    | none => cases hkk'
    | some kd0 =>
    obtain ⟨kt, hu, hkt⟩ := lI hkk
    simp only [Option.some.injEq] at he
    subst he
    obtain ⟨⟨hrb, hcs⟩, _, hK⟩ := hr
    have hrb : r = b.r := hrb
    subst hrb
    have hcs := AllCk.append.1 hcs
    obtain ⟨p, O1, O2, rfl, hp, hset⟩ := eu hM hb
    obtain ⟨L, hB, hmo⟩ := hc.mm
    have em : a.eval m = .map (some b.r) := ay hc hm hcs.1 trivial
    have ekv := bS hc hk hcs.2 trivial
    simp only [List.map_cons, List.map_nil, List.cons.injEq, and_true] at ekv
    have ek : a.eval k = .int b.kd i := ekv.1.trans (ju hlit)
    have ev : a.eval v = u := ekv.2.trans (ju hlu)
    have hperm : Models w H ([p] ++ (L ++ (O1 ++ O2) ++ F)) := hmo.perm (by
     simp only [List.append_assoc, List.cons_append, List.nil_append]
     exact (List.perm_append_left_iff (L ++ O1)).2 (List.Perm.refl (p :: (O2 ++ F))) |> fun h => by
      simp only [List.append_assoc] at h ⊢
      rw [← List.append_assoc, ← List.append_assoc L O1]
      exact List.perm_middle)
    obtain ⟨v', w', H', O', h1, ⟨rfl, h3⟩, h4, h5⟩ := jM hu hkt (MB.omap hp hsm) H i u w _ hperm
    have hex : (execOp a.eval o).run P w = .ok .skip w' := by
     have hs : ((PrimOp.mapUpdate t).sem [.map (some b.r), .int b.kd i, u]).run P w = ((Instr.mapUpdate t (.map (some b.r)) (.int b.kd i) u).run P w).andThen fun _ w' => .ok (.value (.bool false)) w' := by
      simp only [PrimOp.sem, Sem.run_bind, Sem.run_pure]
     rw [hs] at h1
     cases hmu : (Instr.mapUpdate t (.map (some b.r)) (.int b.kd i) u).run P w with
     | ok y w1 =>
      rw [hmu] at h1
      simp only [Result.andThen_ok, Result.ok.injEq] at h1
      obtain ⟨_, rfl⟩ := h1
      rcases hop with hop | hop
      ·simp only [execOp, hop, Sem.run_bind, Sem.run_pure, em, ek, ev, hmu, Result.andThen_ok]
      ·simp only [execOp, hop, Sem.run_bind, Sem.run_pure, em, ek, ev, hmu, Result.andThen_ok]
     | halt y w1 => rw [hmu] at h1; simp at h1
    refine uo hc hg hex ⟨_, ?_, hK⟩
    rw [hdst]
    obtain ⟨r', es', clock', hv', rfl, hes'⟩ := h3
    simp only [Value.map.injEq, Option.some.injEq] at hv'
    subst hv'
    refine jE (dst := none) (v := undef) (sv := .s (.at (.k undef))) (L' := L) (O' := O1 ++ (b.r, .map es' clock') :: O2) (nx := x.s.next) (h' := { x.h with ms := rL x.h.ms n { b with m := kY b.m i u } }) hc (by simp) rfl (jZ _) (.inl rfl) rfl hc.ok.2 hB ?_ ?_ hf hn
    ·exact hset _ _ (MB.is_int (b := { b with m := kY b.m i u }) hsm ⟨es', clock', rfl, hes'⟩)
    ·refine h5.perm ?_
     simp only [List.append_assoc, List.cons_append, List.nil_append]
     rw [← List.append_assoc, ← List.append_assoc L O1]
     exact List.perm_middle.symm
   ·cases he
  ·rename_i y u b hlit hlu hb
   split at he
   ·rename_i l hsm
    split at he
    ·rename_i hcond
     simp only [Bool.and_eq_true, Option.isNone_iff_eq_none] at hcond
     obtain ⟨⟨hstr, hone⟩, hnew⟩ := hcond
     obtain ⟨kt, et', hu, hkt⟩ := nV hstr
     simp only [Option.some.injEq] at he
     subst he
     obtain ⟨⟨hrb, hcs⟩, _, hK⟩ := hr
     have hrb : r = b.r := hrb
     subst hrb
     have hcs := AllCk.append.1 hcs
     obtain ⟨p, O1, O2, rfl, ⟨es, clock, rfl, hes⟩, hset⟩ := eu hM hb
     obtain ⟨L, hB, hmo⟩ := hc.mm
     have em : a.eval m = .map (some b.r) := ay hc hm hcs.1 trivial
     have ekv := bS hc hk hcs.2 trivial
     simp only [List.map_cons, List.map_nil, List.cons.injEq, and_true] at ekv
     have ek : a.eval k = .string ⟨y.data.toList.toArray⟩ := ekv.1.trans ((ju hlit).trans (by simp))
     have ev : a.eval v = u := ekv.2.trans (ju hlu)
     have hperm : Models w H ([(b.r, .map es clock)] ++ (L ++ (O1 ++ O2) ++ F)) := hmo.perm (by
      simp only [List.append_assoc, List.cons_append, List.nil_append]
      rw [← List.append_assoc, ← List.append_assoc L O1]
      exact List.perm_middle)
     obtain ⟨w', es', clock', h1, h3, h5⟩ := oS hu hkt (by simpa only [MB.rows, hsm] using hes) H y.data.toList u hnew w _ hperm
     have hex : (execOp a.eval o).run P w = .ok .skip w' := by
      rcases hop with hop | hop
      ·simp only [execOp, hop, Sem.run_bind, Sem.run_pure, em, ek, ev, h1, Result.andThen_ok]
      ·simp only [execOp, hop, Sem.run_bind, Sem.run_pure, em, ek, ev, h1, Result.andThen_ok]
     refine uo hc hg hex ⟨_, ?_, hK⟩
     rw [hdst]
     refine jE (dst := none) (v := undef) (sv := .s (.at (.k undef))) (L' := L) (O' := O1 ++ (b.r, .map es' clock') :: O2) (nx := x.s.next) (h' := { x.h with ms := rL x.h.ms n { b with sm := some (l ++ [(y.data.toList, u)]) } }) hc (by simp) rfl (jZ _) (.inl rfl) rfl hc.ok.2 hB ?_ ?_ hf hn
     ·exact hset _ _ ⟨es', clock', rfl, h3⟩
     ·refine h5.perm ?_
      simp only [List.append_assoc, List.cons_append, List.nil_append]
      rw [← List.append_assoc, ← List.append_assoc L O1]
      exact List.perm_middle.symm
    ·cases he
   ·cases he
  ·cases he
 ·cases he
theorem lU : ∀ {l : List At} {bs : List UInt8}, jH l = some bs → l.map At.den = bs.map fun b => Value.int .u8 (b.toNat : Int)
 | [], bs, h => by simp only [jH, Option.some.injEq] at h; subst h; rfl
 | a :: r, bs, h => by
  unfold jH at h
  split at h
  ·rename_i e; cases e
  ·rename_i n r' e
   simp only [List.cons.injEq] at e
   obtain ⟨rfl, rfl⟩ := e
   split at h
   ·rename_i hn
    simp only [Option.map_eq_some_iff] at h
    obtain ⟨bs', hb, rfl⟩ := h
    rw [List.map_cons, List.map_cons, lU hb]
    congr 1
    simp only [At.den]
    congr 1
    have : n.toNat < 256 := by omega
    simp [Nat.mod_eq_of_lt this]
    omega
   ·cases h
  ·cases h
theorem t8 {ops : Array Oper} {o : Oper} {x : CS} {ta tb : TypeId} {y : Operand} {e : Ef} (hop : o.op = .convert ta tb y) (hg : ar (aJ ops) x.s o = .go []) (hd : ∀ d, o.dst = some d → d < x.s.sz)
  (he : AI P x ta tb y = some e) {hi : Nat} {F : Own} {H : Heap} {a : Act} {w : World} {K : CS → Prop} {Q : Exit → Act → World → Prop} (hC : CC hi F x H a w) (hr : e.run hi o.dst x K) :
  wp1 P ops Q o (fun a' w' => ∃ x', CC hi F x' H a' w' ∧ K x') a w := by
 obtain ⟨⟨O, hM, hc⟩, hf, hn⟩ := hC
 unfold AI at he
 split at he
 ·rename_i el ya cs hs hdt hy
  split at he
  ·rename_i hel
   simp only [Option.bind_eq_some_iff] at he
   obtain ⟨⟨l, m, ck, rd⟩, hsrc, bs, hbs, he⟩ := he
   simp only [Option.some.injEq] at he
   subst he
   obtain ⟨hcs, _, hk⟩ := hr
   have hcs := AllCk.append.1 hcs
   have ey := ay hc hy hcs.2 trivial
   have hbd := lU hbs
   have hrun : (execOp a.eval o).run P w = .ok (.value (.string ⟨bs.toArray⟩)) w := by
    have hcv : (Go.convert ta tb ya.den).run P w = .ok (.string ⟨bs.toArray⟩) w := by
     unfold mN at hsrc
     split at hsrc
     ·rename_i n r off len cap
      split at hsrc
      ·rename_i b hb
       simp only [] at hsrc
       split at hsrc
       ·rename_i hcond
        simp only [Bool.and_eq_true, beq_iff_eq] at hcond
        simp only [Option.some.injEq, Prod.mk.injEq] at hsrc
        obtain ⟨rfl, rfl, rfl, rfl⟩ := hsrc
        have hr : r = b.r := hcs.1
        subst hr
        obtain ⟨h1, _⟩ := rk hc hb hcond.1 hcond.2
        have hlen : bs.length = len := by
         have := congrArg List.length hbd
         rw [List.length_map, List.length_map, hcond.1, Nat.mul_one] at this
         exact this.symm
        subst hlen
        refine run_convert_bytes_back w ta tb el ⟨b.r, off, none⟩ cap bs hs hel hdt ?_
        intro j hj
        refine h1 j _ ?_
        rw [hbd, List.getElem?_map, List.getElem?_eq_getElem hj]
        rfl
       ·cases hsrc
      ·cases hsrc
     ·rename_i va vc
      simp only [Option.some.injEq, Prod.mk.injEq] at hsrc
      obtain ⟨rfl, rfl, rfl, rfl⟩ := hsrc
      simp only [jH, Option.some.injEq] at hbs
      subst hbs
      cases va with
      | none => exact run_convert_bytes_nil w ta el hs hel 0 vc tb hdt
      | some ad => exact run_convert_bytes_back w ta tb el ad vc [] hs hel hdt (by simp)
     ·rename_i va vc
      simp only [Option.some.injEq, Prod.mk.injEq] at hsrc
      obtain ⟨rfl, rfl, rfl, rfl⟩ := hsrc
      simp only [jH, Option.some.injEq] at hbs
      subst hbs
      cases va with
      | none => exact run_convert_bytes_nil w ta el hs hel 0 vc tb hdt
      | some ad => exact run_convert_bytes_back w ta tb el ad vc [] hs hel hdt (by simp)
     ·cases hsrc
    simp only [execOp, hop, Sem.run_bind, ey, hcv, Result.andThen_ok, Sem.run_pure]
   refine eQ hc hg hrun ⟨_, ?_, hk⟩
   exact mF (sv := .s (.at (.k (.string ⟨bs.toArray⟩)))) hM hc hd rfl (jZ _) hf hn
  ·cases he
 ·cases he
end
noncomputable section
variable {P : Program}
theorem yz {ops : Array Oper} {Q : Exit → Act → World → Prop} {o o' : Oper} {K : Act → World → Prop} {a : Act} {w : World} (hg : o.guard = o'.guard) (hd : o.dst = o'.dst) (he : execOp a.eval o = execOp a.eval o')
  (h : wp1 P ops Q o' K a w) : wp1 P ops Q o K a w := by
 have hw : Region.wanted o (yielded ops a.tmps) = Region.wanted o' (yielded ops a.tmps) := by unfold Region.wanted; rw [hg]
 unfold wp1 at h ⊢
 rw [hw]
 have h1 : o.wp P a w K Q = o'.wp P a w K Q := by
  unfold Oper.wp Oper.upon
  rw [he, hd]
 have h2 : o.asks P a w = o'.asks P a w := by unfold Oper.asks; rw [he]
 rw [h1, h2, hd]
 exact h
theorem vA {c : Cfg} {ops : Array Oper} {o : Oper} {x : CS} {name : Nat} {t : TypeId} {l k : Operand} {e : Ef} (hop : o.op = .makeSlice t l k)
  (he : F8 c ops name o x t l k = some e) {hi : Nat} {F : Own} {H : Heap} (hgl : GlobOk c.glob H) {a : Act} {w : World} {K : CS → Prop} {Q : Exit → Act → World → Prop} (hC : CC hi F x H a w) (hr : e.run hi o.dst x K) :
  wp1 c.P ops Q o (fun a' w' => ∃ x', CC hi F x' H a' w' ∧ K x') a w := by
 unfold F8 at he
 split at he
 ·rename_i lv cl kv ck hl hk
  simp only [Option.bind_eq_some_iff] at he
  obtain ⟨⟨y, fp⟩, hy, he⟩ := he
  have hc := hC.1.choose_spec.2
  have ecl := jY hl
  have eck := jY hk
  subst ecl; subst eck
  have el : a.eval l = lv := ay hc hl trivial trivial
  have ek : a.eval k = kv := ay hc hk trivial trivial
  have := nQ (o := { o with op := .makeSlice t (.const lv) (.const kv) }) (fun _ h => by cases h) hy he hgl (Q := Q) hC hr
  refine yz (o' := { o with op := .makeSlice t (.const lv) (.const kv) }) rfl rfl ?_ this
  simp only [execOp, hop, el, ek]
  rfl
 ·cases he
theorem iL {x x' : CS} {size : Nat} {a : At} {l : List At} {m : Nat} {ck : List Ck} {rd : List Nat} (h : mN x size a = some (l, m, ck, rd)) (hm : ∀ n ∈ rd, x'.s.mem n = x.s.mem n) : mN x' size a = some (l, m, ck, rd) := by
 unfold mN at h ⊢
 split at h
 ·rename_i n r off len cap
  split at h
  ·rename_i b hb
   have h0 := h
   simp only [] at h
   split at h
   ·simp only [Option.some.injEq, Prod.mk.injEq] at h
    obtain ⟨rfl, rfl, rfl, rfl⟩ := h
    simp only
    rw [hm n (by simp), hb]
    exact h0
   ·cases h
  ·cases h
 ·exact h
 ·exact h
 ·cases h
theorem wE {x x' : CS} {size : Nat} {t : TypeId} {a : At} {l : List At} {m : Nat} {ck : List Ck} {rd : List Nat} (h : EZ P x size t a = some (l, m, ck, rd)) (hm : ∀ n ∈ rd, x'.s.mem n = x.s.mem n) : EZ P x' size t a = some (l, m, ck, rd) := by
 unfold EZ at h ⊢
 split at h
 ·exact iL h hm
 ·exact h
 ·cases h
theorem oH {x : CS} {e : TypeId} {size : Nat} {sa : At} {news : List At} {m : Nat} {ck : List Ck} {rd : List Nat} {f : Ef} (h : fm P x e size sa news m ck rd = some f) :
  f.lo.isSome = true ∧ (∀ k ∈ rd, k ∈ f.rd) ∧ (m ≠ 0 → ∀ n r off len cap, sa = .sl n r off len cap → n ∈ f.rd) := by
 unfold fm at h
 split at h
 ·rename_i hm0
  split at h
  ·split at h
   ·simp only [Option.some.injEq] at h; subst h; exact ⟨rfl, fun _ h => h, fun h => absurd hm0 h⟩
   ·cases h
  ·cases h
 ·split at h
  ·rename_i n r off len cap
   simp only [] at h
   split at h
   ·cases h
   ·split at h
    ·cases h
    ·split at h
     ·cases h
     ·have fin : ∀ {f : Ef} {cs : List Ck} {G : G Upd} {wr : List Nat}, some (Ef.mk cs G (n :: rd) wr (some x.s.next)) = some f → f.lo.isSome = true ∧ (∀ k ∈ rd, k ∈ f.rd) ∧ (m ≠ 0 → ∀ n' r' off' len' cap', At.sl n r off len cap = .sl n' r' off' len' cap' → n' ∈ f.rd) := by
       intro f cs G wr h
       simp only [Option.some.injEq] at h
       subst h
       refine ⟨rfl, fun k hk => List.mem_cons_of_mem _ hk, fun _ n' r' off' len' cap' he => ?_⟩
       simp only [At.sl.injEq] at he
       rw [← he.1]; simp
      split at h
      ·split at h
       ·split at h
        ·exact fin h
        ·cases h
       ·exact fin h
      ·split at h
       ·split at h
        ·split at h
         ·exact fin h
         ·cases h
        ·cases h
       ·split at h
        ·exact fin h
        ·cases h
  ·rename_i hns
   split at h
   ·split at h
    ·cases h
    ·simp only [Option.some.injEq] at h
     subst h
     exact ⟨rfl, fun _ h => h, fun _ n r off len cap he => absurd he (hns n r off len cap)⟩
   ·cases h
theorem rn {x x' : CS} {e : TypeId} {size : Nat} {sa : At} {news : List At} {m : Nat} {ck : List Ck} {rd : List Nat} {f : Ef} (h : fm P x e size sa news m ck rd = some f)
  (hn : x'.s.next = x.s.next) (hh : x'.h = x.h) (hm : ∀ n ∈ f.rd, x'.s.mem n = x.s.mem n) : fm P x' e size sa news m ck rd = some f := by
 obtain ⟨_, _, hs⟩ := oH h
 have hg : ∀ need known old, vG x' e size need known old = vG x e size need known old := by
  intro need known old
  unfold vG
  rw [hn, hh]
 by_cases hm0 : m = 0
 ·unfold fm at h ⊢
  rw [if_pos hm0] at h ⊢
  rw [hn, hh]; exact h
 ·unfold fm at h ⊢
  rw [if_neg hm0] at h ⊢
  cases sa with
  | sl n r off len cap =>
   have hmem := hm n (hs hm0 n r off len cap rfl)
   simp only [hmem, hn, hh, hg] at h ⊢
   exact h
  | _ => simp only [hn, hh, hg] at h ⊢; exact h
theorem qH {c : Call} : (Op.call c).operands.toList = (match c.callee with | .value f => [f] | .invoke r _ => [r] | .builtin _ => []) ++ c.args.toList := by
 simp only [Op.operands, Call.operands]
 cases c.callee <;> simp
theorem tW {c : Cfg} {call : dj} {ops : Array Oper} {name : Nat} {o : Oper} {x x' : CS} {e : Ef} (hl : (Be c.P o.op).isLight = false) (h : dW c call ops name o x (Be c.P o.op) = some e)
  (hz : x'.s.sz = x.s.sz) (ht : ∀ t ∈ o.looksAt ops, x'.s.tmps t = x.s.tmps t) (hm : ∀ n ∈ e.rd, x'.s.mem n = x.s.mem n) (hh : e.lo.isSome = true → x'.s.next = x.s.next ∧ x'.h = x.h) :
  dW c call ops name o x' (Be c.P o.op) = some e := by
 have hx : ∀ y ∈ o.op.operands.toList, Ea x.s x'.s y := by
  rintro y hy t rfl
  refine ht t ?_
  simp only [Oper.looksAt, List.mem_append]
  left
  exact List.mem_filterMap.2 ⟨_, hy, rfl⟩
 unfold Be at h hl ⊢
 split at h
 ·rename_i cl hop
  rw [hop, qH] at hx
  have hargs : ∀ y ∈ cl.args.toList, Ea x.s x'.s y := fun y hy => hx y (List.mem_append_right _ hy)
  split at h
  ·rename_i f hf
   rw [hf] at hx
   exact ue (P := c.P) h (hx f (by simp)) hargs hm hh
  ·
   simp only [dW] at h ⊢
   unfold rq at h ⊢
   rw [aK hargs]
   split at h
   ·split at h
    ·simp only [Option.bind_eq_some_iff] at h
     obtain ⟨size, hsz, h⟩ := h
     split at h
     ·cases h
     ·rename_i hk
      simp only [Option.bind_eq_some_iff] at h
      obtain ⟨⟨news, m, ck, rd⟩, hs, h⟩ := h
      simp only [] at h
      split at h
      ·rename_i hfit
       obtain ⟨h1, h2, _⟩ := oH h
       obtain ⟨e1, e2⟩ := hh h1
       have hs' := wE hs fun n hn => hm n (h2 n hn)
       have h' := rn h e1 e2 hm
       simp only [hsz, Option.bind_some, if_neg hk, hs', hfit, if_true]
       exact h'
      ·cases h
    ·cases h
   ·cases h
  ·
   simp only [dW] at h ⊢
   split at h
   ·rename_i hdst
    simp only [hdst, if_true]
    unfold uS at h ⊢
    rw [aK hargs]
    split at h
    ·split at h
     ·simp only [Option.bind_eq_some_iff] at h
      obtain ⟨size, hsz, z, hz', h⟩ := h
      split at h
      ·cases h
      ·rename_i hk
       simp only [hsz, hz', Option.bind_some, if_neg hk]
       split at h
       ·rename_i n r off len cap _
        split at h
        ·cases h
        ·rename_i b hb
         split at h
         ·rename_i hfit
          simp only [Option.some.injEq] at h
          subst h
          rw [hm n (by simp), hb]
          simp only [hfit, if_true]
         ·cases h
       ·split at h
        ·rename_i hem
         simp only [hem, if_true]
         exact h
        ·cases h
     ·cases h
    ·cases h
   ·cases h
  ·
   split at h
   ·rename_i hmt
    rw [if_pos hmt]
    simp only [dW] at h ⊢
    unfold Ae at h ⊢
    rw [aK hargs]
    split at h
    ·split at h
     ·rename_i kt et b hu hb
      simp only [Option.some.injEq] at h
      subst h
      obtain ⟨e1, e2⟩ := hh rfl
      simp only [hu, e2, hb, e1]
     ·cases h
    ·cases h
   ·cases h
  ·
   simp only [dW] at h ⊢
   unfold AH at h ⊢
   rw [aK hargs]
   split at h
   ·split at h
    ·simp only [Option.bind_eq_some_iff] at h
     obtain ⟨size, hsz, h⟩ := h
     split at h
     ·cases h
     ·rename_i hk
      simp only [Option.bind_eq_some_iff] at h
      obtain ⟨⟨news, m, ck, rd⟩, hs, h⟩ := h
      simp only [] at h
      split at h
      ·rename_i n r off len cap _
       split at h
       ·cases h
       ·rename_i b hb
        split at h
        ·cases h
        ·rename_i hold
         simp only [Option.some.injEq] at h
         subst h
         have hs' := iL hs fun n hn => hm n (List.mem_cons_of_mem _ hn)
         simp only [hsz, Option.bind_some, if_neg hk, hs']
         rw [hm n (by simp), hb]
         simp only [if_neg hold]
      ·split at h
       ·rename_i hem
        simp only [Option.some.injEq] at h
        subst h
        have hs' := iL hs fun n hn => hm n hn
        simp only [hsz, Option.bind_some, if_neg hk, hs', hem, if_true]
       ·cases h
    ·cases h
   ·cases h
  ·cases h
 ·
  simp only [dW] at h ⊢
  unfold mz at h ⊢
  simp only [Option.bind_eq_some_iff] at h
  obtain ⟨⟨et, k⟩, hk, h⟩ := h
  simp only [Option.some.injEq] at h
  subst h
  obtain ⟨e1, e2⟩ := hh rfl
  simp only [hk, Option.bind_some, e1, e2]
 ·rename_i t m k ok hop
  rw [hop] at hx
  simp only [dW] at h ⊢
  unfold qT at h ⊢
  rw [aA (hx m (by simp [Op.operands])), aA (hx k (by simp [Op.operands]))]
  have h0 := h
  simp only [Option.bind_eq_some_iff] at h
  obtain ⟨⟨et, kk⟩, hkk, z, hz', h⟩ := h
  have hlo : e.lo.isSome = true := by
   split at h
   ·split at h
    ·split at h
     ·simp only [Option.bind_eq_some_iff, Option.some.injEq] at h; obtain ⟨_, _, rfl⟩ := h; rfl
     ·cases h
    ·split at h
     ·split at h
      ·simp only [Option.bind_eq_some_iff, Option.some.injEq] at h; obtain ⟨_, _, rfl⟩ := h; rfl
      ·cases h
     ·cases h
    ·cases h
   ·cases h
  obtain ⟨e1, e2⟩ := hh hlo
  rw [e1, e2]; exact h0
 ·rename_i t m k v hop
  rw [hop] at hx
  simp only [dW] at h ⊢
  split at h
  ·rename_i hdst
   simp only [hdst, if_true]
   unfold mK at h ⊢
   rw [aA (hx m (by simp [Op.operands])), aK (xs := [k, v]) (fun y hy => hx y (by simp only [List.mem_cons, List.not_mem_nil, or_false] at hy; rcases hy with rfl | rfl <;> simp [Op.operands]))]
   have h0 := h
   simp only [Option.bind_eq_some_iff] at h
   obtain ⟨⟨et, kk⟩, hkk, h⟩ := h
   have hlo : e.lo.isSome = true := by
    split at h
    ·split at h
     ·split at h
      ·simp only [Option.some.injEq] at h; subst h; rfl
      ·cases h
     ·split at h
      ·split at h
       ·simp only [Option.some.injEq] at h; subst h; rfl
       ·cases h
      ·cases h
     ·cases h
    ·cases h
   obtain ⟨e1, e2⟩ := hh hlo
   rw [e1, e2]; exact h0
  ·cases h
 ·rename_i t m k v hop
  rw [hop] at hx
  simp only [dW] at h ⊢
  split at h
  ·rename_i hdst
   simp only [hdst, if_true]
   unfold mK at h ⊢
   rw [aA (hx m (by simp [Op.operands])), aK (xs := [k, v]) (fun y hy => hx y (by simp only [List.mem_cons, List.not_mem_nil, or_false] at hy; rcases hy with rfl | rfl <;> simp [Op.operands]))]
   have h0 := h
   simp only [Option.bind_eq_some_iff] at h
   obtain ⟨⟨et, kk⟩, hkk, h⟩ := h
   have hlo : e.lo.isSome = true := by
    split at h
    ·split at h
     ·split at h
      ·simp only [Option.some.injEq] at h; subst h; rfl
      ·cases h
     ·split at h
      ·split at h
       ·simp only [Option.some.injEq] at h; subst h; rfl
       ·cases h
      ·cases h
     ·cases h
    ·cases h
   obtain ⟨e1, e2⟩ := hh hlo
   rw [e1, e2]; exact h0
  ·cases h
 ·
  rename_i t l k hop
  have hx' := hx
  rw [hop] at hx
  simp only [dW] at h ⊢
  unfold F8 at h ⊢
  rw [aA (hx l (by simp [Op.operands])), aA (hx k (by simp [Op.operands]))]
  split at h
  ·rename_i lv cl kv ck h1 h2
   simp only [Option.bind_eq_some_iff] at h
   obtain ⟨⟨y, fp⟩, hy, h⟩ := h
   have hrd := (xb h).2
   have hy' := qP (s' := x'.s) hy hz (fun t ht' => ht t (by
    simp only [Oper.looksAt, List.mem_append] at ht' ⊢
    rcases ht' with ht' | ht'
    ·simp [Op.operands] at ht'
    ·exact .inr ht')) (fun n hn => hm n (by rw [hrd]; exact hn))
   simp only [hy', Option.bind_some]
   exact h
  ·cases h
 ·
  rename_i ta tb y hop
  rw [hop] at hx
  split at h
  ·cases h
  ·rename_i hnl
   simp only [if_neg hnl]
   simp only [dW] at h ⊢
   unfold AI at h ⊢
   rw [aA (hx y (by simp [Op.operands]))]
   split at h
   ·split at h
    ·rename_i hel
     simp only [Option.bind_eq_some_iff] at h
     obtain ⟨⟨l, m, ck, rd⟩, hs, bs, hb, h⟩ := h
     simp only [Option.some.injEq] at h
     subst h
     have hs' := iL hs fun n hn => hm n hn
     simp only [hel, hs', Option.bind_some, hb]
    ·cases h
   ·cases h
 ·cases h
theorem sH {c : Cfg} (hokf : ∀ f, c.ok f = true → gU c.P f) {call : dj} {H : Heap} (hcall : f4 c.P c.ok H call) (hgl : GlobOk c.glob H) {ops : Array Oper} {name : Nat} {o : Oper} {x : CS} {e : Ef}
  (hg : ar (aJ ops) x.s o = .go []) (hd : ∀ d, o.dst = some d → d < x.s.sz) (he : dW c call ops name o x (Be c.P o.op) = some e)
  {hi : Nat} {F : Own} {a : Act} {w : World} {K : CS → Prop} {Q : Exit → Act → World → Prop} (hC : CC hi F x H a w) (hr : e.run hi o.dst x K) : wp1 c.P ops Q o (fun a' w' => ∃ x', CC hi F x' H a' w' ∧ K x') a w := by
 unfold Be at he
 split at he
 ·rename_i cl hop
  split at he
  ·rename_i f hf
   exact sX hokf hcall hop hf hg hd he hC hr
  ·rename_i hf
   exact rp hop hf hg hd he hC hr
  ·rename_i hf
   simp only [dW] at he
   split at he
   ·rename_i hdst
    exact sU hop hf hg (by simpa using hdst) he hC hr
   ·cases he
  ·rename_i hf
   split at he
   ·exact tL hop hf hg hd he hC hr
   ·cases he
  ·rename_i hf
   exact t7 hop hf hg hd he hC hr
  ·cases he
 ·rename_i t hop
  exact pa hop hg hd he hC hr
 ·rename_i t m k ok hop
  exact qS hop hg hd he hC hr
 ·rename_i t m k v hop
  simp only [dW] at he
  split at he
  ·rename_i hdst
   exact jN (.inl hop) hg (by simpa using hdst) he hC hr
  ·cases he
 ·rename_i t m k v hop
  simp only [dW] at he
  split at he
  ·rename_i hdst
   exact jN (.inr hop) hg (by simpa using hdst) he hC hr
  ·cases he
 ·rename_i t l k hop
  exact vA hop he hgl hC hr
 ·rename_i ta tb y hop
  split at he
  ·cases he
  ·exact t8 hop hg hd he hC hr
 ·cases he
theorem FW {c : Cfg} (hokf : ∀ f, c.ok f = true → gU c.P f) {H : Heap} (hgl : GlobOk c.glob H) (call : dj) (hcall : f4 c.P c.ok H call) : NOk c.P (cN c call) H := by
 constructor
 ·intro ops base i o x x' e h hz ht hm hh
  unfold cN at h ⊢
  rw [tJ] at h ⊢
  simp only [] at h ⊢
  split at h
  ·rename_i hl
   rw [if_pos hl]
   simp only [Option.bind_eq_some_iff] at h
   obtain ⟨⟨y, fp⟩, hy, he⟩ := h
   have hrd := (xb he).2
   have := qP (s' := x'.s) hy hz ht (fun n hn => hm n (by rw [hrd]; exact hn))
   simp only [this, Option.bind_some]
   exact he
  ·rename_i hl
   rw [if_neg hl]
   have hd : kh x'.s o.dst = kh x.s o.dst := by unfold kh; rw [hz]
   have hg : ar (aJ ops) x'.s o = ar (aJ ops) x.s o := by
    refine kb fun j want t h1 h2 => ht t ?_
    simp only [Oper.looksAt, h1, List.mem_append]
    right
    unfold aJ at h2
    simp [h2]
   rw [hd, hg]
   split at h
   ·cases h
   ·rename_i hdo
    rw [if_neg hdo]
    split at h
    ·exact h
    ·exact tW (by simpa using hl) h hz ht hm hh
    ·cases h
 ·intro ops base tab i o x e ho he F a w K Q hC hr
  simp only at ho he hC hr ⊢
  unfold cN at he
  rw [tJ] at he
  simp only [] at he
  split at he
  ·simp only [Option.bind_eq_some_iff] at he
   obtain ⟨⟨y, fp⟩, hy, he⟩ := he
   exact nQ (fun _ h => by cases h) hy he hgl hC hr
  ·split at he
   ·cases he
   ·rename_i hdo
    have hd : ∀ d, o.dst = some d → d < x.s.sz := by
     intro d hd
     simp only [hd, kh, Bool.not_eq_true', decide_eq_false_iff_not, Decidable.not_not] at hdo
     exact hdo
    split at he
    ·rename_i hg
     simp only [Option.some.injEq] at he
     subst he
     obtain ⟨⟨O, hM, hc⟩, hf, hn⟩ := hC
     obtain ⟨_, _, hk⟩ := hr
     unfold wp1
     rw [if_neg (by simp [pT hc hg])]
     exact ⟨_, mF (sv := .s (.at (.k undef))) hM hc hd rfl (jZ _) hf hn, hk⟩
    ·rename_i hg
     exact sH hokf hcall hgl hg hd he hC hr
    ·cases he
end
end Go.Sx
namespace Go.Sx
open Go Go.ChangeShapes Go.WideShapes
noncomputable section
variable {P : Program}
theorem vi {H : Heap} {g : Nat} {cs : List Value} (h : ∀ i v, cs[i]? = some v → H.cell? ⟨g, i, none⟩ = some v) {off m : Nat} (hle : off + m ≤ cs.length) : H.read (.pointer (some ⟨g, off, none⟩)) m = some ((cs.drop off).take m) := by
 simp only [Heap.read]
 have key : ∀ (n i : Nat), i + n = m → (List.range' i n).mapM (fun i => H.cell? ((⟨g, off, none⟩ : Addr).add i)) = some (((cs.drop off).drop i).take n) := by
  intro n
  induction n with
  | zero => intro i _; simp
  | succ n ih =>
   intro i hi
   have hlt : off + i < cs.length := by omega
   have hc : H.cell? ((⟨g, off, none⟩ : Addr).add i) = some cs[off + i] := by
    rw [aZ]
    exact h _ _ (List.getElem?_eq_getElem hlt)
   rw [List.range'_succ, List.mapM_cons, hc, ih (i + 1) (by omega)]
   simp only [Option.pure_def, Option.bind_eq_bind, Option.bind_some]
   congr 1
   rw [show (cs.drop off).drop i = cs[off + i] :: (cs.drop off).drop (i + 1) by
    rw [List.drop_drop, List.drop_drop, List.drop_eq_getElem_cons hlt]; rfl]
   rfl
 rw [List.range_eq_range']
 simpa using key m 0 (by omega)
def isT (r : SV × CS) : Bool := match r.1 with | .s (.at (.k (.bool b))) => b | _ => false
structure Ran (c : Cfg) (depth loops : Nat) (f : FuncId) : Prop where
 h : (F7 c depth loops f [] [] 0 ⟨[], []⟩).den fun r => isT r = true
theorem Ran.reckon {c : Cfg} {depth loops : Nat} {f : FuncId} (n N : Nat) (h : ∀ k : Nat → Nat, ((G.exN n (F7 c depth loops f [] [] 0 ⟨[], []⟩) ((List.range N).map k)).x, (G.exN n (F7 c depth loops f [] [] 0 ⟨[], []⟩) ((List.range N).map k)).fine isT) =
  ((G.exN n (F7 c depth loops f [] [] 0 ⟨[], []⟩) ((List.range N).map k)).y, true)) : Ran c depth loops f := by
 refine ⟨G.reckon (p := isT) (fun _ h => h) n N _ ?_⟩
 intro k
 have := h k
 rw [Prod.mk.injEq] at this
 exact this
end
noncomputable section
variable {P : Program}
end
end Go.Sx
namespace Go.Sx
open Go
noncomputable section
def qS1 (s : SS) (x : Operand) : Option S1 :=
 match x with
 | .tmp t =>
  match s.tmps t with
  | .s v => if v.known then some v else none
  | .tup _ => none
  | .opt _ _ => none
 | .const v => some (ly v)
 | .global _ => none
 | .func _ => none
def qPl (s : SS) (x : Operand) : Option Value :=
 match qS1 s x with
 | some (.at a) => match a with
  | .k v => some v
  | _ => none
 | _ => none
abbrev QF := Program → SS → Option SV
def qNo : QF := fun _ _ => none
def zb (x : Operand) : QF := fun _ s => match qS1 s x with | some v => some (du (.s v)) | none => none
def Gl (op : BinOp) : IntKind → Int → Int → Option Value :=
 BinOp.casesOn (motive := fun _ => IntKind → Int → Int → Option Value) op
  (add := fun k a b => some (.int k (k.wrap (a + b)))) (sub := fun k a b => some (.int k (k.wrap (a - b)))) (mul := fun k a b => some (.int k (k.wrap (a * b))))
  (quo := fun _ _ _ => none) (rem := fun _ _ _ => none) (and := fun _ _ _ => none) (or := fun _ _ _ => none) (xor := fun _ _ _ => none) (shl := fun _ _ _ => none) (shr := fun _ _ _ => none) (andNot := fun _ _ _ => none)
  (eql := fun _ a b => some (.bool (a == b))) (neq := fun _ a b => some (.bool (a != b))) (lss := fun _ a b => some (.bool (decide (a < b)))) (leq := fun _ a b => some (.bool (decide (a ≤ b))))
  (gtr := fun _ a b => some (.bool (decide (a > b)))) (geq := fun _ a b => some (.bool (decide (a ≥ b))))
theorem BQ {op : BinOp} {k : IntKind} {a b : Int} {v : Value} (h : Gl op k a b = some v) : bW op k a b = some v ∧ op ≠ .shl ∧ op ≠ .shr ∧ nv (.k v) = some v := by
 cases op <;> simp only [Gl, bW, reduceCtorEq, Option.some.injEq] at h ⊢ <;> subst h <;> exact ⟨rfl, by simp, by simp, rfl⟩
def Fb (op : BinOp) (bk : BK) (u v : Value) : Option SV :=
 match bk with
 | .int => match u with
  | .int k a => match v with
   | .int k' b => if k = k' then match Gl op k a b with | some r => some (.s (.at (.k r))) | none => none else none
   | _ => none
  | _ => none
 | _ => none
def Gm (op : BinOp) (t : TypeId) (x y : Operand) (_ : TypeId) : QF := fun P s =>
 match FX P t with
 | some bk => match qPl s x with
  | some u => match qPl s y with
   | some v => Fb op bk u v
   | none => none
  | none => none
 | none => none
def qOp (op : Op) : QF :=
 Op.rec (motive := fun _ => QF) (move := zb) (assign := zb) (pick := fun _ _ _ => qNo) (alloc := fun _ => qNo) (box := fun _ _ => qNo) (build := fun _ _ => qNo) (buildSlice := fun _ _ _ => qNo) (insert := fun _ _ _ _ => qNo)
  (load := fun _ _ => qNo) (store := fun _ _ _ => qNo) (ready := fun _ => qNo) (waits := fun _ => qNo) (nilCheck := fun _ => qNo) (binOp := Gm) (unOp := fun _ _ _ => qNo) (convert := fun _ _ _ => qNo) (sliceToArrayPointer := fun _ _ => qNo)
  (makeInterface := fun _ _ => qNo) (makeFunc := fun _ _ _ => qNo) (makeMap := fun _ _ => qNo) (makeChan := fun _ _ => qNo) (makeSlice := fun _ _ _ => qNo) (slice := fun _ _ _ _ _ => qNo) (fieldAddr := fun _ _ _ => qNo) (field := fun _ _ _ => qNo)
  (indexAddr := fun _ _ _ => qNo) (index := fun _ _ _ => qNo) (lookup := fun _ _ _ _ => qNo) (mapUpdate := fun _ _ _ _ => qNo) (mapEntry := fun _ _ _ => qNo) (entryStore := fun _ _ _ _ => qNo) (range := fun _ _ => qNo) (next := fun _ _ => qNo) (entry := fun _ => qNo)
  (typeAssert := fun _ _ _ _ => qNo) (extract := fun _ _ => qNo) (call := fun _ => qNo) (go := fun _ => qNo) (defer := fun _ => qNo) (panic := fun _ => qNo) (send := fun _ _ => qNo) (recv := fun _ _ _ => qNo) (select := fun _ _ => qNo) op
def wS (P : Program) (o : Oper) (s : SS) : Option (Nat × SV) :=
 match o.guard with
 | some _ => none
 | none => match o.dst with
  | none => none
  | some d => match Nat.blt d s.sz with
   | false => none
   | true => match qOp o.op P s with | some v => some (d, v) | none => none
def tn (v : SV) : Ef := ⟨[], .done ⟨some v, [], none⟩, [], [], none⟩
theorem A9 {s : SS} {x : Operand} {v : S1} (h : qS1 s x = some v) : gP s [] x = some (v, []) := by
 unfold qS1 at h
 unfold gP
 split at h
 ·split at h
  ·rename_i hs
   split at h
   ·rename_i hk
    simp only [Option.some.injEq] at h; subst h
    simp only [hs, hk, if_true]
   ·cases h
  ·cases h
  ·cases h
 ·simp only [Option.some.injEq] at h; subst h; rfl
 ·cases h
 ·cases h
theorem wR {s : SS} {x : Operand} {v : Value} (h : qPl s x = some v) : dh s [] x = some (.k v, []) := by
 unfold qPl at h
 split at h
 ·rename_i hx
  split at h
  ·simp only [Option.some.injEq] at h; subst h
   simp only [dh, A9 hx]
  ·cases h
 ·cases h
theorem Fa {P : Program} {op : Op} {s : SS} {v : SV} (h : qOp op P s = some v) (okf : FuncId → Bool) (rules : FuncId → Option (List Nat)) (name : Nat) (o : Oper) (ho : o.op = op) :
  (Be P op).isLight = true ∧ ∃ w : S1, vW P okf rules false name o [] s = some (.fl [] .sil (fun _ => .s w), {}) ∧ v = du (.s w) := by
 have mv : ∀ x, zb x P s = some v → ∃ w : S1, ia s [] o.dst false x = some (.fl [] .sil (fun _ => .s w), {}) ∧ v = du (.s w) := by
  intro x h
  unfold zb at h
  split at h
  ·rename_i w hw
   simp only [Option.some.injEq] at h
   subst h
   refine ⟨w, ?_, rfl⟩
   have e := A9 hw
   unfold ia
   simp only [Bool.false_eq_true, if_false]
   cases x with
   | tmp t =>
    simp only
    unfold qS1 at hw
    simp only at hw
    split at hw
    ·rename_i hs
     rw [hs]
     simp only [e, Option.bind_some, aS, o8, List.isEmpty_nil, if_true]
    ·cases hw
    ·cases hw
   | const c => simp only [e, Option.bind_some, aS, o8, List.isEmpty_nil, if_true]
   | global n => simp [qS1] at hw
   | func n => simp [qS1] at hw
  ·cases h
 cases op with
 | move x => obtain ⟨w, h1, h2⟩ := mv x h; exact ⟨rfl, w, by simp only [vW, ho]; exact h1, h2⟩
 | assign x => obtain ⟨w, h1, h2⟩ := mv x h; exact ⟨rfl, w, by simp only [vW, ho]; exact h1, h2⟩
 | binOp b t x y ty =>
  refine ⟨rfl, ?_⟩
  have h : Gm b t x y ty P s = some v := h
  unfold Gm at h
  split at h
  ·rename_i bk hbk
   split at h
   ·rename_i u hu
    split at h
    ·rename_i w hw
     unfold Fb at h
     split at h
     ·split at h
      ·rename_i k a
       split at h
       ·rename_i k' c
        split at h
        ·rename_i hk
         subst hk
         split at h
         ·rename_i r hr
          simp only [Option.some.injEq] at h
          subst h
          obtain ⟨e1, e2, e3, e4⟩ := BQ hr
          refine ⟨.at (.k r), ?_, rfl⟩
          simp only [vW, ho, s4, hbk, bI, wR hu, wR hw, Option.bind_some]
          have hf : Ao (.bin b .int) [.k (.int k a), .k (.int k c)] = some r := by
           simp only [Ao, List.mapM_cons, List.mapM_nil, nv, Option.pure_def, Option.bind_eq_bind, Option.bind_some, af, ct]
           cases b <;> first | exact absurd rfl e2 | exact absurd rfl e3 | simpa using e1
          simp only [cA, hf, o8, List.isEmpty_nil, if_true]
          rfl
         ·cases h
        ·cases h
       ·cases h
      ·cases h
     ·cases h
    ·cases h
   ·cases h
  ·cases h
 | _ => cases h
theorem BP {c : Cfg} {call : dj} {ops : Array Oper} {base i : Nat} {o : Oper} {x : CS} {t : Nat} {v : SV} (h : wS c.P o x.s = some (t, v)) : o.dst = some t ∧ cN c call ops base i o x = some (tn v) := by
 unfold wS at h
 split at h
 ·cases h
 ·rename_i hg
  split at h
  ·cases h
  ·rename_i d hd
   split at h
   ·cases h
   ·rename_i hlt
    split at h
    ·rename_i w hw
     simp only [Option.some.injEq, Prod.mk.injEq] at h
     obtain ⟨rfl, rfl⟩ := h
     refine ⟨hd, ?_⟩
     obtain ⟨h1, s1, h2, h3⟩ := Fa hw (fun _ => false) (fun _ => none) (base + i) o rfl
     have hlt' : d < x.s.sz := Nat.le_of_ble_eq_true hlt
     have hgd : ar (aJ ops) x.s o = .go [] := by unfold ar; rw [hg]
     have hdo : kh x.s o.dst = true := by rw [hd]; simpa [kh] using hlt'
     have hnf : nf c.P (fun _ => false) (fun _ => none) (aJ ops) false (base + i) o x.s = some (.fl [] .sil (fun _ => .s s1), {}) := by
      unfold nf
      simp only [hdo, hgd, Bool.not_true, Bool.false_eq_true, if_false]
      exact h2
     unfold cN
     rw [tJ]
     simp only [h1, if_true, hnf, Option.bind_some, En, h3]
     rfl
    ·cases h
def iW (ops : Array Oper) (tab : List (Nat × Nat)) : List (Nat × Oper) → List (Nat × Oper) → Bool
 | [], _ => true
 | (i, o) :: r, done => (done.all fun p => o7 tab p.1 i || Oper.apart ops p.2 o) && iW ops tab r ((i, o) :: done)
def pU (tab : List (Nat × Nat)) (i : Nat) (e : Ef) : List vV → Bool
 | [] => true
 | l :: r => (o7 tab l.i i || ii l.e e) && pU tab i e r
def RX.regQ (c : RX) (d : Bool) : List (Nat × Oper) → List vV → CS → G CS
 | [], _, x => .done x
 | (i, o) :: r, flog, x =>
  match wS c.P o x.s with
  | some p => match p with | (t, v) => RX.regQ c d r flog (x.appD (some t) ⟨some v, [], none⟩)
  | none =>
  match c.N i o x with
  | none => .fail (1000 + i)
  | some e =>
   if d && !pU c.tab i e flog then .fail (2000 + i)
   else G.mchk e.cs (e.body.bind fun u => if okU c.hi e u then RX.regQ c d r (if d then ⟨i, o, e⟩ :: flog else flog) (x.appD o.dst u) else .fail (3000 + i))
def iK (e : Ef) : Prop := e.rd = [] ∧ e.wr = [] ∧ e.lo = none
theorem pQ {a b : Ef} (h : iK a ∨ iK b) : ii a b = true := by
 have d1 : ∀ l : List Nat, sN [] l = true := fun l => rfl
 have d2 : ∀ l : List Nat, sN l [] = true := fun l => by simp [sN]
 rcases h with ⟨h1, h2, h3⟩ | ⟨h1, h2, h3⟩
 ·unfold ii
  rw [h1, h2, h3]
  simp only [d1, Bool.and_self, Bool.true_and]
  cases b.lo <;> simp
 ·unfold ii
  rw [h1, h2, h3]
  simp only [d2, Bool.and_self, Bool.true_and]
  cases a.lo <;> simp
theorem nZ {tab : List (Nat × Nat)} {i : Nat} {e : Ef} : ∀ {fl : List vV}, pU tab i e fl = true → ∀ l ∈ fl, o7 tab l.i i = true ∨ ii l.e e = true
 | [], _, l, h => by cases h
 | x :: r, h, l, hl => by
  simp only [pU, Bool.and_eq_true, Bool.or_eq_true] at h
  rcases List.mem_cons.1 hl with rfl | hl
  ·exact h.1
  ·exact nZ h.2 l hl
theorem zZ {ops : Array Oper} {tab : List (Nat × Nat)} {i : Nat} {o : Oper} {e : Ef} {log fl : List vV} {dn : List (Nat × Oper)} (hin : ∀ l ∈ log, l ∈ fl ∨ iK l.e) (hdn : ∀ l ∈ log, (l.i, l.o) ∈ dn)
  (hap : (dn.all fun p => o7 tab p.1 i || Oper.apart ops p.2 o) = true) (hf : iK e ∨ pU tab i e fl = true) : fO ops tab i o e log = true := by
 unfold fO
 rw [List.all_eq_true]
 intro l hl
 have h1 := List.all_eq_true.1 hap (l.i, l.o) (hdn l hl)
 simp only [Bool.or_eq_true] at h1
 simp only [Bool.or_eq_true, Bool.and_eq_true]
 rcases h1 with h1 | h1
 ·exact .inl h1
 ·rcases hf with hf | hf
  ·exact .inr ⟨pQ (.inr hf), h1⟩
  ·rcases hin l hl with h2 | h2
   ·rcases nZ hf l h2 with h3 | h3
    ·exact .inl h3
    ·exact .inr ⟨h3, h1⟩
   ·exact .inr ⟨pQ (.inl h2), h1⟩
theorem G.den_bind' {α β : Type} {P : β → Prop} {f : α → G β} : ∀ {g : G α}, g.den (fun a => (f a).den P) → (g.bind f).den P
 | .fail _, h => h
 | .done _, h => h
 | .box _, h => fun r => den_bind' (h r)
 | .chk _ _, h => ⟨h.1, den_bind' h.2⟩
 | .eql _ _ _, h => ⟨h.1, den_bind' h.2⟩
theorem G.den_mchk' {α : Type} {P : α → Prop} {c : List Ck} {g : G α} (h1 : AllCk c) (h2 : g.den P) : (G.mchk c g).den P := by
 cases c with
 | nil => exact h2
 | cons x r => exact ⟨h1, h2⟩
theorem RX.regQ_den {c : RX} (hq : ∀ i o x t v, wS c.P o x.s = some (t, v) → o.dst = some t ∧ c.N i o x = some (tn v)) {d : Bool} {K : CS → Prop} : ∀ {l dn : List (Nat × Oper)} {log fl : List vV} {x : CS},
  (d = true → iW c.ops c.tab l dn = true) → (∀ l ∈ log, l ∈ fl ∨ iK l.e) → (∀ l ∈ log, (l.i, l.o) ∈ dn) → (c.regQ d l fl x).den K → (c.reg d l log x).den K
 | [], _, _, _, _, _, _, _, h => h
 | (i, o) :: r, dn, log, fl, x, ha, hin, hdn, h => by
  simp only [RX.regQ] at h
  simp only [RX.reg]
  have hokl : ∀ e, (iK e ∨ (d && !pU c.tab i e fl) = false) → (d && !fO c.ops c.tab i o e log) = false := by
   intro e he
   cases d with
   | false => rfl
   | true =>
    have h1 := ha rfl
    simp only [iW, Bool.and_eq_true] at h1
    have := zZ (e := e) hin hdn h1.1 (he.imp id fun h => by simpa using h)
    simp [this]
  have ha' : d = true → iW c.ops c.tab r ((i, o) :: dn) = true := fun hd => by
   have h1 := ha hd
   simp only [iW, Bool.and_eq_true] at h1
   exact h1.2
  split at h
  ·rename_i p hqo
   obtain ⟨t, v⟩ := p
   obtain ⟨h1, h2⟩ := hq i o x t v hqo
   rw [h2]
   have hl := hokl (tn v) (.inl ⟨rfl, rfl, rfl⟩)
   have hok : okU c.hi (tn v) ⟨some v, [], none⟩ = true := rfl
   simp only [hl, Bool.false_eq_true, if_false]
   rw [show ∀ f : Upd → G CS, G.mchk (tn v).cs ((tn v).body.bind f) = f ⟨some v, [], none⟩ from fun f => rfl, if_pos hok, h1]
   refine RX.regQ_den hq ha' ?_ ?_ h
   ·intro y hy
    cases d with
    | false => simp only [Bool.false_eq_true, if_false] at hy; exact hin y hy
    | true =>
     simp only [if_true, List.mem_cons] at hy
     rcases hy with rfl | hy
     ·exact .inr ⟨rfl, rfl, rfl⟩
     ·exact hin y hy
   ·intro y hy
    cases d with
    | false => simp only [Bool.false_eq_true, if_false] at hy; exact List.mem_cons_of_mem _ (hdn y hy)
    | true =>
     simp only [if_true, List.mem_cons] at hy
     rcases hy with rfl | hy
     ·exact List.mem_cons_self
     ·exact List.mem_cons_of_mem _ (hdn y hy)
  ·split at h
   ·exact h.elim
   ·rename_i e he
    rw [he]
    split at h
    ·exact h.elim
    ·rename_i hfl
     have hl := hokl e (.inr (by simpa using hfl))
     simp only [hl, Bool.false_eq_true, if_false]
     obtain ⟨h1, h2⟩ := G.den_mchk h
     refine G.den_mchk' h1 (G.den_bind' (G.den_mono (fun u hu => ?_) (G.den_bind h2)))
     split at hu
     ·rename_i hok
      simp only [hok, if_true]
      refine RX.regQ_den hq ha' ?_ ?_ hu
      ·intro y hy
       cases d with
       | false => simp only [Bool.false_eq_true, if_false] at hy ⊢; exact hin y hy
       | true =>
        simp only [if_true, List.mem_cons] at hy ⊢
        rcases hy with rfl | hy
        ·exact .inl (.inl rfl)
        ·exact (hin y hy).imp .inr id
      ·intro y hy
       cases d with
       | false => simp only [Bool.false_eq_true, if_false] at hy; exact List.mem_cons_of_mem _ (hdn y hy)
       | true =>
        simp only [if_true, List.mem_cons] at hy
        rcases hy with rfl | hy
        ·exact List.mem_cons_self
        ·exact List.mem_cons_of_mem _ (hdn y hy)
     ·exact hu.elim
def oo (P : Program) (N : NF1) (ops : Array Oper) (draw : Bool) (x : CS) : G CS :=
 let l := aw 0 ops.toList
 let hi := x.s.next + ops.size
 let x' : CS := x.bump ops.size
 if draw then
  let l' := b6 ops.size 0 l
  let tab := cq l' []
  if topo ops.size 0 l' && iW ops tab l' [] then RX.regQ ⟨P, ops, tab, hi, N ops x.s.next⟩ true l' [] x' else .fail 3000
 else RX.regQ ⟨P, ops, [], hi, N ops x.s.next⟩ false l [] x'
def NQ (P : Program) (N : NF1) : Prop := ∀ ops base i o x t v, wS P o x.s = some (t, v) → o.dst = some t ∧ N ops base i o x = some (tn v)
theorem ra {P : Program} {N : NF1} (hq : NQ P N) {ops : Array Oper} {draw : Bool} {x : CS} {K : CS → Prop} (h : (oo P N ops draw x).den K) : (ki P N ops draw x).den K := by
 unfold oo at h
 unfold ki
 cases draw with
 | true =>
  simp only [if_true] at h ⊢
  split at h
  ·rename_i ht
   simp only [Bool.and_eq_true] at ht
   rw [if_pos ht.1]
   exact RX.regQ_den (hq ops _) (fun _ => ht.2) (fun _ h => by cases h) (fun _ h => by cases h) h
  ·exact h.elim
 | false =>
  simp only [Bool.false_eq_true, if_false] at h ⊢
  exact RX.regQ_den (dn := []) (hq ops _) (fun h => by cases h) (fun _ h => by cases h) (fun _ h => by cases h) h
def dD (P : Program) (N : NF1) (n : Nat) : Code → CS → G Out
 | .skip, x => .done (.nrm x)
 | .label _, x => .done (.nrm x)
 | .region _ ops draw, x => (oo P N ops draw x).bind fun x' => .done (.nrm x')
 | .seq a b, x => (dD P N n a x).bind fun o => match o with
  | .nrm x' => dD P N n b x'
  | o => .done o
 | .cond c a b, x => match qPl x.s c with
  | some v => (match v with
   | .bool t => (match t with | true => dD P N n a x | false => dD P N n b x)
   | _ => .fail 905)
  | none => match dh x.s [] c with
  | some (.k (.bool true), _) => dD P N n a x
  | some (.k (.bool false), _) => dD P N n b x
  | _ => .fail 904
 | .block id b, x => (dD P N n b x).bind fun o => match o with
  | .ext j x' => if j = id then .done (.nrm x') else .done (.ext j x')
  | o => .done o
 | .exit id, x => .done (.ext id x)
 | .ret, x => .done (.ret x)
 | .loop b, x => tO (dD P N n b) n x
 | .scope b, x => dD P N n b x
 | _, _ => .fail 907
theorem sr {f g : CS → G Out} (h : ∀ (x : CS) (K : Out → Prop), (f x).den K → (g x).den K) : ∀ (n : Nat) (x : CS) (K : Out → Prop), (tO f n x).den K → (tO g n x).den K
 | 0, _, _, hd => hd
 | n + 1, x, K, hd => by
  simp only [tO] at hd ⊢
  refine G.den_bind' (G.den_mono (fun o ho => ?_) (h _ _ (G.den_bind hd)))
  cases o with
  | nrm x' => exact sr h n x' K ho
  | ext j x' => exact ho
  | ret x' => exact ho
theorem t6 {P : Program} {N : NF1} (hq : NQ P N) {n : Nat} : ∀ (c : Code) {x : CS} {K : Out → Prop}, (dD P N n c x).den K → (fV P N n c x).den K := by
 intro c
 induction c with
 | skip => intro x K h; exact h
 | label l => intro x K h; exact h
 | region id ops draw =>
  intro x K h
  exact G.den_bind' (ra hq (G.den_bind h))
 | seq c d ihc ihd =>
  intro x K h
  refine G.den_bind' (G.den_mono (fun o ho => ?_) (ihc (G.den_bind h)))
  cases o with
  | nrm x' => exact ihd ho
  | ext j x' => exact ho
  | ret x' => exact ho
 | cond c d e ihd ihe =>
  intro x K h
  simp only [dD] at h
  simp only [fV]
  split at h
  ·rename_i v hv
   rw [wR hv]
   split at h
   ·split at h
    ·exact ihd h
    ·exact ihe h
   ·exact h.elim
  ·split at h
   ·rename_i cs he; rw [he]; exact ihd h
   ·rename_i cs he; rw [he]; exact ihe h
   ·exact h.elim
 | block id b ih =>
  intro x K h
  exact G.den_bind' (ih (G.den_bind h))
 | scope b ih => intro x K h; exact ih h
 | exit id => intro x K h; exact h
 | ret => intro x K h; exact h
 | loop b ih =>
  intro x K h
  exact sr (fun x K h => ih h) n x K h
 | _ => intro x K h; exact h.elim
def Bt (P : Program) (N : dj → NF1) (loops : Nat) : Nat → dj
 | 0, _, _, _, _, _ => .fail 700
 | k + 1, f, args, mem, next, h =>
  match P.funcs[f]? with
  | none => .fail 701
  | some fn => match fn.body with
   | none => .fail 702
   | some c =>
    if args.length ≤ fn.ntmps then
     (dD P (N (Bt P N loops k)) loops c (gz fn args mem next h)).bind fun o => match o with
      | .nrm x => yv P fn x
      | .ret x => yv P fn x
      | .ext _ _ => .fail 703
    else .fail 704
end
noncomputable section
variable {P : Program}
def y8 (c : Cfg) (depth loops : Nat) : dj := Bt c.P (cN c) loops depth
theorem Iy (c : Cfg) (call : dj) : NQ c.P (cN c call) := fun _ _ _ _ _ _ _ h => BP h
structure RanQ (c : Cfg) (depth loops : Nat) (f : FuncId) : Prop where
 h : (y8 c depth loops f [] [] 0 ⟨[], []⟩).den fun r => isT r = true
theorem RanQ.reckon {c : Cfg} {depth loops : Nat} {f : FuncId} (n N : Nat) (h : ∀ k : Nat → Nat, ((G.exN n (y8 c depth loops f [] [] 0 ⟨[], []⟩) ((List.range N).map k)).x, (G.exN n (y8 c depth loops f [] [] 0 ⟨[], []⟩) ((List.range N).map k)).fine isT) =
  ((G.exN n (y8 c depth loops f [] [] 0 ⟨[], []⟩) ((List.range N).map k)).y, true)) : RanQ c depth loops f := by
 refine ⟨G.reckon (p := isT) (fun _ h => h) n N _ ?_⟩
 intro k
 have := h k
 rw [Prod.mk.injEq] at this
 exact this
end
noncomputable section
variable {P : Program}
abbrev SumF := FuncId → List S1 → List (Nat × Option Bx) → HS → Option (List Ck × SV)
def Br (P : Program) (N : dj → NF1) (loops : Nat) (sum : SumF) : Nat → dj
 | 0, _, _, _, _, _ => .fail 700
 | k + 1, f, args, mem, next, h =>
  match sum f args mem h with
  | some (cs, sv) => G.mchk cs (.done (sv, cC mem next h))
  | none =>
  match P.funcs[f]? with
  | none => .fail 701
  | some fn => match fn.body with
   | none => .fail 702
   | some c =>
    if args.length ≤ fn.ntmps then
     (dD P (N (Br P N loops sum k)) loops c (gz fn args mem next h)).bind fun o => match o with
      | .nrm x => yv P fn x
      | .ret x => yv P fn x
      | .ext _ _ => .fail 703
    else .fail 704
def SumOk (P : Program) (ok : FuncId → Bool) (H : Heap) (sum : SumF) : Prop :=
 ∀ (f : FuncId) (args : List S1) (mem : List (Nat × Option Bx)) (h : HS) (cs : List Ck) (sv : SV), ok f = true → sum f args mem h = some (cs, sv) → AllCk cs → sv.ok ∧
  ∀ (F : Own) (w : World) (next : Nat), (∀ s ∈ args, s.ok) → wa F (cC mem next h) H w → Calls P f (args.map S1.den).toArray w fun e w' => ∃ v, e = .returned v ∧ sv.rel v ∧ wa F (cC mem next h) H w'
def y7 (c : Cfg) (sum : SumF) (depth loops : Nat) : dj := Br c.P (cN c) loops sum depth
structure RanS (c : Cfg) (sum : SumF) (depth loops : Nat) (f : FuncId) : Prop where
 h : (y7 c sum depth loops f [] [] 0 ⟨[], []⟩).den fun r => isT r = true
theorem RanS.reckon {c : Cfg} {sum : SumF} {depth loops : Nat} {f : FuncId} (n N : Nat) (h : ∀ k : Nat → Nat, ((G.exN n (y7 c sum depth loops f [] [] 0 ⟨[], []⟩) ((List.range N).map k)).x, (G.exN n (y7 c sum depth loops f [] [] 0 ⟨[], []⟩) ((List.range N).map k)).fine isT) =
  ((G.exN n (y7 c sum depth loops f [] [] 0 ⟨[], []⟩) ((List.range N).map k)).y, true)) : RanS c sum depth loops f := by
 refine ⟨G.reckon (p := isT) (fun _ h => h) n N _ ?_⟩
 intro k
 have := h k
 rw [Prod.mk.injEq] at this
 exact this
theorem Models.less {w : World} {H H' : Heap} {O : Own} (h : Models w H' O) (hl : Heap.le H H') : Models w H O :=
 ⟨fun b o hb => h.pers b o (hl.1 b o hb), fun p hp => ⟨(h.own p hp).1, by
  cases e : H p.1 with
  | none => rfl
  | some o => have := hl.1 _ _ e; rw [(h.own p hp).2] at this; cases this⟩, h.nodup, h.env.trans hl.2⟩
end
noncomputable section
variable {P : Program}
abbrev SumG := FuncId → List S1 → List (Nat × Option Bx) → Nat → HS → Option (G (SV × CS))
def uT (P : Program) (N : dj → NF1) (loops : Nat) (sum : SumG) : Nat → dj
 | 0, _, _, _, _, _ => .fail 700
 | k + 1, f, args, mem, next, h =>
  match sum f args mem next h with
  | some g => g
  | none =>
  match P.funcs[f]? with
  | none => .fail 701
  | some fn => match fn.body with
   | none => .fail 702
   | some c =>
    if args.length ≤ fn.ntmps then
     (dD P (N (uT P N loops sum k)) loops c (gz fn args mem next h)).bind fun o => match o with
      | .nrm x => yv P fn x
      | .ret x => yv P fn x
      | .ext _ _ => .fail 703
    else .fail 704
def SumOkG (P : Program) (ok : FuncId → Bool) (H : Heap) (sum : SumG) : Prop :=
 ∀ (f : FuncId) (args : List S1) (mem : List (Nat × Option Bx)) (next : Nat) (h : HS) (g : G (SV × CS)) (F : Own) (w : World) (K : SV × CS → Prop), ok f = true → sum f args mem next h = some g → g.den K → (∀ s ∈ args, s.ok) →
  wa F (cC mem next h) H w → Calls P f (args.map S1.den).toArray w fun e w' => ∃ v sv y, e = .returned v ∧ sv.rel v ∧ sv.ok ∧ K (sv, y) ∧ wa F y H w'
def SumF.toG (s : SumF) : SumG := fun f args mem next h => match s f args mem h with | some (cs, sv) => some (G.mchk cs (.done (sv, cC mem next h))) | none => none
theorem SumOk.toG {ok : FuncId → Bool} {H : Heap} {s : SumF} (hs : SumOk P ok H s) : SumOkG P ok H s.toG := by
 intro f args mem next h g F w K hokff hg hd hargs hmem
 unfold SumF.toG at hg
 split at hg
 ·rename_i cs sv hsum
  simp only [Option.some.injEq] at hg
  subst hg
  obtain ⟨hck, hk⟩ := G.den_mchk hd
  obtain ⟨h1, h2⟩ := hs f args mem h cs sv hokff hsum hck
  refine (h2 F w next hargs hmem).mono ?_
  rintro e w' ⟨v, rfl, hv, hm'⟩
  exact ⟨v, sv, _, rfl, hv, h1, hk, hm'⟩
 ·cases hg
def SumG.or (a b : SumG) : SumG := fun f args mem next h => match a f args mem next h with | some g => some g | none => b f args mem next h
theorem SumOkG.or {ok : FuncId → Bool} {H : Heap} {a b : SumG} (ha : SumOkG P ok H a) (hb : SumOkG P ok H b) : SumOkG P ok H (a.or b) := by
 intro f args mem next h g F w K hokff hg
 unfold SumG.or at hg
 split at hg
 ·rename_i g' hg'
  simp only [Option.some.injEq] at hg
  subst hg
  exact ha f args mem next h g' F w K hokff hg'
 ·exact hb f args mem next h g F w K hokff hg
theorem iu (hm : P.follows .mixedOrders = true) {ok : FuncId → Bool} {H : Heap} {N : dj → NF1} (hN : ∀ call, f4 P ok H call → NOk P (N call) H) (hq : ∀ call, NQ P (N call)) {loops : Nat} {sum : SumG} (hs : SumOkG P ok H sum) : ∀ k, f4 P ok H (uT P N loops sum k)
 | 0 => by intro f args mem next h F w K _ hd; exact hd.elim
 | k + 1 => by
  intro f args mem next h F w K hokff hd hargs hmem
  simp only [uT] at hd
  split at hd
  ·rename_i g hsum
   exact hs f args mem next h g F w K hokff hsum hd hargs hmem
  split at hd
  ·exact hd.elim
  ·rename_i fn hf
   split at hd
   ·exact hd.elim
   ·rename_i c hc
    split at hd
    ·rename_i hle
     refine calls_of_wp hf hc ?_
     obtain ⟨L, O, hB, hcok, hM, hmod, hfr⟩ := hmem
     have key : ∀ t, (((gz fn args mem next h).s.tmps t).rel (((args.map S1.den).toArray ++ Array.replicate (fn.ntmps - (args.map S1.den).toArray.size) undef).getD t undef)) ∧ ((gz fn args mem next h).s.tmps t).ok := by
      intro t
      simp only [gz]
      rcases Nat.lt_or_ge t args.length with hlt | hge
      ·rw [List.getElem?_eq_getElem hlt]
       refine ⟨?_, hargs _ (List.getElem_mem hlt)⟩
       have : ((args.map S1.den).toArray ++ Array.replicate (fn.ntmps - (args.map S1.den).toArray.size) undef).getD t undef = args[t].den := by
        rw [Array.getD_eq_getD_getElem?, Array.getElem?_append_left (by simpa using hlt)]
        simp [hlt]
       rw [this]; exact cg rfl
      ·rw [List.getElem?_eq_none hge]
       refine ⟨?_, jZ undef⟩
       have : ((args.map S1.den).toArray ++ Array.replicate (fn.ntmps - (args.map S1.den).toArray.size) undef).getD t undef = undef := by
        rw [Array.getD_eq_getD_getElem?, Array.getElem?_append_right (by simpa using hge)]
        rw [Array.getElem?_replicate]
        split <;> rfl
       rw [this]
       exact cg rfl
     have hCC : CC 0 F (gz fn args mem next h) H { tmps := (args.map S1.den).toArray ++ Array.replicate (fn.ntmps - (args.map S1.den).toArray.size) undef, defers := [] } w :=
      ⟨⟨O, hM, ⟨fun t => (key t).2, hcok⟩, rfl, by simp [gz]; omega, fun t => (key t).1, L, hB, hmod⟩, hfr, Nat.zero_le _⟩
     refine AD hm (hN _ (iu hm hN hq hs k)) c (t6 (hq _) c (G.den_bind hd)) hCC ?_
     have back : ∀ x a' w', CC 0 F x H a' w' → (yv P fn x).den K → a'.defers = [] ∧ ∃ v, (results fn a'.tmps).run P w' = .ok v w' ∧
       ∃ v' sv y, Ending.returned v = .returned v' ∧ sv.rel v' ∧ sv.ok ∧ K (sv, y) ∧ wa F y H w' := by
      rintro x a' w' ⟨⟨O', hM', hC'⟩, hf', _⟩ hret
      unfold yv at hret
      split at hret
      ·exact hret.elim
      ·rename_i l hl
       obtain ⟨hck, hk⟩ := G.den_mchk hret
       obtain ⟨L', hB', hmod'⟩ := hC'.mm
       have hr := qE hC' hl hck
       refine ⟨hC'.df, GG l, ?_, _, E9 l, x, rfl, ?_, ?_, hk, L', O', hB', hC'.ok.2, hM', hmod', hf'⟩
       ·rw [pr, Sem.run_bind]
        rw [← Array.toArray_toList (xs := fn.results), List.mapM_toArray]
        simp only [Sem.run_map]
        rw [hr]
        rcases l with _ | ⟨v, _ | ⟨v', r⟩⟩ <;> simp [GG]
       ·rcases l with _ | ⟨v, _ | ⟨v', r⟩⟩
        ·rfl
        ·exact cg rfl
        ·rfl
       ·have := rW hC'.ok hl
        rcases l with _ | ⟨v, _ | ⟨v', r⟩⟩
        ·exact this
        ·exact this v (by simp)
        ·exact this
     intro o a' w' hC' hk
     cases o with
     | nrm x => exact back x a' w' hC' hk
     | ret x => exact back x a' w' hC' hk
     | ext j x => exact hk.elim
    ·exact hd.elim
def gV (c : Cfg) (sum : SumG) (depth loops : Nat) : dj := uT c.P (cN c) loops sum depth
theorem jq {c : Cfg} (hm : c.P.follows .mixedOrders = true) (hokf : ∀ f, c.ok f = true → gU c.P f) {H : Heap} (hgl : GlobOk c.glob H) {sum : SumG} (hs : SumOkG c.P c.ok H sum) {depth loops : Nat} {f : FuncId} {args : List S1} (hf : c.ok f = true) (hargs : ∀ s ∈ args, s.ok)
  {K : SV × CS → Prop} (h : (gV c sum depth loops f args [] 0 ⟨[], []⟩).den K) :
  Triple c.P f (args.map S1.den) H [] fun v H' O' => H' = H ∧ O' = [] ∧ ∃ sv y, sv.rel v ∧ K (sv, y) := by
 intro w F hw
 have hsound := iu hm (fun call => FW hokf hgl call) (Iy c) (loops := loops) hs depth
 have hmem : wa F (cC [] 0 ⟨[], []⟩) H w := ⟨[], [], Boxes.none, fun n b h => by simp [cC, aO] at h, rfl, by simpa using hw, fun _ _ => rfl⟩
 refine (hsound f args [] 0 ⟨[], []⟩ F w K hf h hargs hmem).mono ?_
 rintro e w' ⟨v, sv, y, rfl, hrel, _, hk, L, O, _, _, _, hmod, _⟩
 refine ⟨v, H, [], rfl, ⟨rfl, rfl, sv, y, hrel, hk⟩, Heap.le_refl H, ?_⟩
 refine hmod.sub ?_
 simp only [List.nil_append]
 exact (List.sublist_append_right O F).trans (List.sublist_append_right L _)
structure RanT (c : Cfg) (sum : SumG) (depth loops : Nat) (f : FuncId) : Prop where
 h : (gV c sum depth loops f [] [] 0 ⟨[], []⟩).den fun r => isT r = true
theorem RanT.reckon {c : Cfg} {sum : SumG} {depth loops : Nat} {f : FuncId} (n N : Nat) (h : ∀ k : Nat → Nat, ((G.exN n (gV c sum depth loops f [] [] 0 ⟨[], []⟩) ((List.range N).map k)).x, (G.exN n (gV c sum depth loops f [] [] 0 ⟨[], []⟩) ((List.range N).map k)).fine isT) =
  ((G.exN n (gV c sum depth loops f [] [] 0 ⟨[], []⟩) ((List.range N).map k)).y, true)) : RanT c sum depth loops f := by
 refine ⟨G.reckon (p := isT) (fun _ h => h) n N _ ?_⟩
 intro k
 have := h k
 rw [Prod.mk.injEq] at this
 exact this
theorem wI {c : Cfg} (hm : c.P.follows .mixedOrders = true) (hokf : ∀ f, c.ok f = true → gU c.P f) {H : Heap} (hgl : GlobOk c.glob H) {sum : SumG} (hs : SumOkG c.P c.ok H sum) {depth loops : Nat} {f : FuncId} (hf : c.ok f = true)
  (h : RanT c sum depth loops f) (O : Own) : RetO c.P f [] H O (.bool true) := by
 have := (jq hm hokf hgl hs hf (args := []) (by simp) h.h).frame O
 refine this.mono ?_
 rintro v H' O' _ ⟨O'', rfl, rfl, rfl, sv, y, hrel, hk⟩
 refine ⟨?_, rfl⟩
 unfold isT at hk
 simp only at hk
 split at hk
 ·subst hk; exact hrel
 ·cases hk
theorem Models.thaw {w : World} {H H' : Heap} {X : Own} {r : Nat} {o : Obj} (h : Models w H' X) (hr : H r = none) (hl : Heap.le (H.ins r o) H') : Models w H ((r, o) :: X) := by
 have hins : (H.ins r o) r = some o := by simp [Heap.ins, hr]
 have hle : ∀ b o', H b = some o' → H' b = some o' := fun b o' hb => hl.1 b o' ((Heap.le_ins H r o).1 b o' hb)
 refine ⟨fun b o' hb => h.pers b o' (hle b o' hb), fun p hp => ?_, ?_, ?_⟩
 ·rcases List.mem_cons.1 hp with rfl | hp
  ·exact ⟨h.pers _ _ (hl.1 _ _ hins), hr⟩
  ·refine ⟨(h.own p hp).1, ?_⟩
   cases e : H p.1 with
   | none => rfl
   | some o' => have := hle _ _ e; rw [(h.own p hp).2] at this; cases this
 ·rw [List.map_cons, List.nodup_cons]
  refine ⟨fun hin => ?_, h.nodup⟩
  obtain ⟨p, hp, e⟩ := List.mem_map.1 hin
  have h1 := (h.own p hp).2
  rw [e, hl.1 _ _ hins] at h1
  cases h1
 ·exact h.env.trans hl.2
end
noncomputable section
variable {P : Program} {α : Type}
def Gz : Nat → (List Nat → G α) → G α
 | 0, k => k []
 | n + 1, k => .box fun r => Gz n fun l => k (r :: l)
theorem uW {K : α → Prop} : ∀ {n : Nat} {k : List Nat → G α}, (Gz n k).den K → ∀ l : List Nat, l.length = n → (k l).den K
 | 0, k, h, l, hl => by
  have : l = [] := List.eq_nil_of_length_eq_zero hl
  subst this; exact h
 | n + 1, k, h, l, hl => by
  cases l with
  | nil => cases hl
  | cons r l => exact uW (k := fun l => k (r :: l)) (h r) l (by simpa using hl)
inductive Loc where
 | r (n : Nat)
 | c (n : Nat)
def Loc.val (mem : List (Nat × Option Bx)) (h : HS) : Loc → Nat
 | .r n => match aO mem n with | some (some b) => b.r | _ => 0
 | .c n => match uL h.gr n with | some p => p.2 | none => 0
def EE : List S1 → List S1 → G α → G α
 | [], [], g => g
 | a :: r, b :: s, g =>
  match a, b with
  | .at x, .at y => .eql [x] [y] (EE r s g)
  | .agg l, .agg m => .eql l m (EE r s g)
  | _, _ => .fail 710
 | _, _, _ => .fail 711
def t5 : List (Nat × Option Bx) → List (Nat × Option Bx) → G α → G α
 | [], [], g => g
 | (n, a) :: r, (m, b) :: s, g =>
  if Nat.beq n m = true then
   match a, b with
   | some a, some b => if Nat.beq a.T b.T = true then .chk [.eqN a.r b.r] (.eql a.cs b.cs (t5 r s g)) else .fail 712
   | none, none => t5 r s g
   | _, _ => .fail 713
  else .fail 714
 | _, _, _ => .fail 715
theorem q7 {K : α → Prop} {g : G α} : ∀ {a b : List S1}, (EE a b g).den K → a = b ∧ g.den K
 | [], [], h => ⟨rfl, h⟩
 | [], _ :: _, h => by simp only [EE] at h; exact h.elim
 | _ :: _, [], h => by simp only [EE] at h; exact h.elim
 | a :: r, b :: s, h => by
  simp only [EE] at h
  split at h
  ·obtain ⟨e, h⟩ := h
   obtain ⟨h1, h2⟩ := q7 h
   simp only [List.cons.injEq, and_true] at e
   exact ⟨by rw [e, h1], h2⟩
  ·obtain ⟨e, h⟩ := h
   obtain ⟨h1, h2⟩ := q7 h
   exact ⟨by rw [e, h1], h2⟩
  ·exact h.elim
theorem og {K : α → Prop} {g : G α} : ∀ {a b : List (Nat × Option Bx)}, (t5 a b g).den K → a = b ∧ g.den K
 | [], [], h => ⟨rfl, h⟩
 | [], _ :: _, h => by simp only [t5] at h; exact h.elim
 | _ :: _, [], h => by simp only [t5] at h; exact h.elim
 | (n, a) :: r, (m, b) :: s, h => by
  simp only [t5] at h
  split at h
  ·rename_i hn
   have hn : n = m := Nat.eq_of_beq_eq_true hn
   split at h
   ·rename_i a' b'
    split at h
    ·rename_i hT
     have hT : a'.T = b'.T := Nat.eq_of_beq_eq_true hT
     obtain ⟨hr, hc, h⟩ := h
     replace hr : a'.r = b'.r := hr.1
     obtain ⟨h1, h2⟩ := og h
     refine ⟨?_, h2⟩
     obtain ⟨r1, t1, c1⟩ := a'
     obtain ⟨r2, t2, c2⟩ := b'
     simp only at hT hr hc
     rw [hn, hT, hr, hc, h1]
    ·exact h.elim
   ·obtain ⟨h1, h2⟩ := og h
    exact ⟨by rw [hn, h1], h2⟩
   ·exact h.elim
  ·exact h.elim
def XS.kept (X : XS (SV × CS)) (ns : List Nat) : Option (SV × List (Nat × Option Bx) × Nat) :=
 match X.g with
 | .done (sv, y) => some (sv, ns.map fun n => (n, y.s.mem n), y.s.next)
 | _ => none
theorem xi {F : Own} {y : CS} {H : Heap} {w : World} (h : wa F y H w) {ns : List Nat} {mem : List (Nat × Option Bx)} {next : Nat} (hm : (ns.map fun n => (n, y.s.mem n)) = mem) (hn : y.s.next = next) (gr : List (Nat × Nat × Nat)) :
  wa F (cC mem next ⟨[], gr⟩) H w := by
 subst hm; subst hn
 obtain ⟨L, O, hB, hok, hM, hmod, hfr⟩ := h
 obtain ⟨L1, L2, hp, hB1, _⟩ := jJ hB ns
 have hmem : (fun n => (aO (ns.map fun m => (m, y.s.mem m)) n).getD none) = fun n => if n ∈ ns then y.s.mem n else none := by
  funext n
  rw [j6]
  by_cases e : n ∈ ns <;> simp [e]
 refine ⟨L1, [], ?_, ?_, rfl, ?_, ?_⟩
 ·simp only [cC, hmem]; exact hB1
 ·intro n b hb
  simp only [cC] at hb
  rw [congrFun hmem n] at hb
  split at hb
  ·exact hok n b hb
  ·cases hb
 ·have h1 := hmod.perm (hp.append_right _)
  refine h1.sub ?_
  rw [List.append_assoc]
  refine List.Sublist.append_left ?_ _
  simp only [List.nil_append]
  exact (List.sublist_append_right O F).trans (List.sublist_append_right L2 _)
 ·intro n hn'
  simp only [cC] at hn' ⊢
  rw [congrFun hmem n]
  simp only [hfr n hn', ite_self]
structure Pc where
 f : FuncId
 locs : List Loc
 args : (Nat → Nat) → List S1
 mem : (Nat → Nat) → List (Nat × Option Bx)
 next : Nat
 gr : (Nat → Nat) → List (Nat × Nat × Nat)
 us : List Nat
 ns : List Nat
 sv : (Nat → Nat) → (Nat → Nat) → SV
 mem' : (Nat → Nat) → (Nat → Nat) → List (Nat × Option Bx)
 next' : Nat
 gr' : (Nat → Nat) → (Nat → Nat) → List (Nat × Nat × Nat)
def nth (l : List Nat) : Nat → Nat := fun j => l.getD j 0
def Pc.run (p : Pc) (c : Cfg) (sum : SumG) (depth loops n N : Nat) (v k : Nat → Nat) : XS (SV × CS) := G.exN n (gV c sum depth loops p.f (p.args v) (p.mem v) p.next ⟨[], p.gr v⟩) ((List.range N).map k)
structure Pc.Ok (p : Pc) (c : Cfg) (sum : SumG) (depth loops n N : Nat) : Prop where
 h : ∀ v k : Nat → Nat, ((p.run c sum depth loops n N v k).x, (p.run c sum depth loops n N v k).kept p.ns) = ((p.run c sum depth loops n N v k).y, some (p.sv v (nth (p.us.map k)), p.mem' v (nth (p.us.map k)), p.next'))
def Pc.sum (p : Pc) : SumG := fun f args mem next h =>
 if (Nat.beq next p.next && Nat.beq f p.f) = true then
  match h.ms with
  | [] => some (EE args (p.args (nth (p.locs.map (Loc.val mem h)))) (t5 mem (p.mem (nth (p.locs.map (Loc.val mem h))))
    (Gz p.us.length fun l => .done (p.sv (nth (p.locs.map (Loc.val mem h))) (nth l), cC (p.mem' (nth (p.locs.map (Loc.val mem h))) (nth l)) p.next' ⟨[], (p.gr' (nth (p.locs.map (Loc.val mem h))) (nth l)).filter (fun e => Nat.ble p.next e.1) ++ h.gr⟩))))
  | _ => none
 else none
theorem Pc.sum_ok {p : Pc} {c : Cfg} (hm : c.P.follows .mixedOrders = true) (hokf : ∀ f, c.ok f = true → gU c.P f) {H : Heap} (hgl : GlobOk c.glob H) {sum : SumG} (hs : SumOkG c.P c.ok H sum) {depth loops n N : Nat} (hp : p.Ok c sum depth loops n N) :
  SumOkG c.P c.ok H p.sum := by
 intro f args mem next h g F w K hokff hg hden hargs hmem
 unfold Pc.sum at hg
 split at hg
 ·rename_i hc
  rw [Bool.and_eq_true] at hc
  have hn : next = p.next := Nat.eq_of_beq_eq_true hc.1
  have hf : f = p.f := Nat.eq_of_beq_eq_true hc.2
  split at hg
  ·rename_i hms
   simp only [Option.some.injEq] at hg
   subst hg
   obtain ⟨ha, hd1⟩ := q7 hden
   obtain ⟨hmm, hd2⟩ := og hd1
   clear hden hd1
   generalize nth (p.locs.map (Loc.val mem h)) = v at ha hmm hd2
   subst hn; subst hf; subst ha
   have hmem' : wa F (cC (p.mem v) p.next ⟨[], p.gr v⟩) H w := by
    rw [← hmm]
    obtain ⟨L, O, h1, h2, h3, h4, h5⟩ := hmem
    refine ⟨L, O, h1, h2, ?_, h4, h5⟩
    have h3' : oN h.ms O := h3
    rw [hms] at h3'
    exact h3'
   have hsound := iu hm (fun call => FW hokf hgl call) (Iy c) (loops := loops) hs depth
   have hrun : (gV c sum depth loops p.f (p.args v) (p.mem v) p.next ⟨[], p.gr v⟩).den fun r => ∃ l : List Nat, l.length = p.us.length ∧ r.1 = p.sv v (nth l) ∧ (p.ns.map fun n => (n, r.2.s.mem n)) = p.mem' v (nth l) ∧ r.2.s.next = p.next' := by
    refine G.exN_den n N _ fun rs hl => ?_
    have e : rs = (List.range N).map fun i => rs.getD i 0 := by
     refine List.ext_getElem (by simp [hl]) fun i h1 h2 => ?_
     simp [h1]
    have hk := hp.h v fun i => rs.getD i 0
    simp only [Pc.run] at hk
    rw [← e] at hk
    rw [Prod.mk.injEq] at hk
    refine ⟨hk.1, fun _ _ => ?_⟩
    have h2 := hk.2
    unfold XS.kept at h2
    split at h2
    ·rename_i sv y hy
     rw [hy]
     simp only [Option.some.injEq, Prod.mk.injEq] at h2
     exact ⟨p.us.map fun i => rs.getD i 0, by simp, h2.1, h2.2.1, h2.2.2⟩
    ·cases h2
   refine (hsound p.f (p.args v) (p.mem v) p.next ⟨[], p.gr v⟩ F w _ hokff hrun hargs hmem').mono ?_
   rintro e' w' ⟨u, sv, y, rfl, hrel, hok, ⟨l, hl, hsv, hmy, hny⟩, hmc⟩
   simp only at hsv hmy hny
   refine ⟨u, sv, cC (p.mem' v (nth l)) p.next' ⟨[], (p.gr' v (nth l)).filter (fun e => Nat.ble p.next e.1) ++ h.gr⟩, rfl, hrel, hok, ?_, xi hmc hmy hny _⟩
   rw [hsv]
   exact uW hd2 l hl
  ·cases hg
 ·cases hg
end
end Go.Sx
