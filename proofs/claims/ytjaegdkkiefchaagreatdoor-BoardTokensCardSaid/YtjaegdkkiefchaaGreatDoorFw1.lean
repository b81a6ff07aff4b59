/- My framework, part 1: a function's code is reckoned to a tree; what the tree says, the function does. Generic: no program in sight. -/
import Derived.Calls
import Derived.Orders
import Derived.Tactics
import Derived.Laws.Sem
import Derived.Laws.Cells
import Derived.Laws.World
import Derived.Laws.Rows
import Derived.Laws.Slices
import Derived.Laws.Tables
import Derived.Laws.Small
/- The memory discipline of my walks: a persistent heap, own blocks, triples of calls. Generic: no program in sight. -/
namespace Go.Sx
open Go
/-- Memory that is only read from now on. -/
abbrev Env := Os × (Nat → Question → Nat) × Array (Nat × ByteArray)
def envOf (w : World) : Env := (w.os, w.tape, w.output)
structure Heap where
 get : Nat → Option Obj
 env : Env
instance : CoeFun Heap (fun _ => Nat → Option Obj) := ⟨Heap.get⟩
/-- Blocks that the running function owns. -/
abbrev Own := List (Nat × Obj)
def Heap.le (H H' : Heap) : Prop := (∀ b o, H b = some o → H' b = some o) ∧ H'.env = H.env
theorem Heap.le_refl (H : Heap) : Heap.le H H := ⟨fun _ _ h => h, rfl⟩
theorem Heap.le_trans {H H' H'' : Heap} (h : Heap.le H H') (h' : Heap.le H' H'') : Heap.le H H'' := ⟨fun b o e => h'.1 b o (h.1 b o e), h'.2.trans h.2⟩
structure Models (w : World) (H : Heap) (O : Own) : Prop where
 pers : ∀ b o, H b = some o → w.heap[b]? = some o
 own : ∀ p, p ∈ O → w.heap[p.1]? = some p.2 ∧ H p.1 = none
 nodup : (O.map (·.1)).Nodup
 env : envOf w = H.env
theorem Models.perm {w : World} {H : Heap} {O O' : Own} (h : Models w H O) (hp : O.Perm O') : Models w H O' :=
 ⟨h.pers, fun p hp' => h.own p (hp.mem_iff.2 hp'), (hp.map _).nodup_iff.1 h.nodup, h.env⟩
theorem Models.sub {w : World} {H : Heap} {O O' : Own} (h : Models w H O) (hs : O'.Sublist O) : Models w H O' :=
 ⟨h.pers, fun p hp => h.own p (hs.subset hp), (hs.map _).nodup h.nodup, h.env⟩
/-- New state of the heap in which only the block r has changed, and it is an own one. -/
theorem Models.update {w w' : World} {H : Heap} {r : Nat} {o o' : Obj} {O : Own} (h : Models w H ((r, o) :: O))
  (hs : ∀ b, b ≠ r → w'.heap[b]? = w.heap[b]?) (hr : w'.heap[r]? = some o') (he : envOf w' = envOf w) : Models w' H ((r, o') :: O) := by
 have hn := h.nodup
 simp only [List.map_cons, List.nodup_cons] at hn
 refine ⟨fun b x hb => ?_, fun p hp => ?_, ?_, he.trans h.env⟩
 ·have hne : b ≠ r := by
   intro e; subst e
   have := (h.own (b, o) (by simp)).2
   simp [this] at hb
  rw [hs b hne]; exact h.pers b x hb
 ·rcases List.mem_cons.1 hp with rfl | hp
  ·exact ⟨hr, (h.own (r, o) (by simp)).2⟩
  ·have hne : p.1 ≠ r := fun e => hn.1 (e ▸ List.mem_map_of_mem hp)
   rw [hs _ hne]; exact h.own p (List.mem_cons_of_mem _ hp)
 ·simpa [List.nodup_cons] using hn
/-- A new block. -/
theorem Models.push {w : World} {H : Heap} {O : Own} (h : Models w H O) (o : Obj) :
  Models { w with heap := w.heap.push o } H ((w.heap.size, o) :: O) := by
 have lt : ∀ b (x : Obj), w.heap[b]? = some x → b < w.heap.size := fun b x hb => by
  rcases Nat.lt_or_ge b w.heap.size with h | h
  ·exact h
  ·simp [Array.getElem?_eq_none h] at hb
 have keep : ∀ b (x : Obj), w.heap[b]? = some x → (w.heap.push o)[b]? = some x := fun b x hb => by
  have := lt b x hb
  rw [Array.getElem?_push, if_neg (by omega)]; exact hb
 refine ⟨fun b x hb => keep b x (h.pers b x hb), fun p hp => ?_, ?_, h.env⟩
 ·rcases List.mem_cons.1 hp with rfl | hp
  ·refine ⟨by simp, ?_⟩
   cases hH : H w.heap.size with
   | none => rfl
   | some x => have := lt _ _ (h.pers _ _ hH); omega
  ·exact ⟨keep _ _ (h.own p hp).1, (h.own p hp).2⟩
 ·simp only [List.map_cons, List.nodup_cons]
  refine ⟨fun hm => ?_, h.nodup⟩
  obtain ⟨p, hp, he⟩ := List.mem_map.1 hm
  have := lt _ _ (h.own p hp).1
  omega
/-- The world's other parts are of no account. -/
theorem Models.same {w w' : World} {H : Heap} {O : Own} (h : Models w H O) (e : w'.heap = w.heap) (he : envOf w' = envOf w) : Models w' H O :=
 ⟨fun b o hb => by rw [e]; exact h.pers b o hb, fun p hp => by rw [e]; exact h.own p hp, h.nodup, he.trans h.env⟩
/-- Freeze an own block. -/
def Heap.ins (H : Heap) (r : Nat) (o : Obj) : Heap := ⟨fun b => match H b with
 | some x => some x
 | none => if b = r then some o else none, H.env⟩
theorem Heap.le_ins (H : Heap) (r : Nat) (o : Obj) : Heap.le H (H.ins r o) := ⟨fun b x h => by simp only [Heap.ins]; rw [h], rfl⟩
theorem Models.freeze {w : World} {H : Heap} {r : Nat} {o : Obj} {O : Own} (h : Models w H ((r, o) :: O)) : Models w (H.ins r o) O := by
 have hn := h.nodup
 simp only [List.map_cons, List.nodup_cons] at hn
 refine ⟨fun b x hb => ?_, fun p hp => ?_, hn.2, h.env⟩
 ·simp only [Heap.ins] at hb
  split at hb
  ·rename_i y hy; cases hb; exact h.pers b _ hy
  ·split at hb
   ·rename_i e; subst e; cases hb; exact (h.own (b, o) (by simp)).1
   ·cases hb
 ·have hne : p.1 ≠ r := fun e => hn.1 (e ▸ List.mem_map_of_mem hp)
  have hp' := h.own p (List.mem_cons_of_mem _ hp)
  refine ⟨hp'.1, ?_⟩
  simp only [Heap.ins, hp'.2, if_neg hne]
/-- Steps of thought: what is owned may be forgotten, turned, frozen. -/
def Ghost (H : Heap) (O : Own) (H' : Heap) (O' : Own) : Prop := ∀ w F, Models w H (O ++ F) → Models w H' (O' ++ F) ∧ Heap.le H H'
/-- There is a state of memory in which it is so. -/
def Cons (H : Heap) (O : Own) : Prop := ∃ w F, Models w H (O ++ F)
theorem Cons.none {H : Heap} {O : Own} (h : Cons H O) {p : Nat × Obj} (hp : p ∈ O) : H p.1 = none :=
 let ⟨_, _, hm⟩ := h; (hm.own p (List.mem_append_left _ hp)).2
theorem Cons.nodup {H : Heap} {O : Own} (h : Cons H O) : (O.map (·.1)).Nodup := by
 obtain ⟨_, _, hm⟩ := h
 have := hm.nodup
 rw [List.map_append] at this
 exact (List.nodup_append.1 this).1
theorem Ghost.refl (H : Heap) (O : Own) : Ghost H O H O := fun _ _ h => ⟨h, Heap.le_refl H⟩
theorem Ghost.trans {H H' H'' : Heap} {O O' O'' : Own} (h : Ghost H O H' O') (h' : Ghost H' O' H'' O'') : Ghost H O H'' O'' :=
 fun w F hm => ⟨(h' w F (h w F hm).1).1, Heap.le_trans (h w F hm).2 (h' w F (h w F hm).1).2⟩
theorem Ghost.perm {H : Heap} {O O' : Own} (hp : O.Perm O') : Ghost H O H O' := fun _ F h => ⟨h.perm (hp.append_right F), Heap.le_refl H⟩
theorem Ghost.sub {H : Heap} {O O' : Own} (hs : O'.Sublist O) : Ghost H O H O' := fun _ F h => ⟨h.sub (hs.append_right F), Heap.le_refl H⟩
theorem Ghost.drop (H : Heap) (O : Own) : Ghost H O H [] := Ghost.sub (List.nil_sublist O)
theorem Ghost.freeze (H : Heap) (r : Nat) (o : Obj) (O : Own) : Ghost H ((r, o) :: O) (H.ins r o) O := fun _ _ h =>
 ⟨Models.freeze (by simpa using h), Heap.le_ins H r o⟩
theorem Ghost.frame {H H' : Heap} {O O' : Own} (h : Ghost H O H' O') (X : Own) : Ghost H (O ++ X) H' (O' ++ X) := fun w F hm => by
 have := h w (X ++ F) (by simpa using hm)
 exact ⟨by simpa using this.1, this.2⟩
/-- What a call does: it returns, whatever else is in memory. -/
def Triple (P : Program) (f : FuncId) (args : List Value) (H : Heap) (O : Own) (Q : Value → Heap → Own → Prop) : Prop :=
 ∀ w F, Models w H (O ++ F) → Calls P f args.toArray w fun e w' => ∃ v H' O', e = .returned v ∧ Q v H' O' ∧ Heap.le H H' ∧ Models w' H' (O' ++ F)
theorem Triple.mono {P : Program} {f : FuncId} {args : List Value} {H : Heap} {O : Own} {Q Q' : Value → Heap → Own → Prop} (h : Triple P f args H O Q)
  (hq : ∀ v H' O', Heap.le H H' → Q v H' O' → Q' v H' O') : Triple P f args H O Q' :=
 fun w F hm => (h w F hm).mono fun _ _ ⟨v, H', O', he, q, hle, hm'⟩ => ⟨v, H', O', he, hq _ _ _ hle q, hle, hm'⟩
/-- Own blocks that a call does not need. -/
theorem Triple.frame {P : Program} {f : FuncId} {args : List Value} {H : Heap} {O : Own} {Q : Value → Heap → Own → Prop} (h : Triple P f args H O Q) (X : Own) :
  Triple P f args H (O ++ X) fun v H' O' => ∃ O'', O' = O'' ++ X ∧ Q v H' O'' :=
 fun w F hm => (h w (X ++ F) (by simpa using hm)).mono fun _ _ ⟨v, H', O', he, q, hle, hm'⟩ => ⟨v, H', O' ++ X, he, ⟨O', rfl, q⟩, hle, by simpa using hm'⟩
/-- The same of one operation that is no call of a Go function. -/
def OpTriple (P : Program) (s : Sem Next) (H : Heap) (O : Own) (Q : Value → Heap → Own → Prop) : Prop :=
 ∀ w F, Models w H (O ++ F) → ∃ v w' H' O', s.run P w = .ok (.value v) w' ∧ Q v H' O' ∧ Heap.le H H' ∧ Models w' H' (O' ++ F)
/-- A cell of the persistent heap. -/
def Heap.cell? (H : Heap) (a : Addr) : Option Value :=
 match H a.block with
 | some (.cells c _ _) => if a.spot.isSome then none else c[a.off]?
 | _ => none
theorem Models.cell? {w : World} {H : Heap} {O : Own} (h : Models w H O) {a : Addr} {v : Value} (hc : H.cell? a = some v) : w.cell? a = some v := by
 unfold Heap.cell? at hc
 cases hb : H a.block with
 | none => simp [hb] at hc
 | some o =>
  simp only [hb] at hc
  simp only [World.cell?, h.pers _ _ hb]
  exact hc
theorem Heap.le.cell? {H H' : Heap} (h : Heap.le H H') {a : Addr} {v : Value} (hc : H.cell? a = some v) : H'.cell? a = some v := by
 unfold Heap.cell? at *
 cases hb : H a.block with
 | none => simp [hb] at hc
 | some o =>
  simp only [hb] at hc
  simp only [h.1 _ _ hb]
  exact hc
/-- m cells from a pointer on. -/
def Heap.read (H : Heap) (p : Value) (m : Nat) : Option (List Value) :=
 match p with
 | .pointer (some a) => (List.range m).mapM fun i => H.cell? (a.add i)
 | _ => none
theorem mapM_some_mono {α β : Type} {f g : α → Option β} (h : ∀ a b, f a = some b → g a = some b) : ∀ (l : List α) (r : List β), l.mapM f = some r → l.mapM g = some r := by
 intro l
 induction l with
 | nil => intro r h; simpa using h
 | cons a l ih =>
  intro r hr
  simp only [List.mapM_cons, Option.pure_def, Option.bind_eq_bind] at hr ⊢
  cases ha : f a with
  | none => simp [ha] at hr
  | some b =>
   simp only [ha, Option.bind_some] at hr
   cases hl : l.mapM f with
   | none => simp [hl] at hr
   | some bs =>
    simp only [hl, Option.bind_some] at hr
    simp only [h a b ha, ih bs hl, Option.bind_some]
    exact hr
theorem Heap.le.read {H H' : Heap} (h : Heap.le H H') {p : Value} {m : Nat} {vs : List Value} (hr : H.read p m = some vs) : H'.read p m = some vs := by
 cases p with
 | pointer a =>
  cases a with
  | none => simp [Heap.read] at hr
  | some a => exact mapM_some_mono (fun i v hv => h.cell? hv) _ _ hr
 | _ => simp [Heap.read] at hr
end Go.Sx

/- Symbolic values and states, the normal forms of operations, trees. Generic. -/
namespace Go.Sx
open Go
/-- An element of a list of values, by a short name. -/
def g (vs : List Value) (i : Nat) : Value := vs.getD i undef
def ptrAdd (x : Value) (n : Nat) : Value :=
 match x with
 | .pointer (some a) => .pointer (some (a.add n))
 | _ => undef
def isPtr : Value → Bool
 | .pointer (some _) => true
 | _ => false
inductive Cp where
 | b (n r off : Nat)
 | v (x : Value)
def Cp.den : Cp → Value
 | .b _ r off => .pointer (some ⟨r, off, none⟩)
 | .v x => x
/-- What one cell holds: nothing that is known, a constant, an opaque value, an opaque pointer moved on, a pointer into an own block (its name, its number, the cell), a slice of one, a closure. -/
inductive At where
 | any
 | k (v : Value)
 | v (x : Value)
 | px (x : Value) (off : Nat)
 | p (n r off : Nat)
 | sl (n r off len cap : Nat)
 | clo (f : Nat) (caps : List Cp)
 | mp (n r : Nat)
def At.den : At → Value
 | .any => undef
 | .k x => x
 | .v x => x
 | .px x off => ptrAdd x off
 | .p _ r off => .pointer (some ⟨r, off, none⟩)
 | .sl _ r off len cap => .slice (some ⟨r, off, none⟩) len cap
 | .clo f caps => .func (.func f) #[] (caps.map Cp.den).toArray
 | .mp _ r => .map (some r)
def At.known : At → Bool
 | .any => false
 | _ => true
/-- May it lie in a cell? -/
def At.fit : At → Bool
 | .any | .px .. => false
 | .k x => x.oneCell'
 | _ => true
def At.ok : At → Prop
 | .v x => x.oneCell' = true
 | _ => True
inductive S1 where
 | at (a : At)
 | agg (l : List At)
def S1.den : S1 → Value
 | .at a => a.den
 | .agg l => .agg (l.map At.den).toArray
def S1.cells : S1 → List At
 | .at a => [a]
 | .agg l => l
def S1.isAgg : S1 → Bool
 | .agg _ => true
 | _ => false
inductive SV where
 | s (x : S1)
 | tup (l : List S1)
 | opt (gl : List (At × Bool)) (x : S1)
abbrev Gd := List (Value × Bool)
def On : Gd → Prop
 | [] => True
 | p :: r => p.1 = .bool p.2 ∧ On r
def gden (gl : List (At × Bool)) : Gd := gl.map fun p => (p.1.den, p.2)
def SV.rel : SV → Value → Prop
 | .s (.at .any), _ => True
 | .s x, v => v = x.den
 | .tup l, v => v = .tuple (l.map S1.den).toArray
 | .opt gl x, v => (On (gden gl) → v = x.den) ∧ (¬ On (gden gl) → v = undef)
structure Bx where
 r : Nat
 T : TypeId
 cs : List At
structure SS where
 sz : Nat
 tmps : Nat → SV
 mem : Nat → Option Bx
 next : Nat
def SS.set (s : SS) (d : Option Nat) (v : SV) : SS :=
 match d with
 | none => s
 | some d => { s with tmps := fun t => if t = d then v else s.tmps t }
def SS.setBox (s : SS) (n : Nat) (b : Option Bx) : SS := { s with mem := fun m => if m = n then b else s.mem m }
/-! Pure operations -/
inductive BK where
 | int | bool | str | slice | ptr | iface | map | func
def evalInt (op : BinOp) (k : IntKind) (a b : Int) : Option Value :=
 match op with
 | .add => some (.int k (k.wrap (a + b)))
 | .sub => some (.int k (k.wrap (a - b)))
 | .mul => some (.int k (k.wrap (a * b)))
 | .quo => if b = 0 then none else some (.int k (k.wrap (a.tdiv b)))
 | .rem => if b = 0 then none else some (.int k (a.tmod b))
 | .and => some (.int k (k.wrap (BitVec.ofInt k.bits a &&& BitVec.ofInt k.bits b).toNat))
 | .or => some (.int k (k.wrap (BitVec.ofInt k.bits a ||| BitVec.ofInt k.bits b).toNat))
 | .xor => some (.int k (k.wrap (BitVec.ofInt k.bits a ^^^ BitVec.ofInt k.bits b).toNat))
 | .andNot => some (.int k (k.wrap (BitVec.ofInt k.bits a &&& ~~~ BitVec.ofInt k.bits b).toNat))
 | .eql => some (.bool (a == b))
 | .neq => some (.bool (a != b))
 | .lss => some (.bool (decide (a < b)))
 | .leq => some (.bool (decide (a ≤ b)))
 | .gtr => some (.bool (decide (a > b)))
 | .geq => some (.bool (decide (a ≥ b)))
 | _ => none
def evalShift (op : BinOp) (k : IntKind) (a b : Int) : Option Value :=
 if b < 0 then none else
 match op with
 | .shl => some (.int k (k.wrap (a * 2 ^ (min b.toNat k.bits))))
 | .shr => some (.int k (a.fdiv (2 ^ (min b.toNat k.bits))))
 | _ => none
def evalStr (op : BinOp) (a b : ByteArray) : Option Value :=
 match op with
 | .add => if ((a.size + b.size : Nat) : Int) > IntKind.i64.max then none else some (.string (a ++ b))
 | .eql => some (.bool (a.toList == b.toList))
 | .neq => some (.bool (!(a.toList == b.toList)))
 | _ => none
def nilR (bk : BK) (x y : Value) : Option Bool :=
 match bk, x, y with
 | .bool, .bool a, .bool b => some (a == b)
 | .slice, .slice none _ _, .slice b _ _ => some b.isNone
 | .slice, .slice _ _ _, .slice none _ _ => some false
 | .ptr, .pointer none, .pointer b => some b.isNone
 | .ptr, .pointer _, .pointer none => some false
 | .map, .map none, .map b => some b.isNone
 | .map, .map _, .map none => some false
 | .func, .nilFunc, .nilFunc => some true
 | .func, .nilFunc, .func _ _ _ => some false
 | .func, .func _ _ _, .nilFunc => some false
 | _, _, _ => none
def evalNil (op : BinOp) (bk : BK) (x y : Value) : Option Value :=
 match op with
 | .eql => (nilR bk x y).map .bool
 | .neq => (nilR bk x y).map fun b => .bool (!b)
 | _ => none
def evalBin (op : BinOp) (bk : BK) (x y : Value) : Option Value :=
 match bk, x, y with
 | .int, .int k a, .int k' b =>
  match op with
  | .shl | .shr => evalShift op k a b
  | _ => if k = k' then evalInt op k a b else none
 | .str, .string a, .string b => evalStr op a b
 | _, _, _ => evalNil op bk x y
inductive POp where
 | bin (op : BinOp) (bk : BK)
 | not | neg | compl
 | pick
 | len | slen | cap
 | idx (size : Nat)
 | pidx (len size : Nat)
 | sidx
 | aidx
 | conv (k : IntKind)
 | slc (size : Nat) (lo hi mx : Bool)
 | sslc (lo hi : Bool)
 | min2 | max2
def evalIdx (size : Nat) (s i : Value) : Option Value :=
 match s, i with
 | .slice (some a) len _, .int _ i => if 0 ≤ i ∧ i < len then some (.pointer (some (a.add (i.toNat * size)))) else none
 | _, _ => none
def evalPidx (len size : Nat) (p i : Value) : Option Value :=
 match p, i with
 | .pointer (some a), .int _ i => if 0 ≤ i ∧ i < len then some (.pointer (some (a.add (i.toNat * size)))) else none
 | _, _ => none
def evalSidx (s i : Value) : Option Value :=
 match s, i with
 | .string s, .int _ i => (if 0 ≤ i then s[i.toNat]? else none).map fun b => .int .u8 b.toNat
 | _, _ => none
def evalAidx (i : Value) (cs : List Value) : Option Value :=
 match i with
 | .int _ i => if 0 ≤ i ∧ i < cs.length then cs[i.toNat]? else none
 | _ => none
def asI : Value → Option Int
 | .int _ i => some i
 | _ => none
def boundI (v : Value) (y : Nat) : Option Nat := (asI v).bind fun i => if 0 ≤ i ∧ i ≤ y then some i.toNat else none
def boundOr (x : Option Value) (y d : Nat) : Option Nat :=
 match x with
 | some v => boundI v y
 | none => some d
def boundHi (x : Option Value) (full : Bool) (y d : Nat) : Option Nat :=
 match x with
 | some v => boundI v y
 | none => if full then none else some d
def slcBounds (len cap : Nat) (lo hi mx : Option Value) : Option (Nat × Nat × Nat) :=
 (boundOr mx cap cap).bind fun m => (boundHi hi mx.isSome m len).bind fun h => (boundOr lo h 0).bind fun l => some (l, h, m)
def takeArgs : List Bool → List Value → List (Option Value)
 | [], _ => []
 | true :: bs, v :: vs => some v :: takeArgs bs vs
 | true :: bs, [] => none :: takeArgs bs []
 | false :: bs, vs => none :: takeArgs bs vs
def evalSlc (size : Nat) (x : Value) (lo hi mx : Option Value) : Option Value :=
 match x with
 | .slice a len cap => (slcBounds len cap lo hi mx).map fun (l, h, m) => .slice (if m = l then a else a.map (·.add (l * size))) (h - l) (m - l)
 | _ => none
def evalSslc (x : Value) (lo hi : Option Value) : Option Value :=
 match x with
 | .string s => (slcBounds s.size s.size lo hi none).map fun (l, h, _) => .string (s.extract l h)
 | _ => none
def evalPure (op : POp) (args : List Value) : Option Value :=
 match op, args with
 | .bin op bk, [x, y] => evalBin op bk x y
 | .not, [.bool b] => some (.bool (!b))
 | .neg, [.int k n] => some (.int k (k.wrap (0 - n)))
 | .compl, [.int k n] => evalInt .xor k (if k.signed then -1 else k.max) n
 | .pick, [.bool b, x, y] => some (if b then x else y)
 | .len, [.slice _ n _] => some (goInt n)
 | .slen, [.string s] => some (goInt s.size)
 | .cap, [.slice _ _ n] => some (goInt n)
 | .idx size, [s, i] => evalIdx size s i
 | .pidx len size, [p, i] => evalPidx len size p i
 | .sidx, [s, i] => evalSidx s i
 | .aidx, i :: cs => evalAidx i cs
 | .conv k, [.int _ n] => some (.int k (k.wrap n))
 | .slc size lo hi mx, x :: rest => match takeArgs [lo, hi, mx] rest with | [l, h, m] => evalSlc size x l h m | _ => none
 | .sslc lo hi, x :: rest => match takeArgs [lo, hi] rest with | [l, h] => evalSslc x l h | _ => none
 | .min2, [.int k x, .int _ y] => some (.int k (if y < x then y else x))
 | .max2, [.int k x, .int _ y] => some (.int k (if y > x then y else x))
 | _, _ => none
/-! Operations that are met by a lemma of their own -/
inductive PrimOp where
 | bi (b : Builtin) (argTypes : Array TypeId) (type : TypeId)
 | makeSlice (t : TypeId)
 | makeMap (t : TypeId) (has : Bool)
 | lookup (t : TypeId) (ok : Bool)
 | mapUpdate (t : TypeId)
 | range (t : TypeId)
 | next (str : Bool) (type : TypeId)
 | convert (src dst : TypeId)
 | eqv (op : BinOp) (t : TypeId) (const : Bool)
 | typeAssert (x a : TypeId) (ok : Bool)
 | intr (f : FuncId)
 | entry
def PrimOp.sem (o : PrimOp) (args : List Value) : Sem Next :=
 let v (s : Sem Value) : Sem Next := do pure (.value (← s))
 match o, args with
 | .bi b at_ ty, args => builtin b at_ ty #[] args.toArray
 | .makeSlice t, [l, c] => v (Instr.makeSlice t l c)
 | .makeMap t false, [] => v (Instr.makeMap t none)
 | .makeMap t true, [r] => v (Instr.makeMap t (some r))
 | .lookup t ok, [m, k] => v (Instr.lookup t m k ok)
 | .mapUpdate t, [m, k, x] => do Instr.mapUpdate t m k x; pure (.value (.bool false))
 | .range t, [x] => v (Instr.range t x)
 | .next str ty, [x] => v (Instr.next x str ty)
 | .convert a b, [x] => v (Go.convert a b x)
 | .eqv op t c, [x, y] => v (do eqGuard op t (if c then .const undef else .global 0) (.global 0) x y; binOp op t x y)
 | .typeAssert t a ok, [x] => v (Instr.typeAssert x t a ok)
 | .intr f, args => callFunc f args.toArray
 | .entry, [x] => v (Instr.entry x)
 | _, _ => stuck "prim"
/-- The shape of a result. -/
inductive Shp where
 | one
 | agg (m : Nat)
 | tup (l : List (Option Nat))
def Shp.openList : List (Option Nat) → List Value → Option (List Value)
 | [], [] => some []
 | none :: r, v :: vs => (Shp.openList r vs).map (v :: ·)
 | some m :: r, .agg cs :: vs => if cs.size = m then (Shp.openList r vs).map (cs.toList ++ ·) else none
 | _, _ => none
def Shp.open : Shp → Value → Option (List Value)
 | .one, v => some [v]
 | .agg m, .agg cs => if cs.size = m then some cs.toList else none
 | .tup l, .tuple vs => Shp.openList l vs.toList
 | _, _ => none
def atsFrom (vs : List Value) (i m : Nat) : List At := (List.range m).map fun j => .v (g vs (i + j))
def Shp.svList (vs : List Value) : Nat → List (Option Nat) → List S1
 | _, [] => []
 | i, none :: r => .at (.v (g vs i)) :: Shp.svList vs (i + 1) r
 | i, some m :: r => .agg (atsFrom vs i m) :: Shp.svList vs (i + m) r
def Shp.sv (vs : List Value) : Shp → SV
 | .one => .s (.at (.v (g vs 0)))
 | .agg m => .s (.agg (atsFrom vs 0 m))
 | .tup l => .tup (Shp.svList vs 0 l)
def Shp.count : Shp → Nat
 | .one => 1
 | .agg m => m
 | .tup l => l.foldr (fun o n => o.getD 1 + n) 0
def Shp.isAgg : Shp → Nat → Bool
 | .agg m, n => m == n
 | _, _ => false
/-- An own block as it is handed to a call: its number, type, cells. -/
structure BV where
 r : Nat
 T : TypeId
 vs : List Value
def BV.obj (b : BV) : Nat × Obj := (b.r, .cells b.vs.toArray b.T (0, 0))
/-- Small checks: two numbers of blocks are one; two values are one; a pointer is not nil, where the operation is run. -/
inductive Ck where
 | eqN (a b : Nat)
 | eqV (a b : Value)
 | ptr (g : Gd) (v : Value)
def Ck.holds : Ck → Prop
 | .eqN a b => a = b
 | .eqV a b => a = b
 | .ptr g v => On g → isPtr v = true
/-- The trees: what is left of a function's text. -/
inductive Tree where
 | stuck (why : Nat)
 | ret (v : Value) (own : List BV)
 | pure (g : Gd) (op : POp) (args : List Value) (k : Value → Tree)
 | raw (g : Gd) (op : PrimOp) (args : List Value) (k : Value → Tree)
 | load (g : Gd) (p : Value) (m : Nat) (k : List Value → Tree)
 | chk (c : Ck) (t : Tree)
 | newbox (k : Nat → Tree)
 | br (v : Value) (t e : Tree)
 | sw (v : Value) (i : Nat) (t e : Tree)
 | call (d : Bool) (f : FuncId) (args : List Value) (frz own : List BV) (shp : Shp) (k : List Value → List (List Value) → Tree)
 | callv (d : Bool) (fv : Value) (args : List Value) (frz own : List BV) (shp : Shp) (k : List Value → List (List Value) → Tree)
 | prim (op : PrimOp) (args : List Value) (frz own : List BV) (shp : Shp) (k : List Value → List (List Value) → Tree)
 | store (p : Value) (vs : List Value) (t : Tree)
 | loop (lab key : Nat) (init : List Value) (body : (List Value → Heap → Own → Prop) → List Value → Tree)
 | cut (lab key : Nat) (body : (List Value → Heap → Own → Prop) → Tree) (rest : List Value → Tree)
 | cont (lab : Nat) (C : List Value → Heap → Own → Prop) (vals : List Value) (eqs : List (List Value × List Value))
/-! What a tree says -/
def Heap.insAll (H : Heap) : List BV → Heap
 | [] => H
 | b :: r => Heap.insAll (H.ins b.r b.obj.2) r
theorem Heap.le_insAll : ∀ (l : List BV) (H : Heap), Heap.le H (H.insAll l)
 | [], H => Heap.le_refl H
 | b :: r, H => Heap.le_trans (Heap.le_ins H b.r b.obj.2) (Heap.le_insAll r _)
def OwnRead (O : Own) (p : Value) (m : Nat) (vs : List Value) : Prop :=
 ∃ a cs T, p = .pointer (some a) ∧ a.spot = none ∧ (a.block, Obj.cells cs T (0, 0)) ∈ O ∧ (cs.toList.drop a.off).take m = vs ∧ vs.length = m
def Reads (H : Heap) (O : Own) (p : Value) (m : Nat) (vs : List Value) : Prop := H.read p m = some vs ∨ OwnRead O p m vs
def splice (cs : List Value) (off : Nat) (vs : List Value) : List Value := cs.take off ++ vs ++ cs.drop (off + vs.length)
def OwnStore (O : Own) (p : Value) (vs : List Value) (O' : Own) : Prop :=
 ∃ a cs T L, p = .pointer (some a) ∧ a.spot = none ∧ O.Perm ((a.block, Obj.cells cs T (0, 0)) :: L) ∧ a.off + vs.length ≤ cs.size ∧
  O' = (a.block, Obj.cells (splice cs.toList a.off vs).toArray T (0, 0)) :: L
/-- The own blocks behind a call: as many, of the same numbers and types, with new cells. -/
def newCells : List BV → List (List Value) → List BV
 | b :: bs, c :: cs => { b with vs := c } :: newCells bs cs
 | _, _ => []
def Ones : List Value → Prop
 | [] => True
 | v :: r => v.oneCell' = true ∧ Ones r
def Fits : List BV → List (List Value) → Prop
 | [], [] => True
 | b :: bs, c :: cs => c.length = b.vs.length ∧ Ones c ∧ Fits bs cs
 | _, _ => False
def Eqs : List (List Value × List Value) → Prop
 | [] => True
 | p :: r => p.1 = p.2 ∧ Eqs r
/-- A function of the program that has a text. -/
def OkFn (P : Program) (f : FuncId) : Prop := ∃ fn, P.funcs[f]? = some fn ∧ (fn.name == "runtime.NumGoroutine") = false ∧ fn.body.isNone = false
def CallD (T : Heap → Own → (Value → Heap → Own → Prop) → Prop) (d : Bool) (frz own : List BV) (shp : Shp) (K : List Value → List (List Value) → Heap → Own → Prop)
  (H : Heap) (O : Own) : Prop :=
 Cons H (frz.map BV.obj ++ (own.map BV.obj ++ O)) → ∃ H1 O1 O2 Q, (if d then H1 = H.insAll frz ∧ ((O1 = [] ∧ O2 = O) ∨ (own = [] ∧ O1 = O ∧ O2 = [] ∧ ∀ v H' O', Q v H' O' → O' = O)) else Ghost (H.insAll frz) O H1 (O1 ++ O2)) ∧ T H1 (own.map BV.obj ++ O1) Q ∧
  ∀ v H' O', Q v H' O' → Heap.le H1 H' → ∃ vs cs O3, shp.open v = some vs ∧ Ones vs ∧ Fits own cs ∧ O' = (newCells own cs).map BV.obj ++ O3 ∧ K vs cs H' (O3 ++ O2)
def Tree.den (P : Program) (Q : Value → Heap → Own → Prop) : Tree → Heap → Own → Prop
 | .stuck _, _, _ => False
 | .ret v own, H, O => Cons H (own.map BV.obj ++ O) → ∃ H' O', Ghost H (own.map BV.obj ++ O) H' O' ∧ Q v H' O'
 | .pure gd op args k, H, O => ∃ v, (On gd → evalPure op args = some v) ∧ (gd = [] ∨ v.oneCell' = true) ∧ (k v).den P Q H O
 | .raw gd op args k, H, O => ∃ v, (On gd → ∀ w, (op.sem args).run P w = .ok (.value v) w) ∧ v.oneCell' = true ∧ (k v).den P Q H O
 | .load gd p m k, H, O => ∃ vs, vs.length = m ∧ Ones vs ∧ (On gd → Reads H O p m vs) ∧ (k vs).den P Q H O
 | .chk c t, H, O => c.holds ∧ t.den P Q H O
 | .newbox k, H, O => ∀ r, (k r).den P Q H O
 | .br v t e, H, O => ∃ b, v = .bool b ∧ (b = true → t.den P Q H O) ∧ (b = false → e.den P Q H O)
 | .sw v i t e, H, O => ∃ kd n, v = .int kd n ∧ (n = i → t.den P Q H O) ∧ (n ≠ i → e.den P Q H O)
 | .call d f args frz own shp k, H, O => CallD (fun H1 O1 R => Triple P f args H1 O1 R) d frz own shp (fun vs cs => (k vs cs).den P Q) H O
 | .callv d fv args frz own shp k, H, O => ∃ f caps, fv = .func (.func f) #[] caps ∧ OkFn P f ∧
   CallD (fun H1 O1 R => Triple P f (args ++ caps.toList) H1 O1 R) d frz own shp (fun vs cs => (k vs cs).den P Q) H O
 | .prim op args frz own shp k, H, O => CallD (fun H1 O1 R => OpTriple P (op.sem args) H1 O1 R) false frz own shp (fun vs cs => (k vs cs).den P Q) H O
 | .store p vs t, H, O => ∃ O', OwnStore O p vs O' ∧ t.den P Q H O'
 | .loop _ _ init body, H, O => ∃ (I : List Value → Heap → Own → Prop) (μ : List Value → Heap → Own → Nat),
   (Cons H O → ∃ H1 O1, Ghost H O H1 O1 ∧ I init H1 O1) ∧
   ∀ vs H' O', vs.length = init.length → Ones vs → Heap.le H H' → I vs H' O' →
    (body (fun vs' H'' O'' => Cons H'' O'' → ∃ H3 O3, Ghost H'' O'' H3 O3 ∧ I vs' H3 O3 ∧ μ vs' H3 O3 < μ vs H' O') vs).den P Q H' O'
 | .cut _ _ body rest, H, O => ∃ R : List Value → Heap → Own → Prop,
   (body (fun vs' H'' O'' => Cons H'' O'' → ∃ H3 O3, Ghost H'' O'' H3 O3 ∧ R vs' H3 O3)).den P Q H O ∧
   ∀ vs H' O', Ones vs → Heap.le H H' → R vs H' O' → (rest vs).den P Q H' O'
 | .cont _ C vals eqs, H, O => Eqs eqs ∧ C vals H O
end Go.Sx

/- The evaluator of single operations: normal forms. Generic. -/
namespace Go.Sx
open Go
inductive FK where
 | sil
 | pure (g : Gd) (op : POp) (args : List Value)
 | raw (g : Gd) (op : PrimOp) (args : List Value)
 | load (g : Gd) (p : Value) (m : Nat)
 | split (c : Value)
 | isplit (c : Value) (n : Nat)
inductive HK where
 | call (f : FuncId) (args : List Value)
 | callv (fv : Value) (args : List Value)
 | prim (op : PrimOp) (args : List Value)
/-- The normal form of an operation that writes the slot dst: quiet; a new box; a store into a box; a call or the like; a store behind a pointer. -/
inductive NF where
 | fl (cs : List Ck) (k : FK) (X : List Value → SV)
 | box (cs : List Ck) (name : Nat) (T : TypeId) (cells : List At) (val : Nat → At)
 | stb (cs : List Ck) (n : Nat) (b : Bx)
 | hv (cs : List Ck) (k : HK) (frz own : List (Nat × Bx)) (shp : Shp) (post : List Value → List Ck) (sv : List Value → SV)
 | st (cs : List Ck) (p : Value) (vs : List Value)
/-- What it reads: own boxes by name. -/
structure FP where
 reads : List Nat := []
def FK.ch : FK → Bool
 | .pure gd _ _ | .raw gd _ _ => !gd.isEmpty
 | .load .. => true
 | _ => false
def NF.ch : NF → Bool
 | .fl _ k _ => k.ch
 | _ => false
def NF.bx : NF → Bool
 | .box .. => true
 | _ => false
def NF.writes : NF → List Nat
 | .box _ n _ _ _ => [n]
 | .stb _ n _ => [n]
 | .hv _ _ frz own _ _ _ => (frz ++ own).map (·.1)
 | _ => []
def szOf (P : Program) (t : TypeId) : Option Nat :=
 match P.info? t, P.underlying t with
 | some i, some _ => some i.size
 | _, _ => none
def isAggT (P : Program) (t : TypeId) : Bool :=
 match P.underlying t with
 | some (.struct _) | some (.array _ _) => true
 | _ => false
def zeroOf (P : Program) (t : TypeId) : Option (List At) := ((P.info? t).bind (·.zero)).map fun z => z.cells.toList.map .k
def fieldOf (P : Program) (t : TypeId) (f : Nat) : Option Field :=
 match P.underlying t with
 | some (.struct fs) => fs[f]?
 | _ => none
def mkS1 (P : Program) (t : TypeId) (cs : List At) : Option S1 :=
 if isAggT P t then some (.agg cs) else match cs with | [a] => some (.at a) | _ => none
def S1.known (x : S1) : Bool := x.cells.all At.known
def constS1 : Value → S1
 | .agg cs => .agg (cs.toList.map .k)
 | v => .at (.k v)
/-- the guard under which a value was made is the rear of the present one -/
def sufEqs (gl gl' : List (At × Bool)) : Option (List Ck) :=
 let rear := gl.drop (gl.length - gl'.length)
 if rear.length = gl'.length && (rear.zip gl').all (fun p => p.1.2 == p.2.2) then some ((rear.zip gl').map fun p => .eqV p.1.1.den p.2.1.den) else none
def opS1 (s : SS) (gl : List (At × Bool)) (x : Operand) : Option (S1 × List Ck) :=
 match x with
 | .tmp t =>
  match s.tmps t with
  | .s x => if x.known then some (x, []) else none
  | .opt gl' x => if x.known then (sufEqs gl gl').map fun c => (x, c) else none
  | .tup _ => none
 | .const v => some (constS1 v, [])
 | .global n => some (.at (.k (.pointer (some ⟨n, 0, none⟩))), [])
 | .func f => some (.at (.clo f []), [])
def opAt (s : SS) (gl : List (At × Bool)) (x : Operand) : Option (At × List Ck) :=
 match opS1 s gl x with
 | some (.at a, c) => some (a, c)
 | _ => none
def opAts (s : SS) (gl : List (At × Bool)) : List Operand → Option (List At × List Ck)
 | [] => some ([], [])
 | x :: r =>
  match opAt s gl x, opAts s gl r with
  | some (a, c), some (as, cs) => some (a :: as, c ++ cs)
  | _, _ => none
def opS1s (s : SS) (gl : List (At × Bool)) : List Operand → Option (List S1 × List Ck)
 | [] => some ([], [])
 | x :: r =>
  match opS1 s gl x, opS1s s gl r with
  | some (a, c), some (as, cs) => some (a :: as, c ++ cs)
  | _, _ => none
/-- The guard of an operation: it is run under these, or surely not. -/
inductive GR where
 | go (gl : List (At × Bool))
 | skip
 | bad
def guardOf (tgt : Nat → Option Tmp) (s : SS) (o : Oper) : GR :=
 match o.guard with
 | none => .go []
 | some (j, want) =>
  match tgt j with
  | none => .bad
  | some t =>
   match s.tmps t with
   | .s (.at (.k (.bool b))) => if b == want then .go [] else .skip
   | .s (.at (.k (.tuple _))) => .skip
   | .s (.at c) => if c.known then .go [(c, want)] else .bad
   | .opt gl (.at c) => if c.known then .go ((c, want) :: gl) else .bad
   | _ => .bad
def mkSV (gl : List (At × Bool)) (x : S1) : SV := if gl.isEmpty then .s x else .opt gl x
def plainK : At → Option Value
 | .k (.int k n) => some (.int k n)
 | .k (.bool b) => some (.bool b)
 | _ => none
def folds (op : POp) (args : List At) : Option Value :=
 (args.mapM plainK).bind (evalPure op)
def pureNF (gl : List (At × Bool)) (total : Bool) (dst : Option Tmp) (op : POp) (args : List At) (cs : List Ck) : NF :=
 match folds op args with
 | some v => .fl cs .sil (fun _ => (mkSV gl (.at (.k v))))
 | none => .fl cs (.pure (if total then [] else gden gl) op (args.map At.den)) (fun vs => (mkSV gl (.at (.v (g vs 0)))))
def bkOf (P : Program) (t : TypeId) : Option BK :=
 match P.underlying t with
 | some (.int _) => some .int
 | some .bool => some .bool
 | some .string => some .str
 | some (.slice _) => some .slice
 | some (.pointer _) => some .ptr
 | some (.map _ _) => some .map
 | some (.func _ _ _) => some .func
 | _ => none
def fillAt (cells : List At) (off : Nat) (v : List At) : List At := cells.take off ++ v ++ cells.drop (off + v.length)
/-- the parts of a composite value, laid over zeros -/
def fillParts (s : SS) (gl : List (At × Bool)) (place : Nat → Option (Nat × Nat)) : List (Nat × Operand) → List At → Option (List At × List Ck)
 | [], cells => some (cells, [])
 | (i, x) :: r, cells =>
  match place i, opS1 s gl x with
  | some (off, size), some (v, c) =>
   if v.cells.length = size && off + size ≤ cells.length && v.cells.all At.fit then
    (fillParts s gl place r (fillAt cells off v.cells)).map fun (cs, c') => (cs, c ++ c')
   else none
  | _, _ => none
def repCells (z : List At) : Nat → List At
 | 0 => []
 | n + 1 => z ++ repCells z n
/-- The own boxes that a value points to: those behind slices are given up (frozen), those behind pointers are lent. -/
def addNat (l : List Nat) (n : Nat) : List Nat := if l.contains n then l else l ++ [n]
def namesSl : List At → List Nat → List Nat
 | [], acc => acc
 | .sl n .. :: r, acc => namesSl r (addNat acc n)
 | _ :: r, acc => namesSl r acc
def namesCp : List Cp → List Nat → List Nat
 | [], acc => acc
 | .b n .. :: r, acc => namesCp r (addNat acc n)
 | _ :: r, acc => namesCp r acc
def namesP : List At → List Nat → List Nat
 | [], acc => acc
 | .p n .. :: r, acc => namesP r (addNat acc n)
 | .clo _ cs :: r, acc => namesP r (namesCp cs acc)
 | _ :: r, acc => namesP r acc
def liveBoxes (s : SS) (l : List Nat) : List (Nat × Bx) := l.filterMap fun n => (s.mem n).map fun b => (n, b)
def Bx.bv (b : Bx) : BV := ⟨b.r, b.T, b.cs.map At.den⟩
def delBoxes : List Nat → SS → SS
 | [], s => s
 | n :: r, s => delBoxes r (s.setBox n none)
/-- own boxes behind a call, by the places of their cells -/
def putB : Nat → List (Nat × Bx) → List (List Value) → SS → SS
 | _, [], _, s => s
 | i, (n, b) :: r, css, s => putB (i + 1) r css (s.setBox n (some { b with cs := atsFrom (css.getD i []) 0 b.cs.length }))
def putBoxes : List (Nat × Bx) → List (List Value) → SS → SS
 | (n, b) :: r, vs :: vss, s => putBoxes r vss (s.setBox n (some { b with cs := atsFrom vs 0 b.cs.length }))
 | _, _, s => s
/-- all boxes that are reached from atoms: first those behind slices and what they reach, which are frozen; then those behind pointers -/
def reachSl (s : SS) : Nat → List Nat → List Nat → List Nat
 | 0, r, acc => r ++ acc
 | _, [], acc => acc
 | fuel + 1, n :: r, acc =>
  if acc.contains n then reachSl s fuel r acc else
  match s.mem n with
  | none => reachSl s fuel r (acc ++ [n])
  | some b => reachSl s fuel (namesSl b.cs (namesP b.cs r)) (acc ++ [n])
def reachP (s : SS) : Nat → List Nat → List Nat → List Nat
 | 0, r, acc => r ++ acc
 | _, [], acc => acc
 | fuel + 1, n :: r, acc =>
  if acc.contains n then reachP s fuel r acc else
  match s.mem n with
  | none => reachP s fuel r (acc ++ [n])
  | some b => reachP s fuel (namesP b.cs r) (acc ++ [n])
def slOfBoxes (s : SS) : List Nat → List Nat → List Nat
 | [], acc => acc
 | n :: r, acc => slOfBoxes s r (match s.mem n with | some b => namesSl b.cs acc | none => acc)
def shpOf (P : Program) (t : TypeId) : Option Shp :=
 match P.underlying t with
 | some (.tuple ts) => some (.tup (ts.toList.map fun t => if isAggT P t then szOf P t else none))
 | some (.struct _) | some (.array _ _) => (szOf P t).map .agg
 | some _ => some .one
 | none => none
def noDup : List Nat → Bool
 | [] => true
 | n :: r => !r.contains n && noDup r
def heavyNF (s : SS) (dst : Option Tmp) (shp : Shp) (hk : HK) (atoms : List At) (cs : List Ck) : Option (NF × FP) :=
 let ps := reachP s 50 (namesP atoms []) []
 let frzN := reachSl s 50 (slOfBoxes s ps (namesSl atoms [])) []
 let ownN := ps.filter (!frzN.contains ·)
 let frz := liveBoxes s frzN
 let own := liveBoxes s ownN
 let rds := ps ++ frzN
 if (frz ++ own).all (fun p => p.2.cs.all At.known) && noDup ((frz ++ own).map (·.1)) then
  some (.hv cs hk frz own shp (fun _ => []) shp.sv, { reads := rds })
 else none
def refName : At → List Nat
 | .p n .. => [n]
 | .sl n .. => [n]
 | _ => []
/-- a pointer's place, moved on -/
def moveAt (gl : List (At × Bool)) (x : At) (o : Nat) : Option (At × List Ck) :=
 match x with
 | .p n r off => some (.p n r (off + o), [])
 | .v x => some (if o = 0 then .v x else if gl.isEmpty then .v (ptrAdd x o) else .px x o, [.ptr (gden gl) x])
 | .px x off => some (.px x (off + o), [.ptr (gden gl) x])
 | .k x => some (if o = 0 then .k x else if gl.isEmpty then .v (ptrAdd x o) else .px x o, [.ptr (gden gl) x])
 | _ => none
def loadNF (P : Program) (s : SS) (gl : List (At × Bool)) (dst : Option Tmp) (t : TypeId) (x : At) (cs : List Ck) : Option (NF × FP) :=
 (szOf P t).bind fun m =>
 let far (y : Value) : Option (NF × FP) := some (.fl cs (.load (gden gl) y m)
   (fun vs => (mkSV gl (if isAggT P t then .agg (atsFrom vs 0 m) else .at (.v (g vs 0))))), { reads := refName x })
 match x with
 | .p n r off =>
  match s.mem n with
  | some b =>
   let cells := (b.cs.drop off).take m
   if cells.length = m && cells.all At.known then
    (mkS1 P t cells).map fun v => (.fl (.eqN r b.r :: cs) .sil (fun _ => (mkSV gl v)), { reads := [n] })
   else none
  | none => if !isAggT P t && m != 1 then none else far x.den
 | .v _ | .px _ _ | .k _ => if !isAggT P t && m != 1 then none else far x.den
 | _ => none
def storeNF (P : Program) (s : SS) (t : TypeId) (x : At) (y : S1) (cs : List Ck) : Option (NF × FP) :=
 (szOf P t).bind fun m =>
 if y.cells.length ≠ m || !y.cells.all At.fit then none else
 match x with
 | .p n r off =>
  match s.mem n with
  | some b =>
   if off + m ≤ b.cs.length then
    some (.stb (.eqN r b.r :: cs) n { b with cs := fillAt b.cs off y.cells }, { reads := [n] })
   else none
  | none => none
 | .v _ | .px _ _ => if m = 0 then none else some (.st (.ptr [] x.den :: cs) x.den (y.cells.map At.den), {})
 | _ => none
def partS1 (P : Program) (t : TypeId) (cs : List At) (off : Nat) : Option S1 :=
 (szOf P t).bind fun m =>
 let l := (cs.drop off).take m
 if l.length = m then mkS1 P t l else none
def constNat : At → Option Nat
 | .k (.int _ n) => if 0 ≤ n then some n.toNat else none
 | _ => none
def indexAddrNF (P : Program) (gl : List (At × Bool)) (dst : Option Tmp) (t : TypeId) (x i : At) (cs : List Ck) : Option (NF × FP) :=
 match P.underlying t with
 | some (.array len elem) =>
  (szOf P elem).bind fun size =>
  match constNat i with
  | some n => if n < len then (moveAt gl x (n * size)).map fun (a, c) => (.fl (c ++ cs) .sil (fun _ => (mkSV gl (.at a))), {}) else none
  | none =>
   match x with
   | .p n r off => if gl.isEmpty && len ≤ 16 then some (.fl cs (.isplit i.den len) (fun vs => (.s (.at (.p n r (off + (match g vs 0 with | .int _ n => n.toNat | _ => 0) * size))))), {}) else none
   | .v _ | .px _ _ | .k _ => if len ≤ 1 then none else some (pureNF gl false dst (.pidx len size) [x, i] cs, {})
   | _ => none
 | some (.slice elem) =>
  (szOf P elem).bind fun size =>
  match x, constNat i with
  | .sl n r off len _, some k => if k < len then some (.fl cs .sil (fun _ => (mkSV gl (.at (.p n r (off + k * size))))), {}) else none
  | _, _ => some (pureNF gl false dst (.idx size) [x, i] cs, {})
 | _ => none
def sliceNF (P : Program) (gl : List (At × Bool)) (dst : Option Tmp) (t : TypeId) (x : At) (lo hi mx : Option At) (cs : List Ck) : Option (NF × FP) :=
 let rest := lo.toList ++ hi.toList ++ mx.toList
 match P.underlying t with
 | some .string => if mx.isSome then none else some (pureNF gl false dst (.sslc lo.isSome hi.isSome) (x :: rest) cs, {})
 | some (.slice elem) =>
  (szOf P elem).bind fun size =>
  match x, lo.map constNat, hi.map constNat, mx with
  | .sl n r off len cap, l, h, none =>
   match l.getD (some 0), h.getD (some len) with
   | some l, some h => if l ≤ h && h ≤ cap then some (.fl cs .sil (fun _ => (mkSV gl (.at (.sl n r (if cap = l then off else off + l * size) (h - l) (cap - l))))), {}) else none
   | _, _ => some (pureNF gl false dst (.slc size lo.isSome hi.isSome mx.isSome) (x :: rest) cs, {})
  | _, _, _, _ => some (pureNF gl false dst (.slc size lo.isSome hi.isSome mx.isSome) (x :: rest) cs, {})
 | some (.array len elem) =>
  (szOf P elem).bind fun size =>
  match x, lo.map constNat, hi.map constNat, mx with
  | .p n r off, l, h, none =>
   match l.getD (some 0), h.getD (some len) with
   | some l, some h => if l ≤ h && h ≤ len then some (.fl cs .sil (fun _ => (mkSV gl (.at (.sl n r (if len = l then off else off + l * size) (h - l) (len - l))))), {}) else none
   | _, _ => none
  | .k (.pointer (some ⟨r, off, none⟩)), l, h, none =>
   match l.getD (some 0), h.getD (some len) with
   | some l, some h => if l ≤ h && h ≤ len then some (.fl cs .sil (fun _ => (mkSV gl (.at (.k (.slice (some ⟨r, if len = l then off else off + l * size, none⟩) (h - l) (len - l)))))), {}) else none
   | _, _ => none
  | _, _, _, _ => none
 | _ => none
def capsOf : List At → Option (List Cp)
 | [] => some []
 | .p n r off :: l => (capsOf l).map (.b n r off :: ·)
 | .v x :: l => (capsOf l).map (.v x :: ·)
 | .k x :: l => (capsOf l).map (.v x :: ·)
 | _ => none
/-- pointers into the first argument's place -/
def ruleAts (x : At) : List Nat → Option (List At)
 | [] => some []
 | o :: r => match x, ruleAts x r with
  | .p n r' off, some l => some (.p n r' (off + o) :: l)
  | _, _ => none
def postEqs (vs : List Value) : List At → Nat → List Ck
 | [], _ => []
 | a :: r, i => .eqV (g vs i) a.den :: postEqs vs r (i + 1)
def plainNF (gl : List (At × Bool)) (dst : Option Tmp) (v : S1) (cs : List Ck) : Option (NF × FP) := some (.fl cs .sil (fun _ => (mkSV gl v)), {})
def boxedNF (s : SS) (gl : List (At × Bool)) (dst : Option Tmp) (name : Nat) (T : TypeId) (cells : List At) (val : Nat → At) (cs : List Ck) : Option (NF × FP) :=
 if gl.isEmpty && (s.mem name).isNone then some (.box cs name T cells val, { reads := [name] }) else none
def moveNF (s : SS) (gl : List (At × Bool)) (dst : Option Tmp) (sp : Bool) (x : Operand) : Option (NF × FP) :=
 if sp then
  if gl.isEmpty then
   (opAt s gl x).bind fun (a, cs) =>
    match a with
    | .k v => plainNF gl dst (.at (.k v)) cs
    | a => some (.fl cs (.split a.den) (fun vs => (.s (.at (.k (g vs 0))))), {})
  else none
 else
  match x with
  | .tmp t => match s.tmps t with
   | .tup l => if gl.isEmpty then some (.fl [] .sil (fun _ => (.tup l)), {}) else none
   | _ => (opS1 s gl x).bind fun (v, cs) => plainNF gl dst v cs
  | x => (opS1 s gl x).bind fun (v, cs) => plainNF gl dst v cs
def pickNF (s : SS) (gl : List (At × Bool)) (dst : Option Tmp) (c a b : Operand) : Option (NF × FP) :=
 (opAt s gl c).bind fun (c, cs) =>
  match c with
  | .k (.bool true) => (opS1 s gl a).bind fun (v, cs') => plainNF gl dst v (cs ++ cs')
  | .k (.bool false) => (opS1 s gl b).bind fun (v, cs') => plainNF gl dst v (cs ++ cs')
  | c =>
   match opAt s ((c, true) :: gl) a, opAt s ((c, false) :: gl) b with
   | some (a, ca), some (b, cb) => if a.fit && b.fit then some (pureNF gl true dst .pick [c, a, b] (cs ++ ca ++ cb), {}) else none
   | _, _ => none
def buildNF (P : Program) (s : SS) (gl : List (At × Bool)) (dst : Option Tmp) (T : TypeId) (parts : List (Nat × Operand)) : Option (NF × FP) :=
 (zeroOf P T).bind fun zero =>
  match P.underlying T with
  | some (.struct fs) =>
   (fs.toList.mapM fun f => (P.info? f.type).map fun i => (f.offset, i.size)).bind fun places =>
    (fillParts s gl (fun i => places.toArray[i]?) parts zero).bind fun (cells, cs) => plainNF gl dst (.agg cells) cs
  | some (.array _ elem) =>
   (szOf P elem).bind fun size => (fillParts s gl (fun i => some (i * size, size)) parts zero).bind fun (cells, cs) => plainNF gl dst (.agg cells) cs
  | _ => none
def buildSliceNF (P : Program) (s : SS) (gl : List (At × Bool)) (dst : Option Tmp) (name : Nat) (T : TypeId) (len : Nat) (parts : List (Nat × Operand)) : Option (NF × FP) :=
 match P.underlying T with
 | some (.slice elem) =>
  (szOf P elem).bind fun size => (zeroOf P elem).bind fun zero =>
   if zero.length = size && size ≠ 0 && len * size ≤ 65536 then
    (fillParts s gl (fun i => some (i * size, size)) parts (repCells zero len)).bind fun (cells, cs) => boxedNF s gl dst name elem cells (fun r => .sl name r 0 len len) cs
   else none
 | _ => none
def nilNF (gl : List (At × Bool)) (dst : Option Tmp) (x : At) (cs : List Ck) : Option (NF × FP) :=
 match x with
 | .p .. | .clo .. => plainNF gl dst (.at x) cs
 | .v y | .k y => plainNF gl dst (.at x) (.ptr (gden gl) y :: cs)
 | .px y _ => plainNF gl dst (.at x) (.ptr (gden gl) y :: cs)
 | _ => none
def isConst : Operand → Bool
 | .const _ => true
 | _ => false
def totalBin : BinOp → Bool
 | .quo | .rem | .shl | .shr => false
 | _ => true
def binNF (P : Program) (s : SS) (gl : List (At × Bool)) (dst : Option Tmp) (op : BinOp) (t : TypeId) (x y : Operand) : Option (NF × FP) :=
 match bkOf P t with
 | some bk => (opAts s gl [x, y]).bind fun (as, cs) => some (pureNF gl (totalBin op) dst (.bin op bk) as cs, {})
 | none =>
  match op with
  | .eql | .neq => (opS1s s gl [x, y]).bind fun (as, cs) => some (.fl cs (.raw (gden gl) (.eqv op t (isConst x || isConst y)) (as.map S1.den)) (fun vs => (mkSV gl (.at (.v (g vs 0))))), {})
  | _ => none
def unNF (P : Program) (gl : List (At × Bool)) (dst : Option Tmp) (op : UnOp) (t : TypeId) (x : At) (cs : List Ck) : Option (NF × FP) :=
 match op, P.underlying t with
 | .not, some .bool => some (pureNF gl true dst .not [x] cs, {})
 | .neg, some (.int _) => some (pureNF gl true dst .neg [x] cs, {})
 | .xor, some (.int _) => some (pureNF gl true dst .compl [x] cs, {})
 | _, _ => none
def convNF (P : Program) (s : SS) (gl : List (At × Bool)) (dst : Option Tmp) (a b : TypeId) (x : At) (cs : List Ck) : Option (NF × FP) :=
 match P.underlying a, P.underlying b with
 | some (.int _), some (.int k) => some (pureNF gl true dst (.conv k) [x] cs, {})
 | _, _ => if gl.isEmpty then heavyNF s dst .one (.prim (.convert a b) [x.den]) [x] cs else none
def ifaceNF (P : Program) (s : SS) (gl : List (At × Bool)) (dst : Option Tmp) (t : TypeId) (x : Operand) : Option (NF × FP) :=
 match P.underlying t with
 | some (.interface _) | none => none
 | some _ => (opS1 s gl x).bind fun (v, cs) => if (namesP v.cells (namesSl v.cells [])).isEmpty then plainNF gl dst (.at (.v (.iface t v.den))) cs else none
def indexNF (P : Program) (gl : List (At × Bool)) (dst : Option Tmp) (t : TypeId) (x : S1) (i : At) (cs : List Ck) : Option (NF × FP) :=
 match P.underlying t, x with
 | some (.array len elem), .agg cells =>
  (szOf P elem).bind fun size =>
   match constNat i with
   | some n => if n < len then (partS1 P elem cells (n * size)).bind fun v => plainNF gl dst v cs else none
   | none => if size = 1 && !isAggT P elem && cells.length = len && cells.all At.fit && (namesP cells (namesSl cells [])).isEmpty then some (pureNF gl false dst .aidx (i :: cells) cs, {})
    else if gl.isEmpty && size = 1 && !isAggT P elem && cells.length = len && cells.all At.known && len ≤ 16 then some (.fl cs (.isplit i.den len) (fun vs => .s (.at (cells.getD (match g vs 0 with | .int _ n => n.toNat | _ => 0) .any))), {}) else none
 | some .string, .at x => some (pureNF gl false dst .sidx [x, i] cs, {})
 | _, _ => none
def extractNF (s : SS) (gl : List (At × Bool)) (dst : Option Tmp) (x : Operand) (i : Nat) : Option (NF × FP) :=
 match x with
 | .tmp t => match s.tmps t with
  | .tup l => (l[i]?).bind fun v => if v.known then plainNF gl dst v [] else none
  | _ => none
 | _ => none
def lenNF (P : Program) (s : SS) (gl : List (At × Bool)) (dst : Option Tmp) (ty t : TypeId) (x : At) (cs : List Ck) : Option (NF × FP) :=
 match P.underlying t with
 | some (.slice _) =>
  match x with
  | .sl _ _ _ n _ => plainNF gl dst (.at (.k (goInt n))) cs
  | x => some (pureNF gl true dst .len [x] cs, {})
 | some .string => some (pureNF gl true dst .slen [x] cs, {})
 | some (.array n _) => plainNF gl dst (.at (.k (goInt n))) cs
 | some (.map _ _) => if gl.isEmpty then heavyNF s dst .one (.prim (.bi .len #[t] ty) [x.den]) [x] cs else none
 | _ => none
def capNF (P : Program) (gl : List (At × Bool)) (dst : Option Tmp) (t : TypeId) (x : At) (cs : List Ck) : Option (NF × FP) :=
 match P.underlying t with
 | some (.slice _) =>
  match x with
  | .sl _ _ _ _ n => plainNF gl dst (.at (.k (goInt n))) cs
  | x => some (pureNF gl true dst .cap [x] cs, {})
 | _ => none
def one1 {α : Type} : List α → Option α
 | [x] => some x
 | _ => none
def two2 {α : Type} : List α → Option (α × α)
 | [x, y] => some (x, y)
 | _ => none
def builtinNF (P : Program) (s : SS) (gl : List (At × Bool)) (dst : Option Tmp) (ty : TypeId) (b : Builtin) (argTypes : Array TypeId) (args : List Operand) : Option (NF × FP) :=
 match b with
 | .len => (one1 argTypes.toList).bind fun t => (one1 args).bind fun x => (opAt s gl x).bind fun (x, cs) => lenNF P s gl dst ty t x cs
 | .cap => (one1 argTypes.toList).bind fun t => (one1 args).bind fun x => (opAt s gl x).bind fun (x, cs) => capNF P gl dst t x cs
 | .min => (two2 args).bind fun (x, y) => (opAts s gl [x, y]).bind fun (as, cs) => some (pureNF gl true dst .min2 as cs, {})
 | .max => (two2 args).bind fun (x, y) => (opAts s gl [x, y]).bind fun (as, cs) => some (pureNF gl true dst .max2 as cs, {})
 | .append | .copy =>
  if gl.isEmpty then (opAts s gl args).bind fun (as, cs) => heavyNF s dst .one (.prim (.bi b argTypes ty) (as.map At.den)) as cs else none
 | .delete | .clear =>
  if gl.isEmpty then (opAts s gl args).bind fun (as, cs) => heavyNF s dst (.tup []) (.prim (.bi b argTypes ty) (as.map At.den)) as cs else none
 | _ => none
def callNF (P : Program) (okf : FuncId → Bool) (rules : FuncId → Option (List Nat)) (s : SS) (dst : Option Tmp) (ty : TypeId) (f : At) (as : List S1) (cs : List Ck) : Option (NF × FP) :=
 (shpOf P ty).bind fun shp =>
  match f with
  | .clo n caps =>
   if !okf n then (if caps.isEmpty then heavyNF s dst shp (.prim (.intr n) (as.map S1.den)) (as.flatMap S1.cells) cs else none) else
   match caps.isEmpty, rules n, one1 as with
   | true, some offs, some (.at x) =>
    (ruleAts x offs).bind fun l => if shp.isAgg l.length then
     some (.hv cs (.call n [x.den]) [] [] shp (fun vs => postEqs vs l 0) (fun _ => .s (.agg l)), {}) else none
   | _, _, _ => heavyNF s dst shp (.call n (as.map S1.den ++ caps.map Cp.den)) (f :: as.flatMap S1.cells) cs
  | .v x => heavyNF s dst shp (.callv x (as.map S1.den)) (as.flatMap S1.cells) cs
  | .k x => heavyNF s dst shp (.callv x (as.map S1.den)) (as.flatMap S1.cells) cs
  | _ => none
def primNF (s : SS) (gl : List (At × Bool)) (dst : Option Tmp) (shp : Shp) (op : PrimOp) (xs : List Operand) : Option (NF × FP) :=
 if gl.isEmpty then (opAts s gl xs).bind fun (as, cs) => heavyNF s dst shp (.prim op (as.map At.den)) as cs else none
def constK : Operand → Option Nat
 | .const (.int .i64 n) => if 0 ≤ n ∧ n ≤ 65536 then some n.toNat else none
 | _ => none
def makeSliceNF (P : Program) (s : SS) (gl : List (At × Bool)) (dst : Option Tmp) (name : Nat) (t : TypeId) (l c : Operand) : Option (NF × FP) :=
 match constK l, constK c, P.underlying t with
 | some n, some m, some (.slice elem) =>
  (szOf P elem).bind fun size => (zeroOf P elem).bind fun zero =>
   if zero.length = size && size ≠ 0 && n ≤ m && m * size ≤ 65536 && ((P.info? elem).map fun i => decide (i.bytes * m ≤ 2 ^ 48)).getD false then
    boxedNF s gl dst name elem (repCells zero m) (fun r => .sl name r 0 n m) []
   else none
 | _, _, _ => primNF s gl dst .one (.makeSlice t) [l, c]
/-- The normal form of an operation at a state. 'name': the name of the box that it may make; 'sp': must its bool be known from here on? -/
def nfGo (P : Program) (okf : FuncId → Bool) (rules : FuncId → Option (List Nat)) (sp : Bool) (name : Nat) (o : Oper) (gl : List (At × Bool)) (s : SS) : Option (NF × FP) :=
 match o.op with
 | .move x => moveNF s gl o.dst sp x
 | .assign x => moveNF s gl o.dst sp x
 | .pick c a b => pickNF s gl o.dst c a b
 | .alloc T => (zeroOf P T).bind fun cells => boxedNF s gl o.dst name T cells (fun r => .p name r 0) []
 | .box T x => (opS1 s gl x).bind fun (v, cs) => if v.cells.all At.fit then boxedNF s gl o.dst name T v.cells (fun r => .p name r 0) cs else none
 | .build T parts => buildNF P s gl o.dst T parts.toList
 | .buildSlice T len parts => buildSliceNF P s gl o.dst name T len parts.toList
 | .load t x => (opAt s gl x).bind fun (x, cs) => loadNF P s gl o.dst t x cs
 | .store t x y => if gl.isEmpty && o.dst.isNone then (opAt s gl x).bind fun (x, cs) => (opS1 s gl y).bind fun (y, cs') => storeNF P s t x y (cs ++ cs') else none
 | .nilCheck x => (opAt s gl x).bind fun (x, cs) => nilNF gl o.dst x cs
 | .binOp op t x y _ => binNF P s gl o.dst op t x y
 | .unOp op t x => (opAt s gl x).bind fun (x, cs) => unNF P gl o.dst op t x cs
 | .convert a b x => (opAt s gl x).bind fun (x, cs) => convNF P s gl o.dst a b x cs
 | .makeInterface t x => ifaceNF P s gl o.dst t x
 | .makeFunc (.func f) first caps =>
  if first.isEmpty then (opAts s gl caps.toList).bind fun (as, cs) => (capsOf as).bind fun l => plainNF gl o.dst (.at (.clo f l)) cs else none
 | .fieldAddr t x f =>
  (fieldOf P t f).bind fun fd => (szOf P fd.type).bind fun m =>
   if m = 0 then none else (opAt s gl x).bind fun (x, cs) => (moveAt gl x fd.offset).bind fun (a, c) => plainNF gl o.dst (.at a) (c ++ cs)
 | .field t x f =>
  (fieldOf P t f).bind fun fd => (opS1 s gl x).bind fun (x, cs) => (partS1 P fd.type x.cells fd.offset).bind fun v => if x.isAgg then plainNF gl o.dst v cs else none
 | .indexAddr t x i => (opAts s gl [x, i]).bind fun (as, cs) => (two2 as).bind fun (x, i) => indexAddrNF P gl o.dst t x i cs
 | .index t x i => (opS1 s gl x).bind fun (x, cs) => (opAt s gl i).bind fun (i, cs') => indexNF P gl o.dst t x i (cs ++ cs')
 | .slice t x lo hi mx =>
  (opAt s gl x).bind fun (x, c0) => (opAts s gl lo.toList).bind fun (l, c1) => (opAts s gl hi.toList).bind fun (h, c2) => (opAts s gl mx.toList).bind fun (m, c3) =>
   sliceNF P gl o.dst t x l.head? h.head? m.head? (c0 ++ c1 ++ c2 ++ c3)
 | .extract x i => extractNF s gl o.dst x i
 | .call c =>
  match c.callee with
  | .builtin b => builtinNF P s gl o.dst o.type b c.argTypes c.args.toList
  | .value f =>
   if gl.isEmpty then (opAt s gl f).bind fun (f, cs) => (opS1s s gl c.args.toList).bind fun (as, cs') => callNF P okf rules s o.dst o.type f as (cs ++ cs') else none
  | _ => none
 | .makeSlice t l c => makeSliceNF P s gl o.dst name t l c
 | .makeMap t r => primNF s gl o.dst .one (.makeMap t r.isSome) r.toList
 | .lookup t x i ok => primNF s gl o.dst (if ok then .tup [none, none] else .one) (.lookup t ok) [x, i]
 | .mapUpdate t m k x => if o.dst.isNone then primNF s gl o.dst .one (.mapUpdate t) [m, k, x] else none
 | .insert t m k x => if o.dst.isNone then primNF s gl o.dst .one (.mapUpdate t) [m, k, x] else none
 | .range t x => primNF s gl o.dst .one (.range t) [x]
 | .entry x => primNF s gl o.dst (.tup [none, none]) .entry [x]
 | .next x str => primNF s gl o.dst (if str then .tup [none, none, none] else .tup [none, none, none]) (.next str o.type) [x]
 | _ => none
def dstOk (s : SS) : Option Tmp → Bool
 | some d => decide (d < s.sz)
 | none => true
def nf (P : Program) (okf : FuncId → Bool) (rules : FuncId → Option (List Nat)) (tgt : Nat → Option Tmp) (sp : Bool) (name : Nat) (o : Oper) (s : SS) : Option (NF × FP) :=
 if !dstOk s o.dst then none else
 match guardOf tgt s o with
 | .bad => none
 | .skip => some (.fl [] .sil (fun _ => (.s (.at (.k undef)))), {})
 | .go gl => nfGo P okf rules sp name o gl s
end Go.Sx

/- The evaluator of code: trees. Generic. -/
namespace Go.Sx
open Go
def iswTree (c : Value) (kk : Nat → Tree) : Nat → Nat → Tree
 | _, 0 => .stuck 901
 | i, n + 1 => .sw c i (kk i) (iswTree c kk (i + 1) n)
def chks : List Ck → Tree → Tree
 | [], t => t
 | p :: r, t => .chk p (chks r t)
def hvUpd (dst : Option Tmp) (frz own : List (Nat × Bx)) (sv : List Value → SV) (s : SS) (vs : List Value) (css : List (List Value)) : SS :=
 (putB 0 own css (delBoxes ((frz ++ own).map (·.1)) s)).set dst (sv vs)
def bvs (l : List (Nat × Bx)) : List BV := l.map (·.2.bv)
def nfTree (d : Bool) (dst : Option Tmp) (x : NF) (s : SS) (kk : SS → Tree) : Tree :=
 match x with
 | .fl cs k X => chks cs <|
  match k with
  | .sil => kk (s.set dst (X []))
  | .pure gd op args => .pure gd op args fun v => kk (s.set dst (X [v]))
  | .raw gd op args => .raw gd op args fun v => kk (s.set dst (X [v]))
  | .load gd p m => .load gd p m fun vs => kk (s.set dst (X vs))
  | .split c => .br c (kk (s.set dst (X [.bool true]))) (kk (s.set dst (X [.bool false])))
  | .isplit c n => iswTree c (fun i => kk (s.set dst (X [.int .i64 i]))) 0 n
 | .box cs n T cells val => chks cs (.newbox fun r => kk ((s.setBox n (some ⟨r, T, cells⟩)).set dst (.s (.at (val r)))))
 | .stb cs n b => chks cs (kk (s.setBox n (some b)))
 | .hv cs k frz own shp post sv => chks cs <|
  match k with
  | .call f args => .call d f args (bvs frz) (bvs own) shp fun vs css => chks (post vs) (kk (hvUpd dst frz own sv s vs css))
  | .callv fv args => .callv d fv args (bvs frz) (bvs own) shp fun vs css => chks (post vs) (kk (hvUpd dst frz own sv s vs css))
  | .prim op args => .prim op args (bvs frz) (bvs own) shp fun vs css => chks (post vs) (kk (hvUpd dst frz own sv s vs css))
 | .st cs p vs => chks cs (.store p vs (kk s))
def disj (a b : List Nat) : Bool := a.all (!b.contains ·)
def FK.isLoad : FK → Bool
 | .load .. => true
 | _ => false
def HK.isCall' : HK → Bool
 | .prim .. => false
 | _ => true
def kindOk : NF → NF → Bool
 | .hv .., .box cs .. => cs.isEmpty
 | .hv .., _ => false
 | .st .., .box .. => true
 | .st .., _ => false
 | .box .., .hv .. => false
 | .box .., .st .. => false
 | .box .., b => !b.ch
 | .fl _ k _, .hv _ hk .. => !k.isLoad || hk.isCall'
 | .fl _ k _, .st .. => !k.isLoad
 | _, _ => true
/-- May the second, which comes later in the order, be run before the first? -/
def early (a : NF) (fa : FP) (b : NF) (fb : FP) : Bool :=
 disj a.writes fb.reads && disj a.writes b.writes && disj fa.reads b.writes && kindOk a b
def heavyOp : Op → Bool
 | .alloc _ | .box _ _ | .buildSlice _ _ _ | .makeSlice _ _ _ | .makeMap _ _ | .lookup _ _ _ _ | .mapUpdate _ _ _ _ | .range _ _ | .convert _ _ _ => true
 | .call c => match c.callee with
  | .builtin .len | .builtin .cap | .builtin .min | .builtin .max => false
  | _ => true
 | _ => false
def splitList : List (Nat × Oper) → List Nat
 | [] => []
 | (i, o) :: r =>
  let S := splitList r
  match o.guard with
  | some (j, _) => if heavyOp o.op || S.contains i then (if S.contains j then S else j :: S) else S
  | none => S
def tgtOf (ops : Array Oper) (j : Nat) : Option Tmp := (ops[j]?).bind (·.dst)
/-- Classes for the order in which the operations of a drawn region are taken: quiet ones, heavy ones, new boxes. -/
def clsOf : Op → Nat
 | .alloc _ | .box _ _ | .buildSlice _ _ _ => 2
 | .makeSlice _ l c => if (constK l).isSome && (constK c).isSome then 2 else 1
 | .store _ _ _ | .makeMap _ _ | .lookup _ _ _ _ | .mapUpdate _ _ _ _ | .insert _ _ _ _ | .range _ _ | .next _ _ | .entry _ => 1
 | .call c => match c.callee with
  | .builtin .len | .builtin .cap | .builtin .min | .builtin .max => 0
  | _ => 1
 | _ => 0
def predsOf (o : Oper) : List Nat := o.after.toList.filterMap fun e => if Region.binds .any e then some e.on else none
def isReady (done : Nat) (o : Oper) : Bool := (predsOf o).all fun p => done.testBit p
def firstOf (done c : Nat) : List (Nat × Oper) → Option (Nat × Oper)
 | [] => none
 | (i, o) :: r => if clsOf o.op == c && isReady done o then some (i, o) else firstOf done c r
def dropIdx (i : Nat) : List (Nat × Oper) → List (Nat × Oper)
 | [] => []
 | (j, o) :: r => if j = i then r else (j, o) :: dropIdx i r
def schedGo : Nat → Nat → List (Nat × Oper) → List (Nat × Oper)
 | 0, _, l => l
 | fuel + 1, done, l =>
  match (firstOf done 0 l).orElse fun _ => (firstOf done 1 l).orElse fun _ => firstOf done 2 l with
  | none => l
  | some (i, o) => (i, o) :: schedGo fuel (done ||| 1 <<< i) (dropIdx i l)
def lookNat (tab : List (Nat × Nat)) (p : Nat) : Nat :=
 match tab with
 | [] => 0
 | (q, m) :: r => if q = p then m else lookNat r p
/-- what must come before: bits -/
def maskOf (tab : List (Nat × Nat)) : List Nat → Nat
 | [] => 0
 | p :: r => (1 <<< p) ||| lookNat tab p ||| maskOf tab r
def maskTab : List (Nat × Oper) → List (Nat × Nat) → List (Nat × Nat)
 | [], tab => tab
 | (i, o) :: r, tab => maskTab r ((i, maskOf tab (predsOf o)) :: tab)
def ordB (tab : List (Nat × Nat)) (a i : Nat) : Bool := (lookNat tab i).testBit a
structure Ent where
 i : Nat
 o : Oper
 x : NF
 fp : FP
def okLog (ops : Array Oper) (tab : List (Nat × Nat)) (i : Nat) (o : Oper) (x : NF) (fp : FP) (log : List Ent) : Bool :=
 log.all fun e => ordB tab e.i i || (early e.x e.fp x fp && Oper.apart ops e.o o)
/-- Behind a call and the like there may only come, unordered, new boxes that are ready now. -/
def hvOk (nfi : Nat → Oper → Option (NF × FP)) (ops : Array Oper) (tab : List (Nat × Nat)) (a : Nat) (oa : Oper) (x : NF) (fp : FP) (log : List Ent) (r : List (Nat × Oper)) : Bool :=
 match x with
 | .hv .. =>
  let U := r.filter fun k => !ordB tab a k.1
  U.all fun k =>
   match nfi k.1 k.2 with
   | some (y, fpy) => early x fp y fpy && Oper.apart ops oa k.2 && okLog ops tab k.1 k.2 y fpy log &&
    U.all fun m => m.1 == k.1 || (Oper.apart ops m.2 k.2 && match nfi m.1 m.2 with | some (z, _) => disj z.writes fpy.reads | none => false)
   | none => false
 | _ => true
def NF.isLd : NF → Bool
 | .fl _ k _ => k.isLoad
 | _ => false
/-- Is there a load behind which the operation may come, or not? -/
def dAt (tab : List (Nat × Nat)) (i : Nat) (log : List Ent) : Bool := log.any fun e => !ordB tab e.i i && e.x.isLd
def regTree (P : Program) (okf : FuncId → Bool) (rules : FuncId → Option (List Nat)) (draw : Bool) (ops : Array Oper) (tab : List (Nat × Nat)) (sp : List Nat) (base : Nat) : List (Nat × Oper) → List Ent → SS → (SS → Tree) → Tree
 | [], _, s, kk => kk s
 | (i, o) :: r, log, s, kk =>
  match nf P okf rules (tgtOf ops) (sp.contains i) (base + i) o s with
  | none => .stuck (1000 + i)
  | some (x, fp) =>
   if draw && !(okLog ops tab i o x fp log && hvOk (fun k ok => nf P okf rules (tgtOf ops) (sp.contains k) (base + k) ok s) ops tab i o x fp log r) then .stuck (2000 + i)
   else nfTree (draw && dAt tab i log) o.dst x s fun s' => regTree P okf rules draw ops tab sp base r (if draw then ⟨i, o, x, fp⟩ :: log else log) s' kk
def enumFrom {α : Type} (n : Nat) : List α → List (Nat × α)
 | [] => []
 | a :: r => (n, a) :: enumFrom (n + 1) r
/-- Is the order one of all operations, in which each comes behind those that must be before it? -/
def topo (n : Nat) : Nat → List (Nat × Oper) → Bool
 | done, [] => done == 2 ^ n - 1
 | done, (i, o) :: r => !done.testBit i && isReady done o && topo n (done ||| 1 <<< i) r
def regionTree (P : Program) (okf : FuncId → Bool) (rules : FuncId → Option (List Nat)) (ops : Array Oper) (draw : Bool) (s : SS) (kk : SS → Tree) : Tree :=
 let l := enumFrom 0 ops.toList
 if draw then
  let l' := schedGo ops.size 0 l
  if topo ops.size 0 l' then
   regTree P okf rules true ops (maskTab l' []) (splitList l) s.next l' [] s fun s' => kk { s' with next := s.next + ops.size }
  else .stuck 3000
 else regTree P okf rules false ops [] (splitList l) s.next l [] s fun s' => kk { s' with next := s.next + ops.size }
inductive LMode where
 | unroll (n : Nat)
 | inv (carry keep : List Nat) (boxes : List (Nat × List Nat))
structure Opts where
 okf : FuncId → Bool
 rules : FuncId → Option (List Nat)
 loop : Nat → LMode
 cut : Nat → Option (List Nat × List Nat × List (Nat × List Nat))
def firstRegion : Code → Nat
 | .region id _ _ => id
 | .seq a _ => firstRegion a
 | .block _ b => firstRegion b
 | .loop b => firstRegion b
 | .cond _ a b => match a with | .skip => firstRegion b | _ => firstRegion a
 | _ => 99999
def atOf (s : SS) (t : Nat) : At := match s.tmps t with | .s (.at a) => a | _ => .any
def boxName (s : SS) (t : Nat) : Option Nat := match atOf s t with | .p n _ _ => some n | .sl n _ _ _ _ => some n | _ => none
def idxOf (l : List Nat) (t : Nat) : Option Nat :=
 match l with
 | [] => none
 | a :: r => if a = t then some 0 else (idxOf r t).map (· + 1)
/-- own boxes that are kept over a loop's head, with the cells that turn: name, box, cells, the place of their first value -/
def headBoxes (s : SS) : List (Nat × List Nat) → Nat → List (Nat × Bx × List Nat × Nat)
 | [], _ => []
 | (t, cells) :: r, i =>
  match boxName s t with
  | none => headBoxes s r i
  | some n => match s.mem n with
   | none => headBoxes s r i
   | some b =>
    let rest := headBoxes s r (i + cells.length)
    (n, b, cells, i) :: rest.filter (fun x => x.1 != n)
def turnCells (cs : List At) (vs : List Value) : List Nat → Nat → List At
 | [], _ => cs
 | c :: r, i => turnCells (cs.set c (.v (g vs i))) vs r (i + 1)
def headSS (s : SS) (carry keep : List Nat) (hb : List (Nat × Bx × List Nat × Nat)) (vs : List Value) : SS :=
  { s with
    tmps := fun t => match idxOf carry t with | some i => .s (.at (.v (g vs i))) | none => if keep.contains t then s.tmps t else .s (.at .any)
    mem := fun n => match hb.find? (·.1 == n) with | some (_, b, cells, i) => some { b with cs := turnCells b.cs vs cells i } | none => none }
def headVals (s : SS) (carry : List Nat) (hb : List (Nat × Bx × List Nat × Nat)) : List Value :=
 carry.map (fun t => (atOf s t).den) ++ hb.flatMap fun (n, _, cells, _) => match s.mem n with | some b => cells.map fun c => (b.cs.getD c .any).den | none => []
def knownVals (s : SS) (carry : List Nat) (hb : List (Nat × Bx × List Nat × Nat)) : Bool :=
 carry.all (fun t => (atOf s t).fit) && hb.all fun (n, _, cells, _) => match s.mem n with | some b => cells.all fun c => (b.cs.getD c .any).fit | none => false
def svCells : SV → Option (List At)
 | .s x => some x.cells
 | .tup l => some (l.flatMap S1.cells)
 | .opt _ _ => none
def svLike : SV → SV → Bool
 | .s (.at _), .s (.at _) => true
 | .s (.agg a), .s (.agg b) => a.length == b.length
 | .tup a, .tup b => a.length == b.length && (a.zip b).all fun p => match p.1, p.2 with | .at _, .at _ => true | .agg a, .agg b => a.length == b.length | _, _ => false
 | _, _ => false
def maskCells (cs : List At) (cells : List Nat) : List At := (enumFrom 0 cs).map fun (i, a) => if cells.contains i then .k undef else a
def posOk : Nat → List (Nat × Bx × List Nat × Nat) → Bool
 | _, [] => true
 | p, (_, _, cells, i) :: r => i == p && posOk (p + cells.length) r
/-- back at a loop's head (h) with the state s -/
def backTree (lab : Nat) (C : List Value → Heap → Own → Prop) (carry keep : List Nat) (hb : List (Nat × Bx × List Nat × Nat)) (h s : SS) : Tree :=
  if s.sz == h.sz && posOk carry.length hb && knownVals s carry hb &&
    keep.all (fun t => (idxOf carry t).isSome || (svLike (s.tmps t) (h.tmps t) && match svCells (s.tmps t) with | some l => l.all At.known | none => false)) &&
    hb.all (fun (n, b, _, _) => match s.mem n with | some b' => b'.T == b.T && b'.cs.length == b.cs.length && b'.cs.all At.known | none => false)
  then .cont lab C (headVals s carry hb)
    ((keep.filter fun t => (idxOf carry t).isNone).map (fun t => (((svCells (s.tmps t)).getD []).map At.den, ((svCells (h.tmps t)).getD []).map At.den)) ++
     hb.map fun (n, b, cells, _) => match s.mem n with
      | some b' => (.pointer (some ⟨b'.r, 0, none⟩) :: (maskCells b'.cs cells).map At.den, .pointer (some ⟨b.r, 0, none⟩) :: (maskCells b.cs cells).map At.den)
      | none => ([], []))
  else .stuck 902

def unrollTree (f : SS → (SS → Tree) → Tree) : Nat → SS → Tree
 | 0, _ => .stuck 903
 | n + 1, s => f s fun s' => unrollTree f n s'
def sx (P : Program) (opts : Opts) : Code → SS → (SS → Tree) → (Nat → Option (SS → Tree)) → (SS → Tree) → Tree
 | .skip, s, k, _, _ => k s
 | .label _, s, k, _, _ => k s
 | .region _ ops draw, s, k, _, _ => regionTree P opts.okf opts.rules ops draw s k
 | .seq a b, s, k, X, R => sx P opts a s (fun s' => sx P opts b s' k X R) X R
 | .cond c a b, s, k, X, R =>
  let whole (s : SS) (k : SS → Tree) : Tree :=
   match opAt s [] c with
   | some (.k (.bool true), _) => sx P opts a s k X R
   | some (.k (.bool false), _) => sx P opts b s k X R
   | some (v, _) => .br v.den (sx P opts a s k X R) (sx P opts b s k X R)
   | none => .stuck 904
  match opts.cut (firstRegion (.cond c a b)) with
  | none => whole s k
  | some (carry, keep, boxes) =>
   let hb := headBoxes s boxes carry.length
   .cut s.next (firstRegion (.cond c a b)) (fun C => whole { s with next := s.next + 1 } fun s' => backTree s.next C carry keep hb s s') fun vs => k (headSS { s with next := s.next + 1 } carry keep hb vs)
 | .block id b, s, k, X, R => sx P opts b s k (fun j => if j = id then some k else X j) R
 | .exit id, s, _, X, _ => match X id with | some k => k s | none => .stuck 905
 | .ret, s, _, _, R => R s
 | .loop b, s, _, X, R =>
  match opts.loop (firstRegion b) with
  | .unroll n => unrollTree (fun s k => sx P opts b s k X R) n s
  | .inv carry keep boxes =>
   let hb := headBoxes s boxes carry.length
   if posOk carry.length hb && knownVals s carry hb then
    .loop s.next (firstRegion b) (headVals s carry hb) fun C vs =>
     sx P opts b (headSS { s with next := s.next + 1 } carry keep hb vs) (fun s' => backTree s.next C carry keep hb s s') X R
   else .stuck 906
 | _, _, _, _, _ => .stuck 907
/-- The state at a function's entry, its arguments given cell by cell. -/
def entrySVs (P : Program) : List TypeId → Nat → List Value → List SV
 | [], _, _ => []
 | T :: r, i, vs =>
  if isAggT P T then (let m := (szOf P T).getD 0; .s (.agg (atsFrom vs i m)) :: entrySVs P r (i + m) vs)
  else .s (.at (.v (g vs i))) :: entrySVs P r (i + 1) vs
def entrySS (P : Program) (fn : Func) (vs : List Value) : SS :=
 let svs := entrySVs P (fn.params.toList ++ List.replicate fn.nfree 0) 0 vs
 { sz := fn.ntmps, tmps := fun t => (svs[t]?).getD (.s (.at (.k undef))), mem := fun _ => none, next := 0 }
def resS1 (P : Program) (s : SS) : ResultVar → Option S1
 | .tmp t => match s.tmps t with
  | .s x => if x.known then some x else none
  | _ => none
 | .cell a T => match atOf s a with
  | .p n r 0 => (s.mem n).bind fun b => if b.cs.all At.known && some b.cs.length == szOf P T then mkS1 P T b.cs else none
  | _ => none
def resChk (s : SS) : ResultVar → List Ck
 | .tmp _ => []
 | .cell a _ => match atOf s a with
  | .p n r _ => (match s.mem n with | some b => [.eqN r b.r] | none => [])
  | _ => []
def resAll (P : Program) (s : SS) : List ResultVar → Option (List S1)
 | [] => some []
 | x :: r => match resS1 P s x, resAll P s r with
  | some v, some vs => some (v :: vs)
  | _, _ => none
def retTree (P : Program) (fn : Func) (s : SS) : Tree :=
 match resAll P s fn.results.toList with
 | none => .stuck 908
 | some l =>
  let atoms := l.flatMap S1.cells
  let own := liveBoxes s (reachSl s 50 (namesP atoms (namesSl atoms [])) [])
  if own.all (fun b => b.2.cs.all At.known) && noDup (own.map (·.1)) then
   chks (fn.results.toList.flatMap (resChk s)) (.ret (match l with | [v] => v.den | l => .tuple (l.map S1.den).toArray) (bvs own))
  else .stuck 909
def sxFun (P : Program) (fn : Func) (opts : Opts) (vs : List Value) : Tree :=
 match fn.body with
 | some c => sx P opts c (entrySS P fn vs) (retTree P fn) (fun _ => none) (retTree P fn)
 | none => .stuck 910
end Go.Sx

/- What a symbolic state says of the machine's; that an operation's normal form is sound: the frame of the proof. -/
namespace Go.Sx
open Go
def AllCk : List Ck → Prop
 | [] => True
 | c :: r => c.holds ∧ AllCk r
theorem AllCk.append {a b : List Ck} : AllCk (a ++ b) ↔ AllCk a ∧ AllCk b := by
 induction a with
 | nil => simp [AllCk]
 | cons c r ih => simp [AllCk, ih, and_assoc]
def CellsRel : List At → List Value → Prop
 | [], [] => True
 | a :: r, v :: vs => (a.known = true → v = a.den) ∧ CellsRel r vs
 | _, _ => False
theorem CellsRel.length : ∀ {cs : List At} {vs : List Value}, CellsRel cs vs → cs.length = vs.length
 | [], [], _ => rfl
 | _ :: _, _ :: _, h => by simp [CellsRel.length h.2]
theorem CellsRel.known : ∀ {cs : List At} {vs : List Value}, CellsRel cs vs → cs.all At.known = true → vs = cs.map At.den
 | [], [], _, _ => rfl
 | a :: r, v :: vs, h, hk => by
  simp only [List.all_cons, Bool.and_eq_true] at hk
  rw [List.map_cons, h.1 hk.1, CellsRel.known h.2 hk.2]
theorem CellsRel.drop : ∀ {cs : List At} {vs : List Value} (n : Nat), CellsRel cs vs → CellsRel (cs.drop n) (vs.drop n)
 | _, _, 0, h => by simpa using h
 | [], [], _ + 1, _ => by simp [CellsRel]
 | _ :: _, _ :: _, n + 1, h => by simpa using CellsRel.drop n h.2
theorem CellsRel.take : ∀ {cs : List At} {vs : List Value} (n : Nat), CellsRel cs vs → CellsRel (cs.take n) (vs.take n)
 | _, _, 0, _ => by simp [CellsRel]
 | [], [], _ + 1, _ => by simp [CellsRel]
 | _ :: _, _ :: _, n + 1, h => by simpa [CellsRel] using ⟨h.1, CellsRel.take n h.2⟩
theorem CellsRel.append : ∀ {cs ds : List At} {vs us : List Value}, CellsRel cs vs → CellsRel ds us → CellsRel (cs ++ ds) (vs ++ us)
 | [], _, [], _, _, h => by simpa using h
 | _ :: _, _, _ :: _, _, h, h' => by simpa [CellsRel] using ⟨h.1, CellsRel.append h.2 h'⟩
theorem CellsRel.map (cs : List At) : CellsRel cs (cs.map At.den) := by
 induction cs with
 | nil => simp [CellsRel]
 | cons a r ih => exact ⟨fun _ => rfl, ih⟩
theorem CellsRel.fill {cs : List At} {vs : List Value} (h : CellsRel cs vs) (off : Nat) (ys : List At) :
  CellsRel (fillAt cs off ys) (vs.take off ++ ys.map At.den ++ vs.drop (off + ys.length)) :=
 ((h.take off).append (CellsRel.map ys)).append (h.drop _)
theorem CellsRel.from (vs : List Value) : ∀ (m i : Nat), i + m = vs.length → CellsRel ((List.range' i m).map fun j => At.v (g vs j)) (vs.drop i)
 | 0, i, h => by
  have : vs.drop i = [] := List.drop_eq_nil_of_le (by omega)
  simp [this, CellsRel]
 | m + 1, i, h => by
  have hi : i < vs.length := by omega
  rw [List.drop_eq_getElem_cons hi, List.range'_succ, List.map_cons]
  refine ⟨fun _ => ?_, CellsRel.from vs m (i + 1) (by omega)⟩
  simp [At.den, g, hi]
theorem atsFrom_eq (vs : List Value) (i m : Nat) : atsFrom vs i m = (List.range' i m).map fun j => At.v (g vs j) := by
 unfold atsFrom
 rw [List.range'_eq_map_range, List.map_map]; rfl
theorem CellsRel.atsFrom {vs : List Value} {m : Nat} (h : vs.length = m) : CellsRel (atsFrom vs 0 m) vs := by
 rw [atsFrom_eq]; simpa using CellsRel.from vs m 0 (by omega)
def boxObj (b : Option Bx) (vs : List Value) : Nat × Obj :=
 match b with
 | some b => (b.r, .cells vs.toArray b.T (0, 0))
 | none => (0, .cells #[] 0 (0, 0))
/-- The own blocks of a state's boxes. -/
def Boxes (m : Nat → Option Bx) (L : Own) : Prop :=
 ∃ (ns : List Nat) (f : Nat → List Value), ns.Nodup ∧ (∀ n, (m n).isSome = true ↔ n ∈ ns) ∧ (∀ n b, m n = some b → CellsRel b.cs (f n)) ∧
  L.Perm (ns.map fun n => boxObj (m n) (f n))
theorem Boxes.perm {m : Nat → Option Bx} {L L' : Own} (h : Boxes m L) (hp : L.Perm L') : Boxes m L' :=
 let ⟨ns, f, a, b, c, d⟩ := h; ⟨ns, f, a, b, c, hp.symm.trans d⟩
theorem Boxes.none : Boxes (fun _ => Option.none) [] := ⟨[], fun _ => [], by simp, by simp, by simp, by simp⟩
theorem Boxes.take {m : Nat → Option Bx} {L : Own} {n : Nat} {b : Bx} (h : Boxes m L) (hb : m n = some b) :
  ∃ vs L', CellsRel b.cs vs ∧ L.Perm ((b.r, .cells vs.toArray b.T (0, 0)) :: L') ∧ Boxes (fun k => if k = n then Option.none else m k) L' := by
 obtain ⟨ns, f, hn, hs, hc, hp⟩ := h
 have hin : n ∈ ns := (hs n).1 (by simp [hb])
 refine ⟨f n, (ns.erase n).map fun k => boxObj (m k) (f k), hc n b hb, ?_, ns.erase n, f, hn.erase n, fun k => ?_, fun k b' hk => ?_, ?_⟩
 ·refine hp.trans ?_
  have := (List.perm_cons_erase hin).map fun k => boxObj (m k) (f k)
  simpa [boxObj, hb] using this
 ·by_cases hk : k = n
  ·subst hk; simpa using fun hm => (List.Nodup.mem_erase_iff hn).1 hm |>.1 rfl
  ·simp only [hk, if_false, hs k, List.Nodup.mem_erase_iff hn]; simp [hk]
 ·by_cases e : k = n
  ·simp [e] at hk
  ·simp only [e, if_false] at hk; exact hc k b' hk
 ·refine List.Perm.of_eq (List.map_congr_left fun k hk => ?_)
  have : k ≠ n := ((List.Nodup.mem_erase_iff hn).1 hk).1
  simp [this]
theorem Boxes.put {m : Nat → Option Bx} {L : Own} {n : Nat} {b : Bx} {vs : List Value} (h : Boxes m L) (hb : m n = Option.none) (hv : CellsRel b.cs vs) :
  Boxes (fun k => if k = n then some b else m k) ((b.r, .cells vs.toArray b.T (0, 0)) :: L) := by
 obtain ⟨ns, f, hn, hs, hc, hp⟩ := h
 have hout : n ∉ ns := fun hin => by have := (hs n).2 hin; simp [hb] at this
 refine ⟨n :: ns, fun k => if k = n then vs else f k, List.nodup_cons.2 ⟨hout, hn⟩, fun k => ?_, fun k b' hk => ?_, ?_⟩
 ·by_cases e : k = n <;> simp [e, hs k]
 ·by_cases e : k = n
  ·subst e; simp at hk; subst hk; simpa using hv
  ·simp only [e, if_false] at hk ⊢; exact hc k b' hk
 ·simp only [List.map_cons, if_true, boxObj]
  refine List.Perm.cons _ (hp.trans (List.Perm.of_eq (List.map_congr_left fun k hk => ?_)))
  have : k ≠ n := fun e => hout (e ▸ hk)
  simp [this, boxObj]
theorem box_back (m : Nat → Option Bx) (n : Nat) (b : Option Bx) : (fun k => if k = n then b else if k = n then Option.none else m k) = fun k => if k = n then b else m k := by
 funext k; by_cases e : k = n <;> simp [e]
def S1.ok (x : S1) : Prop := ∀ a, a ∈ x.cells → a.ok
def SV.ok : SV → Prop
 | .s x => x.ok
 | .tup l => ∀ x, x ∈ l → x.ok
 | .opt _ x => x.ok
def SS.Ok (s : SS) : Prop := (∀ t, (s.tmps t).ok) ∧ ∀ n b, s.mem n = some b → ∀ a, a ∈ b.cs → a.ok
theorem SS.Ok.set {s : SS} (h : s.Ok) (d : Option Nat) {sv : SV} (hv : sv.ok) : (s.set d sv).Ok := by
 cases d with
 | none => exact h
 | some d =>
  refine ⟨fun t => ?_, h.2⟩
  simp only [SS.set]
  split
  ·exact hv
  ·exact h.1 t
theorem SS.Ok.setBox {s : SS} (h : s.Ok) (n : Nat) {b : Option Bx} (hv : ∀ b', b = some b' → ∀ a, a ∈ b'.cs → a.ok) : (s.setBox n b).Ok := by
 refine ⟨h.1, fun k b' hb => ?_⟩
 simp only [SS.setBox] at hb
 split at hb
 ·exact hv b' hb
 ·exact h.2 k b' hb
theorem At.fit_one {a : At} (h : a.fit = true) (ho : a.ok) : a.den.oneCell' = true := by
 cases a <;> simp_all [At.fit, At.ok, At.den, Value.oneCell']
theorem ok_mkSV {gl : List (At × Bool)} {x : S1} (h : x.ok) : (mkSV gl x).ok := by
 unfold mkSV; split <;> exact h
/-- The machine's state is one of those that the symbolic state stands for. F: what else is in memory. -/
structure Conc (F : Own) (s : SS) (H : Heap) (O : Own) (a : Act) (w : World) : Prop where
 ok : s.Ok
 df : a.defers = []
 sz : a.tmps.size = s.sz
 tm : ∀ t, (s.tmps t).rel (a.tmps.getD t undef)
 mm : ∃ L, Boxes s.mem L ∧ Models w H (L ++ (O ++ F))
theorem Conc.put {F : Own} {s : SS} {H : Heap} {O : Own} {a : Act} {w : World} (h : Conc F s H O a w) {dst : Option Nat} {sv : SV} {v : Value}
  (hd : ∀ d, dst = some d → d < s.sz) (hv : sv.rel v) (hok : sv.ok) : Conc F (s.set dst sv) H O (a.put dst v) w := by
 have hok' := h.ok.set dst hok
 cases dst with
 | none => exact h
 | some d =>
  have hlt : d < a.tmps.size := by rw [h.sz]; exact hd d rfl
  refine ⟨hok', h.df, by simp [Act.put, SS.set, h.sz], fun t => ?_, h.mm⟩
  simp only [SS.set, Act.put]
  by_cases e : t = d
  ·subst e; simpa [Array.getD, hlt] using hv
  ·have := h.tm t
   simp only [e, if_false]
   have hg : (a.tmps.setIfInBounds d v).getD t undef = a.tmps.getD t undef := by
    simp only [Array.getD_eq_getD_getElem?]
    rw [Array.getElem?_setIfInBounds_ne (by omega)]
   rw [hg]; exact this
theorem On_gden_cons (c : At) (p : Bool) (gl : List (At × Bool)) : On (gden ((c, p) :: gl)) ↔ c.den = .bool p ∧ On (gden gl) := Iff.rfl
theorem rel_mkSV {gl : List (At × Bool)} {x : S1} {v : Value} (h : On (gden gl) → v = x.den) (h' : ¬ On (gden gl) → v = undef) : (mkSV gl x).rel v := by
 unfold mkSV
 split
 ·rename_i e
  have : gl = [] := by simpa using e
  subst this
  have hv := h trivial
  unfold SV.rel
  split <;> simp_all
 ·exact ⟨h, h'⟩
theorem rel_s_known {x : S1} {v : Value} (hk : x.known = true) (h : (SV.s x).rel v) : v = x.den := by
 rcases x with a | l
 ·cases a <;> first | exact h | simp [S1.known, S1.cells, At.known] at hk
 ·exact h
theorem constS1_den (v : Value) : (constS1 v).den = v := by
 cases v <;> simp [constS1, S1.den, At.den, Function.comp_def]
theorem sufEqs_core : ∀ (rear gl' : List (At × Bool)), rear.length = gl'.length → ((rear.zip gl').all fun p => p.1.2 == p.2.2) = true →
  AllCk ((rear.zip gl').map fun p => .eqV p.1.1.den p.2.1.den) → On (gden rear) → On (gden gl')
 | [], [], _, _, _, _ => trivial
 | [], _ :: _, h, _, _, _ => by simp at h
 | _ :: _, [], h, _, _, _ => by simp at h
 | p :: r, q :: r', hl, hp, hc, ho => by
  simp only [List.zip_cons_cons, List.all_cons, Bool.and_eq_true, List.map_cons, AllCk, Ck.holds, beq_iff_eq] at hp hc
  refine ⟨?_, sufEqs_core r r' (by simpa using hl) (by simpa using hp.2) hc.2 ho.2⟩
  have := ho.1
  simp only [] at this ⊢
  rw [← hc.1, ← hp.1]; exact this
theorem On_drop : ∀ (gl : List (At × Bool)) (k : Nat), On (gden gl) → On (gden (gl.drop k))
 | [], k, _ => by simp [gden, On]
 | _ :: _, 0, h => h
 | _ :: r, k + 1, h => On_drop r k h.2
theorem sufEqs_on {gl gl' : List (At × Bool)} {cs : List Ck} (h : sufEqs gl gl' = some cs) (hc : AllCk cs) (ho : On (gden gl)) : On (gden gl') := by
 unfold sufEqs at h
 simp only [] at h
 split at h
 ·rename_i hcond
  simp only [Option.some.injEq] at h
  subst h
  simp only [Bool.and_eq_true, decide_eq_true_eq] at hcond
  exact sufEqs_core _ _ hcond.1 hcond.2 hc (On_drop _ _ ho)
 ·simp at h
theorem opS1_den {F : Own} {s : SS} {H : Heap} {O : Own} {a : Act} {w : World} (h : Conc F s H O a w) {gl : List (At × Bool)} {x : Operand} {v : S1} {cs : List Ck}
  (hx : opS1 s gl x = some (v, cs)) (hc : AllCk cs) (ho : On (gden gl)) : a.eval x = v.den := by
 cases x with
 | tmp t =>
  have ht := h.tm t
  simp only [opS1] at hx
  simp only [Act.eval]
  split at hx
  ·rename_i y hy
   split at hx
   ·rename_i hk; simp only [Option.some.injEq, Prod.mk.injEq] at hx; rw [← hx.1]; rw [hy] at ht; exact rel_s_known hk ht
   ·simp at hx
  ·rename_i gl' y hy
   split at hx
   ·rename_i hk
    cases hs : sufEqs gl gl' with
    | none => simp [hs] at hx
    | some c =>
     simp only [hs, Option.map_some, Option.some.injEq, Prod.mk.injEq] at hx
     rw [hy] at ht
     rw [← hx.1]; exact ht.1 (sufEqs_on hs (hx.2 ▸ hc) ho)
   ·simp at hx
  ·simp at hx
 | const v => simp only [opS1, Option.some.injEq, Prod.mk.injEq] at hx; rw [← hx.1, constS1_den]; rfl
 | global n => simp only [opS1, Option.some.injEq, Prod.mk.injEq] at hx; rw [← hx.1]; rfl
 | func f => simp only [opS1, Option.some.injEq, Prod.mk.injEq] at hx; rw [← hx.1]; rfl
theorem constS1_ok (v : Value) : (constS1 v).ok := by
 intro a ha
 cases v <;> simp [constS1, S1.cells] at ha
 case agg cs => obtain ⟨x, _, rfl⟩ := ha; trivial
 all_goals (subst ha; trivial)
theorem opS1_ok {s : SS} (h : s.Ok) {gl : List (At × Bool)} {x : Operand} {v : S1} {cs : List Ck} (hx : opS1 s gl x = some (v, cs)) : v.ok := by
 cases x with
 | tmp t =>
  have ht := h.1 t
  simp only [opS1] at hx
  split at hx
  ·rename_i y hy
   split at hx
   ·simp only [Option.some.injEq, Prod.mk.injEq] at hx; rw [← hx.1]; rw [hy] at ht; exact ht
   ·simp at hx
  ·split at hx
   ·rename_i gl' y hy hk
    cases hs : sufEqs gl gl' with
    | none => simp [hs] at hx
    | some c => simp only [hs, Option.map_some, Option.some.injEq, Prod.mk.injEq] at hx; rw [← hx.1]; rw [hy] at ht; exact ht
   ·simp at hx
  ·simp at hx
 | const v => simp only [opS1, Option.some.injEq, Prod.mk.injEq] at hx; rw [← hx.1]; exact constS1_ok v
 | global n =>
  simp only [opS1, Option.some.injEq, Prod.mk.injEq] at hx; rw [← hx.1]; intro a ha; simp [S1.cells] at ha; subst ha; trivial
 | func f =>
  simp only [opS1, Option.some.injEq, Prod.mk.injEq] at hx; rw [← hx.1]; intro a ha; simp [S1.cells] at ha; subst ha; trivial
theorem opAt_S1 {s : SS} {gl : List (At × Bool)} {x : Operand} {a : At} {cs : List Ck} (hx : opAt s gl x = some (a, cs)) : opS1 s gl x = some (.at a, cs) := by
 unfold opAt at hx
 split at hx
 ·rename_i b c he; simp only [Option.some.injEq, Prod.mk.injEq] at hx; rw [he, hx.1, hx.2]
 ·simp at hx
theorem opAt_den {F : Own} {s : SS} {H : Heap} {O : Own} {a : Act} {w : World} (h : Conc F s H O a w) {gl : List (At × Bool)} {x : Operand} {v : At} {cs : List Ck}
  (hx : opAt s gl x = some (v, cs)) (hc : AllCk cs) (ho : On (gden gl)) : a.eval x = v.den := opS1_den h (opAt_S1 hx) hc ho
theorem opAt_ok {s : SS} (h : s.Ok) {gl : List (At × Bool)} {x : Operand} {v : At} {cs : List Ck} (hx : opAt s gl x = some (v, cs)) : v.ok :=
 opS1_ok h (opAt_S1 hx) v (by simp [S1.cells])
theorem opAts_ok {s : SS} (h : s.Ok) {gl : List (At × Bool)} : ∀ {xs : List Operand} {vs : List At} {cs : List Ck}, opAts s gl xs = some (vs, cs) → ∀ a, a ∈ vs → a.ok
 | [], _, _, hx => by simp only [opAts, Option.some.injEq, Prod.mk.injEq] at hx; rw [← hx.1]; simp
 | x :: r, vs, cs, hx => by
  simp only [opAts] at hx
  split at hx
  ·rename_i a' c as cs' h1 h2
   simp only [Option.some.injEq, Prod.mk.injEq] at hx
   rw [← hx.1]
   intro a ha
   rcases List.mem_cons.1 ha with rfl | ha
   ·exact opAt_ok h h1
   ·exact opAts_ok h h2 a ha
  ·simp at hx
theorem opAts_den {F : Own} {s : SS} {H : Heap} {O : Own} {a : Act} {w : World} (h : Conc F s H O a w) {gl : List (At × Bool)} : ∀ {xs : List Operand} {vs : List At} {cs : List Ck},
  opAts s gl xs = some (vs, cs) → AllCk cs → On (gden gl) → xs.map a.eval = vs.map At.den
 | [], _, _, hx, _, _ => by simp only [opAts, Option.some.injEq, Prod.mk.injEq] at hx; rw [← hx.1]; rfl
 | x :: r, vs, cs, hx, hc, ho => by
  simp only [opAts] at hx
  split at hx
  ·rename_i a' c as cs' h1 h2
   simp only [Option.some.injEq, Prod.mk.injEq] at hx
   rw [← hx.2, AllCk.append] at hc
   rw [← hx.1, List.map_cons, List.map_cons, opAt_den h h1 hc.1 ho, opAts_den h h2 hc.2 ho]
  ·simp at hx
theorem opS1s_den {F : Own} {s : SS} {H : Heap} {O : Own} {a : Act} {w : World} (h : Conc F s H O a w) {gl : List (At × Bool)} : ∀ {xs : List Operand} {vs : List S1} {cs : List Ck},
  opS1s s gl xs = some (vs, cs) → AllCk cs → On (gden gl) → xs.map a.eval = vs.map S1.den
 | [], _, _, hx, _, _ => by simp only [opS1s, Option.some.injEq, Prod.mk.injEq] at hx; rw [← hx.1]; rfl
 | x :: r, vs, cs, hx, hc, ho => by
  simp only [opS1s] at hx
  split at hx
  ·rename_i a' c as cs' h1 h2
   simp only [Option.some.injEq, Prod.mk.injEq] at hx
   rw [← hx.2, AllCk.append] at hc
   rw [← hx.1, List.map_cons, List.map_cons, opS1_den h h1 hc.1 ho, opS1s_den h h2 hc.2 ho]
  ·simp at hx
/-- Is the operation run? As its guard says. -/
theorem guard_go {F : Own} {s : SS} {H : Heap} {O : Own} {a : Act} {w : World} (h : Conc F s H O a w) {ops : Array Oper} {o : Oper} {gl : List (At × Bool)}
  (hg : guardOf (tgtOf ops) s o = .go gl) : Region.wanted o (yielded ops a.tmps) = true ↔ On (gden gl) := by
 unfold guardOf at hg
 split at hg
 ·rename_i e; simp only [GR.go.injEq] at hg; subst hg; simp [Region.wanted, e, gden, On]
 ·rename_i j want e
  have hy : ∀ t, tgtOf ops j = some t → (Region.wanted o (yielded ops a.tmps) = true ↔ a.tmps.getD t undef = .bool want) := by
   intro t ht
   unfold tgtOf at ht
   simp only [Region.wanted, e, yielded, ht, Option.bind_some, Array.getD_eq_getD_getElem?]
   cases hv : a.tmps[t]? with
   | none => simp [undef]
   | some v => cases v <;> simp
  split at hg
  ·simp at hg
  ·rename_i t ht
   have htm := h.tm t
   rw [hy t ht]
   split at hg
   ·rename_i b hb
    rw [hb] at htm
    simp only [SV.rel, S1.den, At.den] at htm
    split at hg
    ·rename_i hbw; simp only [GR.go.injEq] at hg; subst hg; simp at hbw; simp [htm, hbw, gden, On]
    ·simp at hg
   ·simp at hg
   ·rename_i c _ _ hb
    rw [hb] at htm
    split at hg
    ·rename_i hk
     simp only [GR.go.injEq] at hg; subst hg
     have := rel_s_known (x := .at c) (by simpa [S1.known, S1.cells] using hk) htm
     rw [this]; simp [gden, On, S1.den]
    ·simp at hg
   ·rename_i gl' c hb
    rw [hb] at htm
    split at hg
    ·simp only [GR.go.injEq] at hg; subst hg
     rw [On_gden_cons]
     by_cases ho : On (gden gl')
     ·rw [htm.1 ho]; simp [S1.den, ho]
     ·rw [htm.2 ho]; simp [undef, ho]
    ·simp at hg
   ·simp at hg
theorem guard_skip {F : Own} {s : SS} {H : Heap} {O : Own} {a : Act} {w : World} (h : Conc F s H O a w) {ops : Array Oper} {o : Oper}
  (hg : guardOf (tgtOf ops) s o = .skip) : Region.wanted o (yielded ops a.tmps) = false := by
 unfold guardOf at hg
 split at hg
 ·simp at hg
 ·rename_i j want e
  have hy : ∀ t, tgtOf ops j = some t → a.tmps.getD t undef ≠ .bool want → Region.wanted o (yielded ops a.tmps) = false := by
   intro t ht
   unfold tgtOf at ht
   simp only [Region.wanted, e, yielded, ht, Option.bind_some, Array.getD_eq_getD_getElem?]
   cases hv : a.tmps[t]? with
   | none => simp
   | some v => cases v <;> simp
  split at hg
  ·simp at hg
  ·rename_i t ht
   have htm := h.tm t
   refine hy t ht ?_
   split at hg
   ·rename_i b hb
    rw [hb] at htm
    simp only [SV.rel, S1.den, At.den] at htm
    split at hg
    ·simp at hg
    ·rename_i hbw; simp at hbw; simpa [htm] using hbw
   ·rename_i vs hb
    rw [hb] at htm
    simp only [SV.rel, S1.den, At.den] at htm
    simp [htm]
   ·split at hg <;> simp at hg
   ·split at hg <;> simp at hg
   ·simp at hg
end Go.Sx

/- What a normal form does; the quiet operations are sound. -/
namespace Go.Sx
open Go
def FK.pre (P : Program) (k : FK) (H : Heap) (O : Own) (vs : List Value) : Prop :=
 match k with
 | .sil => vs = []
 | .pure gd op args => ∃ v, vs = [v] ∧ (On gd → evalPure op args = some v) ∧ (gd = [] ∨ v.oneCell' = true)
 | .raw gd op args => ∃ v, vs = [v] ∧ (On gd → ∀ w, (op.sem args).run P w = .ok (.value v) w) ∧ v.oneCell' = true
 | .load gd p m => vs.length = m ∧ Ones vs ∧ (On gd → Reads H O p m vs)
 | .split c => ∃ b, c = .bool b ∧ vs = [.bool b]
 | .isplit c n => ∃ kd i, c = .int kd i ∧ 0 ≤ i ∧ i < n ∧ vs = [.int .i64 i]
def HK.T (P : Program) : HK → Heap → Own → (Value → Heap → Own → Prop) → Prop
 | .call f args => fun H O R => Triple P f args H O R
 | .callv fv args => fun H O R => ∃ f caps, fv = .func (.func f) #[] caps ∧ OkFn P f ∧ Triple P f (args ++ caps.toList) H O R
 | .prim op args => fun H O R => OpTriple P (op.sem args) H O R
def NF.run (P : Program) (d : Bool) (dst : Option Tmp) (x : NF) (s : SS) (K : SS → Heap → Own → Prop) (H : Heap) (O : Own) : Prop :=
 match x with
 | .fl cs k X => AllCk cs ∧ ∃ vs, k.pre P H O vs ∧ K (s.set dst (X vs)) H O
 | .box cs n T cells val => AllCk cs ∧ ∀ r, K ((s.setBox n (some ⟨r, T, cells⟩)).set dst (.s (.at (val r)))) H O
 | .stb cs n b => AllCk cs ∧ K (s.setBox n (some b)) H O
 | .hv cs k frz own shp post sv => AllCk cs ∧ CallD (k.T P) (d && k.isCall') (bvs frz) (bvs own) shp (fun vs css H O => AllCk (post vs) ∧ K (hvUpd dst frz own sv s vs css) H O) H O
 | .st cs p vs => AllCk cs ∧ ∃ O', OwnStore O p vs O' ∧ K s H O'
theorem chks_den {P : Program} {Q : Value → Heap → Own → Prop} {H : Heap} {O : Own} {t : Tree} : ∀ {cs : List Ck},
  (chks cs t).den P Q H O → AllCk cs ∧ t.den P Q H O
 | [], h => ⟨trivial, h⟩
 | _ :: _, h => ⟨⟨h.1, (chks_den h.2).1⟩, (chks_den h.2).2⟩
theorem isw_den {P : Program} {Q : Value → Heap → Own → Prop} {H : Heap} {O : Own} {c : Value} {kk : Nat → Tree} : ∀ {n i : Nat},
  (iswTree c kk i n).den P Q H O → ∃ (kd : IntKind) (j : Nat), c = .int kd j ∧ i ≤ j ∧ j < i + n ∧ (kk j).den P Q H O
 | 0, i, h => h.elim
 | n + 1, i, h => by
  obtain ⟨kd, m, hc, h1, h2⟩ := h
  by_cases e : m = i
  ·exact ⟨kd, i, by rw [hc, e], Nat.le_refl _, by omega, h1 e⟩
  ·obtain ⟨kd', j, hc', hl, hu, hk⟩ := isw_den (h2 e)
   exact ⟨kd', j, hc', by omega, by omega, hk⟩
theorem CallD_mono {T T' : Heap → Own → (Value → Heap → Own → Prop) → Prop} {d : Bool} {frz own : List BV} {shp : Shp} {K K' : List Value → List (List Value) → Heap → Own → Prop} {H : Heap} {O : Own}
  (hT : ∀ H O R, T H O R → T' H O R) (hK : ∀ vs cs H O, K vs cs H O → K' vs cs H O) (h : CallD T d frz own shp K H O) : CallD T' d frz own shp K' H O := by
 intro hcons
 obtain ⟨H1, O1, O2, Q, hg, ht, hk⟩ := h hcons
 exact ⟨H1, O1, O2, Q, hg, hT _ _ _ ht, fun v H' O' hq hle => let ⟨vs, cs, O3, a, b, c, e, k⟩ := hk v H' O' hq hle; ⟨vs, cs, O3, a, b, c, e, hK _ _ _ _ k⟩⟩
theorem nfTree_den {P : Program} {Q : Value → Heap → Own → Prop} {d : Bool} {dst : Option Tmp} {x : NF} {s : SS} {kk : SS → Tree} {H : Heap} {O : Own}
  (h : (nfTree d dst x s kk).den P Q H O) : x.run P d dst s (fun s' H' O' => (kk s').den P Q H' O') H O := by
 cases x with
 | fl cs k upd =>
  obtain ⟨hc, h⟩ := chks_den h
  refine ⟨hc, ?_⟩
  cases k with
  | sil => exact ⟨[], rfl, h⟩
  | pure gd op args => obtain ⟨v, h1, h2, h3⟩ := h; exact ⟨[v], ⟨v, rfl, h1, h2⟩, h3⟩
  | raw gd op args => obtain ⟨v, h1, h2, h3⟩ := h; exact ⟨[v], ⟨v, rfl, h1, h2⟩, h3⟩
  | load gd p m => obtain ⟨vs, h1, h2, h3, h4⟩ := h; exact ⟨vs, ⟨h1, h2, h3⟩, h4⟩
  | split c =>
   obtain ⟨b, hb, h1, h2⟩ := h
   refine ⟨[.bool b], ⟨b, hb, rfl⟩, ?_⟩
   cases b
   ·exact h2 rfl
   ·exact h1 rfl
  | isplit c n =>
   obtain ⟨kd, j, hc', _, hu, hk⟩ := isw_den h
   exact ⟨[.int .i64 j], ⟨kd, j, hc', by omega, by omega, rfl⟩, hk⟩
 | box cs n T cells val => exact chks_den h
 | stb cs n b => exact chks_den h
 | hv cs k frz own shp post upd =>
  obtain ⟨hc, h⟩ := chks_den h
  refine ⟨hc, ?_⟩
  cases k with
  | call f args =>
   show CallD _ (d && true) _ _ _ _ _ _
   rw [Bool.and_true]
   exact CallD_mono (fun _ _ _ x => x) (fun _ _ _ _ x => chks_den x) h
  | callv fv args =>
   obtain ⟨f, caps, hf, hok, h⟩ := h
   show CallD _ (d && true) _ _ _ _ _ _
   rw [Bool.and_true]
   exact CallD_mono (fun _ _ _ x => ⟨f, caps, hf, hok, x⟩) (fun _ _ _ _ x => chks_den x) h
  | prim op args =>
   show CallD _ (d && false) _ _ _ _ _ _
   rw [Bool.and_false]
   exact CallD_mono (fun _ _ _ x => x) (fun _ _ _ _ x => chks_den x) h
 | st cs p vs => exact chks_den h
/-- One operation, run or passed by as its guard says. -/
def wp1 (P : Program) (ops : Array Oper) (Q : Exit → Act → World → Prop) (o : Oper) (K : Act → World → Prop) (a : Act) (w : World) : Prop :=
 if Region.wanted o (yielded ops a.tmps) then o.wp P a w K Q ∨ (o.asks P a w ∧ LetsOut Q) else K (a.put o.dst undef) w
def Sound (P : Program) (ops : Array Oper) (o : Oper) (s : SS) (x : NF) : Prop :=
 ∀ (F : Own) (H : Heap) (O : Own) (a : Act) (w : World) (d : Bool) (K : SS → Heap → Own → Prop) (Q : Exit → Act → World → Prop),
  Conc F s H O a w → x.run P d o.dst s K H O →
  wp1 P ops Q o (fun a' w' => ∃ s' H' O', Conc F s' H' O' a' w' ∧ Heap.le H H' ∧ K s' H' O') a w
theorem ok_at {a : At} (h : a.ok) : (S1.at a).ok := by intro b hb; simp [S1.cells] at hb; subst hb; exact h
theorem ok_k (v : Value) : (S1.at (.k v)).ok := ok_at trivial
theorem sound_skip {P : Program} {ops : Array Oper} {o : Oper} {s : SS} (hg : guardOf (tgtOf ops) s o = .skip) (hd : ∀ d, o.dst = some d → d < s.sz) :
  Sound P ops o s (.fl [] .sil (fun _ => .s (.at (.k undef)))) := by
 intro F H O a w d K Q hc hr
 obtain ⟨_, vs, _, hk⟩ := hr
 unfold wp1
 rw [if_neg (by simp [guard_skip hc hg])]
 exact ⟨_, H, O, hc.put (sv := .s (.at (.k undef))) hd (show undef = At.den (.k undef) from rfl) (ok_k undef), Heap.le_refl H, hk⟩
/-- An operation that leaves memory as it is. -/
theorem sound_quiet {P : Program} {ops : Array Oper} {o : Oper} {s : SS} {gl : List (At × Bool)} {cs : List Ck} {k : FK} {X : List Value → S1}
  (hg : guardOf (tgtOf ops) s o = .go gl) (hd : ∀ d, o.dst = some d → d < s.sz)
  (hok : ∀ H O vs, s.Ok → AllCk cs → k.pre P H O vs → (X vs).ok)
  (hrun : ∀ F H O a w vs, Conc F s H O a w → AllCk cs → k.pre P H O vs → On (gden gl) → (execOp a.eval o).run P w = .ok (.value (X vs).den) w) :
  Sound P ops o s (.fl cs k (fun vs => mkSV gl (X vs))) := by
 intro F H O a w d K Q hc hr
 obtain ⟨hcs, vs, hp, hk⟩ := hr
 unfold wp1
 by_cases ho : On (gden gl)
 ·rw [if_pos ((guard_go hc hg).2 ho)]
  refine .inl ?_
  unfold Oper.wp
  rw [hrun F H O a w vs hc hcs hp ho, Oper.upon_value]
  exact ⟨_, H, O, hc.put hd (rel_mkSV (fun _ => rfl) (fun h => absurd ho h)) (ok_mkSV (hok H O vs hc.ok hcs hp)), Heap.le_refl H, hk⟩
 ·rw [if_neg (fun h => ho ((guard_go hc hg).1 h))]
  exact ⟨_, H, O, hc.put hd (rel_mkSV (fun h => absurd h ho) (fun _ => rfl)) (ok_mkSV (hok H O vs hc.ok hcs hp)), Heap.le_refl H, hk⟩
theorem evalPure_one {op : POp} {args : List Value} {v : Value} (h : evalPure op args = some v) (ha : op = .pick ∨ op = .aidx → Ones args.tail) : v.oneCell' = true := by
 have hg : ∀ (l : List Value) (i : Nat) (x : Value), Ones l → l[i]? = some x → x.oneCell' = true := by
  intro l
  induction l with
  | nil => intro i x _ hx; simp at hx
  | cons y r ih =>
   intro i x ho hx
   cases i with
   | zero => simp at hx; subst hx; exact ho.1
   | succ i => exact ih i x ho.2 (by simpa using hx)
 have hint : ∀ op k a b v, evalInt op k a b = some v → v.oneCell' = true := by
  intro op k a b v h
  cases op <;> simp only [evalInt] at h <;> first
   | (simp at h; done)
   | (simp only [Option.some.injEq] at h; subst h; rfl)
   | (split at h <;> first | (simp at h; done) | (simp only [Option.some.injEq] at h; subst h; rfl))
 have hnil : ∀ op bk x y v, evalNil op bk x y = some v → v.oneCell' = true := by
  intro op bk x y v h
  cases op <;> simp only [evalNil] at h <;> first
   | (simp at h; done)
   | (simp only [Option.map_eq_some_iff] at h; obtain ⟨b, _, rfl⟩ := h; rfl)
 cases op with
 | bin op bk =>
  match args, h with
  | [x, y], h =>
   simp only [evalPure] at h
   unfold evalBin at h
   split at h
   ·split at h
    ·unfold evalShift at h; split at h
     ·simp at h
     ·simp only [Option.some.injEq] at h; subst h; rfl
    ·unfold evalShift at h; split at h
     ·simp at h
     ·simp only [Option.some.injEq] at h; subst h; rfl
    ·split at h
     ·exact hint _ _ _ _ _ h
     ·simp at h
   ·unfold evalStr at h
    split at h
    ·split at h
     ·simp at h
     ·simp only [Option.some.injEq] at h; subst h; rfl
    ·simp only [Option.some.injEq] at h; subst h; rfl
    ·simp only [Option.some.injEq] at h; subst h; rfl
    ·simp at h
   ·exact hnil _ _ _ _ _ h
  | [], h => simp [evalPure] at h
  | [_], h => simp [evalPure] at h
  | _ :: _ :: _ :: _, h => simp [evalPure] at h
 | pick =>
  have ho := ha (.inl rfl)
  rcases args with _ | ⟨c, _ | ⟨x, _ | ⟨y, _ | ⟨u, r⟩⟩⟩⟩
  ·simp [evalPure] at h
  ·simp [evalPure] at h
  ·simp [evalPure] at h
  ·cases c <;> simp only [evalPure, reduceCtorEq, Option.some.injEq] at h
   rename_i b
   cases b
   ·simp only [Bool.false_eq_true, if_false] at h; subst h; exact ho.2.1
   ·simp only [if_true] at h; subst h; exact ho.1
  ·simp [evalPure] at h
 | aidx =>
  have ho := ha (.inr rfl)
  match args, h, ho with
  | [], h, _ => simp [evalPure] at h
  | i :: cs, h, ho =>
   simp only [evalPure, evalAidx] at h
   split at h
   ·split at h
    ·exact hg _ _ _ ho h
    ·simp at h
   ·simp at h
 | _ =>
  unfold evalPure at h
  split at h <;> simp_all
  all_goals try (subst h; rfl)
  all_goals first
   | exact hint _ _ _ _ _ h
   | (unfold evalIdx at h; split at h <;> first | (simp at h; done) | (split at h <;> simp at h; subst h; rfl))
   | (unfold evalPidx at h; split at h <;> first | (simp at h; done) | (split at h <;> simp at h; subst h; rfl))
   | (unfold evalSidx at h; split at h <;> first | (simp at h; done) | (simp only [Option.map_eq_some_iff] at h; obtain ⟨_, _, rfl⟩ := h; rfl))
   | (split at h <;> first | (simp at h; done) | (unfold evalSlc at h; split at h <;> first | (simp at h; done) | (simp only [Option.map_eq_some_iff] at h; obtain ⟨_, _, rfl⟩ := h; rfl)))
   | (split at h <;> first | (simp at h; done) | (unfold evalSslc at h; split at h <;> first | (simp at h; done) | (simp only [Option.map_eq_some_iff] at h; obtain ⟨_, _, rfl⟩ := h; rfl)))
end Go.Sx

/- The quiet operations, one by one. -/
namespace Go.Sx
open Go
theorem run_underlying' {P : Program} {t : TypeId} {d : TypeDesc} (h : P.underlying t = some d) (w : World) : (underlying t).run P w = .ok d w := by
 simp [underlying, h]
theorem szOf_info {P : Program} {t : TypeId} {m : Nat} (h : szOf P t = some m) : ∃ i d, P.info? t = some i ∧ i.size = m ∧ P.underlying t = some d := by
 unfold szOf at h
 split at h
 ·rename_i i d h1 h2; exact ⟨i, d, h1, by simpa using h, h2⟩
 ·simp at h
theorem run_sizeOf' {P : Program} {t : TypeId} {m : Nat} (h : szOf P t = some m) (w : World) : (sizeOf t).run P w = .ok m w := by
 obtain ⟨i, d, hi, hs, _⟩ := szOf_info h
 simp [sizeOf, typeInfo, hi, hs]
theorem run_isAgg' {P : Program} {t : TypeId} {m : Nat} (h : szOf P t = some m) (w : World) : (isAgg t).run P w = .ok (isAggT P t) w := by
 obtain ⟨i, d, _, _, hu⟩ := szOf_info h
 unfold isAgg isAggT
 rw [Sem.run_bind, run_underlying' hu w, hu]
 cases d <;> rfl
/-- a variable is read, cell by cell -/
theorem run_loadVar' {P : Program} {t : TypeId} {m : Nat} (hs : szOf P t = some m) {w : World} {a : Addr} {vs : List Value} (hl : vs.length = m)
  (hc : ∀ j v, vs[j]? = some v → w.cell? (a.add j) = some v) (h1 : isAggT P t = true ∨ m = 1) :
  (loadVar t a).run P w = .ok (if isAggT P t then .agg vs.toArray else g vs 0) w := by
 unfold loadVar
 rw [Sem.run_bind, run_isAgg' hs w]
 simp only [Result.andThen_ok]
 cases hA : isAggT P t with
 | true =>
  have hl' := run_loadCells_list (P := P) w a vs hc
  rw [hl] at hl'
  simp [Sem.run_bind, run_sizeOf' hs w, hl']
 | false =>
  have hm : m = 1 := h1.resolve_left (by simp [hA])
  match vs, hl with
  | [v], _ =>
   have := hc 0 v rfl
   have h0 : a.add 0 = a := by simp [Addr.add]
   rw [h0] at this
   simp [run_load, this, g]
  | [], hl => simp [hm] at hl
  | _ :: _ :: _, hl => simp [hm] at hl
theorem conc_box {F : Own} {s : SS} {H : Heap} {O : Own} {a : Act} {w : World} (h : Conc F s H O a w) {n : Nat} {b : Bx} (hb : s.mem n = some b) :
  ∃ vs, CellsRel b.cs vs ∧ w.heap[b.r]? = some (.cells vs.toArray b.T (0, 0)) := by
 obtain ⟨L, hL, hm⟩ := h.mm
 obtain ⟨vs, L', hv, hp, _⟩ := hL.take hb
 refine ⟨vs, hv, ?_⟩
 have := (hm.perm (hp.append_right _)).own (b.r, .cells vs.toArray b.T (0, 0)) (by simp)
 exact this.1
theorem add_none (r off j : Nat) : (⟨r, off, none⟩ : Addr).add j = ⟨r, off + j, none⟩ := by
 unfold Addr.add; split <;> simp_all
theorem add_add (a : Addr) (i j : Nat) : (a.add i).add j = a.add (i + j) := by
 cases a
 by_cases hi : i = 0 <;> by_cases hj : j = 0 <;> simp [Addr.add, hi, hj, Nat.add_assoc]
theorem cells_of_row {w : World} {r : Nat} {vs : List Value} {T : TypeId} (h : w.heap[r]? = some (.cells vs.toArray T (0, 0))) (off : Nat) {m : Nat} :
  ∀ j v, ((vs.drop off).take m)[j]? = some v → w.cell? ((⟨r, off, none⟩ : Addr).add j) = some v := by
 intro j v hv
 rw [add_none, cell_of_row w r (off + j) _ T _ h]
 rw [List.getElem?_take] at hv
 split at hv
 ·rw [List.getElem?_drop] at hv; simpa using hv
 ·simp at hv
theorem mapM_get {α β : Type} {f : α → Option β} : ∀ {l : List α} {r : List β}, l.mapM f = some r → ∀ (j : Nat) (v : β), r[j]? = some v → ∃ a, l[j]? = some a ∧ f a = some v
 | [], r, h, j, v, hv => by simp at h; subst h; simp at hv
 | a :: l, r, h, j, v, hv => by
  simp only [List.mapM_cons, Option.pure_def, Option.bind_eq_bind] at h
  cases ha : f a with
  | none => simp [ha] at h
  | some b =>
   simp only [ha, Option.bind_some] at h
   cases hl : l.mapM f with
   | none => simp [hl] at h
   | some bs =>
    simp only [hl, Option.bind_some, Option.some.injEq] at h
    subst h
    cases j with
    | zero => simp at hv; subst hv; exact ⟨a, rfl, ha⟩
    | succ j => simpa using mapM_get hl j v (by simpa using hv)
theorem reads_cells {w : World} {H : Heap} {O L : Own} {p : Value} {m : Nat} {vs : List Value} (h : Reads H O p m vs) (hm : Models w H L) (hs : ∀ x, x ∈ O → x ∈ L) (h0 : 0 < m) :
  ∃ a, p = .pointer (some a) ∧ ∀ j v, vs[j]? = some v → w.cell? (a.add j) = some v := by
 rcases h with h | ⟨a, cs, T, rfl, hsp, hin, hv, _⟩
 ·unfold Heap.read at h
  split at h
  ·rename_i a
   refine ⟨a, rfl, fun j v hv => ?_⟩
   obtain ⟨i, hi, hc⟩ := mapM_get h j v hv
   have : i = j := by
    rw [List.getElem?_eq_some_iff] at hi
    obtain ⟨_, hi⟩ := hi
    simpa using hi.symm
   subst this
   exact hm.cell? hc
  ·simp at h
 ·refine ⟨a, rfl, fun j v hj => ?_⟩
  have hrow := (hm.own _ (hs _ hin)).1
  rw [← hv] at hj
  have ha : a = ⟨a.block, a.off, none⟩ := by cases a; simp_all
  rw [ha]
  have := cells_of_row (vs := cs.toList) (T := T) (by simpa using hrow) a.off (m := m) j v hj
  exact this
theorem atsFrom_den {vs : List Value} {m : Nat} (h : vs.length = m) : (atsFrom vs 0 m).map At.den = vs := by
 have := (CellsRel.atsFrom h).known (by simp [atsFrom, At.known])
 exact this.symm
theorem Ones.get : ∀ {vs : List Value}, Ones vs → ∀ i, i < vs.length → (g vs i).oneCell' = true
 | [], _, i, h => by simp at h
 | v :: _, h, 0, _ => h.1
 | _ :: r, h, i + 1, hi => by simpa [g] using Ones.get (vs := r) h.2 i (by simpa using hi)
theorem ok_atsFrom {vs : List Value} {i m : Nat} (h : i + m ≤ vs.length) (ho : Ones vs) : ∀ a, a ∈ atsFrom vs i m → a.ok := by
 intro a ha
 simp only [atsFrom, List.mem_map, List.mem_range] at ha
 obtain ⟨j, hj, rfl⟩ := ha
 exact ho.get _ (by omega)
variable {P : Program} {ops : Array Oper} {o : Oper} {s : SS} {gl : List (At × Bool)}
theorem loadNF_sound {t : TypeId} {x : Operand} {y : At} {cs : List Ck} {nfp : NF × FP} (ho : o.op = .load t x) (hx : opAt s gl x = some (y, cs))
    (hg : guardOf (tgtOf ops) s o = .go gl) (hd : ∀ d, o.dst = some d → d < s.sz) (h : loadNF P s gl o.dst t y cs = some nfp) : Sound P ops o s nfp.1 := by
  unfold loadNF at h
  cases hm : szOf P t with
  | none => simp [hm] at h
  | some m =>
    simp only [hm, Option.bind_some] at h
    have far : (isAggT P t = true ∨ m = 1) → Sound P ops o s (.fl cs (.load (gden gl) y.den m) (fun vs => mkSV gl (if isAggT P t then .agg (atsFrom vs 0 m) else .at (.v (g vs 0))))) := by
      intro h1
      refine sound_quiet (X := fun vs => if isAggT P t then .agg (atsFrom vs 0 m) else .at (.v (g vs 0))) hg hd ?_ ?_
      · intro H O vs _ _ ⟨hl, hone, _⟩
        split
        · exact ok_atsFrom (by omega) hone
        · rename_i hA
          have : m = 1 := h1.resolve_left hA
          exact ok_at (hone.get 0 (by omega))
      · intro F H O a w vs hc hcs ⟨hl, hone, hr⟩ hon
        have he := opAt_den hc hx hcs hon
        have hr := hr hon
        by_cases h0 : m = 0
        · have hA : isAggT P t = true := h1.resolve_right (by omega)
          obtain ⟨b, hb⟩ : ∃ b, y.den = .pointer (some b) := by
            rcases hr with hr | ⟨b, _, _, hb, _⟩
            · unfold Heap.read at hr; split at hr
              · rename_i b hb; exact ⟨b, hb⟩
              · simp at hr
            · exact ⟨b, hb⟩
          have hv : vs = [] := List.eq_nil_of_length_eq_zero (by omega)
          subst hv
          have := run_loadVar' (P := P) hm (w := w) (a := b) (vs := []) (by simpa using h0.symm) (by simp) (.inl hA)
          simp only [execOp, ho, he, hb, Instr.loadAt, Instr.sureAddr, Sem.run_bind, Sem.run_pure, Result.andThen_ok, this, hA, if_true]
          simp [S1.den, atsFrom, h0]
        · obtain ⟨L, hL, hmod⟩ := hc.mm
          obtain ⟨b, hb, hcell⟩ := reads_cells hr hmod (fun x hx => by simp [hx]) (by omega)
          have := run_loadVar' (P := P) hm (w := w) (a := b) (vs := vs) hl hcell h1
          simp only [execOp, ho, he, hb, Instr.loadAt, Instr.sureAddr, Sem.run_bind, Sem.run_pure, Result.andThen_ok, this]
          cases hA : isAggT P t with
          | true => simp [S1.den, atsFrom_den hl]
          | false => simp [S1.den, At.den]
    have near : ∀ {n r off : Nat} {b : Bx} {v : S1}, y = .p n r off → s.mem n = some b → ((b.cs.drop off).take m).length = m → ((b.cs.drop off).take m).all At.known = true →
        mkS1 P t ((b.cs.drop off).take m) = some v → Sound P ops o s (.fl (.eqN r b.r :: cs) .sil (fun _ => mkSV gl v)) := by
      intro n r off b v hy hb hlen hk hv
      refine sound_quiet (X := fun _ => v) hg hd ?_ ?_
      · intro H O vs hok _ _ a ha
        have : ∀ a, a ∈ v.cells → a ∈ b.cs := by
          intro a ha
          unfold mkS1 at hv
          split at hv
          · simp only [Option.some.injEq] at hv; subst hv; exact List.mem_of_mem_drop (List.mem_of_mem_take ha)
          · split at hv
            · rename_i a' he; simp only [Option.some.injEq] at hv; subst hv
              simp [S1.cells] at ha; subst ha
              have : a ∈ (b.cs.drop off).take m := by rw [he]; simp
              exact List.mem_of_mem_drop (List.mem_of_mem_take this)
            · simp at hv
        exact hok.2 n b hb a (this a ha)
      · intro F H O a w vs hc hcs _ hon
        have he := opAt_den hc hx hcs.2 hon
        have hr : r = b.r := hcs.1
        obtain ⟨us, hus, hrow⟩ := conc_box hc hb
        have hcells := ((hus.drop off).take m).known hk
        have hlen' : ((us.drop off).take m).length = m := by rw [hcells]; simpa using hlen
        have h1 : isAggT P t = true ∨ m = 1 := by
          unfold mkS1 at hv
          split at hv
          · rename_i hA; exact .inl hA
          · split at hv
            · rename_i a' he'; rw [he'] at hlen; exact .inr (by simpa using hlen.symm)
            · simp at hv
        have := run_loadVar' (P := P) hm (w := w) (a := ⟨b.r, off, none⟩) hlen' (cells_of_row hrow off) h1
        simp only [execOp, ho, he, hy, At.den, hr, Instr.loadAt, Instr.sureAddr, Sem.run_bind, Sem.run_pure, Result.andThen_ok, this]
        rw [hcells]
        unfold mkS1 at hv
        split at hv
        · rename_i hA; simp only [Option.some.injEq] at hv; subst hv; simp [hA, S1.den]
        · rename_i hA
          split at hv
          · rename_i a' he'; simp only [Option.some.injEq] at hv; subst hv
            have hA' : isAggT P t = false := by simpa using hA
            rw [he']; simp [hA', S1.den, g]
          · simp at hv
    split at h
    · rename_i n r off
      split at h
      · rename_i b hb
        split at h
        · rename_i hcond
          simp only [Bool.and_eq_true, decide_eq_true_eq] at hcond
          simp only [Option.map_eq_some_iff] at h
          obtain ⟨v, hv, rfl⟩ := h
          exact near rfl hb hcond.1 hcond.2 hv
        · simp at h
      · split at h
        · simp at h
        · rename_i hcond
          simp only [Option.some.injEq] at h; subst h
          refine far ?_
          simp only [Bool.and_eq_true, Bool.not_eq_true', bne_iff_ne, ne_eq, not_and, Decidable.not_not] at hcond
          cases hA : isAggT P t with
          | true => exact .inl rfl
          | false => exact .inr (hcond hA)
    all_goals first
      | (simp at h; done)
      | (split at h
         · simp at h
         · rename_i hcond
           simp only [Option.some.injEq] at h; subst h
           refine far ?_
           simp only [Bool.and_eq_true, Bool.not_eq_true', bne_iff_ne, ne_eq, not_and, Decidable.not_not] at hcond
           cases hA : isAggT P t with
           | true => exact .inl rfl
           | false => exact .inr (hcond hA))
end Go.Sx

/- The pure operations. -/
namespace Go.Sx
open Go
theorem plain_den : ∀ {as : List At} {vs : List Value}, as.mapM plainK = some vs → as.map At.den = vs
 | [], vs, h => by simp at h; subst h; rfl
 | a :: r, vs, h => by
  simp only [List.mapM_cons, Option.pure_def, Option.bind_eq_bind] at h
  cases ha : plainK a with
  | none => simp [ha] at h
  | some b =>
   simp only [ha, Option.bind_some] at h
   cases hl : r.mapM plainK with
   | none => simp [hl] at h
   | some bs =>
    simp only [hl, Option.bind_some, Option.some.injEq] at h
    subst h
    rw [List.map_cons, plain_den hl]
    unfold plainK at ha
    split at ha <;> simp at ha <;> subst ha <;> rfl
theorem ones_map {as : List At} (hf : ∀ a, a ∈ as → a.fit = true) (ho : ∀ a, a ∈ as → a.ok) : Ones (as.map At.den) := by
 induction as with
 | nil => trivial
 | cons a r ih => exact ⟨At.fit_one (hf a (by simp)) (ho a (by simp)), ih (fun b hb => hf b (by simp [hb])) (fun b hb => ho b (by simp [hb]))⟩
variable {P : Program} {ops : Array Oper} {o : Oper} {s : SS} {gl : List (At × Bool)}
theorem pureNF_sound {total : Bool} {op : POp} {as : List At} {cs : List Ck}
  (hg : guardOf (tgtOf ops) s o = .go gl) (hd : ∀ d, o.dst = some d → d < s.sz)
  (hfit : op = .pick ∨ op = .aidx → Ones (as.map At.den).tail ∨ ¬ s.Ok)
  (hexec : ∀ F H O a w v, Conc F s H O a w → AllCk cs → On (gden gl) → evalPure op (as.map At.den) = some v → (execOp a.eval o).run P w = .ok (.value v) w) :
  Sound P ops o s (pureNF gl total o.dst op as cs) := by
 unfold pureNF
 split
 ·rename_i v hv
  unfold folds at hv
  simp only [Option.bind_eq_some_iff] at hv
  obtain ⟨vs, hvs, hev⟩ := hv
  refine sound_quiet (X := fun _ => .at (.k v)) hg hd (fun _ _ _ _ _ _ => ok_k v) ?_
  intro F H O a w _ hc hcs _ hon
  exact hexec F H O a w v hc hcs hon (by rw [plain_den hvs]; exact hev)
 ·refine sound_quiet (X := fun vs => .at (.v (g vs 0))) hg hd ?_ ?_
  ·rintro H O vs hok _ ⟨v, rfl, he, hone⟩
   refine ok_at ?_
   show v.oneCell' = true
   rcases hone with h0 | h1
   ·have he := he (by rw [h0]; trivial)
    exact evalPure_one he (fun h => (hfit h).resolve_right (fun hn => hn hok))
   ·exact h1
  ·rintro F H O a w vs hc hcs ⟨v, rfl, he, _⟩ hon
   exact hexec F H O a w v hc hcs hon (he (by cases total <;> simp [hon, On]))
theorem run_eqGuard' {op : BinOp} {t : TypeId} {x y : Operand} {X Y : Value} (h : ¬ (X = .nilIface ∧ Y = .nilIface)) (h' : ∀ a b, ¬ (X = .agg a ∧ Y = .agg b)) (w : World) :
    (eqGuard op t x y X Y).run P w = .ok () w := by
  unfold eqGuard
  cases op <;> first
    | rfl
    | (simp only [Bool.not_true, Bool.false_eq_true, if_false]
       split
       · exact absurd ⟨rfl, rfl⟩ h
       · exact absurd ⟨rfl, rfl⟩ (h' _ _)
       · rfl)

theorem run_int {op : BinOp} {t : TypeId} {k : IntKind} {a b : Int} {v : Value} (hs : op ≠ .shl) (hs' : op ≠ .shr) (h : evalInt op k a b = some v) (w : World) :
    (binOp op t (.int k a) (.int k b)).run P w = .ok v w := by
  cases op <;> simp only [evalInt] at h <;> first
    | (simp at h; done)
    | exact absurd rfl hs
    | exact absurd rfl hs'
    | (simp only [Option.some.injEq] at h; subst h; simp [binOp, Op.intArith, Op.intCmp, Op.intBits]; done)
    | (split at h
       · simp at h
       · rename_i h0; simp only [Option.some.injEq] at h; subst h; simp [binOp, Op.intDiv, h0])

theorem run_shift {op : BinOp} {t : TypeId} {k k' : IntKind} {a b : Int} {v : Value} (h : evalShift op k a b = some v) (hs : op = .shl ∨ op = .shr) (w : World) :
  (binOp op t (.int k a) (.int k' b)).run P w = .ok v w := by
 unfold evalShift at h
 split at h
 ·simp at h
 ·rename_i h0
  rcases hs with rfl | rfl <;> simp only [Option.some.injEq] at h <;> subst h <;> simp [binOp, Op.shift, h0]
theorem run_str {op : BinOp} {t : TypeId} {a b : ByteArray} {v : Value} (h : evalStr op a b = some v) (w : World) :
  (binOp op t (.string a) (.string b)).run P w = .ok v w := by
 unfold evalStr at h
 split at h
 ·split at h
  ·simp at h
  ·rename_i h0
   simp only [Option.some.injEq] at h; subst h
   simp only [binOp, Op.stringOp, if_neg h0]; rfl
 ·simp only [Option.some.injEq] at h; subst h; simp [binOp, Op.stringOp]
 ·simp only [Option.some.injEq] at h; subst h; simp [binOp, Op.stringOp]
 ·simp at h
def BK.fits : BK → TypeDesc → Prop
 | .int, .int _ | .bool, .bool | .str, .string | .slice, .slice _ | .ptr, .pointer _ | .map, .map _ _ | .func, .func _ _ _ => True
 | _, _ => False
theorem bk_desc {t : TypeId} {bk : BK} (h : bkOf P t = some bk) : ∃ d, P.underlying t = some d ∧ bk.fits d := by
 unfold bkOf at h
 split at h <;> first
  | (simp at h; done)
  | (rename_i e; simp only [Option.some.injEq] at h; subst h; exact ⟨_, e, trivial⟩)
theorem run_equalIn_nil {t : TypeId} {bk : BK} {d : TypeDesc} (hd : P.underlying t = some d) (hm : bk.fits d) {x y : Value} {r : Bool} (h : nilR bk x y = some r) (n : Nat) (w : World) :
  (Op.equalIn (n + 1) t x y).run P w = .ok r w := by
 simp only [Op.equalIn, Sem.run_bind, run_underlying' hd w, Result.andThen_ok]
 unfold nilR at h
 split at h <;> simp only [Option.some.injEq, reduceCtorEq] at h <;> subst h <;> cases d <;> simp_all [BK.fits]
 all_goals first
  | rfl
  | (rename_i b _ _ _; cases b <;> rfl)
  | (rename_i b _ _; cases b <;> rfl)
  | (rename_i b _; cases b <;> rfl)
  | (rename_i b; cases b <;> rfl)
  | skip
theorem run_equal_nil {t : TypeId} {bk : BK} {d : TypeDesc} (hd : P.underlying t = some d) (hm : bk.fits d) {x y : Value} {r : Bool} (h : nilR bk x y = some r) (w : World) :
  (Op.equal t x y).run P w = .ok r w := run_equalIn_nil hd hm h 9999 w
theorem run_bin {op : BinOp} {t : TypeId} {bk : BK} (hb : bkOf P t = some bk) {x y : Operand} {X Y : Value} {v : Value} (h : evalBin op bk X Y = some v) (w : World) :
  (do eqGuard op t x y X Y; binOp op t X Y : Sem Value).run P w = .ok v w := by
 unfold evalBin at h
 split at h
 ·rename_i k a k' b
  rw [Sem.run_bind, run_eqGuard' (by simp) (by simp) w, Result.andThen_ok]
  split at h
  ·exact run_shift h (.inl rfl) w
  ·exact run_shift h (.inr rfl) w
  ·rename_i h1 h2
   split at h
   ·rename_i e; subst e; exact run_int h1 h2 h w
   ·simp at h
 ·rw [Sem.run_bind, run_eqGuard' (by simp) (by simp) w, Result.andThen_ok]
  exact run_str h w
 ·obtain ⟨d, hd, hm⟩ := bk_desc hb
  have key : ∀ r, nilR bk X Y = some r → (eqGuard op t x y X Y).run P w = .ok () w ∧ (Op.equal t X Y).run P w = .ok r w ∧
    (binOp .eql t X Y = do pure (.bool (← Op.equal t X Y))) ∧ (binOp .neq t X Y = do pure (.bool (!(← Op.equal t X Y)))) := by
   intro r hr
   refine ⟨run_eqGuard' ?_ ?_ w, run_equal_nil hd hm hr w, ?_, ?_⟩
   ·rintro ⟨rfl, rfl⟩; unfold nilR at hr; split at hr <;> simp_all
   ·rintro a b ⟨rfl, rfl⟩; unfold nilR at hr; split at hr <;> simp_all
   ·unfold nilR at hr; split at hr <;> simp_all [binOp]
   ·unfold nilR at hr; split at hr <;> simp_all [binOp]
  unfold evalNil at h
  split at h
  ·simp only [Option.map_eq_some_iff] at h
   obtain ⟨r, hr, rfl⟩ := h
   obtain ⟨h1, h2, h3, _⟩ := key r hr
   rw [Sem.run_bind, h1, Result.andThen_ok, h3, Sem.run_bind, h2]; rfl
  ·simp only [Option.map_eq_some_iff] at h
   obtain ⟨r, hr, rfl⟩ := h
   obtain ⟨h1, h2, _, h4⟩ := key r hr
   rw [Sem.run_bind, h1, Result.andThen_ok, h4, Sem.run_bind, h2]; rfl
  ·simp at h
end Go.Sx

/- The runs of the remaining quiet operations. -/
namespace Go.Sx
open Go
variable {P : Program} {ops : Array Oper} {o : Oper} {s : SS} {gl : List (At × Bool)}
theorem run_idx {t elem : TypeId} {size : Nat} (hu : P.underlying t = some (.slice elem)) (hs : szOf P elem = some size) {x i v : Value} (h : evalIdx size x i = some v) (w : World) :
  (Instr.indexAt t x i).run P w = .ok v w := by
 unfold evalIdx at h
 split at h
 ·rename_i a len c k n
  split at h
  ·rename_i hb
   simp only [Option.some.injEq] at h; subst h
   simp [Instr.indexAt, asIntOf, run_underlying' hu, run_sizeOf' hs, hb]
  ·simp at h
 ·simp at h
theorem run_pidx {t elem : TypeId} {len size : Nat} (hu : P.underlying t = some (.array len elem)) (hs : szOf P elem = some size) {x i v : Value} (h : evalPidx len size x i = some v) (w : World) :
  (Instr.indexAt t x i).run P w = .ok v w := by
 unfold evalPidx at h
 split at h
 ·rename_i a k n
  split at h
  ·rename_i hb
   simp only [Option.some.injEq] at h; subst h
   simp [Instr.indexAt, asIntOf, run_underlying' hu, run_sizeOf' hs, hb, Instr.sureAddr]
  ·simp at h
 ·simp at h
theorem run_sidx {t : TypeId} (hu : P.underlying t = some .string) {x i v : Value} (h : evalSidx x i = some v) (w : World) : (Instr.index t x i).run P w = .ok v w := by
 unfold evalSidx at h
 split at h
 ·rename_i sb k n
  simp only [Option.map_eq_some_iff] at h
  obtain ⟨b, hb, rfl⟩ := h
  simp only [Instr.index, asIntOf, Sem.run_bind, Sem.run_pure, Result.andThen_ok, run_underlying' hu, hb]
 ·simp at h
theorem run_aidx {t elem : TypeId} {len : Nat} {cs : List Value} (hu : P.underlying t = some (.array len elem)) (hs : szOf P elem = some 1) (hA : isAggT P elem = false) (hl : cs.length = len)
  {i v : Value} (h : evalAidx i cs = some v) (w : World) : (Instr.index t (.agg cs.toArray) i).run P w = .ok v w := by
 unfold evalAidx at h
 split at h
 ·rename_i k n
  split at h
  ·rename_i hb
   rw [hl] at hb
   simp only [Instr.index, asIntOf, Sem.run_bind, Sem.run_pure, Result.andThen_ok, run_underlying' hu, if_pos hb, run_sizeOf' hs, part, run_isAgg' hs, hA, Nat.mul_one]
   have : cs.toArray[n.toNat]? = some v := by simpa using h
   simp [this]
  ·simp at h
 ·simp at h
theorem run_len {t ty e : TypeId} {x v : Value} (hu : P.underlying t = some (.slice e)) (h : evalPure .len [x] = some v) (w : World) :
  (Builtin.len_ #[t] ty #[x]).run P w = .ok v w := by
 cases x <;> simp [evalPure] at h
 subst h
 simp [Builtin.len_, run_underlying' hu]
theorem run_slen {t ty : TypeId} {x v : Value} (hu : P.underlying t = some .string) (h : evalPure .slen [x] = some v) (w : World) :
  (Builtin.len_ #[t] ty #[x]).run P w = .ok v w := by
 cases x <;> simp [evalPure] at h
 subst h
 simp [Builtin.len_, run_underlying' hu]
theorem run_alen {t ty e : TypeId} {n : Nat} {x : Value} (hu : P.underlying t = some (.array n e)) (w : World) :
  (Builtin.len_ #[t] ty #[x]).run P w = .ok (goInt n) w := by
 simp [Builtin.len_, run_underlying' hu]
theorem run_cap {t ty e : TypeId} {x v : Value} (hu : P.underlying t = some (.slice e)) (h : evalPure .cap [x] = some v) (w : World) :
  (Builtin.cap_ #[t] ty #[x]).run P w = .ok v w := by
 cases x <;> simp [evalPure] at h
 subst h
 simp [Builtin.cap_, run_underlying' hu]
theorem bound_run {v : Value} {y n : Nat} (h : boundI v y = some n) (code : BoundsCode) (w : World) : (Instr.sliceBound v y code).run P w = .ok n w := by
 unfold boundI asI at h
 cases v <;> simp at h
 rename_i k i
 obtain ⟨hb, rfl⟩ := h
 simp [Instr.sliceBound, asIntOf, hb]
theorem bounds_run {isSlice : Bool} {len cap l h m : Nat} {lo hi mx : Option Value} (hb : slcBounds len cap lo hi mx = some (l, h, m)) (w : World) :
  (Instr.sliceBounds isSlice len cap lo hi mx).run P w = .ok (l, h, m) w := by
 unfold slcBounds at hb
 simp only [Option.bind_eq_some_iff, Option.some.injEq, Prod.mk.injEq] at hb
 obtain ⟨m', hm, h', hh, l', hl, rfl, rfl, rfl⟩ := hb
 cases mx with
 | none =>
  simp only [boundOr, Option.some.injEq] at hm; subst hm
  cases hi with
  | none =>
   simp only [boundHi, Option.isSome_none, Bool.false_eq_true, if_false, Option.some.injEq] at hh; subst hh
   cases lo with
   | none => simp only [boundOr, Option.some.injEq] at hl; subst hl; rfl
   | some v => simp only [boundOr] at hl; simp [Instr.sliceBounds, bound_run hl]
  | some u =>
   simp only [boundHi] at hh
   cases lo with
   | none => simp only [boundOr, Option.some.injEq] at hl; subst hl; simp [Instr.sliceBounds, bound_run hh]
   | some v => simp only [boundOr] at hl; simp [Instr.sliceBounds, bound_run hh, bound_run hl]
 | some x =>
  simp only [boundOr] at hm
  cases hi with
  | none => simp [boundHi] at hh
  | some u =>
   simp only [boundHi] at hh
   cases lo with
   | none => simp only [boundOr, Option.some.injEq] at hl; subst hl; simp [Instr.sliceBounds, bound_run hm, bound_run hh]
   | some v => simp only [boundOr] at hl; simp [Instr.sliceBounds, bound_run hm, bound_run hh, bound_run hl]
theorem run_slc {t elem : TypeId} {size : Nat} (hu : P.underlying t = some (.slice elem)) (hs : szOf P elem = some size) {x v : Value} {lo hi mx : Option Value} (h : evalSlc size x lo hi mx = some v) (w : World) :
  (Instr.sliceAt t x lo hi mx).run P w = .ok v w := by
 unfold evalSlc at h
 split at h
 ·rename_i a len c
  simp only [Option.map_eq_some_iff] at h
  obtain ⟨⟨l, hh, m⟩, hb, rfl⟩ := h
  simp only [Instr.sliceAt, Sem.run_bind, run_underlying' hu, Result.andThen_ok, Instr.slice, bounds_run hb, run_sizeOf' hs]
  rfl
 ·simp at h
theorem run_sslc {t : TypeId} (hu : P.underlying t = some .string) {x v : Value} {lo hi : Option Value} (h : evalSslc x lo hi = some v) (w : World) :
  (Instr.sliceAt t x lo hi none).run P w = .ok v w := by
 unfold evalSslc at h
 split at h
 ·rename_i sb
  simp only [Option.map_eq_some_iff] at h
  obtain ⟨⟨l, hh, m⟩, hb, rfl⟩ := h
  simp only [Instr.sliceAt, Sem.run_bind, run_underlying' hu, Result.andThen_ok, Instr.slice, Option.isSome_none, Bool.false_eq_true, if_false, bounds_run hb, Sem.run_pure]
 ·simp at h
theorem run_slarr {t elem : TypeId} {n size l h m : Nat} (hu : P.underlying t = some (.array n elem)) (hs : szOf P elem = some size) {r off : Nat} {lo hi mx : Option Value}
  (hb : slcBounds n n lo hi mx = some (l, h, m)) (w : World) :
  (Instr.sliceAt t (.pointer (some ⟨r, off, none⟩)) lo hi mx).run P w = .ok (.slice (some (if m = l then ⟨r, off, none⟩ else ⟨r, off + l * size, none⟩)) (h - l) (m - l)) w := by
 simp only [Instr.sliceAt, Sem.run_bind, run_underlying' hu, Result.andThen_ok, Instr.sureAddr, Sem.run_pure, bounds_run hb, run_sizeOf' hs, add_none]
theorem fieldOf_spec {t : TypeId} {f : Nat} {fd : Field} (h : fieldOf P t f = some fd) : ∃ fs, P.underlying t = some (.struct fs) ∧ fs[f]? = some fd := by
 unfold fieldOf at h
 split at h
 ·rename_i fs e; exact ⟨fs, e, h⟩
 ·simp at h
theorem run_fieldAt {t : TypeId} {f : Nat} {fd : Field} {m : Nat} (hf : fieldOf P t f = some fd) (hs : szOf P fd.type = some m) (hm : m ≠ 0) (a : Addr) (w : World) :
  (Instr.fieldAt t (.pointer (some a)) f).run P w = .ok (.pointer (some (a.add fd.offset))) w := by
 obtain ⟨fs, hu, hfd⟩ := fieldOf_spec hf
 simp [Instr.fieldAt, run_underlying' hu, hfd, Instr.sureAddr, fieldPlace, run_sizeOf' hs, hm]
theorem run_part {t : TypeId} {m : Nat} {cs : List At} {off : Nat} {v : S1} (h : partS1 P t cs off = some v) (w : World) (_hm : szOf P t = some m) :
  (part t (cs.map At.den).toArray off).run P w = .ok v.den w := by
 unfold partS1 at h
 rw [_hm] at h
 simp only [Option.bind_some] at h
 split at h
 ·rename_i hl
  unfold mkS1 at h
  unfold part
  rw [Sem.run_bind, run_isAgg' _hm, Result.andThen_ok]
  split at h
  ·rename_i hA
   simp only [Option.some.injEq] at h; subst h
   simp [hA, run_sizeOf' _hm, S1.den]
  ·rename_i hA
   have hA' : isAggT P t = false := by simpa using hA
   split at h
   ·rename_i a he
    simp only [Option.some.injEq] at h; subst h
    have hget : cs[off]? = some a := by
     have : (List.take m (cs.drop off))[0]? = some a := by rw [he]; rfl
     have h0 : 0 < m := by rw [he] at hl; simp at hl; omega
     simpa [List.getElem?_take, h0] using this
    simp [hA', hget, S1.den]
   ·simp at h
 ·simp at h
theorem partS1_size {t : TypeId} {cs : List At} {off : Nat} {v : S1} (h : partS1 P t cs off = some v) : ∃ m, szOf P t = some m := by
 unfold partS1 at h
 cases hm : szOf P t with
 | none => simp [hm] at h
 | some m => exact ⟨m, rfl⟩
theorem partS1_mem {t : TypeId} {cs : List At} {off : Nat} {v : S1} (h : partS1 P t cs off = some v) : ∀ a, a ∈ v.cells → a ∈ cs := by
 unfold partS1 at h
 cases hm : szOf P t with
 | none => simp [hm] at h
 | some m =>
  simp only [hm, Option.bind_some] at h
  split at h
  ·unfold mkS1 at h
   split at h
   ·simp only [Option.some.injEq] at h; subst h
    intro a ha; exact List.mem_of_mem_drop (List.mem_of_mem_take ha)
   ·split at h
    ·rename_i a he
     simp only [Option.some.injEq] at h; subst h
     intro b hb; simp [S1.cells] at hb; subst hb
     have : b ∈ (cs.drop off).take m := by rw [he]; simp
     exact List.mem_of_mem_drop (List.mem_of_mem_take this)
    ·simp at h
  ·simp at h
theorem cells_den {v : S1} (hf : v.cells.all At.fit = true) (ho : v.ok) : v.den.cells = (v.cells.map At.den).toArray := by
 rcases v with a | l
 ·have h1 : a.den.oneCell' = true := At.fit_one (by simpa [S1.cells] using hf) (ho a (by simp [S1.cells]))
  simp only [S1.den, S1.cells, List.map_cons, List.map_nil]
  cases hd : a.den <;> simp_all [Value.cells, Value.oneCell']
 ·rfl
/-- the parts of a composite value -/
theorem foldl_set (vs : List Value) : ∀ (off : Nat) (cells : List Value), off + vs.length ≤ cells.length →
  (vs.zipIdx.foldl (fun (cs : Array Value) (p : Value × Nat) => cs.setIfInBounds (off + p.2) p.1) cells.toArray) = (cells.take off ++ vs ++ cells.drop (off + vs.length)).toArray := by
 have gen : ∀ (vs : List Value) (k off : Nat) (cells : List Value), off + k + vs.length ≤ cells.length →
   ((vs.zipIdx k).foldl (fun (cs : Array Value) (p : Value × Nat) => cs.setIfInBounds (off + p.2) p.1) cells.toArray) = (cells.take (off + k) ++ vs ++ cells.drop (off + k + vs.length)).toArray := by
  intro vs
  induction vs with
  | nil => intro k off cells _; simp
  | cons v r ih =>
   intro k off cells h
   simp only [List.length_cons] at h
   simp only [List.zipIdx_cons, List.foldl_cons, List.setIfInBounds_toArray]
   have hlen : (cells.set (off + k) v).length = cells.length := by simp
   have := ih (k + 1) off (cells.set (off + k) v) (by simp; omega)
   rw [this]
   congr 1
   have e1 : (cells.set (off + k) v).take (off + (k + 1)) = cells.take (off + k) ++ [v] := by
    apply List.ext_getElem?
    intro i
    by_cases hi : i < off + k
    ·rw [List.getElem?_take, if_pos (by omega), List.getElem?_set_ne (by omega), List.getElem?_append_left (by simp; omega), List.getElem?_take, if_pos hi]
    ·by_cases he : i = off + k
     ·subst he
      rw [List.getElem?_take, if_pos (by omega), List.getElem?_set_self (by omega), List.getElem?_append_right (by simp; omega)]
      have : off + k - (cells.take (off + k)).length = 0 := by simp; omega
      rw [this]; rfl
     ·rw [List.getElem?_take, if_neg (by omega), List.getElem?_eq_none (by simp; omega)]
   have e2 : (cells.set (off + k) v).drop (off + (k + 1) + r.length) = cells.drop (off + k + (r.length + 1)) := by
    rw [List.drop_set_of_lt (by omega)]; congr 1; omega
   rw [e1, e2]; simp
 intro off cells h
 simpa using gen vs 0 off cells (by simpa using h)
theorem fill_run {F : Own} {H : Heap} {O : Own} {a : Act} {w : World} (hc : Conc F s H O a w) {place : Nat → Option (Nat × Nat)} (hon : On (gden gl)) :
  ∀ {parts : List (Nat × Operand)} {cells out : List At} {cs : List Ck}, fillParts s gl place parts cells = some (out, cs) → AllCk cs →
   Instr.fill place (cells.map At.den).toArray (parts.map fun p => (p.1, a.eval p.2)) = some (out.map At.den).toArray
 | [], cells, out, cs, h, _ => by simp only [fillParts, Option.some.injEq, Prod.mk.injEq] at h; rw [← h.1]; rfl
 | (i, x) :: r, cells, out, cs, h, hcs => by
  simp only [fillParts] at h
  split at h
  ·rename_i off size v c hp hx
   split at h
   ·rename_i hcond
    simp only [Bool.and_eq_true, decide_eq_true_eq] at hcond
    obtain ⟨hcond, hfit⟩ := hcond
    simp only [Option.map_eq_some_iff] at h
    obtain ⟨⟨cs', c'⟩, hr, he⟩ := h
    simp only [Prod.mk.injEq] at he
    obtain ⟨rfl, rfl⟩ := he
    rw [AllCk.append] at hcs
    have hv := opS1_den hc hx hcs.1 hon
    have hcells : v.den.cells = (v.cells.map At.den).toArray := by
     have hok := opS1_ok hc.ok hx
     exact cells_den hfit hok
    simp only [List.map_cons, Instr.fill, hp, hv, hcells]
    have hsz : (v.cells.map At.den).toArray.size = size := by simp [hcond.1]
    have : (decide ((v.cells.map At.den).toArray.size ≠ size) || decide (off + (v.cells.map At.den).toArray.size > (cells.map At.den).toArray.size)) = false := by
     simp only [List.size_toArray, List.length_map, Bool.or_eq_false_iff, decide_eq_false_iff_not]; omega
    rw [this]
    simp only [Bool.false_eq_true, if_false]
    have hf := foldl_set (v.cells.map At.den) off (cells.map At.den) (by simp; omega)
    have hz : ((v.cells.map At.den).toArray.zipIdx).foldl (fun (cs : Array Value) (p : Value × Nat) => cs.setIfInBounds (off + p.2) p.1) (cells.map At.den).toArray = ((fillAt cells off v.cells).map At.den).toArray := by
     rw [← Array.foldl_toList, Array.toList_zipIdx, List.toList_toArray, hf]
     simp [fillAt, List.map_take, List.map_drop]
    rw [hz]
    exact fill_run hc hon hr hcs.2
   ·simp at h
  ·simp at h
end Go.Sx

/- Stores, new boxes, calls. -/
namespace Go.Sx
open Go
variable {P : Program} {ops : Array Oper} {o : Oper} {s : SS} {gl : List (At × Bool)}
theorem splice_cons (vs : List Value) (off : Nat) (v : Value) (r : List Value) (h : off < vs.length) : splice (vs.set off v) (off + 1) r = splice vs off (v :: r) := by
 unfold splice
 have e1 : (vs.set off v).take (off + 1) = vs.take off ++ [v] := by
  rw [List.take_set]
  apply List.ext_getElem?
  intro i
  by_cases hi : i < off
  ·rw [List.getElem?_set_ne (by omega), List.getElem?_take, if_pos (by omega), List.getElem?_append_left (by simp; omega), List.getElem?_take, if_pos hi]
  ·by_cases he : i = off
   ·subst he
    rw [List.getElem?_set_self (by simp; omega), List.getElem?_append_right (by simp; omega)]
    have : i - (vs.take i).length = 0 := by simp; omega
    rw [this]; rfl
   ·rw [List.getElem?_set_ne (by omega), List.getElem?_take, if_neg (by omega), List.getElem?_eq_none (by simp; omega)]
 have e2 : (vs.set off v).drop (off + 1 + r.length) = vs.drop (off + (v :: r).length) := by
  rw [List.drop_set_of_lt (by omega), List.length_cons]; congr 1; omega
 rw [e1, e2]; simp
theorem run_storeCells {r off : Nat} {T : TypeId} : ∀ (ys : List Value) (i : Nat) (vs : List Value) (w : World), w.heap[r]? = some (.cells vs.toArray T (0, 0)) → Ones ys → off + i + ys.length ≤ vs.length →
  ∃ w', (storeCells ⟨r, off, none⟩ ys i).run P w = .ok () w' ∧ (∀ b, b ≠ r → w'.heap[b]? = w.heap[b]?) ∧ w'.heap[r]? = some (.cells (splice vs (off + i) ys).toArray T (0, 0)) ∧ envOf w' = envOf w
 | [], i, vs, w, h, _, hl => ⟨w, rfl, fun _ _ => rfl, by rw [h]; simp [splice], rfl⟩
 | y :: ys, i, vs, w, h, ho, hl => by
  simp only [List.length_cons] at hl
  have hcell : w.cell? ⟨r, off + i, none⟩ = some (vs[off + i]'(by omega)) := by
   rw [cell_of_row w r (off + i) _ T _ h]; simp
  have hfr : w.frozen? ⟨r, off + i, none⟩ = false := frozen_of_row w r (off + i) _ T h
  have hset : (w.setCell ⟨r, off + i, none⟩ y).heap[r]? = some (.cells (vs.set (off + i) y).toArray T (0, 0)) := by
   rw [heap_setCell_same w r (off + i) vs.toArray T y h]; simp
  have henv : envOf (w.setCell ⟨r, off + i, none⟩ y) = envOf w := by
   unfold World.setCell; split <;> rfl
  obtain ⟨w', hr, hs, hb, he⟩ := run_storeCells (r := r) (off := off) ys (i + 1) (vs.set (off + i) y) (w.setCell ⟨r, off + i, none⟩ y) hset ho.2 (by simp; omega)
  refine ⟨w', ?_, fun b hne => ?_, ?_, he.trans henv⟩
  ·simp only [storeCells, Sem.run_bind, add_none, run_store P w _ y .plain ho.1, hcell, hfr, Bool.false_eq_true, if_false, Result.andThen_ok]
   exact hr
  ·rw [hs b hne, heap_setCell_other w ⟨r, off + i, none⟩ b y hne]
  ·rw [hb, ← splice_cons vs (off + i) y ys (by omega)]; rfl
theorem run_storeVar {t : TypeId} {m : Nat} (hs : szOf P t = some m) {r off : Nat} {T : TypeId} {vs : List Value} {w : World} (h : w.heap[r]? = some (.cells vs.toArray T (0, 0))) {y : Value} {ys : List Value}
  (hy : y.cells = ys.toArray) (ho : Ones ys) (hm : ys.length = m) (hl : off + ys.length ≤ vs.length) :
  ∃ w', (storeVar t ⟨r, off, none⟩ y).run P w = .ok () w' ∧ (∀ b, b ≠ r → w'.heap[b]? = w.heap[b]?) ∧ w'.heap[r]? = some (.cells (splice vs off ys).toArray T (0, 0)) ∧ envOf w' = envOf w := by
 obtain ⟨w', hr, hb, hc, he⟩ := run_storeCells (P := P) (off := off) ys 0 vs w h ho (by omega)
 refine ⟨w', ?_, hb, hc, he⟩
 unfold storeVar
 rw [Sem.run_bind, run_sizeOf' hs, Result.andThen_ok]
 have : ¬ (y.cells.size ≠ m) := by rw [hy]; simp [hm]
 simp only [this, if_false]
 rw [hy]
 simpa using hr
theorem storeNF_sound {t : TypeId} {x y : Operand} {x' : At} {y' : S1} {cx cy : List Ck} {nfp : NF × FP} (ho : o.op = .store t x y) (hdst : o.dst = none) (hx : opAt s [] x = some (x', cx)) (hy : opS1 s [] y = some (y', cy))
    (hg : guardOf (tgtOf ops) s o = .go []) (h : storeNF P s t x' y' (cx ++ cy) = some nfp) : Sound P ops o s nfp.1 := by
  unfold storeNF at h
  cases hm : szOf P t with
  | none => simp [hm] at h
  | some m =>
    simp only [hm, Option.bind_some] at h
    split at h
    · simp at h
    · rename_i hcond
      simp only [Bool.or_eq_true, decide_eq_true_eq, Bool.not_eq_true', not_or, Decidable.not_not, Bool.not_eq_false] at hcond
      obtain ⟨hlen, hfit⟩ := hcond
      have common : ∀ {F H O a w}, Conc F s H O a w → AllCk (cx ++ cy) → a.eval x = x'.den ∧ a.eval y = y'.den ∧ y'.den.cells = (y'.cells.map At.den).toArray ∧ Ones (y'.cells.map At.den) := by
        intro F H O a w hc hcs
        rw [AllCk.append] at hcs
        have hok := opS1_ok hc.ok hy
        exact ⟨opAt_den hc hx hcs.1 trivial, opS1_den hc hy hcs.2 trivial, cells_den hfit hok, ones_map (by simpa using hfit) hok⟩
      split at h
      · rename_i n r off
        split at h
        · rename_i b hb
          split at h
          · rename_i hl
            simp only [Option.some.injEq] at h; subst h
            intro F H O a w d K Q hc hr
            obtain ⟨hcs, hk⟩ := hr
            obtain ⟨e1, e2, e3, e4⟩ := common hc hcs.2
            have hrb : r = b.r := hcs.1
            unfold wp1
            rw [if_pos ((guard_go hc hg).2 trivial)]
            refine .inl ?_
            obtain ⟨L, hL, hmod⟩ := hc.mm
            obtain ⟨us, L', hus, hperm, hL'⟩ := hL.take hb
            have hmod' := hmod.perm (hperm.append_right _)
            simp only [List.cons_append] at hmod'
            have hrow := (hmod'.own (b.r, .cells us.toArray b.T (0, 0)) (by simp)).1
            obtain ⟨w', hrun, hoth, hnew, henv⟩ := run_storeVar (P := P) hm hrow e3 e4 (by simpa using hlen) (off := off) (by have := hus.length; simp; omega)
            unfold Oper.wp
            have : (execOp a.eval o).run P w = .ok .skip w' := by
              simp only [execOp, ho, e1, e2, At.den, hrb, Instr.storeAt, Instr.sureAddr, Sem.run_bind, Sem.run_pure, Result.andThen_ok, hrun]
            rw [this, Oper.upon_skip, hdst]
            refine ⟨_, H, O, ?_, Heap.le_refl H, hk⟩
            have hput := hL'.put (n := n) (b := { b with cs := fillAt b.cs off y'.cells }) (vs := us.take off ++ y'.cells.map At.den ++ us.drop (off + y'.cells.length)) (by simp) (hus.fill off y'.cells)
            rw [box_back] at hput
            refine ⟨hc.ok.setBox n ?_, hc.df, hc.sz, hc.tm, _, hput, ?_⟩
            · rintro b' hb' a' ha'
              simp only [Option.some.injEq] at hb'; subst hb'
              simp only [fillAt, List.mem_append] at ha'
              rcases ha' with (ha' | ha') | ha'
              · exact hc.ok.2 n b hb a' (List.mem_of_mem_take ha')
              · exact opS1_ok hc.ok hy a' ha'
              · exact hc.ok.2 n b hb a' (List.mem_of_mem_drop ha')
            · refine hmod'.update hoth ?_ henv
              rw [hnew]; simp [splice]
          · simp at h
        · simp at h
      all_goals first
        | (simp at h; done)
        | (split at h
           · simp at h
           · rename_i hm0
             simp only [Option.some.injEq] at h; subst h
             intro F H O a w d K Q hc hr
             obtain ⟨hcs, O', hst, hk⟩ := hr
             obtain ⟨e1, e2, e3, e4⟩ := common hc hcs.2
             unfold wp1
             rw [if_pos ((guard_go hc hg).2 trivial)]
             refine .inl ?_
             obtain ⟨ad, cs, T, L', hp, hsp, hperm, hl, hO'⟩ := hst
             have had : ad = ⟨ad.block, ad.off, none⟩ := by cases ad; simp_all
             obtain ⟨L, hL, hmod⟩ := hc.mm
             have hmod' : Models w H ((ad.block, .cells cs T (0, 0)) :: (L ++ (L' ++ F))) := by
               refine hmod.perm ?_
               have := (hperm.append_right F)
               refine (List.Perm.append_left L this).trans ?_
               simp only [List.cons_append]
               exact List.perm_middle
             have hrow : w.heap[ad.block]? = some (.cells cs.toList.toArray T (0, 0)) := by simpa using (hmod'.own (ad.block, .cells cs T (0, 0)) (by simp)).1
             obtain ⟨w', hrun, hoth, hnew, henv⟩ := run_storeVar (P := P) hm hrow e3 e4 (by simpa using hlen) (off := ad.off) (by simpa using hl)
             unfold Oper.wp
             have : (execOp a.eval o).run P w = .ok .skip w' := by
               simp only [execOp, ho, e1, e2, hp, Instr.storeAt, Instr.sureAddr, Sem.run_bind, Sem.run_pure, Result.andThen_ok]
               rw [had, hrun]; rfl
             rw [this, Oper.upon_skip, hdst]
             refine ⟨s, H, O', ⟨hc.ok, hc.df, hc.sz, hc.tm, L, hL, ?_⟩, Heap.le_refl H, hk⟩
             have hu := hmod'.update hoth hnew henv
             subst hO'
             refine hu.perm ?_
             simp only [List.cons_append]
             exact List.perm_middle.symm)
end Go.Sx

/- New boxes; calls and the like. -/
namespace Go.Sx
open Go
variable {P : Program} {ops : Array Oper} {o : Oper} {s : SS} {gl : List (At × Bool)}
theorem sound_box {name : Nat} {T : TypeId} {cells : List At} {val : Nat → At} {cs : List Ck} (hg : guardOf (tgtOf ops) s o = .go []) (hd : ∀ d, o.dst = some d → d < s.sz)
  (hn : s.mem name = none) (hv : ∀ r, (val r).ok) (hvk : ∀ r, (val r).known = true) (hcells : s.Ok → ∀ a, a ∈ cells → a.ok)
  (hrun : ∀ F H O a w, Conc F s H O a w → AllCk cs → ∃ vs : List Value, CellsRel cells vs ∧
   (execOp a.eval o).run P w = .ok (.value (val w.heap.size).den) { w with heap := w.heap.push (.cells vs.toArray T (0, 0)) }) :
  Sound P ops o s (.box cs name T cells val) := by
 intro F H O a w d K Q hc hr
 obtain ⟨hcs, hk⟩ := hr
 obtain ⟨vs, hvs, hex⟩ := hrun F H O a w hc hcs
 unfold wp1
 rw [if_pos ((guard_go hc hg).2 trivial)]
 refine .inl ?_
 unfold Oper.wp
 rw [hex, Oper.upon_value]
 obtain ⟨L, hL, hmod⟩ := hc.mm
 have h1 : Conc F (s.setBox name (some ⟨w.heap.size, T, cells⟩)) H O a { w with heap := w.heap.push (.cells vs.toArray T (0, 0)) } := by
  refine ⟨hc.ok.setBox name ?_, hc.df, hc.sz, hc.tm, _, hL.put (n := name) (b := ⟨w.heap.size, T, cells⟩) hn hvs, ?_⟩
  ·rintro b' hb' a' ha'
   simp only [Option.some.injEq] at hb'; subst hb'; exact hcells hc.ok a' ha'
  ·simpa using hmod.push (.cells vs.toArray T (0, 0))
 refine ⟨_, H, O, h1.put (sv := .s (.at (val w.heap.size))) hd ?_ (ok_at (hv _)), Heap.le_refl H, hk _⟩
 cases hval : val w.heap.size <;> first
  | rfl
  | (have := hvk w.heap.size; rw [hval] at this; simp [At.known] at this)
theorem zeroOf_run {T : TypeId} {cells : List At} (h : zeroOf P T = some cells) : ∃ z : Value, (∀ w, (zeroValue T).run P w = .ok z w) ∧ z.cells.toList = cells.map At.den ∧ cells.all At.known = true ∧ ∀ a, a ∈ cells → a.ok := by
 unfold zeroOf at h
 cases hi : P.info? T with
 | none => simp [hi] at h
 | some i =>
  simp only [hi, Option.bind_some, Option.map_eq_some_iff] at h
  obtain ⟨z, hz, rfl⟩ := h
  refine ⟨z, fun w => by simp [zeroValue, typeInfo, hi, hz], by simp [Function.comp_def, At.den], by simp [At.known], ?_⟩
  intro a ha; simp only [List.mem_map] at ha; obtain ⟨x, _, rfl⟩ := ha; trivial
def repVals (z : List Value) : Nat → List Value
 | 0 => []
 | n + 1 => z ++ repVals z n
theorem repCells_spec (z : List Value) (hz : z.length ≠ 0) : ∀ n : Nat, ((Array.range (n * z.length)).map fun i => z.toArray[i % z.toArray.size]!).toList = (repVals z n)
 | 0 => by simp [repVals]
 | n + 1 => by
  have ih := repCells_spec z hz n
  simp only [Array.toList_map, Array.toList_range] at ih ⊢
  rw [show (n + 1) * z.length = z.length + n * z.length by rw [Nat.add_mul]; omega, List.range_add, List.map_append, List.map_map]
  have e1 : (List.range z.length).map (fun i => z.toArray[i % z.toArray.size]!) = z := by
   apply List.ext_getElem
   ·simp
   ·intro i h1 h2
    have hi : i < z.length := by simpa using h1
    simp [Nat.mod_eq_of_lt hi, hi]
  have e2 : (List.range (n * z.length)).map ((fun i => z.toArray[i % z.toArray.size]!) ∘ fun i => z.length + i) = (List.range (n * z.length)).map fun i => z.toArray[i % z.toArray.size]! := by
   apply List.map_congr_left
   intro i _
   simp [Function.comp]
  rw [e1, e2, ih]; rfl
theorem repCells_den (z : List At) : ∀ n, (repCells z n).map At.den = repVals (z.map At.den) n
 | 0 => rfl
 | n + 1 => by simp [repCells, repVals, repCells_den z n]
theorem repCells_mem {z : List At} : ∀ {n : Nat} {a : At}, a ∈ repCells z n → a ∈ z
 | 0, a, h => by simp [repCells] at h
 | n + 1, a, h => by
  simp only [repCells, List.mem_append] at h
  exact h.elim id repCells_mem
theorem fillParts_mem (hok : s.Ok) {place : Nat → Option (Nat × Nat)} : ∀ {parts : List (Nat × Operand)} {cells out : List At} {cs : List Ck}, fillParts s gl place parts cells = some (out, cs) →
  (∀ a, a ∈ cells → a.ok) → ∀ a, a ∈ out → a.ok
 | [], cells, out, cs, h, hc => by simp only [fillParts, Option.some.injEq, Prod.mk.injEq] at h; rw [← h.1]; exact hc
 | (i, x) :: r, cells, out, cs, h, hc => by
  simp only [fillParts] at h
  split at h
  ·rename_i off size v c hp hx
   split at h
   ·simp only [Option.map_eq_some_iff] at h
    obtain ⟨⟨cs', c'⟩, hr, he⟩ := h
    simp only [Prod.mk.injEq] at he
    obtain ⟨rfl, rfl⟩ := he
    refine fillParts_mem hok hr ?_
    intro a ha
    simp only [fillAt, List.mem_append] at ha
    rcases ha with (ha | ha) | ha
    ·exact hc a (List.mem_of_mem_take ha)
    ·exact opS1_ok hok hx a ha
    ·exact hc a (List.mem_of_mem_drop ha)
   ·simp at h
  ·simp at h
/-! Many boxes at once -/
theorem noDup_nodup : ∀ {l : List Nat}, noDup l = true → l.Nodup
 | [], _ => by simp
 | n :: r, h => by
  simp only [noDup, Bool.and_eq_true, Bool.not_eq_true', List.contains_eq_mem, decide_eq_false_iff_not] at h
  exact List.nodup_cons.2 ⟨h.1, noDup_nodup h.2⟩
theorem delBoxes_mem : ∀ {l : List Nat} {s : SS} {n : Nat}, (delBoxes l s).mem n = if n ∈ l then none else s.mem n
 | [], s, n => by simp [delBoxes]
 | m :: r, s, n => by
  rw [delBoxes, delBoxes_mem]
  by_cases h : n ∈ r
  ·simp [h]
  ·by_cases e : n = m <;> simp [h, e, SS.setBox]
theorem delBoxes_tmps : ∀ {l : List Nat} {s : SS}, (delBoxes l s).tmps = s.tmps ∧ (delBoxes l s).sz = s.sz
 | [], _ => ⟨rfl, rfl⟩
 | m :: r, s => by rw [delBoxes]; exact delBoxes_tmps (l := r) (s := s.setBox m none)
theorem putBoxes_tmps : ∀ {l : List (Nat × Bx)} {css : List (List Value)} {s : SS}, (putBoxes l css s).tmps = s.tmps ∧ (putBoxes l css s).sz = s.sz
 | [], _, _ => by simp [putBoxes]
 | _ :: _, [], _ => by simp [putBoxes]
 | (n, b) :: r, vs :: vss, s => by rw [putBoxes]; exact putBoxes_tmps (l := r)
theorem setBox_ok' {s : SS} (h : s.Ok) (l : List Nat) : (delBoxes l s).Ok := by
 refine ⟨by rw [delBoxes_tmps.1]; exact h.1, fun n b hb => ?_⟩
 rw [delBoxes_mem] at hb
 split at hb
 ·simp at hb
 ·exact h.2 n b hb
theorem putBoxes_ok : ∀ {l : List (Nat × Bx)} {css : List (List Value)} {s : SS}, s.Ok → Fits (l.map (·.2.bv)) css → (putBoxes l css s).Ok
 | [], _, _, h, _ => by simpa [putBoxes] using h
 | _ :: _, [], _, h, _ => by simpa [putBoxes] using h
 | (n, b) :: r, vs :: vss, s, h, hf => by
  rw [putBoxes]
  refine putBoxes_ok (h.setBox n ?_) hf.2.2
  rintro b' hb' a ha
  simp only [Option.some.injEq] at hb'; subst hb'
  have hl : vs.length = b.cs.length := by have := hf.1; simpa [Bx.bv] using this
  exact ok_atsFrom (by omega) hf.2.1 a ha
theorem take_all : ∀ {l : List (Nat × Bx)} {s : SS} {L : Own}, Boxes s.mem L → (∀ p, p ∈ l → s.mem p.1 = some p.2) → (l.map (·.1)).Nodup → (∀ p, p ∈ l → p.2.cs.all At.known = true) →
  ∃ L', L.Perm (l.map (fun p => p.2.bv.obj) ++ L') ∧ Boxes (delBoxes (l.map (·.1)) s).mem L'
 | [], s, L, h, _, _, _ => ⟨L, by simp, h⟩
 | (n, b) :: r, s, L, h, hm, hn, hk => by
  obtain ⟨vs, L1, hvs, hp, h1⟩ := h.take (hm (n, b) (by simp))
  simp only [List.map_cons, List.nodup_cons] at hn
  have hr : ∀ p, p ∈ r → (s.setBox n none).mem p.1 = some p.2 := by
   intro p hp'
   have : p.1 ≠ n := fun e => hn.1 (e ▸ List.mem_map_of_mem hp')
   simp only [SS.setBox, this, if_false]
   exact hm p (by simp [hp'])
  obtain ⟨L', hp2, h2⟩ := take_all (s := s.setBox n none) (L := L1) h1 hr hn.2 (fun p hp' => hk p (by simp [hp']))
  refine ⟨L', hp.trans ?_, by simpa [delBoxes] using h2⟩
  have : vs = b.cs.map At.den := hvs.known (hk (n, b) (by simp))
  simp only [List.map_cons, List.cons_append]
  rw [this]
  exact List.Perm.cons _ hp2
theorem putB_eq : ∀ {l : List (Nat × Bx)} {css : List (List Value)} {s : SS} {i : Nat}, Fits (l.map (·.2.bv)) (css.drop i) → putB i l css s = putBoxes l (css.drop i) s
 | [], css, s, i, _ => by cases css.drop i <;> rfl
 | (n, b) :: r, css, s, i, h => by
  cases hd : css.drop i with
  | nil => rw [hd] at h; exact h.elim
  | cons v vs =>
   rw [hd] at h
   have hlt : i < css.length := by
    rcases Nat.lt_or_ge i css.length with h' | h'
    ·exact h'
    ·rw [List.drop_of_length_le h'] at hd; cases hd
   rw [List.drop_eq_getElem_cons hlt] at hd
   obtain ⟨rfl, hd2⟩ := List.cons.inj hd
   have hv : css.getD i [] = css[i] := by simp [List.getD, hlt]
   rw [putB, putBoxes, ← hd2, putB_eq (l := r) (i := i + 1) (by rw [hd2]; exact h.2.2), hv]
theorem putB_tmps : ∀ {l : List (Nat × Bx)} {css : List (List Value)} {s : SS} {i : Nat}, (putB i l css s).tmps = s.tmps ∧ (putB i l css s).sz = s.sz
 | [], _, _, _ => ⟨rfl, rfl⟩
 | (n, b) :: r, css, s, i => by rw [putB]; exact putB_tmps (l := r)
theorem put_all : ∀ {l : List (Nat × Bx)} {css : List (List Value)} {s : SS} {L : Own}, Boxes s.mem L → (∀ p, p ∈ l → s.mem p.1 = none) → (l.map (·.1)).Nodup → Fits (l.map (·.2.bv)) css →
  ∃ L', L'.Perm ((newCells (l.map (·.2.bv)) css).map BV.obj ++ L) ∧ Boxes (putBoxes l css s).mem L'
 | [], css, s, L, h, _, _, _ => by cases css <;> exact ⟨L, by simp [newCells], by simpa [putBoxes] using h⟩
 | (n, b) :: r, [], s, L, h, _, _, hf => by simp [Fits] at hf
 | (n, b) :: r, vs :: vss, s, L, h, hm, hn, hf => by
  simp only [List.map_cons, List.nodup_cons] at hn
  have hl : vs.length = b.cs.length := by have := hf.1; simpa [Bx.bv] using this
  have h1 := h.put (n := n) (b := { b with cs := atsFrom vs 0 b.cs.length }) (vs := vs) (hm (n, b) (by simp)) (CellsRel.atsFrom hl)
  obtain ⟨L', hp, h2⟩ := put_all (l := r) (css := vss) (s := s.setBox n (some { b with cs := atsFrom vs 0 b.cs.length })) h1 (by
   intro p hp'
   have : p.1 ≠ n := fun e => hn.1 (e ▸ List.mem_map_of_mem hp')
   simp only [SS.setBox, this, if_false]
   exact hm p (by simp [hp'])) hn.2 hf.2.2
  refine ⟨L', hp.trans ?_, by simpa [putBoxes] using h2⟩
  simp only [List.map_cons, newCells, List.cons_append]
  exact List.perm_middle
theorem liveBoxes_spec {s : SS} {l : List Nat} : ∀ p, p ∈ liveBoxes s l → s.mem p.1 = some p.2 := by
 intro p hp
 simp only [liveBoxes, List.mem_filterMap, Option.map_eq_some_iff] at hp
 obtain ⟨n, _, b, hb, rfl⟩ := hp
 exact hb
theorem models_freeze : ∀ {l : List BV} {w : World} {H : Heap} {O : Own}, Models w H (l.map BV.obj ++ O) → Models w (H.insAll l) O ∧ Heap.le H (H.insAll l)
 | [], w, H, O, h => ⟨by simpa [Heap.insAll] using h, Heap.le_refl H⟩
 | b :: r, w, H, O, h => by
  simp only [List.map_cons, List.cons_append] at h
  have hf : Models w (H.ins b.r b.obj.2) (r.map BV.obj ++ O) := Models.freeze h
  have hle : Heap.le H (H.ins b.r b.obj.2) := (Ghost.freeze H b.r b.obj.2 [] w (r.map BV.obj ++ O) h).2
  obtain ⟨h1, h2⟩ := models_freeze hf
  exact ⟨h1, Heap.le_trans hle h2⟩
theorem ok_svList {vs : List Value} (ho : Ones vs) : ∀ {l : List (Option Nat)} {i : Nat}, i + Shp.count (.tup l) ≤ vs.length → ∀ x, x ∈ Shp.svList vs i l → x.ok
 | [], i, _, x, hx => by simp [Shp.svList] at hx
 | none :: r, i, h, x, hx => by
  simp only [Shp.count, List.foldr_cons, Option.getD_none] at h
  simp only [Shp.svList, List.mem_cons] at hx
  rcases hx with rfl | hx
  ·exact ok_at (ho.get i (by omega))
  ·exact ok_svList ho (l := r) (i := i + 1) (by simp only [Shp.count]; omega) x hx
 | some m :: r, i, h, x, hx => by
  simp only [Shp.count, List.foldr_cons, Option.getD_some] at h
  simp only [Shp.svList, List.mem_cons] at hx
  rcases hx with rfl | hx
  ·exact ok_atsFrom (by omega) ho
  ·exact ok_svList ho (l := r) (i := i + m) (by simp only [Shp.count]; omega) x hx
theorem openList_spec : ∀ {l : List (Option Nat)} {xs vs pre : List Value}, Shp.openList l xs = some vs →
  vs.length = Shp.count (.tup l) ∧ (Shp.svList (pre ++ vs) pre.length l).map S1.den = xs
 | [], [], vs, pre, h => by simp only [Shp.openList, Option.some.injEq] at h; subst h; simp [Shp.count, Shp.svList]
 | [], _ :: _, vs, pre, h => by simp [Shp.openList] at h
 | none :: r, [], vs, pre, h => by simp [Shp.openList] at h
 | none :: r, v :: xs, vs, pre, h => by
  simp only [Shp.openList, Option.map_eq_some_iff] at h
  obtain ⟨us, hu, rfl⟩ := h
  obtain ⟨h1, h2⟩ := openList_spec (pre := pre ++ [v]) hu
  refine ⟨?_, ?_⟩
  ·simp only [Shp.count, List.foldr_cons, Option.getD_none, List.length_cons] at h1 ⊢; omega
  ·simp only [Shp.svList, List.map_cons]
   have e : pre ++ v :: us = pre ++ [v] ++ us := by simp
   have : g (pre ++ v :: us) pre.length = v := by simp [g]
   rw [S1.den, At.den, this, e]
   have hl : (pre ++ [v]).length = pre.length + 1 := by simp
   rw [← hl, h2]
 | some m :: r, [], vs, pre, h => by simp [Shp.openList] at h
 | some m :: r, v :: xs, vs, pre, h => by
  cases v with
  | agg cs =>
   simp only [Shp.openList] at h
   split at h
   ·rename_i hsz
    simp only [Option.map_eq_some_iff] at h
    obtain ⟨us, hu, rfl⟩ := h
    obtain ⟨h1, h2⟩ := openList_spec (pre := pre ++ cs.toList) hu
    have hl : (pre ++ cs.toList).length = pre.length + m := by simp [hsz]
    refine ⟨?_, ?_⟩
    ·simp only [Shp.count, List.foldr_cons, Option.getD_some, List.length_append, Array.length_toList] at h1 ⊢
     omega
    ·simp only [Shp.svList, List.map_cons]
     rw [← hl, ← List.append_assoc, h2]
     congr 1
     simp only [S1.den, Value.agg.injEq]
     rw [atsFrom_eq]
     apply Array.ext'
     simp only [List.toList_toArray, List.map_map]
     apply List.ext_getElem
     ·simp [hsz]
     ·intro i hi1 hi2
      have hi : i < cs.size := by simpa using hi2
      have hlt : ¬ (pre.length + i < pre.length) := by omega
      simp [At.den, g, List.getElem?_append, hi, hlt]
   ·simp at h
  | _ => simp [Shp.openList] at h
theorem open_spec {shp : Shp} {v : Value} {vs : List Value} (h : shp.open v = some vs) (ho : Ones vs) : (shp.sv vs).rel v ∧ (shp.sv vs).ok := by
 cases shp with
 | one =>
  simp only [Shp.open, Option.some.injEq] at h; subst h
  exact ⟨rfl, ok_at ho.1⟩
 | agg m =>
  cases v with
  | agg cs =>
   simp only [Shp.open] at h
   split at h
   ·rename_i hsz
    simp only [Option.some.injEq] at h; subst h
    refine ⟨?_, ok_atsFrom (by simp [hsz]) ho⟩
    show _ = Value.agg ((atsFrom cs.toList 0 m).map At.den).toArray
    rw [atsFrom_den (by simp [hsz])]
   ·simp at h
  | _ => simp [Shp.open] at h
 | tup l =>
  cases v with
  | tuple xs =>
   simp only [Shp.open] at h
   obtain ⟨h1, h2⟩ := openList_spec (pre := []) h
   refine ⟨?_, ok_svList ho (l := l) (i := 0) (by omega)⟩
   show _ = Value.tuple ((Shp.svList vs 0 l).map S1.den).toArray
   have h2' : (Shp.svList vs 0 l).map S1.den = xs.toList := by simpa using h2
   rw [h2']
  | _ => simp [Shp.open] at h
/-- A call, or an operation with a law of its own. -/
theorem sound_hv {hk : HK} {frz own : List (Nat × Bx)} {shp : Shp} {post : List Value → List Ck} {cs : List Ck} {sv : List Value → SV} (hg : guardOf (tgtOf ops) s o = .go []) (hd : ∀ d, o.dst = some d → d < s.sz)
  (hfrz : ∀ p, p ∈ frz ++ own → s.mem p.1 = some p.2) (hnd : ((frz ++ own).map (·.1)).Nodup) (hkn : ∀ p, p ∈ frz ++ own → p.2.cs.all At.known = true)
  (hsv : ∀ v vs, s.Ok → shp.open v = some vs → Ones vs → AllCk (post vs) → (sv vs).rel v ∧ (sv vs).ok)
  (hex : ∀ F H O a w, Conc F s H O a w → AllCk cs → ∀ H1 O1 R, hk.T P H1 O1 R → ∀ F1, Models w H1 (O1 ++ F1) → ∀ (next : Act → World → Prop) (Q : Exit → Act → World → Prop),
   (∀ v w' H' O', R v H' O' → Heap.le H1 H' → Models w' H' (O' ++ F1) → next (a.put o.dst v) w') → o.wp P a w next Q) :
  Sound P ops o s (.hv cs hk frz own shp post sv) := by
 intro F H O a w d K Q hc hr
 obtain ⟨hcs, hr⟩ := hr
 unfold wp1
 rw [if_pos ((guard_go hc hg).2 trivial)]
 refine .inl ?_
 obtain ⟨L, hL, hmod⟩ := hc.mm
 obtain ⟨L', hp, hL'⟩ := take_all hL hfrz hnd hkn
 have hm0 : Models w H ((frz.map (·.2.bv)).map BV.obj ++ ((own.map (·.2.bv)).map BV.obj ++ (L' ++ (O ++ F)))) := by
  refine hmod.perm ((hp.append_right _).trans (List.Perm.of_eq ?_))
  simp [List.map_map, Function.comp_def]
 obtain ⟨H1, O1, O2, R, hgh, hT, hk'⟩ := hr ⟨w, L' ++ F, hm0.perm (by
  rw [List.append_assoc, List.append_assoc]
  exact List.Perm.append_left _ (List.Perm.append_left _ (List.perm_append_comm_assoc _ _ _))) ⟩
 obtain ⟨hm1, hle1⟩ := models_freeze hm0
 have hgh' : Ghost (H.insAll (frz.map (·.2.bv))) O H1 (O1 ++ O2) := by
  split at hgh
  ·obtain ⟨rfl, ⟨rfl, rfl⟩ | ⟨_, rfl, rfl, _⟩⟩ := hgh
   ·exact Ghost.refl _ _
   ·rw [List.append_nil]; exact Ghost.refl _ _
  ·exact hgh
 have hm2 : Models w (H.insAll (frz.map (·.2.bv))) (O ++ ((own.map (·.2.bv)).map BV.obj ++ (L' ++ F))) := by
  refine hm1.perm ?_
  exact (List.Perm.append_left _ (List.perm_append_comm_assoc _ _ _)).trans (List.perm_append_comm_assoc _ _ _)
 obtain ⟨hm3, hle2⟩ := hgh' w _ hm2
 have hm4 : Models w H1 (((own.map (·.2.bv)).map BV.obj ++ O1) ++ (O2 ++ (L' ++ F))) := by
  refine hm3.perm ?_
  rw [List.append_assoc, List.append_assoc]
  exact (List.Perm.append_left _ (List.perm_append_comm_assoc _ _ _)).trans (List.perm_append_comm_assoc _ _ _)
 refine hex F H O a w hc hcs H1 _ R hT _ hm4 _ Q ?_
 intro v w' H' O' hR hle3 hm5
 obtain ⟨vs, css, O3, hop, hones, hfits, rfl, hpost, hK⟩ := hk' v H' O' hR hle3
 obtain ⟨hrel, hok⟩ := hsv v vs hc.ok hop hones hpost
 have hmemNone : ∀ p, p ∈ own → (delBoxes ((frz ++ own).map (·.1)) s).mem p.1 = none := by
  intro p hp'
  rw [delBoxes_mem, if_pos (List.mem_map_of_mem (by simp [hp']))]
 have hndo : (own.map (·.1)).Nodup := by
  rw [List.map_append] at hnd; exact (List.nodup_append.1 hnd).2.1
 obtain ⟨L'', hp'', hL''⟩ := put_all (css := css) hL' hmemNone hndo hfits
 have hconc : Conc F (putBoxes own css (delBoxes ((frz ++ own).map (·.1)) s)) H' (O3 ++ O2) a w' := by
  refine ⟨putBoxes_ok (setBox_ok' hc.ok _) hfits, hc.df, ?_, ?_, L'', hL'', ?_⟩
  ·rw [putBoxes_tmps.2, delBoxes_tmps.2]; exact hc.sz
  ·rw [putBoxes_tmps.1, delBoxes_tmps.1]; exact hc.tm
  ·refine hm5.perm (List.Perm.trans ?_ (hp''.symm.append_right _))
   rw [List.append_assoc, List.append_assoc, ← List.append_assoc O3]
   exact List.Perm.append_left _ (List.perm_append_comm_assoc _ _ _)
 have hpb : putB 0 own css (delBoxes ((frz ++ own).map (·.1)) s) = putBoxes own css (delBoxes ((frz ++ own).map (·.1)) s) := putB_eq (i := 0) hfits
 rw [hvUpd, hpb] at hK
 refine ⟨_, H', O3 ++ O2, hconc.put ?_ hrel hok, Heap.le_trans hle1 (Heap.le_trans hle2 hle3), hK⟩
 intro d' hd'
 rw [putBoxes_tmps.2, delBoxes_tmps.2]; exact hd d' hd'
end Go.Sx

/- Every operation's normal form is sound. -/
namespace Go.Sx
open Go
variable {P : Program} {ops : Array Oper} {o : Oper} {s : SS} {gl : List (At × Bool)}
theorem plain_sound {v : S1} {cs : List Ck} {x : NF} {fp : FP} (hg : guardOf (tgtOf ops) s o = .go gl) (hd : ∀ d, o.dst = some d → d < s.sz) (h : plainNF gl o.dst v cs = some (x, fp))
  (hok : s.Ok → AllCk cs → v.ok) (hrun : ∀ F H O a w, Conc F s H O a w → AllCk cs → On (gden gl) → (execOp a.eval o).run P w = .ok (.value v.den) w) : Sound P ops o s x := by
 simp only [plainNF, Option.some.injEq, Prod.mk.injEq] at h
 rw [← h.1]
 exact sound_quiet (X := fun _ => v) hg hd (fun _ _ _ h1 h2 _ => hok h1 h2) (fun F H O a w _ hc hcs _ hon => hrun F H O a w hc hcs hon)
theorem boxed_sound {name : Nat} {T : TypeId} {cells : List At} {val : Nat → At} {cs : List Ck} {x : NF} {fp : FP} (hg : guardOf (tgtOf ops) s o = .go gl) (hd : ∀ d, o.dst = some d → d < s.sz)
  (h : boxedNF s gl o.dst name T cells val cs = some (x, fp)) (hv : ∀ r, (val r).ok) (hvk : ∀ r, (val r).known = true) (hcells : s.Ok → ∀ a, a ∈ cells → a.ok)
  (hrun : ∀ F H O a w, Conc F s H O a w → AllCk cs → gl = [] → ∃ vs : List Value, CellsRel cells vs ∧
   (execOp a.eval o).run P w = .ok (.value (val w.heap.size).den) { w with heap := w.heap.push (.cells vs.toArray T (0, 0)) }) : Sound P ops o s x := by
 unfold boxedNF at h
 split at h
 ·rename_i hcond
  simp only [Bool.and_eq_true, Option.isNone_iff_eq_none, List.isEmpty_iff] at hcond
  simp only [Option.some.injEq, Prod.mk.injEq] at h
  rw [← h.1]
  obtain ⟨rfl, hn⟩ := hcond
  exact sound_box hg hd hn hv hvk hcells (fun F H O a w hc hcs => hrun F H O a w hc hcs rfl)
 ·simp at h
theorem heavy_sound {dst : Option Tmp} {shp : Shp} {hk : HK} {atoms : List At} {cs : List Ck} {x : NF} {fp : FP} (hdst : dst = o.dst) (hg : guardOf (tgtOf ops) s o = .go []) (hd : ∀ d, o.dst = some d → d < s.sz)
  (h : heavyNF s dst shp hk atoms cs = some (x, fp))
  (hex : ∀ F H O a w, Conc F s H O a w → AllCk cs → ∀ H1 O1 R, hk.T P H1 O1 R → ∀ F1, Models w H1 (O1 ++ F1) → ∀ (next : Act → World → Prop) (Q : Exit → Act → World → Prop),
   (∀ v w' H' O', R v H' O' → Heap.le H1 H' → Models w' H' (O' ++ F1) → next (a.put o.dst v) w') → o.wp P a w next Q) : Sound P ops o s x := by
 subst hdst
 unfold heavyNF at h
 simp only [] at h
 split at h
 ·rename_i hcond
  simp only [Bool.and_eq_true] at hcond
  simp only [Option.some.injEq, Prod.mk.injEq] at h
  rw [← h.1]
  refine sound_hv (sv := shp.sv) hg hd ?_ (noDup_nodup hcond.2) ?_ (fun v vs _ ho hn _ => open_spec ho hn) hex
  ·intro p hp
   rcases List.mem_append.1 hp with hp | hp
   ·exact liveBoxes_spec p hp
   ·exact liveBoxes_spec p hp
  ·intro p hp
   have := hcond.1
   rw [List.all_eq_true] at this
   exact this p hp
 ·simp at h
theorem wp_enter {a : Act} {w : World} {f : FuncId} {args : List Value} {H1 : Heap} {O1 F1 : Own} {R : Value → Heap → Own → Prop} {next : Act → World → Prop} {Q : Exit → Act → World → Prop}
  (hT : Triple P f args H1 O1 R) (hm : Models w H1 (O1 ++ F1)) (hrun : (execOp a.eval o).run P w = .ok (.enter f args.toArray) w)
  (hn : ∀ v w' H' O', R v H' O' → Heap.le H1 H' → Models w' H' (O' ++ F1) → next (a.put o.dst v) w') : o.wp P a w next Q := by
 unfold Oper.wp
 rw [hrun, Oper.upon_enter]
 exact (hT w F1 hm).mono fun e w' ⟨v, H', O', he, hR, hle, hm'⟩ => by subst he; exact hn v w' H' O' hR hle hm'
theorem wp_prim {a : Act} {w : World} {sem : Sem Next} {H1 : Heap} {O1 F1 : Own} {R : Value → Heap → Own → Prop} {next : Act → World → Prop} {Q : Exit → Act → World → Prop}
  (hT : OpTriple P sem H1 O1 R) (hm : Models w H1 (O1 ++ F1)) (hrun : (execOp a.eval o).run P w = sem.run P w)
  (hn : ∀ v w' H' O', R v H' O' → Heap.le H1 H' → Models w' H' (O' ++ F1) → next (a.put o.dst v) w') : o.wp P a w next Q := by
 unfold Oper.wp
 obtain ⟨v, w', H', O', hr, hR, hle, hm'⟩ := hT w F1 hm
 rw [hrun, hr, Oper.upon_value]
 exact hn v w' H' O' hR hle hm'
theorem callFunc_run {f : FuncId} (h : OkFn P f) (args : Array Value) (w : World) : (callFunc f args).run P w = .ok (.enter f args) w := by
 obtain ⟨fn, h1, h2, h3⟩ := h
 simp only [callFunc, Sem.run_bind, run_program, Result.andThen_ok, h1, h2, h3, Bool.false_eq_true, if_false]
 rfl
theorem call_run {c : Call} {f : Operand} {n : FuncId} {caps : Array Value} {a : Act} (hop : o.op = .call c) (hcal : c.callee = .value f) (hf : a.eval f = .func (.func n) #[] caps) (hok : OkFn P n) (w : World) :
  (execOp a.eval o).run P w = .ok (.enter n (c.args.map a.eval ++ caps)) w := by
 simp only [execOp, hop, resolve, hcal, hf, Deferred.ofValue, Sem.run_bind, Sem.run_pure, Result.andThen_ok, invoke, Array.empty_append, callFunc_run hok]
theorem opAts_two {s : SS} {gl : List (At × Bool)} {x y : Operand} {as : List At} {cs : List Ck} (h : opAts s gl [x, y] = some (as, cs)) : ∃ a b, as = [a, b] := by
 simp only [opAts] at h
 split at h
 ·rename_i a c as' cs' h1 h2
  simp only [Option.some.injEq, Prod.mk.injEq] at h
  split at h2
  ·rename_i b c2 as2 cs2 h3 h4
   simp only [Option.some.injEq, Prod.mk.injEq] at h2 h4
   exact ⟨a, b, by rw [← h.1, ← h2.1, ← h4.1]⟩
  ·simp at h2
 ·simp at h
theorem eval_two {F : Own} {H : Heap} {O : Own} {a : Act} {w : World} (h : Conc F s H O a w) {x y : Operand} {x' y' : At} {cs : List Ck}
  (hx : opAts s gl [x, y] = some ([x', y'], cs)) (hc : AllCk cs) (ho : On (gden gl)) : a.eval x = x'.den ∧ a.eval y = y'.den := by
 have := opAts_den h hx hc ho
 simpa using this
theorem moveAt_spec {x : At} {n : Nat} {a : At} {c : List Ck} (h : moveAt gl x n = some (a, c)) : (AllCk c → x.ok → a.ok) ∧
  (AllCk c → On (gden gl) → ∃ ad, x.den = .pointer (some ad) ∧ a.den = .pointer (some (ad.add n))) := by
 have hp : ∀ y : Value, isPtr y = true → ∃ ad, y = .pointer (some ad) := by
  intro y hy
  unfold isPtr at hy; split at hy
  ·exact ⟨_, rfl⟩
  ·simp at hy
 have hadd0 : ∀ ad : Addr, ad.add 0 = ad := fun ad => by simp [Addr.add]
 cases x <;> simp only [moveAt] at h
 case p n' r off =>
  simp only [Option.some.injEq, Prod.mk.injEq] at h
  obtain ⟨rfl, rfl⟩ := h
  exact ⟨fun _ _ => trivial, fun _ _ => ⟨⟨r, off, none⟩, rfl, by rw [add_none]; rfl⟩⟩
 case px y off =>
  simp only [Option.some.injEq, Prod.mk.injEq] at h
  obtain ⟨rfl, rfl⟩ := h
  refine ⟨fun _ _ => trivial, fun hc ho => ?_⟩
  obtain ⟨ad, rfl⟩ := hp y (hc.1 ho)
  exact ⟨ad.add off, rfl, by simp [At.den, ptrAdd, add_add]⟩
 case v y =>
  simp only [Option.some.injEq, Prod.mk.injEq] at h
  obtain ⟨rfl, rfl⟩ := h
  refine ⟨fun hc ho => ?_, fun hc ho => ?_⟩
  ·split
   ·exact ho
   ·split
    ·rename_i he
     have : gl = [] := by simpa using he
     subst this
     obtain ⟨ad, rfl⟩ := hp y (hc.1 trivial)
     rfl
    ·trivial
  ·obtain ⟨ad, rfl⟩ := hp y (hc.1 ho)
   refine ⟨ad, rfl, ?_⟩
   split
   ·rename_i h0; subst h0; rw [hadd0]; rfl
   ·split <;> rfl
 case k y =>
  simp only [Option.some.injEq, Prod.mk.injEq] at h
  obtain ⟨rfl, rfl⟩ := h
  refine ⟨fun hc ho => ?_, fun hc ho => ?_⟩
  ·split
   ·exact ho
   ·split
    ·rename_i he
     have : gl = [] := by simpa using he
     subst this
     obtain ⟨ad, rfl⟩ := hp y (hc.1 trivial)
     rfl
    ·trivial
  ·obtain ⟨ad, rfl⟩ := hp y (hc.1 ho)
   refine ⟨ad, rfl, ?_⟩
   split
   ·rename_i h0; subst h0; rw [hadd0]; rfl
   ·split <;> rfl
 all_goals simp at h
theorem constNat_spec {i : At} {n : Nat} (h : constNat i = some n) : ∃ k, i.den = .int k n := by
 unfold constNat at h
 split at h
 ·rename_i k m
  split at h
  ·rename_i h0
   simp only [Option.some.injEq] at h
   exact ⟨k, by simp [At.den]; omega⟩
  ·simp at h
 ·simp at h
theorem indexAddr_sound {t : TypeId} {x i : Operand} {x' i' : At} {cs : List Ck} {y : NF} {fp : FP} (hop : o.op = .indexAddr t x i) (hx : opAts s gl [x, i] = some ([x', i'], cs))
    (hg : guardOf (tgtOf ops) s o = .go gl) (hd : ∀ d, o.dst = some d → d < s.sz) (h : indexAddrNF P gl o.dst t x' i' cs = some (y, fp)) : Sound P ops o s y := by
  have hok := fun hs : s.Ok => opAts_ok hs hx
  have ev := fun {F H O a w} (hc : Conc F s H O a w) (hcs : AllCk cs) (hon : On (gden gl)) => eval_two hc hx hcs hon
  unfold indexAddrNF at h
  split at h
  · rename_i len elem hu
    cases hs : szOf P elem with
    | none => simp [hs] at h
    | some size =>
      simp only [hs, Option.bind_some] at h
      have harr : ∀ {ad : Addr} {k : IntKind} {n : Int}, 0 ≤ n ∧ n < len → ∀ w, (Instr.indexAt t (.pointer (some ad)) (.int k n)).run P w = .ok (.pointer (some (ad.add (n.toNat * size)))) w :=
        fun hb w => run_pidx hu hs (by simp [evalPidx, hb]) w
      split at h
      · rename_i n hn
        split at h
        · rename_i hlt
          simp only [Option.map_eq_some_iff, Prod.mk.injEq] at h
          obtain ⟨⟨a', c⟩, hm, rfl, _⟩ := h
          obtain ⟨h1, h2⟩ := moveAt_spec hm
          refine sound_quiet (X := fun _ => .at a') hg hd ?_ ?_
          · intro H O vs hs' hc _
            rw [AllCk.append] at hc
            exact ok_at (h1 hc.1 (hok hs' x' (by simp)))
          · intro F H O a w vs hc hcs _ hon
            rw [AllCk.append] at hcs
            obtain ⟨e1, e2⟩ := ev hc hcs.2 hon
            obtain ⟨ad, hx', ha'⟩ := h2 hcs.1 hon
            obtain ⟨k, hk⟩ := constNat_spec hn
            simp only [execOp, hop, e1, e2, hx', hk, Sem.run_bind, harr (ad := ad) (k := k) (n := n) (by omega), Result.andThen_ok, Sem.run_pure, S1.den, ha', Int.toNat_natCast]
        · simp at h
      · split at h
        · rename_i n r off
          split at h
          · rename_i hcond
            simp only [Bool.and_eq_true, List.isEmpty_iff, decide_eq_true_eq] at hcond
            obtain ⟨rfl, _⟩ := hcond
            simp only [Option.some.injEq, Prod.mk.injEq] at h
            obtain ⟨rfl, _⟩ := h
            refine sound_quiet (gl := []) (X := fun vs => .at (.p n r (off + (match g vs 0 with | .int _ n => n.toNat | _ => 0) * size))) hg hd (fun _ _ _ _ _ _ => ok_at trivial) ?_
            rintro F H O a w vs hc hcs ⟨kd, j, hj, h0, h1, rfl⟩ hon
            obtain ⟨e1, e2⟩ := ev hc hcs hon
            have e1' : a.eval x = .pointer (some ⟨r, off, none⟩) := e1
            simp only [execOp, hop, e1', e2, hj, Sem.run_bind, harr (ad := ⟨r, off, none⟩) (k := kd) (n := j) ⟨h0, h1⟩, Result.andThen_ok, Sem.run_pure, S1.den, add_none]
            rfl
          · simp at h
        all_goals first
          | (simp at h; done)
          | (split at h
             · simp at h
             · simp only [Option.some.injEq, Prod.mk.injEq] at h
               obtain ⟨rfl, _⟩ := h
               refine pureNF_sound hg hd (by simp) ?_
               intro F H O a w v hc hcs hon he
               obtain ⟨e1, e2⟩ := ev hc hcs hon
               simp only [List.map_cons, List.map_nil, evalPure] at he
               simp only [execOp, hop, e1, e2, Sem.run_bind, run_pidx hu hs he, Result.andThen_ok, Sem.run_pure])
  · rename_i elem hu
    cases hs : szOf P elem with
    | none => simp [hs] at h
    | some size =>
      simp only [hs, Option.bind_some] at h
      have gen : ∀ {y fp}, some (pureNF gl false o.dst (.idx size) [x', i'] cs, ({} : FP)) = some (y, fp) → Sound P ops o s y := by
        intro y fp h
        simp only [Option.some.injEq, Prod.mk.injEq] at h
        obtain ⟨rfl, _⟩ := h
        refine pureNF_sound hg hd (by simp) ?_
        intro F H O a w v hc hcs hon he
        obtain ⟨e1, e2⟩ := ev hc hcs hon
        simp only [List.map_cons, List.map_nil, evalPure] at he
        simp only [execOp, hop, e1, e2, Sem.run_bind, run_idx hu hs he, Result.andThen_ok, Sem.run_pure]
      split at h
      · rename_i n r off len c k hk
        split at h
        · rename_i hlt
          simp only [Option.some.injEq, Prod.mk.injEq] at h
          obtain ⟨rfl, _⟩ := h
          refine sound_quiet (X := fun _ => .at (.p n r (off + k * size))) hg hd (fun _ _ _ _ _ _ => ok_at trivial) ?_
          intro F H O a w vs hc hcs _ hon
          obtain ⟨e1, e2⟩ := ev hc hcs hon
          obtain ⟨kd, hkd⟩ := constNat_spec hk
          have : (Instr.indexAt t (.slice (some ⟨r, off, none⟩) len c) (.int kd k)).run P w = .ok (.pointer (some ⟨r, off + k * size, none⟩)) w :=
            run_idx hu hs (by simp [evalIdx, hlt, add_none]) w
          have e1' : a.eval x = .slice (some ⟨r, off, none⟩) len c := e1
          simp only [execOp, hop, e1', e2, hkd, Sem.run_bind, this, Result.andThen_ok, Sem.run_pure]
          rfl
        · simp at h
      · exact gen h
  · simp at h

theorem opt_eval {F : Own} {H : Heap} {O : Own} {a : Act} {w : World} (h : Conc F s H O a w) {x : Option Operand} {l : List At} {cs : List Ck}
  (hx : opAts s gl x.toList = some (l, cs)) (hc : AllCk cs) (ho : On (gden gl)) : x.map a.eval = l.head?.map At.den ∧ (l.head?.isSome = x.isSome) ∧ l = l.head?.toList := by
 have hd := opAts_den h hx hc ho
 cases x with
 | none =>
  simp only [Option.toList, opAts, Option.some.injEq, Prod.mk.injEq] at hx
  rw [← hx.1]; simp
 | some y =>
  simp only [Option.toList, List.map_cons, List.map_nil] at hd
  match l, hd with
  | [b], hd => simp at hd; simp [hd]
  | [], hd => simp at hd
  | _ :: _ :: _, hd => simp at hd
theorem takeArgs3 (lo hi mx : Option Value) : takeArgs [lo.isSome, hi.isSome, mx.isSome] (lo.toList ++ hi.toList ++ mx.toList) = [lo, hi, mx] := by
 cases lo <;> cases hi <;> cases mx <;> rfl
theorem takeArgs2 (lo hi : Option Value) : takeArgs [lo.isSome, hi.isSome] (lo.toList ++ hi.toList ++ []) = [lo, hi] := by
 cases lo <;> cases hi <;> rfl
theorem map_toList (x : Option At) : x.toList.map At.den = (x.map At.den).toList := by cases x <;> rfl
theorem constBound {x : Option At} {d n y : Nat} (h : (x.map constNat).getD (some d) = some n) (hy : n ≤ y) : boundOr (x.map At.den) y d = some n ∧ boundHi (x.map At.den) false y d = some n := by
 cases x with
 | none => simpa [boundOr, boundHi] using h
 | some a =>
  simp only [Option.map_some, Option.getD_some] at h
  obtain ⟨k, hk⟩ := constNat_spec h
  simp [hk, boundOr, boundHi, boundI, asI, hy]
theorem slice_sound {t : TypeId} {x : Operand} {lo hi mx : Option Operand} {x' : At} {l h' m : List At} {c0 c1 c2 c3 : List Ck} {y : NF} {fp : FP} (hop : o.op = .slice t x lo hi mx)
  (h0 : opAt s gl x = some (x', c0)) (h1 : opAts s gl lo.toList = some (l, c1)) (h2 : opAts s gl hi.toList = some (h', c2)) (h3 : opAts s gl mx.toList = some (m, c3))
  (hg : guardOf (tgtOf ops) s o = .go gl) (hd : ∀ d, o.dst = some d → d < s.sz) (h : sliceNF P gl o.dst t x' l.head? h'.head? m.head? (c0 ++ c1 ++ c2 ++ c3) = some (y, fp)) : Sound P ops o s y := by
 have ev : ∀ {F H O a w}, Conc F s H O a w → AllCk (c0 ++ c1 ++ c2 ++ c3) → On (gden gl) → a.eval x = x'.den ∧ lo.map a.eval = l.head?.map At.den ∧ hi.map a.eval = h'.head?.map At.den ∧ mx.map a.eval = m.head?.map At.den := by
  intro F H O a w hc hcs hon
  simp only [AllCk.append] at hcs
  exact ⟨opAt_den hc h0 hcs.1.1.1 hon, (opt_eval hc h1 hcs.1.1.2 hon).1, (opt_eval hc h2 hcs.1.2 hon).1, (opt_eval hc h3 hcs.2 hon).1⟩
 generalize l.head? = lo' at h ev
 generalize h'.head? = hi' at h ev
 generalize m.head? = mx' at h ev
 unfold sliceNF at h
 simp only [] at h
 split at h
 ·rename_i hu
  split at h
  ·simp at h
  ·rename_i hmx
   simp only [Option.some.injEq, Prod.mk.injEq] at h
   obtain ⟨rfl, _⟩ := h
   have hmx' : mx' = none := by cases mx' <;> simp_all
   subst hmx'
   refine pureNF_sound hg hd (by simp) ?_
   intro F H O a w v hc hcs hon he
   obtain ⟨e0, e1, e2, e3⟩ := ev hc hcs hon
   simp only [List.map_cons, List.map_append, evalPure, map_toList, Option.toList_none, List.map_nil, List.append_nil] at he
   have hta := takeArgs2 (lo'.map At.den) (hi'.map At.den)
   simp only [List.append_nil, Option.isSome_map] at hta
   rw [hta] at he
   simp only [Option.map_none] at e3
   simp only [execOp, hop, e0, e1, e2, e3, Sem.run_bind, run_sslc hu he, Result.andThen_ok, Sem.run_pure]
 ·rename_i elem hu
  cases hs : szOf P elem with
  | none => simp [hs] at h
  | some size =>
   simp only [hs, Option.bind_some] at h
   have gen : ∀ {y fp}, some (pureNF gl false o.dst (.slc size lo'.isSome hi'.isSome mx'.isSome) (x' :: (lo'.toList ++ hi'.toList ++ mx'.toList)) (c0 ++ c1 ++ c2 ++ c3), ({} : FP)) = some (y, fp) → Sound P ops o s y := by
    intro y fp h
    simp only [Option.some.injEq, Prod.mk.injEq] at h
    obtain ⟨rfl, _⟩ := h
    refine pureNF_sound hg hd (by simp) ?_
    intro F H O a w v hc hcs hon he
    obtain ⟨e0, e1, e2, e3⟩ := ev hc hcs hon
    simp only [List.map_cons, List.map_append, evalPure, map_toList] at he
    have hta := takeArgs3 (lo'.map At.den) (hi'.map At.den) (mx'.map At.den)
    simp only [Option.isSome_map] at hta
    rw [hta] at he
    simp only [execOp, hop, e0, e1, e2, e3, Sem.run_bind, run_slc hu hs he, Result.andThen_ok, Sem.run_pure]
   split at h
   ·rename_i l'' h'' n r off len cap
    split at h
    ·rename_i l3 h3' hl hh
     split at h
     ·rename_i hcond
      simp only [Bool.and_eq_true, decide_eq_true_eq] at hcond
      simp only [Option.some.injEq, Prod.mk.injEq] at h
      obtain ⟨rfl, _⟩ := h
      refine sound_quiet (X := fun _ => .at (.sl n r (if cap = l3 then off else off + l3 * size) (h3' - l3) (cap - l3))) hg hd (fun _ _ _ _ _ _ => ok_at trivial) ?_
      intro F H O a w vs hc hcs _ hon
      obtain ⟨e0, e1, e2, e3⟩ := ev hc hcs hon
      have hb : evalSlc size (.slice (some ⟨r, off, none⟩) len cap) (lo'.map At.den) (hi'.map At.den) none =
        some (.slice (if cap = l3 then some ⟨r, off, none⟩ else some ⟨r, off + l3 * size, none⟩) (h3' - l3) (cap - l3)) := by
       have b1 := (constBound (x := hi') (d := len) (n := h3') (y := cap) hh hcond.2).2
       have b2 := (constBound (x := lo') (d := 0) (n := l3) (y := h3') hl hcond.1).1
       have b3 : slcBounds len cap (lo'.map At.den) (hi'.map At.den) none = some (l3, h3', cap) := by
        show ((boundHi (hi'.map At.den) false cap len).bind fun h => (boundOr (lo'.map At.den) h 0).bind fun l => some (l, h, cap)) = _
        rw [b1]; simp only [Option.bind_some]
        rw [b2]; rfl
       simp only [evalSlc, b3, Option.map_some, add_none]
      have e0' : a.eval x = .slice (some ⟨r, off, none⟩) len cap := e0
      simp only [Option.map_none] at e3
      simp only [execOp, hop, e0', e1, e2, e3, Sem.run_bind, run_slc hu hs hb, Result.andThen_ok, Sem.run_pure, S1.den, At.den]
      split <;> rfl
     ·simp at h
    ·exact gen h
   ·exact gen h
 ·rename_i len elem hu
  cases hs : szOf P elem with
  | none => simp [hs] at h
  | some size =>
   simp only [hs, Option.bind_some] at h
   split at h
   ·rename_i l'' h'' n r off
    split at h
    ·rename_i l3 h3' hl hh
     split at h
     ·rename_i hcond
      simp only [Bool.and_eq_true, decide_eq_true_eq] at hcond
      simp only [Option.some.injEq, Prod.mk.injEq] at h
      obtain ⟨rfl, _⟩ := h
      refine sound_quiet (X := fun _ => .at (.sl n r (if len = l3 then off else off + l3 * size) (h3' - l3) (len - l3))) hg hd (fun _ _ _ _ _ _ => ok_at trivial) ?_
      intro F H O a w vs hc hcs _ hon
      obtain ⟨e0, e1, e2, e3⟩ := ev hc hcs hon
      have hb : slcBounds len len (lo'.map At.den) (hi'.map At.den) none = some (l3, h3', len) := by
       have b1 := (constBound (x := hi') (d := len) (n := h3') (y := len) hh hcond.2).2
       have b2 := (constBound (x := lo') (d := 0) (n := l3) (y := h3') hl hcond.1).1
       show ((boundOr none len len).bind fun m => (boundHi (hi'.map At.den) false m len).bind fun h => (boundOr (lo'.map At.den) h 0).bind fun l => some (l, h, m)) = _
       show ((boundHi (hi'.map At.den) false len len).bind fun h => (boundOr (lo'.map At.den) h 0).bind fun l => some (l, h, len)) = _
       rw [b1]; simp only [Option.bind_some]
       rw [b2]; rfl
      have e0' : a.eval x = .pointer (some ⟨r, off, none⟩) := e0
      simp only [Option.map_none] at e3
      simp only [execOp, hop, e0', e1, e2, e3, Sem.run_bind, run_slarr hu hs hb, Result.andThen_ok, Sem.run_pure, S1.den, At.den]
      split <;> rfl
     ·simp at h
    ·simp at h
   ·rename_i l'' h'' r off
    split at h
    ·rename_i l3 h3' hl hh
     split at h
     ·rename_i hcond
      simp only [Bool.and_eq_true, decide_eq_true_eq] at hcond
      simp only [Option.some.injEq, Prod.mk.injEq] at h
      obtain ⟨rfl, _⟩ := h
      refine sound_quiet (X := fun _ => .at (.k (.slice (some ⟨r, if len = l3 then off else off + l3 * size, none⟩) (h3' - l3) (len - l3)))) hg hd (fun _ _ _ _ _ _ => ok_at trivial) ?_
      intro F H O a w vs hc hcs _ hon
      obtain ⟨e0, e1, e2, e3⟩ := ev hc hcs hon
      have hb : slcBounds len len (lo'.map At.den) (hi'.map At.den) none = some (l3, h3', len) := by
       have b1 := (constBound (x := hi') (d := len) (n := h3') (y := len) hh hcond.2).2
       have b2 := (constBound (x := lo') (d := 0) (n := l3) (y := h3') hl hcond.1).1
       show ((boundOr none len len).bind fun m => (boundHi (hi'.map At.den) false m len).bind fun h => (boundOr (lo'.map At.den) h 0).bind fun l => some (l, h, m)) = _
       show ((boundHi (hi'.map At.den) false len len).bind fun h => (boundOr (lo'.map At.den) h 0).bind fun l => some (l, h, len)) = _
       rw [b1]; simp only [Option.bind_some]
       rw [b2]; rfl
      have e0' : a.eval x = .pointer (some ⟨r, off, none⟩) := e0
      simp only [Option.map_none] at e3
      simp only [execOp, hop, e0', e1, e2, e3, Sem.run_bind, run_slarr hu hs hb, Result.andThen_ok, Sem.run_pure, S1.den, At.den]
      split <;> rfl
     ·simp at h
    ·simp at h
   ·simp at h
 ·simp at h
end Go.Sx

/- Every operation's normal form is sound: the whole table. -/
namespace Go.Sx
open Go
variable {P : Program} {ops : Array Oper} {o : Oper} {s : SS} {gl : List (At × Bool)}
theorem move_sound {sp : Bool} {x : Operand} {y : NF} {fp : FP} (hrun : ∀ a : Act, ∀ w, (execOp a.eval o).run P w = .ok (.value (a.eval x)) w)
  (hg : guardOf (tgtOf ops) s o = .go gl) (hd : ∀ d, o.dst = some d → d < s.sz) (h : moveNF s gl o.dst sp x = some (y, fp)) : Sound P ops o s y := by
 have gen : ∀ {v : S1} {cs : List Ck}, opS1 s gl x = some (v, cs) → plainNF gl o.dst v cs = some (y, fp) → Sound P ops o s y := by
  intro v cs hx h
  exact plain_sound hg hd h (fun hs _ => opS1_ok hs hx) (fun F H O a w hc hcs hon => by rw [hrun, opS1_den hc hx hcs hon])
 have gen' : ((opS1 s gl x).bind fun (v, cs) => plainNF gl o.dst v cs) = some (y, fp) → Sound P ops o s y := by
  intro h
  simp only [Option.bind_eq_some_iff] at h
  obtain ⟨⟨v, cs⟩, hx, h⟩ := h
  exact gen hx h
 unfold moveNF at h
 split at h
 ·split at h
  ·rename_i hgl
   have : gl = [] := by simpa using hgl
   subst this
   simp only [Option.bind_eq_some_iff] at h
   obtain ⟨⟨a', cs⟩, hx, h⟩ := h
   simp only [] at h
   split at h
   ·exact gen (opAt_S1 hx) h
   ·simp only [Option.some.injEq, Prod.mk.injEq] at h
    obtain ⟨rfl, _⟩ := h
    refine sound_quiet (gl := []) (X := fun vs => .at (.k (g vs 0))) hg hd (fun _ _ _ _ _ _ => ok_k _) ?_
    rintro F H O a w vs hc hcs ⟨b, hb, rfl⟩ hon
    rw [hrun, opAt_den hc hx hcs hon, hb]; rfl
  ·simp at h
 ·cases x with
  | tmp t =>
   simp only [] at h
   split at h
   ·rename_i l hl
    split at h
    ·rename_i hgl
     have : gl = [] := by simpa using hgl
     subst this
     simp only [Option.some.injEq, Prod.mk.injEq] at h
     obtain ⟨rfl, _⟩ := h
     intro F H O a w d K Q hc hr
     obtain ⟨_, vs, _, hk⟩ := hr
     unfold wp1
     rw [if_pos ((guard_go hc hg).2 trivial)]
     refine .inl ?_
     unfold Oper.wp
     rw [hrun, Oper.upon_value]
     have ht := hc.tm t
     rw [hl] at ht
     have hok := hc.ok.1 t
     rw [hl] at hok
     exact ⟨_, H, O, hc.put (sv := .tup l) hd ht hok, Heap.le_refl H, hk⟩
    ·simp at h
   ·exact gen' h
  | const v => exact gen' h
  | global n => exact gen' h
  | func f => exact gen' h
theorem pick_sound {c a b : Operand} {y : NF} {fp : FP} (hop : o.op = .pick c a b)
  (hg : guardOf (tgtOf ops) s o = .go gl) (hd : ∀ d, o.dst = some d → d < s.sz) (h : pickNF s gl o.dst c a b = some (y, fp)) : Sound P ops o s y := by
 unfold pickNF at h
 simp only [Option.bind_eq_some_iff] at h
 obtain ⟨⟨c', cs⟩, hc', h⟩ := h
 simp only [] at h
 split at h
 ·simp only [Option.bind_eq_some_iff] at h
  obtain ⟨⟨v, cs'⟩, hv, h⟩ := h
  refine plain_sound hg hd h (fun hs _ => opS1_ok hs hv) ?_
  intro F H O a' w hc hcs hon
  rw [AllCk.append] at hcs
  have e1 : a'.eval c = .bool true := opAt_den hc hc' hcs.1 hon
  have e2 := opS1_den hc hv hcs.2 hon
  simp [execOp, hop, e1, asBool, e2]
 ·simp only [Option.bind_eq_some_iff] at h
  obtain ⟨⟨v, cs'⟩, hv, h⟩ := h
  refine plain_sound hg hd h (fun hs _ => opS1_ok hs hv) ?_
  intro F H O a' w hc hcs hon
  rw [AllCk.append] at hcs
  have e1 : a'.eval c = .bool false := opAt_den hc hc' hcs.1 hon
  have e2 := opS1_den hc hv hcs.2 hon
  simp [execOp, hop, e1, asBool, e2]
 ·split at h
  ·rename_i a1 ca b1 cb ha hb
   split at h
   ·rename_i hfit
    simp only [Bool.and_eq_true] at hfit
    simp only [Option.some.injEq, Prod.mk.injEq] at h
    obtain ⟨rfl, _⟩ := h
    refine pureNF_sound hg hd ?_ ?_
    ·intro _
     by_cases hs : s.Ok
     ·exact .inl ⟨At.fit_one hfit.1 (opAt_ok hs ha), At.fit_one hfit.2 (opAt_ok hs hb), trivial⟩
     ·exact .inr hs
    ·intro F H O a' w v hc hcs hon he
     simp only [AllCk.append] at hcs
     have e1 := opAt_den hc hc' hcs.1.1 hon
     simp only [List.map_cons, List.map_nil] at he
     cases hcd : c'.den <;> simp only [hcd, evalPure] at he <;> try (simp at he; done)
     rename_i bv
     simp only [Option.some.injEq] at he
     cases bv with
     | true =>
      have e2 := opAt_den hc ha hcs.1.2 (gl := (c', true) :: gl) ⟨hcd, hon⟩
      simp only [if_true] at he
      simp [execOp, hop, e1, hcd, asBool, e2, he]
     | false =>
      have e2 := opAt_den hc hb hcs.2 (gl := (c', false) :: gl) ⟨hcd, hon⟩
      simp only [Bool.false_eq_true, if_false] at he
      simp [execOp, hop, e1, hcd, asBool, e2, he]
   ·simp at h
  ·simp at h
theorem build_sound {T : TypeId} {parts : Array (Nat × Operand)} {y : NF} {fp : FP} (hop : o.op = .build T parts)
  (hg : guardOf (tgtOf ops) s o = .go gl) (hd : ∀ d, o.dst = some d → d < s.sz) (h : buildNF P s gl o.dst T parts.toList = some (y, fp)) : Sound P ops o s y := by
 unfold buildNF at h
 simp only [Option.bind_eq_some_iff] at h
 obtain ⟨zero, hz, h⟩ := h
 obtain ⟨z, hzr, hzc, hzk, hzo⟩ := zeroOf_run hz
 have hzc' : z.cells = (zero.map At.den).toArray := by rw [← hzc]
 have hparts : ∀ a : Act, (parts.map fun p => (p.1, a.eval p.2)).toList = parts.toList.map fun p => (p.1, a.eval p.2) := fun a => by simp
 split at h
 ·rename_i fs hu
  simp only [Option.bind_eq_some_iff] at h
  obtain ⟨places, hp, ⟨cells, cs⟩, hf, h⟩ := h
  refine plain_sound hg hd h (fun hs _ => fillParts_mem hs hf hzo) ?_
  intro F H O a w hc hcs hon
  have hfill := fill_run hc hon hf hcs
  have hb : P.built T (parts.map fun p => (p.1, a.eval p.2)).toList = some (cells.map At.den).toArray := by
   unfold zeroOf at hz
   cases hi : P.info? T with
   | none => simp [hi] at hz
   | some i =>
    simp only [hi, Option.bind_some, Option.map_eq_some_iff] at hz
    obtain ⟨z0, hz0, hz1⟩ := hz
    have : z0.cells = (zero.map At.den).toArray := by rw [← hz1]; simp [Function.comp_def, At.den]
    unfold Program.built
    simp only [hi, hu, hz0, hp, this, hparts]
    exact hfill
  simp only [execOp, hop, Sem.run_bind, run_build w T _ _ hb, Result.andThen_ok, Sem.run_pure]
  rfl
 ·rename_i n elem hu
  simp only [Option.bind_eq_some_iff] at h
  obtain ⟨size, hs, ⟨cells, cs⟩, hf, h⟩ := h
  refine plain_sound hg hd h (fun hs' _ => fillParts_mem hs' hf hzo) ?_
  intro F H O a w hc hcs hon
  have hfill := fill_run hc hon hf hcs
  simp only [execOp, hop, Instr.build, Sem.run_bind, hzr, Result.andThen_ok, run_underlying' hu, run_sizeOf' hs, hparts, hzc', hfill, Sem.run_pure]
  rfl
 ·simp at h
theorem buildSlice_sound {name : Nat} {T : TypeId} {len : Nat} {parts : Array (Nat × Operand)} {y : NF} {fp : FP} (hop : o.op = .buildSlice T len parts)
  (hg : guardOf (tgtOf ops) s o = .go gl) (hd : ∀ d, o.dst = some d → d < s.sz) (h : buildSliceNF P s gl o.dst name T len parts.toList = some (y, fp)) : Sound P ops o s y := by
 unfold buildSliceNF at h
 split at h
 ·rename_i elem hu
  simp only [Option.bind_eq_some_iff] at h
  obtain ⟨size, hs, zero, hz, h⟩ := h
  split at h
  ·rename_i hcond
   simp only [Bool.and_eq_true, decide_eq_true_eq] at hcond
   obtain ⟨⟨hzl, hs0⟩, hlim⟩ := hcond
   simp only [Option.bind_eq_some_iff] at h
   obtain ⟨⟨cells, cs⟩, hf, h⟩ := h
   obtain ⟨z, hzr, hzc, hzk, hzo⟩ := zeroOf_run hz
   refine boxed_sound hg hd h (fun _ => trivial) (fun _ => rfl) (fun hs' => fillParts_mem hs' hf (fun a ha => hzo a (repCells_mem ha))) ?_
   intro F H O a w hc hcs hgl
   subst hgl
   refine ⟨cells.map At.den, CellsRel.map cells, ?_⟩
   have hfill := fill_run (gl := []) hc trivial hf hcs
   have hzc' : z.cells = (zero.map At.den).toArray := by rw [← hzc]
   have hparts : (parts.map fun p => (p.1, a.eval p.2)).toList = parts.toList.map fun p => (p.1, a.eval p.2) := by simp
   have hlim' : ¬ (len * size > 2 ^ 24) := by have : (2:Nat) ^ 24 = 16777216 := rfl; omega
   have hrep : ((Array.range (len * size)).map fun i => (zero.map At.den).toArray[i % (zero.map At.den).toArray.size]!) = ((repCells zero len).map At.den).toArray := by
    have := repCells_spec (zero.map At.den) (by rw [List.length_map, hzl]; exact hs0) len
    apply Array.ext'
    rw [repCells_den, ← this]
    simp [hzl]
   by_cases h0 : len * size = 0
   ·have hl0 : len = 0 := by
     rcases Nat.mul_eq_zero.1 h0 with h | h
     ·exact h
     ·exact absurd h hs0
    subst hl0
    simp only [repCells, List.map_nil] at hfill
    simp only [execOp, hop, Instr.buildSlice, Sem.run_bind, run_underlying' hu, Result.andThen_ok, run_sizeOf' hs, Nat.zero_mul, hparts]
    simp only [Nat.not_lt_zero, gt_iff_lt, if_false, if_true, Sem.run_bind, Sem.run_pure, Result.andThen_ok, show Array.range 0 = #[] from rfl, Array.map_empty, hfill, newRow, run_newObj]
    rfl
   ·simp only [execOp, hop, Instr.buildSlice, Sem.run_bind, run_underlying' hu, Result.andThen_ok, run_sizeOf' hs, hlim', if_false, h0, hzr, Sem.run_pure, hzc', hrep, hparts, hfill, newRow, run_newObj]
    rfl
  ·simp at h
 ·simp at h
theorem makeSlice_sound {name : Nat} {t : TypeId} {l c : Operand} {y : NF} {fp : FP} {n m : Nat} {elem : TypeId} (hop : o.op = .makeSlice t l c)
  (hg : guardOf (tgtOf ops) s o = .go gl) (hd : ∀ d, o.dst = some d → d < s.sz) (hl : constK l = some n) (hc0 : constK c = some m) (hu : P.underlying t = some (.slice elem))
  (h : makeSliceNF P s gl o.dst name t l c = some (y, fp)) : Sound P ops o s y := by
 unfold makeSliceNF at h
 rw [hl, hc0, hu] at h
 simp only [Option.bind_eq_some_iff] at h
 obtain ⟨size, hs, zero, hz, h⟩ := h
 split at h
 ·rename_i hcond
  simp only [Bool.and_eq_true, decide_eq_true_eq] at hcond
  obtain ⟨⟨⟨⟨hzl, hs0⟩, hnm⟩, hlim⟩, hby⟩ := hcond
  obtain ⟨z, hzr, hzc, hzk, hzo⟩ := zeroOf_run hz
  have hk : ∀ {x : Operand} {k : Nat}, constK x = some k → x = .const (.int .i64 k) ∧ k ≤ 65536 := by
   intro x k hx
   unfold constK at hx
   split at hx
   ·split at hx
    ·rename_i v hv
     simp only [Option.some.injEq] at hx
     subst hx
     exact ⟨by congr 2; omega, by omega⟩
    ·simp at hx
   ·simp at hx
  obtain ⟨rfl, hn6⟩ := hk hl
  obtain ⟨rfl, hm6⟩ := hk hc0
  refine boxed_sound hg hd h (fun _ => trivial) (fun _ => rfl) (fun _ => fun a ha => hzo a (repCells_mem ha)) ?_
  intro F H O a w hc hcs hgl
  subst hgl
  refine ⟨(repCells zero m).map At.den, CellsRel.map _, ?_⟩
  have hzc' : z.cells = (zero.map At.den).toArray := by rw [← hzc]
  have hrep : ((Array.range (m * size)).map fun i => (zero.map At.den).toArray[i % (zero.map At.den).toArray.size]!) = ((repCells zero m).map At.den).toArray := by
   have := repCells_spec (zero.map At.den) (by rw [List.length_map, hzl]; exact hs0) m
   apply Array.ext'
   rw [repCells_den, ← this]
   simp [hzl]
  cases hi : P.info? elem with
  | none => rw [hi] at hby; simp at hby
  | some i =>
   rw [hi] at hby
   simp only [Option.map_some, Option.getD_some, decide_eq_true_eq] at hby
   have w1 : IntKind.i64.wrap (n : Int) = n := by simp only [IntKind.wrap, IntKind.bits, IntKind.signed]; simp; omega
   have w2 : IntKind.i64.wrap (m : Int) = m := by simp only [IntKind.wrap, IntKind.bits, IntKind.signed]; simp; omega
   have hby' : ¬ ((i.bytes : Int) * (m : Int) > 2 ^ 48) := by
    have : ((i.bytes * m : Nat) : Int) ≤ ((2 ^ 48 : Nat) : Int) := Int.ofNat_le.2 hby
    have e : ((i.bytes * m : Nat) : Int) = (i.bytes : Int) * (m : Int) := Int.natCast_mul _ _
    have e2 : ((2 ^ 48 : Nat) : Int) = 2 ^ 48 := by rfl
    omega
   have hcnd : ¬ (((decide ((m : Int) < 0) || decide ((i.bytes : Int) * (m : Int) > 2 ^ 48)) || decide ((n : Int) < 0) || decide ((n : Int) > (m : Int))) = true) := by
    simp only [Bool.or_eq_true, decide_eq_true_eq]
    omega
   have hti : (typeInfo elem).run P w = .ok i w := by simp [typeInfo, hi]
   have hA : ∀ k : Nat, (asInt (.int .i64 (k : Int))).run P w = .ok (k : Int) w := fun k => rfl
   have hms : (Instr.makeSlice t (.int .i64 (n : Int)) (.int .i64 (m : Int))).run P w = .ok (.slice (some ⟨w.heap.size, 0, none⟩) n m) { w with heap := w.heap.push (.cells ((repCells zero m).map At.den).toArray elem (0, 0)) } := by
    unfold Instr.makeSlice
    rw [Sem.run_bind, run_underlying' hu]
    simp only [Result.andThen_ok]
    rw [Sem.run_bind, hA, Result.andThen_ok, Sem.run_bind, hA, Result.andThen_ok, Sem.run_bind, hti, Result.andThen_ok]
    simp only [w1, w2]
    rw [if_neg hcnd]
    by_cases h0 : m * size = 0
    ·have hm0 : m = 0 := (Nat.mul_eq_zero.1 h0).resolve_right hs0
     subst hm0
     simp only [Sem.run_bind, run_askRoom, run_sizeOf' hs, Result.andThen_ok, Int.toNat_natCast, Nat.zero_mul, if_true, Sem.run_pure, show Array.range 0 = #[] from rfl, Array.map_empty, newRow, run_newObj, repCells, List.map_nil]
    ·simp only [Sem.run_bind, run_askRoom, run_sizeOf' hs, Result.andThen_ok, Int.toNat_natCast, h0, if_false, hzr, Sem.run_pure, hzc', hrep, newRow, run_newObj]
   simp only [execOp, hop, Act.eval, Sem.run_bind, hms, Result.andThen_ok, Sem.run_pure]
   rfl
 ·simp at h
end Go.Sx

/- Every operation's normal form is sound: the rest, and the whole table. -/
namespace Go.Sx
open Go
variable {P : Program} {ops : Array Oper} {o : Oper} {s : SS} {gl : List (At × Bool)}
theorem isPtr_spec {y : Value} (h : isPtr y = true) : ∃ ad, y = .pointer (some ad) := by
 unfold isPtr at h; split at h
 ·exact ⟨_, rfl⟩
 ·simp at h
theorem nil_sound {x : Operand} {x' : At} {cs : List Ck} {y : NF} {fp : FP} (hop : o.op = .nilCheck x) (hx : opAt s gl x = some (x', cs))
  (hg : guardOf (tgtOf ops) s o = .go gl) (hd : ∀ d, o.dst = some d → d < s.sz) (h : nilNF gl o.dst x' cs = some (y, fp)) : Sound P ops o s y := by
 have hok := fun hs : s.Ok => opAt_ok hs hx
 unfold nilNF at h
 split at h
 ·refine plain_sound hg hd h (fun hs _ => ok_at (hok hs)) ?_
  intro F H O a w hc hcs hon
  have e := opAt_den hc hx hcs hon
  simp only [execOp, hop, e]; rfl
 ·refine plain_sound hg hd h (fun hs _ => ok_at (hok hs)) ?_
  intro F H O a w hc hcs hon
  have e := opAt_den hc hx hcs hon
  simp only [execOp, hop, e]; rfl
 ·refine plain_sound hg hd h (fun hs _ => ok_at (hok hs)) ?_
  intro F H O a w hc hcs hon
  have e := opAt_den hc hx hcs.2 hon
  obtain ⟨ad, had⟩ := isPtr_spec (hcs.1 hon)
  subst had
  simp only [execOp, hop, e]; rfl
 ·refine plain_sound hg hd h (fun hs _ => ok_at (hok hs)) ?_
  intro F H O a w hc hcs hon
  have e := opAt_den hc hx hcs.2 hon
  obtain ⟨ad, had⟩ := isPtr_spec (hcs.1 hon)
  subst had
  simp only [execOp, hop, e]; rfl
 ·refine plain_sound hg hd h (fun hs _ => ok_at (hok hs)) ?_
  intro F H O a w hc hcs hon
  have e := opAt_den hc hx hcs.2 hon
  obtain ⟨ad, had⟩ := isPtr_spec (hcs.1 hon)
  subst had
  simp only [execOp, hop, e]; rfl
 ·simp at h
theorem opS1s_two {s : SS} {gl : List (At × Bool)} {x y : Operand} {as : List S1} {cs : List Ck} (h : opS1s s gl [x, y] = some (as, cs)) : ∃ a b, as = [a, b] := by
 simp only [opS1s] at h
 split at h
 ·rename_i a c as' cs' h1 h2
  simp only [Option.some.injEq, Prod.mk.injEq] at h
  split at h2
  ·rename_i b c2 as2 cs2 h3 h4
   simp only [Option.some.injEq, Prod.mk.injEq] at h2 h4
   exact ⟨a, b, by rw [← h.1, ← h2.1, ← h4.1]⟩
  ·simp at h2
 ·simp at h
theorem eqv_run {op : BinOp} {t yt : TypeId} {x y : Operand} {X Y v : Value} (hop : o.op = .binOp op t x y yt) {a : Act} (ex : a.eval x = X) (ey : a.eval y = Y)
  (h : ∀ w, ((PrimOp.eqv op t (isConst x || isConst y)).sem [X, Y]).run P w = .ok (.value v) w) (w : World) : (execOp a.eval o).run P w = .ok (.value v) w := by
 have hw := h w
 simp only [PrimOp.sem] at hw
 simp only [execOp, hop, ex, ey]
 have : (eqGuard op t x y X Y) = (eqGuard op t (if (isConst x || isConst y) = true then .const undef else .global 0) (.global 0) X Y) := by
  unfold eqGuard
  cases x <;> cases y <;> rfl
 rw [this]; exact hw
theorem bin_sound {op : BinOp} {t yt : TypeId} {x y : Operand} {z : NF} {fp : FP} (hop : o.op = .binOp op t x y yt)
    (hg : guardOf (tgtOf ops) s o = .go gl) (hd : ∀ d, o.dst = some d → d < s.sz) (h : binNF P s gl o.dst op t x y = some (z, fp)) : Sound P ops o s z := by
  unfold binNF at h
  split at h
  · rename_i bk hbk
    simp only [Option.bind_eq_some_iff] at h
    obtain ⟨⟨as, cs⟩, hx, h⟩ := h
    obtain ⟨x', y', rfl⟩ := opAts_two hx
    simp only [Option.some.injEq, Prod.mk.injEq] at h
    obtain ⟨rfl, _⟩ := h
    refine pureNF_sound hg hd (by simp) ?_
    intro F H O a w v hc hcs hon he
    obtain ⟨e1, e2⟩ := eval_two hc hx hcs hon
    simp only [List.map_cons, List.map_nil, evalPure] at he
    simp only [execOp, hop, e1, e2]
    rw [Sem.run_bind, run_bin hbk he]; rfl
  · split at h
    all_goals first
      | (simp at h; done)
      | (simp only [Option.bind_eq_some_iff] at h
         obtain ⟨⟨as, cs⟩, hx, h⟩ := h
         obtain ⟨x', y', rfl⟩ := opS1s_two hx
         simp only [Option.some.injEq, Prod.mk.injEq] at h
         obtain ⟨rfl, _⟩ := h
         refine sound_quiet (X := fun vs => .at (.v (g vs 0))) hg hd ?_ ?_
         · rintro H O vs _ _ ⟨v, rfl, _, hone⟩; exact ok_at hone
         · rintro F H O a w vs hc hcs ⟨v, rfl, he, _⟩ hon
           have e := opS1s_den hc hx hcs hon
           simp only [List.map_cons, List.map_nil, List.cons.injEq, and_true] at e
           exact eqv_run hop e.1 e.2 (he hon) w)

theorem un_sound {op : UnOp} {t : TypeId} {x : Operand} {x' : At} {cs : List Ck} {z : NF} {fp : FP} (hop : o.op = .unOp op t x) (hx : opAt s gl x = some (x', cs))
    (hg : guardOf (tgtOf ops) s o = .go gl) (hd : ∀ d, o.dst = some d → d < s.sz) (h : unNF P gl o.dst op t x' cs = some (z, fp)) : Sound P ops o s z := by
  unfold unNF at h
  split at h
  all_goals first
    | (simp at h; done)
    | (simp only [Option.some.injEq, Prod.mk.injEq] at h
       obtain ⟨rfl, _⟩ := h
       refine pureNF_sound hg hd (by simp) ?_
       intro F H O a w v hc hcs hon he
       have e := opAt_den hc hx hcs hon
       simp only [List.map_cons, List.map_nil] at he
       simp only [execOp, hop, e]
       cases hv : x'.den <;> simp only [hv, evalPure, reduceCtorEq, evalInt, Option.some.injEq] at he
       subst he
       rfl)

theorem conv_sound {ta tb : TypeId} {x : Operand} {x' : At} {cs : List Ck} {z : NF} {fp : FP} (hop : o.op = .convert ta tb x) (hx : opAt s gl x = some (x', cs))
  (hg : guardOf (tgtOf ops) s o = .go gl) (hd : ∀ d, o.dst = some d → d < s.sz) (h : convNF P s gl o.dst ta tb x' cs = some (z, fp)) : Sound P ops o s z := by
 unfold convNF at h
 split at h
 ·rename_i k0 k hu1 hu2
  simp only [Option.some.injEq, Prod.mk.injEq] at h
  obtain ⟨rfl, _⟩ := h
  refine pureNF_sound hg hd (by simp) ?_
  intro F H O a w v hc hcs hon he
  have e := opAt_den hc hx hcs hon
  simp only [List.map_cons, List.map_nil] at he
  cases hv : x'.den <;> simp only [hv, evalPure, reduceCtorEq, Option.some.injEq] at he
  subst he
  simp only [execOp, hop, e, hv, convert, Sem.run_bind, run_underlying' hu1, run_underlying' hu2, Result.andThen_ok, Conv.intToInt, Sem.run_pure]
 ·split at h
  ·rename_i hgl
   have : gl = [] := by simpa using hgl
   subst this
   refine heavy_sound rfl hg hd h ?_
   intro F H O a w hc hcs H1 O1 R hT F1 hm next Q hn
   have e := opAt_den hc hx hcs trivial
   exact wp_prim hT hm (by simp only [execOp, hop, e, PrimOp.sem]) hn
  ·simp at h
theorem iface_sound {t : TypeId} {x : Operand} {z : NF} {fp : FP} (hop : o.op = .makeInterface t x)
  (hg : guardOf (tgtOf ops) s o = .go gl) (hd : ∀ d, o.dst = some d → d < s.sz) (h : ifaceNF P s gl o.dst t x = some (z, fp)) : Sound P ops o s z := by
 unfold ifaceNF at h
 split at h
 ·simp at h
 ·simp at h
 ·rename_i d hni hu
  simp only [Option.bind_eq_some_iff] at h
  obtain ⟨⟨v, cs⟩, hx, h⟩ := h
  simp only [] at h
  split at h
  ·refine plain_sound hg hd h (fun _ _ => ok_at rfl) ?_
   intro F H O a w hc hcs hon
   have e := opS1_den hc hx hcs hon
   simp only [execOp, hop, e, Instr.makeInterface, Sem.run_bind, run_underlying' hu, Result.andThen_ok]
   cases d <;> first | rfl | exact absurd hu (hni _)
  ·simp at h
theorem caps_spec : ∀ {as : List At} {l : List Cp}, capsOf as = some l → l.map Cp.den = as.map At.den
 | [], l, h => by simp only [capsOf, Option.some.injEq] at h; subst h; rfl
 | a :: r, l, h => by
  cases a <;> simp only [capsOf, Option.map_eq_some_iff, reduceCtorEq] at h
  all_goals
   obtain ⟨l', hl, rfl⟩ := h
   simp only [List.map_cons, caps_spec hl]
   rfl
theorem func_sound {f : FuncId} {first caps : Array Operand} {as : List At} {cs : List Ck} {l : List Cp} {z : NF} {fp : FP} (hop : o.op = .makeFunc (.func f) first caps) (hf : first.isEmpty = true)
  (hx : opAts s gl caps.toList = some (as, cs)) (hl : capsOf as = some l)
  (hg : guardOf (tgtOf ops) s o = .go gl) (hd : ∀ d, o.dst = some d → d < s.sz) (h : plainNF gl o.dst (.at (.clo f l)) cs = some (z, fp)) : Sound P ops o s z := by
 refine plain_sound hg hd h (fun _ _ => ok_at trivial) ?_
 intro F H O a w hc hcs hon
 have e := opAts_den hc hx hcs hon
 have : first = #[] := by simpa using hf
 subst this
 have hcaps : caps.map a.eval = (l.map Cp.den).toArray := by
  rw [caps_spec hl, ← e]; apply Array.ext'; simp
 simp only [execOp, hop, Instr.makeFunc, hcaps, Sem.run_bind, Sem.run_pure, Result.andThen_ok, Array.map_empty]
 rfl
theorem index_sound {t : TypeId} {x i : Operand} {x' : S1} {i' : At} {cx ci : List Ck} {z : NF} {fp : FP} (hop : o.op = .index t x i) (hx : opS1 s gl x = some (x', cx)) (hi : opAt s gl i = some (i', ci))
  (hg : guardOf (tgtOf ops) s o = .go gl) (hd : ∀ d, o.dst = some d → d < s.sz) (h : indexNF P gl o.dst t x' i' (cx ++ ci) = some (z, fp)) : Sound P ops o s z := by
 have ev : ∀ {F H O a w}, Conc F s H O a w → AllCk (cx ++ ci) → On (gden gl) → a.eval x = x'.den ∧ a.eval i = i'.den := by
  intro F H O a w hc hcs hon
  rw [AllCk.append] at hcs
  exact ⟨opS1_den hc hx hcs.1 hon, opAt_den hc hi hcs.2 hon⟩
 unfold indexNF at h
 split at h
 ·rename_i len elem cells hu
  simp only [Option.bind_eq_some_iff] at h
  obtain ⟨size, hs, h⟩ := h
  split at h
  ·rename_i n hn
   split at h
   ·rename_i hlt
    simp only [Option.bind_eq_some_iff] at h
    obtain ⟨v, hv, h⟩ := h
    refine plain_sound hg hd h (fun hs' _ a ha => opS1_ok hs' hx a (partS1_mem hv a ha)) ?_
    intro F H O a w hc hcs hon
    obtain ⟨e1, e2⟩ := ev hc hcs hon
    obtain ⟨k, hk⟩ := constNat_spec hn
    obtain ⟨m, hm⟩ := partS1_size hv
    have hb : (0 : Int) ≤ n ∧ (n : Int) < len := by omega
    have e1' : a.eval x = .agg (cells.map At.den).toArray := e1
    simp only [execOp, hop, e1', e2, hk, Instr.index, asIntOf, Sem.run_bind, Sem.run_pure, Result.andThen_ok, run_underlying' hu, if_pos hb, run_sizeOf' hs, Int.toNat_natCast, run_part hv w hm]
   ·simp at h
  ·split at h
   ·rename_i hcond
    simp only [Bool.and_eq_true, decide_eq_true_eq, Bool.not_eq_true'] at hcond
    obtain ⟨⟨⟨⟨h1, hA⟩, hl⟩, hfit⟩, _⟩ := hcond
    subst h1
    simp only [Option.some.injEq, Prod.mk.injEq] at h
    obtain ⟨rfl, _⟩ := h
    refine pureNF_sound hg hd ?_ ?_
    ·intro _
     by_cases hs' : s.Ok
     ·exact .inl (ones_map (by simpa using hfit) (opS1_ok hs' hx))
     ·exact .inr hs'
    ·intro F H O a w v hc hcs hon he
     obtain ⟨e1, e2⟩ := ev hc hcs hon
     simp only [List.map_cons, evalPure] at he
     have e1' : a.eval x = .agg (cells.map At.den).toArray := e1
     have hrun := run_aidx hu hs hA (by simpa using hl) he w
     simp only [execOp, hop, e1', e2, Sem.run_bind, hrun, Result.andThen_ok, Sem.run_pure]
   ·split at h
    ·rename_i hcond
     simp only [Bool.and_eq_true, decide_eq_true_eq, Bool.not_eq_true', List.isEmpty_iff] at hcond
     obtain ⟨⟨⟨⟨⟨hgl, h1⟩, hA⟩, hl⟩, hkn⟩, _⟩ := hcond
     subst hgl
     subst h1
     simp only [Option.some.injEq, Prod.mk.injEq] at h
     obtain ⟨rfl, _⟩ := h
     have hmem : ∀ n : Nat, n < cells.length → cells.getD n .any ∈ cells := fun n hn => by simp [List.getD, hn]
     refine sound_quiet (gl := []) (X := fun vs => .at (cells.getD (match g vs 0 with | .int _ n => n.toNat | _ => 0) .any)) hg hd ?_ ?_
     ·rintro H O vs hs' _ ⟨kd, j, hj, h0, h2, rfl⟩
      refine ok_at (opS1_ok hs' hx _ ?_)
      show cells.getD j.toNat .any ∈ cells
      exact hmem _ (by omega)
     ·rintro F H O a w vs hc hcs ⟨kd, j, hj, h0, h2, rfl⟩ hon
      obtain ⟨e1, e2⟩ := ev hc hcs hon
      have e1' : a.eval x = .agg (cells.map At.den).toArray := e1
      have he : evalPure .aidx (i'.den :: cells.map At.den) = some ((cells.getD j.toNat .any).den) := by
       rw [hj]
       simp only [evalPure, evalAidx, List.length_map]
       rw [if_pos ⟨h0, by omega⟩, List.getElem?_map]
       have : j.toNat < cells.length := by omega
       simp [List.getD, this]
      have hrun := run_aidx hu hs hA (by simpa using hl) he w
      simp only [execOp, hop, e1', e2, Sem.run_bind, hrun, Result.andThen_ok, Sem.run_pure]
      rfl
    ·simp at h
 ·rename_i x1 hu
  simp only [Option.some.injEq, Prod.mk.injEq] at h
  obtain ⟨rfl, _⟩ := h
  refine pureNF_sound hg hd (by simp) ?_
  intro F H O a w v hc hcs hon he
  obtain ⟨e1, e2⟩ := ev hc hcs hon
  simp only [List.map_cons, List.map_nil, evalPure] at he
  have e1' : a.eval x = x1.den := e1
  simp only [execOp, hop, e1', e2, Sem.run_bind, run_sidx hu he w, Result.andThen_ok, Sem.run_pure]
 ·simp at h
theorem extract_sound {x : Operand} {i : Nat} {z : NF} {fp : FP} (hop : o.op = .extract x i)
  (hg : guardOf (tgtOf ops) s o = .go gl) (hd : ∀ d, o.dst = some d → d < s.sz) (h : extractNF s gl o.dst x i = some (z, fp)) : Sound P ops o s z := by
 cases x with
 | tmp t =>
  simp only [extractNF] at h
  split at h
  ·rename_i l hl
   simp only [Option.bind_eq_some_iff] at h
   obtain ⟨v, hv, h⟩ := h
   split at h
   ·refine plain_sound hg hd h (fun hs _ => ?_) ?_
    ·have := hs.1 t; rw [hl] at this; exact this v (List.mem_of_getElem? hv)
    ·intro F H O a w hc hcs hon
     have ht := hc.tm t
     rw [hl] at ht
     have e : a.eval (.tmp t) = .tuple (l.map S1.den).toArray := ht
     have hget : ((l.map S1.den).toArray)[i]? = some v.den := by simp [hv]
     simp only [execOp, hop, e, Instr.extract, hget, Sem.run_bind, Sem.run_pure, Result.andThen_ok]
   ·simp at h
  ·simp at h
 | const v => simp [extractNF] at h
 | global n => simp [extractNF] at h
 | func f => simp [extractNF] at h
theorem one1_spec {α : Type} {l : List α} {x : α} (h : one1 l = some x) : l = [x] := by
 unfold one1 at h; split at h
 ·simp only [Option.some.injEq] at h; rw [h]
 ·simp at h
theorem two2_spec {α : Type} {l : List α} {x : α × α} (h : two2 l = some x) : l = [x.1, x.2] := by
 unfold two2 at h; split at h
 ·simp only [Option.some.injEq] at h; rw [← h]
 ·simp at h
theorem builtin_exec {c : Call} {b : Builtin} {a : Act} (hop : o.op = .call c) (hcal : c.callee = .builtin b) (hb : b ≠ .print) (hb' : b ≠ .println) (w : World) :
  (execOp a.eval o).run P w = (builtin b c.argTypes o.type #[] (c.args.map a.eval)).run P w := by
 simp only [execOp, hop, resolve, hcal, Sem.run_bind, Sem.run_pure, Result.andThen_ok, invoke]
 cases b <;> first | rfl | exact absurd rfl hb | exact absurd rfl hb'
theorem builtin_sound {c : Call} {b : Builtin} {z : NF} {fp : FP} (hop : o.op = .call c) (hcal : c.callee = .builtin b)
    (hg : guardOf (tgtOf ops) s o = .go gl) (hd : ∀ d, o.dst = some d → d < s.sz) (h : builtinNF P s gl o.dst o.type b c.argTypes c.args.toList = some (z, fp)) : Sound P ops o s z := by
  unfold builtinNF at h
  split at h
  · -- len
    simp only [Option.bind_eq_some_iff] at h
    obtain ⟨t, ht, x, hx, ⟨x', cs⟩, hx', h⟩ := h
    have ht' : c.argTypes = #[t] := by apply Array.ext'; simpa using one1_spec ht
    have hargs : c.args = #[x] := by apply Array.ext'; simpa using one1_spec hx
    have ex : ∀ {F H O a w}, Conc F s H O a w → AllCk cs → On (gden gl) → (execOp a.eval o).run P w = (Functor.map (fun v => Next.value v) (Builtin.len_ #[t] o.type #[x'.den])).run P w := by
      intro F H O a w hc hcs hon
      rw [builtin_exec hop hcal (by simp) (by simp), ht', hargs]
      have e := opAt_den hc hx' hcs hon
      simp only [builtin, List.map_toArray, List.map_cons, List.map_nil, e]
      rfl
    unfold lenNF at h
    split at h
    · rename_i e hu
      split at h
      · rename_i n r off m cp hxe
        simp only [] at hxe
        subst hxe
        refine plain_sound hg hd h (fun _ _ => ok_k _) ?_
        intro F H O a w hc hcs hon
        rw [ex hc hcs hon, Sem.run_map, run_len hu (x := (At.sl n r off m cp).den) (v := goInt m) rfl]; rfl
      · simp only [Option.some.injEq, Prod.mk.injEq] at h
        obtain ⟨rfl, _⟩ := h
        refine pureNF_sound hg hd (by simp) ?_
        intro F H O a w v hc hcs hon he
        rw [ex hc hcs hon, Sem.run_map, run_len hu he]; rfl
    · rename_i hu
      simp only [Option.some.injEq, Prod.mk.injEq] at h
      obtain ⟨rfl, _⟩ := h
      refine pureNF_sound hg hd (by simp) ?_
      intro F H O a w v hc hcs hon he
      rw [ex hc hcs hon, Sem.run_map, run_slen hu he]; rfl
    · rename_i n e hu
      refine plain_sound hg hd h (fun _ _ => ok_k _) ?_
      intro F H O a w hc hcs hon
      rw [ex hc hcs hon, Sem.run_map, run_alen hu]; rfl
    · rename_i k e hu
      split at h
      · rename_i hgl
        have : gl = [] := by simpa using hgl
        subst this
        refine heavy_sound rfl hg hd h ?_
        intro F H O a w hc hcs H1 O1 R hT F1 hm next Q hn
        exact wp_prim hT hm (by rw [ex hc hcs trivial]; rfl) hn
      · simp at h
    · simp at h
  · -- cap
    simp only [Option.bind_eq_some_iff] at h
    obtain ⟨t, ht, x, hx, ⟨x', cs⟩, hx', h⟩ := h
    have ht' : c.argTypes = #[t] := by apply Array.ext'; simpa using one1_spec ht
    have hargs : c.args = #[x] := by apply Array.ext'; simpa using one1_spec hx
    have ex : ∀ {F H O a w}, Conc F s H O a w → AllCk cs → On (gden gl) → (execOp a.eval o).run P w = (Functor.map (fun v => Next.value v) (Builtin.cap_ #[t] o.type #[x'.den])).run P w := by
      intro F H O a w hc hcs hon
      rw [builtin_exec hop hcal (by simp) (by simp), ht', hargs]
      have e := opAt_den hc hx' hcs hon
      simp only [builtin, List.map_toArray, List.map_cons, List.map_nil, e]
      rfl
    unfold capNF at h
    split at h
    · rename_i e hu
      split at h
      · rename_i n r off m cp hxe
        simp only [] at hxe
        subst hxe
        refine plain_sound hg hd h (fun _ _ => ok_k _) ?_
        intro F H O a w hc hcs hon
        rw [ex hc hcs hon, Sem.run_map, run_cap hu (x := (At.sl n r off m cp).den) (v := goInt cp) rfl]; rfl
      · simp only [Option.some.injEq, Prod.mk.injEq] at h
        obtain ⟨rfl, _⟩ := h
        refine pureNF_sound hg hd (by simp) ?_
        intro F H O a w v hc hcs hon he
        rw [ex hc hcs hon, Sem.run_map, run_cap hu he]; rfl
    · simp at h
  · -- min
    simp only [Option.bind_eq_some_iff] at h
    obtain ⟨⟨x, y⟩, hxy, ⟨as, cs⟩, hx, h⟩ := h
    have hargs : c.args = #[x, y] := by apply Array.ext'; simpa using two2_spec hxy
    obtain ⟨x', y', rfl⟩ := opAts_two hx
    simp only [Option.some.injEq, Prod.mk.injEq] at h
    obtain ⟨rfl, _⟩ := h
    refine pureNF_sound hg hd (by simp) ?_
    intro F H O a w v hc hcs hon he
    obtain ⟨e1, e2⟩ := eval_two hc hx hcs hon
    rw [builtin_exec hop hcal (by simp) (by simp), hargs]
    simp only [List.map_cons, List.map_nil] at he
    simp only [builtin, List.map_toArray, List.map_cons, List.map_nil, e1, e2]
    cases hv1 : x'.den <;> cases hv2 : y'.den <;> simp only [hv1, hv2, evalPure, reduceCtorEq, Option.some.injEq] at he
    subst he
    rw [Sem.run_bind, run_min_int2]; rfl
  · -- max
    simp only [Option.bind_eq_some_iff] at h
    obtain ⟨⟨x, y⟩, hxy, ⟨as, cs⟩, hx, h⟩ := h
    have hargs : c.args = #[x, y] := by apply Array.ext'; simpa using two2_spec hxy
    obtain ⟨x', y', rfl⟩ := opAts_two hx
    simp only [Option.some.injEq, Prod.mk.injEq] at h
    obtain ⟨rfl, _⟩ := h
    refine pureNF_sound hg hd (by simp) ?_
    intro F H O a w v hc hcs hon he
    obtain ⟨e1, e2⟩ := eval_two hc hx hcs hon
    rw [builtin_exec hop hcal (by simp) (by simp), hargs]
    simp only [List.map_cons, List.map_nil] at he
    simp only [builtin, List.map_toArray, List.map_cons, List.map_nil, e1, e2]
    cases hv1 : x'.den <;> cases hv2 : y'.den <;> simp only [hv1, hv2, evalPure, reduceCtorEq, Option.some.injEq] at he
    subst he
    rw [Sem.run_bind, run_max_int2]; rfl
  all_goals first
    | (simp at h; done)
    | (split at h
       · rename_i hgl
         have : gl = [] := by simpa using hgl
         subst this
         simp only [Option.bind_eq_some_iff] at h
         obtain ⟨⟨as, cs⟩, hx, h⟩ := h
         refine heavy_sound rfl hg hd h ?_
         intro F H O a w hc hcs H1 O1 R hT F1 hm next Q hn
         refine wp_prim hT hm ?_ hn
         rw [builtin_exec hop hcal (by simp) (by simp)]
         have e := opAts_den hc hx hcs trivial
         have : c.args.map a.eval = (as.map At.den).toArray := by rw [← e]; apply Array.ext'; simp
         rw [this]; rfl
       · simp at h)

theorem prim_sound {shp : Shp} {op : PrimOp} {xs : List Operand} {z : NF} {fp : FP}
  (hg : guardOf (tgtOf ops) s o = .go gl) (hd : ∀ d, o.dst = some d → d < s.sz) (h : primNF s gl o.dst shp op xs = some (z, fp))
  (hex : ∀ (a : Act) (vs : List Value) (w : World), xs.map a.eval = vs → (execOp a.eval o).run P w = (op.sem vs).run P w) : Sound P ops o s z := by
 unfold primNF at h
 split at h
 ·rename_i hgl
  have : gl = [] := by simpa using hgl
  subst this
  simp only [Option.bind_eq_some_iff] at h
  obtain ⟨⟨as, cs⟩, hx, h⟩ := h
  refine heavy_sound rfl hg hd h ?_
  intro F H O a w hc hcs H1 O1 R hT F1 hm next Q hn
  exact wp_prim hT hm (hex a _ w (opAts_den hc hx hcs trivial)) hn
 ·simp at h
theorem mapUpdate_sound {t : TypeId} {m k x : Operand} {z : NF} {fp : FP} (hdst : o.dst = none) (hop : o.op = .mapUpdate t m k x ∨ o.op = .insert t m k x)
  (hg : guardOf (tgtOf ops) s o = .go gl) (hd : ∀ d, o.dst = some d → d < s.sz) (h : primNF s gl o.dst .one (.mapUpdate t) [m, k, x] = some (z, fp)) : Sound P ops o s z := by
 unfold primNF at h
 split at h
 ·rename_i hgl
  have : gl = [] := by simpa using hgl
  subst this
  simp only [Option.bind_eq_some_iff] at h
  obtain ⟨⟨as, cs⟩, hx, h⟩ := h
  refine heavy_sound rfl hg hd h ?_
  intro F H O a w hc hcs H1 O1 R hT F1 hm next Q hn
  have e := opAts_den hc hx hcs trivial
  obtain ⟨v, w', H', O', hr, hR, hle, hm'⟩ := hT w F1 hm
  have hn' := hn v w' H' O' hR hle hm'
  rw [hdst] at hn'
  unfold Oper.wp
  have hs : (PrimOp.mapUpdate t).sem (as.map At.den) = (do Instr.mapUpdate t (a.eval m) (a.eval k) (a.eval x); pure (.value (.bool false)) : Sem Next) := by
   rw [← e]; rfl
  rw [hs, Sem.run_bind] at hr
  have hex : (execOp a.eval o).run P w = ((Instr.mapUpdate t (a.eval m) (a.eval k) (a.eval x)).run P w).andThen fun _ w' => .ok .skip w' := by
   rcases hop with hop | hop
   ·simp only [execOp, hop, Sem.run_bind, Sem.run_pure]
   ·simp only [execOp, hop, Sem.run_bind, Sem.run_pure]
  rw [hex]
  cases hmu : (Instr.mapUpdate t (a.eval m) (a.eval k) (a.eval x)).run P w with
  | ok u w1 =>
   rw [hmu] at hr
   simp only [Result.andThen_ok, Sem.run_pure, Result.ok.injEq] at hr
   obtain ⟨_, rfl⟩ := hr
   rw [Result.andThen_ok, Oper.upon_skip, hdst]
   exact hn'
  | halt u w1 => rw [hmu] at hr; simp at hr
 ·simp at h
theorem postEqs_spec (vs : List Value) : ∀ (l : List At) (i : Nat), AllCk (postEqs vs l i) → ∀ j a, l[j]? = some a → g vs (i + j) = a.den
 | [], _, _, j, a, h => by simp at h
 | b :: r, i, hc, 0, a, h => by simp at h; subst h; exact hc.1
 | b :: r, i, hc, j + 1, a, h => by
  have := postEqs_spec vs r (i + 1) hc.2 j a (by simpa using h)
  rwa [show i + 1 + j = i + (j + 1) by omega] at this
theorem ruleAts_len {x : At} : ∀ {offs : List Nat} {l : List At}, ruleAts x offs = some l → l.all (fun a => match a with | .p .. => true | _ => false) = true
 | [], l, h => by simp only [ruleAts, Option.some.injEq] at h; subst h; rfl
 | o :: r, l, h => by
  simp only [ruleAts] at h
  split at h
  ·rename_i hl
   simp only [Option.some.injEq] at h; subst h
   simp [ruleAts_len hl]
  ·simp at h
theorem call_sound {okf : FuncId → Bool} {rules : FuncId → Option (List Nat)} {c : Call} {f : Operand} {f' : At} {as : List S1} {cf ca : List Ck} {z : NF} {fp : FP} (hokf : ∀ f, okf f = true → OkFn P f)
  (hop : o.op = .call c) (hcal : c.callee = .value f) (hf : opAt s [] f = some (f', cf)) (ha : opS1s s [] c.args.toList = some (as, ca))
  (hg : guardOf (tgtOf ops) s o = .go []) (hd : ∀ d, o.dst = some d → d < s.sz) (h : callNF P okf rules s o.dst o.type f' as (cf ++ ca) = some (z, fp)) : Sound P ops o s z := by
 have ev : ∀ {F H O a w}, Conc F s H O a w → AllCk (cf ++ ca) → a.eval f = f'.den ∧ c.args.map a.eval = (as.map S1.den).toArray := by
  intro F H O a w hc hcs
  rw [AllCk.append] at hcs
  have e := opS1s_den hc ha hcs.2 trivial
  exact ⟨opAt_den hc hf hcs.1 trivial, by rw [← e]; apply Array.ext'; simp⟩
 unfold callNF at h
 simp only [Option.bind_eq_some_iff] at h
 obtain ⟨shp, hshp, h⟩ := h
 have hv : ∀ {x : Value} {atoms : List At} {z : NF} {fp : FP}, f'.den = x → heavyNF s o.dst shp (.callv x (as.map S1.den)) atoms (cf ++ ca) = some (z, fp) → Sound P ops o s z := by
  intro x atoms z fp hx h
  refine heavy_sound rfl hg hd h ?_
  rintro F H O a w hc hcs H1 O1 R ⟨n, caps, hfv, hokn, hT⟩ F1 hm next Q hn
  obtain ⟨e1, e2⟩ := ev hc hcs
  have e1' : a.eval f = .func (.func n) #[] caps := by rw [e1, hx, hfv]
  refine wp_enter hT hm ?_ hn
  rw [call_run hop hcal e1' hokn w, e2]
  congr 2
  apply Array.ext'; simp
 split at h
 ·rename_i n caps
  split at h
  ·split at h
   ·rename_i hce
    have hcaps : caps = [] := by simpa using hce
    subst hcaps
    refine heavy_sound rfl hg hd h ?_
    intro F H O a w hc hcs H1 O1 R hT F1 hm next Q hn
    obtain ⟨e1, e2⟩ := ev hc hcs
    have e1' : a.eval f = .func (.func n) #[] #[] := e1
    refine wp_prim hT hm ?_ hn
    simp only [execOp, hop, resolve, hcal, e1', Deferred.ofValue, Sem.run_bind, Sem.run_pure, Result.andThen_ok, invoke, Array.empty_append, Array.append_empty, PrimOp.sem, e2]
   ·simp at h
  ·rename_i hok
   have hokn : OkFn P n := hokf n (by simpa using hok)
   have hh : ∀ {atoms : List At} {z : NF} {fp : FP}, heavyNF s o.dst shp (.call n (as.map S1.den ++ caps.map Cp.den)) atoms (cf ++ ca) = some (z, fp) → Sound P ops o s z := by
    intro atoms z fp h
    refine heavy_sound rfl hg hd h ?_
    intro F H O a w hc hcs H1 O1 R hT F1 hm next Q hn
    obtain ⟨e1, e2⟩ := ev hc hcs
    refine wp_enter hT hm ?_ hn
    rw [call_run hop hcal e1 hokn w, e2]
    congr 2
    apply Array.ext'; simp
   split at h
   ·rename_i offs x hce hru hone
    have hcaps : caps = [] := by simpa using hce
    subst hcaps
    have has := one1_spec hone
    subst has
    simp only [Option.bind_eq_some_iff] at h
    obtain ⟨l, hl, h⟩ := h
    split at h
    ·rename_i hagg
     simp only [Option.some.injEq, Prod.mk.injEq] at h
     obtain ⟨rfl, _⟩ := h
     have hshape : shp = .agg l.length := by
      cases shp <;> simp [Shp.isAgg] at hagg
      rw [hagg]
     subst hshape
     refine sound_hv (hk := .call n [x.den]) (frz := []) (own := []) (shp := .agg l.length) (post := fun vs => postEqs vs l 0) (cs := cf ++ ca) (sv := fun _ => .s (.agg l)) hg hd (by simp) (by simp) (by simp) ?_ ?_
     ·intro v vs _ hopn hones hpost
      have hallp := ruleAts_len hl
      refine ⟨?_, ?_⟩
      ·show v = .agg (l.map At.den).toArray
       cases v with
       | agg cells =>
        simp only [Shp.open] at hopn
        split at hopn
        ·rename_i hsz
         simp only [Option.some.injEq] at hopn; subst hopn
         congr 1
         apply Array.ext'
         apply List.ext_getElem?
         intro j
         simp only [List.toList_toArray, List.getElem?_map]
         by_cases hj : j < l.length
         ·have hp := postEqs_spec cells.toList l 0 hpost j l[j] (by simp [hj])
          simp only [Nat.zero_add, g] at hp
          rw [List.getElem?_eq_getElem (by simp; omega), List.getElem?_eq_getElem hj]
          simp only [Option.map_some]
          rw [← hp]
          have hjc : j < cells.size := by omega
          simp [List.getD, hjc]
         ·rw [List.getElem?_eq_none (by simp; omega), List.getElem?_eq_none (by omega)]; rfl
        ·simp at hopn
       | _ => simp [Shp.open] at hopn
      ·intro a ha'
       rw [List.all_eq_true] at hallp
       have := hallp a ha'
       cases a <;> simp at this
       trivial
     ·intro F H O a w hc hcs H1 O1 R hT F1 hm next Q hn
      obtain ⟨e1, e2⟩ := ev hc hcs
      refine wp_enter hT hm ?_ hn
      rw [call_run hop hcal e1 hokn w, e2]
      rfl
    ·simp at h
   ·exact hh h
 ·exact hv rfl h
 ·exact hv rfl h
 ·simp at h
theorem nfGo_sound {okf : FuncId → Bool} {rules : FuncId → Option (List Nat)} {sp : Bool} {name : Nat} {y : NF} {fp : FP} (hokf : ∀ f, okf f = true → OkFn P f)
  (hg : guardOf (tgtOf ops) s o = .go gl) (hd : ∀ d, o.dst = some d → d < s.sz) (h : nfGo P okf rules sp name o gl s = some (y, fp)) : Sound P ops o s y := by
 unfold nfGo at h
 split at h
 ·rename_i x hop; exact move_sound (fun a w => by simp [execOp, hop]) hg hd h
 ·rename_i x hop; exact move_sound (fun a w => by simp [execOp, hop]) hg hd h
 ·rename_i c a b hop; exact pick_sound hop hg hd h
 ·rename_i T hop
  simp only [Option.bind_eq_some_iff] at h
  obtain ⟨cells, hz, h⟩ := h
  obtain ⟨z, hzr, hzc, hzk, hzo⟩ := zeroOf_run hz
  refine boxed_sound hg hd h (fun _ => trivial) (fun _ => rfl) (fun _ => hzo) ?_
  intro F H O a w hc hcs hgl
  refine ⟨cells.map At.den, CellsRel.map cells, ?_⟩
  have hzc' : z.cells = (cells.map At.den).toArray := by rw [← hzc]
  simp only [execOp, hop, Instr.alloc, Sem.run_bind, hzr, Result.andThen_ok, newVar, newRow, hzc', run_newObj, Sem.run_pure]
  rfl
 ·rename_i T x hop
  simp only [Option.bind_eq_some_iff] at h
  obtain ⟨⟨v, cs⟩, hx, h⟩ := h
  simp only [] at h
  split at h
  ·rename_i hfit
   refine boxed_sound hg hd h (fun _ => trivial) (fun _ => rfl) (fun hs => opS1_ok hs hx) ?_
   intro F H O a w hc hcs hgl
   subst hgl
   refine ⟨v.cells.map At.den, CellsRel.map v.cells, ?_⟩
   have e := opS1_den hc hx hcs trivial
   simp only [execOp, hop, e, Instr.box, Sem.run_bind, Result.andThen_ok, newVar, newRow, cells_den hfit (opS1_ok hc.ok hx), run_newObj, Sem.run_pure]
   rfl
  ·simp at h
 ·rename_i T parts hop; exact build_sound hop hg hd h
 ·rename_i T len parts hop; exact buildSlice_sound hop hg hd h
 ·rename_i t x hop
  simp only [Option.bind_eq_some_iff] at h
  obtain ⟨⟨x', cs⟩, hx, h⟩ := h
  exact loadNF_sound hop hx hg hd h
 ·rename_i t x y' hop
  split at h
  ·rename_i hcond
   simp only [Bool.and_eq_true, List.isEmpty_iff, Option.isNone_iff_eq_none] at hcond
   obtain ⟨rfl, hdst⟩ := hcond
   simp only [Option.bind_eq_some_iff] at h
   obtain ⟨⟨x', cs⟩, hx, ⟨y1, cs'⟩, hy, h⟩ := h
   exact storeNF_sound hop hdst hx hy hg h
  ·simp at h
 ·rename_i x hop
  simp only [Option.bind_eq_some_iff] at h
  obtain ⟨⟨x', cs⟩, hx, h⟩ := h
  exact nil_sound hop hx hg hd h
 ·rename_i op t x y' yt hop; exact bin_sound hop hg hd h
 ·rename_i op t x hop
  simp only [Option.bind_eq_some_iff] at h
  obtain ⟨⟨x', cs⟩, hx, h⟩ := h
  exact un_sound hop hx hg hd h
 ·rename_i a b x hop
  simp only [Option.bind_eq_some_iff] at h
  obtain ⟨⟨x', cs⟩, hx, h⟩ := h
  exact conv_sound hop hx hg hd h
 ·rename_i t x hop; exact iface_sound hop hg hd h
 ·rename_i f first caps hop
  split at h
  ·rename_i hf
   simp only [Option.bind_eq_some_iff] at h
   obtain ⟨⟨as, cs⟩, hx, l, hl, h⟩ := h
   exact func_sound hop hf hx hl hg hd h
  ·simp at h
 ·rename_i t x f hop
  simp only [Option.bind_eq_some_iff] at h
  obtain ⟨fd, hfd, m, hm, h⟩ := h
  split at h
  ·simp at h
  ·rename_i hm0
   simp only [Option.bind_eq_some_iff] at h
   obtain ⟨⟨x', cs⟩, hx, ⟨a', c⟩, hmv, h⟩ := h
   obtain ⟨h1, h2⟩ := moveAt_spec hmv
   refine plain_sound hg hd h (fun hs hcs => ok_at (h1 (AllCk.append.1 hcs).1 (opAt_ok hs hx))) ?_
   intro F H O a w hc hcs hon
   rw [AllCk.append] at hcs
   have e := opAt_den hc hx hcs.2 hon
   obtain ⟨ad, hxd, had⟩ := h2 hcs.1 hon
   simp only [execOp, hop, e, hxd, Sem.run_bind, run_fieldAt hfd hm hm0, Result.andThen_ok, Sem.run_pure, S1.den, had]
 ·rename_i t x f hop
  simp only [Option.bind_eq_some_iff] at h
  obtain ⟨fd, hfd, ⟨x', cs⟩, hx, v, hv, h⟩ := h
  split at h
  ·rename_i hagg
   obtain ⟨m, hm⟩ := partS1_size hv
   refine plain_sound hg hd h (fun hs _ a ha => opS1_ok hs hx a (partS1_mem hv a ha)) ?_
   intro F H O a w hc hcs hon
   have e := opS1_den hc hx hcs hon
   obtain ⟨fs, hu, hfs⟩ := fieldOf_spec hfd
   rcases x' with a' | l
   ·simp [S1.isAgg] at hagg
   ·have e' : a.eval x = .agg (l.map At.den).toArray := e
    have hp := run_part hv w hm
    simp only [execOp, hop, e', Instr.field, Sem.run_bind, run_underlying' hu, Result.andThen_ok, hfs, asAgg, Sem.run_pure]
    simp only [S1.cells] at hp
    rw [hp]; rfl
  ·simp at h
 ·rename_i t x i hop
  simp only [Option.bind_eq_some_iff] at h
  obtain ⟨⟨as, cs⟩, hx, ⟨x', i'⟩, h2, h⟩ := h
  have := two2_spec h2
  subst this
  exact indexAddr_sound hop hx hg hd h
 ·rename_i t x i hop
  simp only [Option.bind_eq_some_iff] at h
  obtain ⟨⟨x', cs⟩, hx, ⟨i', cs'⟩, hi, h⟩ := h
  exact index_sound hop hx hi hg hd h
 ·rename_i t x lo hi mx hop
  simp only [Option.bind_eq_some_iff] at h
  obtain ⟨⟨x', c0⟩, h0, ⟨l, c1⟩, h1, ⟨h', c2⟩, h2, ⟨m, c3⟩, h3, h⟩ := h
  exact slice_sound hop h0 h1 h2 h3 hg hd h
 ·rename_i x i hop; exact extract_sound hop hg hd h
 ·rename_i c hop
  split at h
  ·rename_i b hcal; exact builtin_sound hop hcal hg hd h
  ·rename_i f hcal
   split at h
   ·rename_i hgl
    have : gl = [] := by simpa using hgl
    subst this
    simp only [Option.bind_eq_some_iff] at h
    obtain ⟨⟨f', cf⟩, hf, ⟨as, ca⟩, ha, h⟩ := h
    exact call_sound hokf hop hcal hf ha hg hd h
   ·simp at h
  ·simp at h
 ·rename_i t l c hop
  cases hl : constK l with
  | none =>
   unfold makeSliceNF at h
   simp only [hl] at h
   refine prim_sound hg hd h ?_
   rintro a vs w rfl
   simp only [execOp, hop, PrimOp.sem, List.map_cons, List.map_nil]
  | some n =>
   cases hc : constK c with
   | none =>
    unfold makeSliceNF at h
    simp only [hl, hc] at h
    refine prim_sound hg hd h ?_
    rintro a vs w rfl
    simp only [execOp, hop, PrimOp.sem, List.map_cons, List.map_nil]
   | some m =>
    by_cases hu : ∃ e, P.underlying t = some (.slice e)
    ·obtain ⟨e, hu⟩ := hu
     exact makeSlice_sound hop hg hd hl hc hu h
    ·unfold makeSliceNF at h
     split at h
     ·rename_i e1 e2 hu'
      exact absurd ⟨_, hu'⟩ hu
     ·refine prim_sound hg hd h ?_
      rintro a vs w rfl
      simp only [execOp, hop, PrimOp.sem, List.map_cons, List.map_nil]
 ·rename_i t r hop
  refine prim_sound hg hd h ?_
  rintro a vs w rfl
  cases r <;> simp only [execOp, hop, PrimOp.sem, Option.toList, List.map_cons, List.map_nil, Option.isSome_none, Option.isSome_some, Option.map_none, Option.map_some]
 ·rename_i t x i ok hop
  refine prim_sound hg hd h ?_
  rintro a vs w rfl
  simp only [execOp, hop, PrimOp.sem, List.map_cons, List.map_nil]
 ·rename_i t m k x hop
  split at h
  ·rename_i hdst
   exact mapUpdate_sound (by simpa using hdst) (.inl hop) hg hd h
  ·simp at h
 ·rename_i t m k x hop
  split at h
  ·rename_i hdst
   exact mapUpdate_sound (by simpa using hdst) (.inr hop) hg hd h
  ·simp at h
 ·rename_i t x hop
  refine prim_sound hg hd h ?_
  rintro a vs w rfl
  simp only [execOp, hop, PrimOp.sem, List.map_cons, List.map_nil]
 ·rename_i x hop
  refine prim_sound hg hd h ?_
  rintro a vs w rfl
  simp only [execOp, hop, PrimOp.sem, List.map_cons, List.map_nil]
 ·rename_i x str hop
  refine prim_sound hg hd h ?_
  rintro a vs w rfl
  simp only [execOp, hop, PrimOp.sem, List.map_cons, List.map_nil]
 ·simp at h
theorem nf_sound {okf : FuncId → Bool} {rules : FuncId → Option (List Nat)} {sp : Bool} {name : Nat} {y : NF} {fp : FP} (hokf : ∀ f, okf f = true → OkFn P f)
  (h : nf P okf rules (tgtOf ops) sp name o s = some (y, fp)) : Sound P ops o s y := by
 unfold nf at h
 split at h
 ·simp at h
 ·rename_i hdst
  have hd : ∀ d, o.dst = some d → d < s.sz := by
   intro d hd
   simp only [hd, dstOk, Bool.not_eq_true', decide_eq_false_iff_not, Decidable.not_not] at hdst
   exact hdst
  split at h
  ·simp at h
  ·rename_i hg
   simp only [Option.some.injEq, Prod.mk.injEq] at h
   obtain ⟨rfl, _⟩ := h
   exact sound_skip hg hd
  ·rename_i gl hg
   exact nfGo_sound hokf hg hd h
end Go.Sx

/- The normal form hangs on what it looks at alone. -/
namespace Go.Sx
open Go
variable {P : Program} {s s' : SS} {gl : List (At × Bool)}
/-- The two states agree at an operand's slot. -/
def Ea (s s' : SS) (x : Operand) : Prop := ∀ t, x = .tmp t → s'.tmps t = s.tmps t
theorem opS1_congr {x : Operand} (h : Ea s s' x) : opS1 s' gl x = opS1 s gl x := by
 cases x with
 | tmp t => simp only [opS1, h t rfl]
 | _ => rfl
theorem opAt_congr {x : Operand} (h : Ea s s' x) : opAt s' gl x = opAt s gl x := by
 simp only [opAt, opS1_congr h]
theorem opAts_congr : ∀ {xs : List Operand}, (∀ x ∈ xs, Ea s s' x) → opAts s' gl xs = opAts s gl xs
 | [], _ => rfl
 | x :: r, h => by simp only [opAts, opAt_congr (h x (by simp)), opAts_congr (xs := r) (fun y hy => h y (by simp [hy]))]
theorem opS1s_congr : ∀ {xs : List Operand}, (∀ x ∈ xs, Ea s s' x) → opS1s s' gl xs = opS1s s gl xs
 | [], _ => rfl
 | x :: r, h => by simp only [opS1s, opS1_congr (h x (by simp)), opS1s_congr (xs := r) (fun y hy => h y (by simp [hy]))]
theorem fillParts_congr {place : Nat → Option (Nat × Nat)} : ∀ {parts : List (Nat × Operand)} {cells : List At}, (∀ p ∈ parts, Ea s s' p.2) →
  fillParts s' gl place parts cells = fillParts s gl place parts cells
 | [], _, _ => rfl
 | (i, x) :: r, cells, h => by
  have h1 := opS1_congr (gl := gl) (h (i, x) (by simp))
  simp only [] at h1
  simp only [fillParts, h1]
  split
  ·split
   ·rw [fillParts_congr (fun p hp => h p (by simp [hp]))]
   ·rfl
  ·rfl
theorem reachSl_sub : ∀ (fuel : Nat) (r acc : List Nat), (∀ n ∈ acc, n ∈ reachSl s fuel r acc)
 | 0, r, acc, n, h => by cases r <;> simp [reachSl, h]
 | fuel + 1, [], acc, n, h => by simpa [reachSl] using h
 | fuel + 1, m :: r, acc, n, h => by
  simp only [reachSl]
  split
  ·exact reachSl_sub fuel _ _ n h
  ·split
   ·exact reachSl_sub fuel _ _ n (by simp [h])
   ·exact reachSl_sub fuel _ _ n (by simp [h])
theorem reachSl_congr : ∀ (fuel : Nat) (r acc : List Nat), (∀ n ∈ reachSl s fuel r acc, s'.mem n = s.mem n) → reachSl s' fuel r acc = reachSl s fuel r acc
 | 0, r, acc, _ => by cases r <;> simp [reachSl]
 | fuel + 1, [], acc, _ => by simp [reachSl]
 | fuel + 1, m :: r, acc, h => by
  simp only [reachSl] at h ⊢
  split
  ·rename_i hc
   simp only [hc, if_true] at h
   exact reachSl_congr fuel _ _ h
  ·rename_i hc
   simp only [hc] at h
   have hm : s'.mem m = s.mem m := by
    apply h
    simp only [Bool.false_eq_true, if_false]
    split
    ·exact reachSl_sub fuel _ _ m (by simp)
    ·exact reachSl_sub fuel _ _ m (by simp)
   rw [hm]
   cases hs : s.mem m with
   | none => simp only [hs, Bool.false_eq_true, if_false] at h; exact reachSl_congr fuel _ _ h
   | some b => simp only [hs, Bool.false_eq_true, if_false] at h; exact reachSl_congr fuel _ _ h
theorem reachP_sub : ∀ (fuel : Nat) (r acc : List Nat), (∀ n ∈ acc, n ∈ reachP s fuel r acc)
 | 0, r, acc, n, h => by cases r <;> simp [reachP, h]
 | fuel + 1, [], acc, n, h => by simpa [reachP] using h
 | fuel + 1, m :: r, acc, n, h => by
  simp only [reachP]
  split
  ·exact reachP_sub fuel _ _ n h
  ·split
   ·exact reachP_sub fuel _ _ n (by simp [h])
   ·exact reachP_sub fuel _ _ n (by simp [h])
theorem reachP_congr : ∀ (fuel : Nat) (r acc : List Nat), (∀ n ∈ reachP s fuel r acc, s'.mem n = s.mem n) → reachP s' fuel r acc = reachP s fuel r acc
 | 0, r, acc, _ => by cases r <;> simp [reachP]
 | fuel + 1, [], acc, _ => by simp [reachP]
 | fuel + 1, m :: r, acc, h => by
  simp only [reachP] at h ⊢
  split
  ·rename_i hc
   simp only [hc, if_true] at h
   exact reachP_congr fuel _ _ h
  ·rename_i hc
   simp only [hc] at h
   have hm : s'.mem m = s.mem m := by
    apply h
    simp only [Bool.false_eq_true, if_false]
    split
    ·exact reachP_sub fuel _ _ m (by simp)
    ·exact reachP_sub fuel _ _ m (by simp)
   rw [hm]
   cases hs : s.mem m with
   | none => simp only [hs, Bool.false_eq_true, if_false] at h; exact reachP_congr fuel _ _ h
   | some b => simp only [hs, Bool.false_eq_true, if_false] at h; exact reachP_congr fuel _ _ h
theorem slOfBoxes_congr : ∀ (l acc : List Nat), (∀ n ∈ l, s'.mem n = s.mem n) → slOfBoxes s' l acc = slOfBoxes s l acc
 | [], _, _ => rfl
 | n :: r, acc, h => by
  simp only [slOfBoxes, h n (by simp)]
  exact slOfBoxes_congr r _ (fun m hm => h m (by simp [hm]))
theorem liveBoxes_congr {l : List Nat} (h : ∀ n ∈ l, s'.mem n = s.mem n) : liveBoxes s' l = liveBoxes s l := by
 unfold liveBoxes
 induction l with
 | nil => rfl
 | cons n r ih => simp only [List.filterMap_cons, h n (by simp), ih (fun m hm => h m (by simp [hm]))]
theorem heavyNF_congr {dst : Option Tmp} {shp : Shp} {hk : HK} {atoms : List At} {cs : List Ck} {y : NF} {fp : FP} (h : heavyNF s dst shp hk atoms cs = some (y, fp))
  (hm : ∀ n ∈ fp.reads, s'.mem n = s.mem n) : heavyNF s' dst shp hk atoms cs = some (y, fp) := by
 have hr : fp.reads = reachP s 50 (namesP atoms []) [] ++ reachSl s 50 (slOfBoxes s (reachP s 50 (namesP atoms []) []) (namesSl atoms [])) [] := by
  unfold heavyNF at h
  simp only [] at h
  split at h
  ·simp only [Option.some.injEq, Prod.mk.injEq] at h; rw [← h.2]
  ·simp at h
 rw [hr] at hm
 have h1 : reachP s' 50 (namesP atoms []) [] = reachP s 50 (namesP atoms []) [] := reachP_congr _ _ _ (fun n hn => hm n (by simp [hn]))
 have h2 := slOfBoxes_congr (s := s) (s' := s') (reachP s 50 (namesP atoms []) []) (namesSl atoms []) (fun n hn => hm n (by simp [hn]))
 have h3 := reachSl_congr (s := s) (s' := s') 50 (slOfBoxes s (reachP s 50 (namesP atoms []) []) (namesSl atoms [])) [] (fun n hn => hm n (by simp [hn]))
 rw [← h]
 unfold heavyNF
 simp only [h1, h2, h3]
 rw [liveBoxes_congr (s := s) (s' := s') (l := reachSl s 50 (slOfBoxes s (reachP s 50 (namesP atoms []) []) (namesSl atoms [])) []) (fun n hn => hm n (by simp [hn]))]
 rw [liveBoxes_congr (s := s) (s' := s') (l := List.filter _ _) (fun n hn => hm n (by simp only [List.mem_append]; exact .inl (List.mem_filter.1 hn).1))]
theorem loadNF_congr {dst : Option Tmp} {t : TypeId} {x : At} {cs : List Ck} {y : NF} {fp : FP} (h : loadNF P s gl dst t x cs = some (y, fp))
  (hm : ∀ n ∈ fp.reads, s'.mem n = s.mem n) : loadNF P s' gl dst t x cs = some (y, fp) := by
 cases x with
 | p n r off =>
  have hn : s'.mem n = s.mem n := by
   apply hm
   unfold loadNF at h
   simp only [Option.bind_eq_some_iff] at h
   obtain ⟨m, _, h⟩ := h
   split at h
   ·split at h
    ·simp only [Option.map_eq_some_iff, Prod.mk.injEq] at h
     obtain ⟨_, _, _, rfl⟩ := h
     simp
    ·simp at h
   ·split at h
    ·simp at h
    ·simp only [Option.some.injEq, Prod.mk.injEq] at h
     obtain ⟨_, rfl⟩ := h
     simp [refName]
  rw [← h]; simp only [loadNF, hn]
 | _ => rw [← h]; simp only [loadNF]
theorem storeNF_congr {t : TypeId} {x : At} {z : S1} {cs : List Ck} {y : NF} {fp : FP} (h : storeNF P s t x z cs = some (y, fp))
  (hm : ∀ n ∈ fp.reads, s'.mem n = s.mem n) : storeNF P s' t x z cs = some (y, fp) := by
 cases x with
 | p n r off =>
  have hn : s'.mem n = s.mem n := by
   apply hm
   unfold storeNF at h
   simp only [Option.bind_eq_some_iff] at h
   obtain ⟨m, _, h⟩ := h
   split at h
   ·simp at h
   ·split at h
    ·split at h
     ·simp only [Option.some.injEq, Prod.mk.injEq] at h
      obtain ⟨_, rfl⟩ := h
      simp
     ·simp at h
    ·simp at h
  rw [← h]; simp only [storeNF, hn]
 | _ => rw [← h]; simp only [storeNF]
theorem boxedNF_congr {dst : Option Tmp} {name : Nat} {T : TypeId} {cells : List At} {val : Nat → At} {cs : List Ck} {y : NF} {fp : FP} (h : boxedNF s gl dst name T cells val cs = some (y, fp))
  (hm : ∀ n ∈ fp.reads, s'.mem n = s.mem n) : boxedNF s' gl dst name T cells val cs = some (y, fp) := by
 have hn : s'.mem name = s.mem name := by
  apply hm
  unfold boxedNF at h
  split at h
  ·simp only [Option.some.injEq, Prod.mk.injEq] at h; rw [← h.2]; simp
  ·simp at h
 rw [← h]; simp only [boxedNF, hn]
theorem primNF_congr {dst : Option Tmp} {shp : Shp} {op : PrimOp} {xs : List Operand} {y : NF} {fp : FP} (hx : ∀ x ∈ xs, Ea s s' x) (h : primNF s gl dst shp op xs = some (y, fp))
  (hm : ∀ n ∈ fp.reads, s'.mem n = s.mem n) : primNF s' gl dst shp op xs = some (y, fp) := by
 unfold primNF at h ⊢
 split at h
 ·rename_i hg
  rw [if_pos hg, opAts_congr hx]
  simp only [Option.bind_eq_some_iff] at h ⊢
  obtain ⟨a, ha, h⟩ := h
  exact ⟨a, ha, heavyNF_congr h hm⟩
 ·simp at h
theorem bind_congr' {α β : Type} {x x' : Option α} {f f' : α → Option β} {y : β} (h : x.bind f = some y) (hx : x' = x) (hf : ∀ a, x = some a → f a = some y → f' a = some y) : x'.bind f' = some y := by
 subst hx
 simp only [Option.bind_eq_some_iff] at h ⊢
 obtain ⟨a, ha, h⟩ := h
 exact ⟨a, ha, hf a ha h⟩
theorem moveNF_congr {dst : Option Tmp} {sp : Bool} {x : Operand} (hx : Ea s s' x) : moveNF s' gl dst sp x = moveNF s gl dst sp x := by
 unfold moveNF
 rw [opAt_congr hx, opS1_congr hx]
 cases x with
 | tmp t => simp only [hx t rfl]
 | _ => rfl
theorem pickNF_congr {dst : Option Tmp} {c a b : Operand} (hc : Ea s s' c) (ha : Ea s s' a) (hb : Ea s s' b) : pickNF s' gl dst c a b = pickNF s gl dst c a b := by
 unfold pickNF
 rw [opAt_congr hc]
 simp only [opAt_congr ha, opAt_congr hb, opS1_congr ha, opS1_congr hb]
theorem extractNF_congr {dst : Option Tmp} {x : Operand} {i : Nat} (hx : Ea s s' x) : extractNF s' gl dst x i = extractNF s gl dst x i := by
 unfold extractNF
 cases x with
 | tmp t => simp only [hx t rfl]
 | _ => rfl
theorem lenNF_congr {dst : Option Tmp} {ty t : TypeId} {x : At} {cs : List Ck} {y : NF} {fp : FP} (h : lenNF P s gl dst ty t x cs = some (y, fp))
    (hm : ∀ n ∈ fp.reads, s'.mem n = s.mem n) : lenNF P s' gl dst ty t x cs = some (y, fp) := by
  unfold lenNF at h ⊢
  split at h <;> first
    | exact h
    | (split at h
       · exact h
       · exact h)
    | (split at h
       · rename_i hg; rw [if_pos hg]; exact heavyNF_congr h hm
       · simp at h; done)
    | (simp at h; done)
theorem builtinNF_congr {dst : Option Tmp} {ty : TypeId} {b : Builtin} {ats : Array TypeId} {args : List Operand} {y : NF} {fp : FP} (hx : ∀ x ∈ args, Ea s s' x)
    (h : builtinNF P s gl dst ty b ats args = some (y, fp)) (hm : ∀ n ∈ fp.reads, s'.mem n = s.mem n) : builtinNF P s' gl dst ty b ats args = some (y, fp) := by
  have heavy : ∀ (b : Builtin) (sh : Shp), (if gl.isEmpty then (opAts s gl args).bind fun (as, cs) => heavyNF s dst sh (.prim (.bi b ats ty) (as.map At.den)) as cs else none) = some (y, fp) →
      (if gl.isEmpty then (opAts s' gl args).bind fun (as, cs) => heavyNF s' dst sh (.prim (.bi b ats ty) (as.map At.den)) as cs else none) = some (y, fp) := by
    intro b sh h
    split at h
    · rename_i hg
      rw [if_pos hg]
      exact bind_congr' h (opAts_congr hx) fun _ _ h => heavyNF_congr h hm
    · simp at h
  cases b <;> simp only [builtinNF] at h ⊢ <;> first
    | exact heavy _ _ h
    | (simp at h; done)
    | (refine bind_congr' h rfl fun t _ h => bind_congr' h rfl fun x hx' h => ?_
       have : args = [x] := one1_spec hx'
       subst this
       refine bind_congr' h (opAt_congr (hx x (by simp))) fun a _ h => ?_
       first
         | exact lenNF_congr h hm
         | exact h)
    | (refine bind_congr' h rfl fun p hp h => ?_
       obtain ⟨x, y⟩ := p
       have : args = [x, y] := two2_spec hp
       subst this
       exact bind_congr' h (opAts_congr hx) fun a _ h => h)
theorem callNF_congr {okf : FuncId → Bool} {rules : FuncId → Option (List Nat)} {dst : Option Tmp} {ty : TypeId} {f : At} {as : List S1} {cs : List Ck} {y : NF} {fp : FP}
  (h : callNF P okf rules s dst ty f as cs = some (y, fp)) (hm : ∀ n ∈ fp.reads, s'.mem n = s.mem n) : callNF P okf rules s' dst ty f as cs = some (y, fp) := by
 unfold callNF at h ⊢
 refine bind_congr' h rfl fun shp _ h => ?_
 cases f with
 | clo n caps =>
  simp only [] at h ⊢
  split at h
  ·rename_i hok
   rw [if_pos hok]
   split at h
   ·rename_i hc; rw [if_pos hc]; exact heavyNF_congr h hm
   ·simp at h
  ·rename_i hok
   rw [if_neg hok]
   split at h
   ·exact h
   ·exact heavyNF_congr h hm
 | v x => exact heavyNF_congr h hm
 | k x => exact heavyNF_congr h hm
 | _ => simp at h
theorem binNF_congr {dst : Option Tmp} {op : BinOp} {t : TypeId} {x z : Operand} {y : NF} {fp : FP} (hx : ∀ u ∈ [x, z], Ea s s' u) (h : binNF P s gl dst op t x z = some (y, fp)) : binNF P s' gl dst op t x z = some (y, fp) := by
 rw [← h]
 simp only [binNF, opAts_congr hx, opS1s_congr hx]
theorem convNF_congr {dst : Option Tmp} {a b : TypeId} {x : At} {cs : List Ck} {y : NF} {fp : FP} (h : convNF P s gl dst a b x cs = some (y, fp))
  (hm : ∀ n ∈ fp.reads, s'.mem n = s.mem n) : convNF P s' gl dst a b x cs = some (y, fp) := by
 unfold convNF at h ⊢
 split at h
 ·exact h
 ·split at h
  ·rename_i hg; rw [if_pos hg]; exact heavyNF_congr h hm
  ·simp at h
theorem ifaceNF_congr {dst : Option Tmp} {t : TypeId} {x : Operand} (hx : Ea s s' x) : ifaceNF P s' gl dst t x = ifaceNF P s gl dst t x := by
 simp only [ifaceNF, opS1_congr hx]
theorem buildNF_congr {dst : Option Tmp} {T : TypeId} {parts : List (Nat × Operand)} (hx : ∀ p ∈ parts, Ea s s' p.2) : buildNF P s' gl dst T parts = buildNF P s gl dst T parts := by
 simp only [buildNF, fillParts_congr hx]
theorem buildSliceNF_congr {dst : Option Tmp} {name len : Nat} {T : TypeId} {parts : List (Nat × Operand)} {y : NF} {fp : FP} (hx : ∀ p ∈ parts, Ea s s' p.2) (h : buildSliceNF P s gl dst name T len parts = some (y, fp))
  (hm : ∀ n ∈ fp.reads, s'.mem n = s.mem n) : buildSliceNF P s' gl dst name T len parts = some (y, fp) := by
 unfold buildSliceNF at h ⊢
 split at h
 ·refine bind_congr' h rfl fun size _ h => bind_congr' h rfl fun zero _ h => ?_
  split at h
  ·rename_i hc
   rw [if_pos hc]
   exact bind_congr' h (fillParts_congr hx) fun _ _ h => boxedNF_congr h hm
  ·simp at h
 ·simp at h
theorem nfGo_congr {okf : FuncId → Bool} {rules : FuncId → Option (List Nat)} {sp : Bool} {name : Nat} {o : Oper} {y : NF} {fp : FP} (h : nfGo P okf rules sp name o gl s = some (y, fp))
  (hx : ∀ x ∈ o.op.operands.toList, Ea s s' x) (hm : ∀ n ∈ fp.reads, s'.mem n = s.mem n) : nfGo P okf rules sp name o gl s' = some (y, fp) := by
 unfold nfGo at h ⊢
 cases hop : o.op <;> simp only [hop, Op.operands] at h hx ⊢
 all_goals try (simp at h; done)
 case move x => rw [moveNF_congr (hx x (by simp))]; exact h
 case assign x => rw [moveNF_congr (hx x (by simp))]; exact h
 case pick c a b => rw [pickNF_congr (hx c (by simp)) (hx a (by simp)) (hx b (by simp))]; exact h
 case alloc T => exact bind_congr' h rfl fun _ _ h => boxedNF_congr h hm
 case box T x =>
  refine bind_congr' h (opS1_congr (hx x (by simp))) fun a _ h => ?_
  obtain ⟨v, cs⟩ := a
  simp only [] at h ⊢
  split at h
  ·rename_i hc; rw [if_pos hc]; exact boxedNF_congr h hm
  ·simp at h
 case build T parts => rw [buildNF_congr (fun p hp => hx p.2 (List.mem_map_of_mem hp))]; exact h
 case buildSlice T len parts => exact buildSliceNF_congr (fun p hp => hx p.2 (List.mem_map_of_mem hp)) h hm
 case load t x => exact bind_congr' h (opAt_congr (hx x (by simp))) fun _ _ h => loadNF_congr h hm
 case store t x z =>
  split at h
  ·rename_i hc
   rw [if_pos hc]
   exact bind_congr' h (opAt_congr (hx x (by simp))) fun _ _ h => bind_congr' h (opS1_congr (hx z (by simp))) fun _ _ h => storeNF_congr h hm
  ·simp at h
 case nilCheck x => exact bind_congr' h (opAt_congr (hx x (by simp))) fun _ _ h => h
 case binOp op t x z _ => exact binNF_congr (fun u hu => hx u (by simpa using hu)) h
 case unOp op t x => exact bind_congr' h (opAt_congr (hx x (by simp))) fun _ _ h => h
 case convert a b x => exact bind_congr' h (opAt_congr (hx x (by simp))) fun _ _ h => convNF_congr h hm
 case makeInterface t x => rw [ifaceNF_congr (hx x (by simp))]; exact h
 case makeFunc f first caps =>
  cases f with
  | func f =>
   simp only [] at h ⊢
   split at h
   ·rename_i hc
    rw [if_pos hc]
    exact bind_congr' h (opAts_congr (fun x hx' => hx x (by simp at hx' ⊢; exact .inr hx'))) fun _ _ h => h
   ·simp at h
  | _ => simp at h
 case fieldAddr t x f =>
  refine bind_congr' h rfl fun _ _ h => bind_congr' h rfl fun m _ h => ?_
  split at h
  ·simp at h
  ·rename_i hc
   rw [if_neg hc]
   exact bind_congr' h (opAt_congr (hx x (by simp))) fun _ _ h => h
 case field t x f => exact bind_congr' h rfl fun _ _ h => bind_congr' h (opS1_congr (hx x (by simp))) fun _ _ h => h
 case indexAddr t x i => exact bind_congr' h (opAts_congr (fun u hu => hx u (by simpa using hu))) fun _ _ h => h
 case index t x i => exact bind_congr' h (opS1_congr (hx x (by simp))) fun _ _ h => bind_congr' h (opAt_congr (hx i (by simp))) fun _ _ h => h
 case slice t x lo hi mx =>
  refine bind_congr' h (opAt_congr (hx x (by simp))) fun _ _ h => bind_congr' h (opAts_congr (fun u hu => hx u (by simp at hu ⊢; simp [hu]))) fun _ _ h =>
   bind_congr' h (opAts_congr (fun u hu => hx u (by simp at hu ⊢; simp [hu]))) fun _ _ h => bind_congr' h (opAts_congr (fun u hu => hx u (by simp at hu ⊢; simp [hu]))) fun _ _ h => h
 case extract x i => rw [extractNF_congr (hx x (by simp))]; exact h
 case call c =>
  cases hc : c.callee with
  | builtin b =>
   simp only [hc] at h ⊢
   exact builtinNF_congr (fun x hx' => hx x (by simp only [Call.operands, hc]; simp at hx' ⊢; simp [hx'])) h hm
  | value f =>
   simp only [hc] at h ⊢
   split at h
   ·rename_i hg
    rw [if_pos hg]
    exact bind_congr' h (opAt_congr (hx f (by simp [Call.operands, hc]))) fun _ _ h => bind_congr' h (opS1s_congr (fun x hx' => hx x (by simp only [Call.operands, hc]; simp at hx' ⊢; simp [hx']))) fun _ _ h => callNF_congr h hm
   ·simp at h
  | _ => simp [hc] at h
 case makeSlice t l c =>
  unfold makeSliceNF at h ⊢
  split at h
  ·refine bind_congr' h rfl fun size _ h => bind_congr' h rfl fun zero _ h => ?_
   split at h
   ·rename_i hc
    rw [if_pos hc]
    exact boxedNF_congr h hm
   ·simp at h
  ·exact primNF_congr (fun x hx' => hx x (by simpa using hx')) h hm
 case makeMap t r => exact primNF_congr (fun x hx' => hx x (by simpa using hx')) h hm
 case lookup t x i ok => exact primNF_congr (fun u hu => hx u (by simpa using hu)) h hm
 case mapUpdate t m k x =>
  split at h
  ·rename_i hc; rw [if_pos hc]; exact primNF_congr (fun u hu => hx u (by simpa using hu)) h hm
  ·simp at h
 case insert t m k x =>
  split at h
  ·rename_i hc; rw [if_pos hc]; exact primNF_congr (fun u hu => hx u (by simpa using hu)) h hm
  ·simp at h
 case range t x => exact primNF_congr (fun u hu => hx u (by simpa using hu)) h hm
 case entry x => exact primNF_congr (fun u hu => hx u (by simpa using hu)) h hm
 case next x str => exact primNF_congr (fun u hu => hx u (by simpa using hu)) h hm
theorem guardOf_congr {tgt : Nat → Option Tmp} {o : Oper} (h : ∀ j want t, o.guard = some (j, want) → tgt j = some t → s'.tmps t = s.tmps t) : guardOf tgt s' o = guardOf tgt s o := by
 unfold guardOf
 cases hg : o.guard with
 | none => rfl
 | some p =>
  obtain ⟨j, want⟩ := p
  simp only []
  cases ht : tgt j with
  | none => rfl
  | some t => simp only [h j want t hg ht]
theorem nf_congr {ops : Array Oper} {okf : FuncId → Bool} {rules : FuncId → Option (List Nat)} {sp : Bool} {name : Nat} {o : Oper} {y : NF} {fp : FP} (h : nf P okf rules (tgtOf ops) sp name o s = some (y, fp))
  (hz : s'.sz = s.sz) (ht : ∀ t ∈ o.looksAt ops, s'.tmps t = s.tmps t) (hm : ∀ n ∈ fp.reads, s'.mem n = s.mem n) : nf P okf rules (tgtOf ops) sp name o s' = some (y, fp) := by
 have hg : guardOf (tgtOf ops) s' o = guardOf (tgtOf ops) s o := by
  refine guardOf_congr fun j want t h1 h2 => ht t ?_
  simp only [Oper.looksAt, h1, List.mem_append]
  right
  unfold tgtOf at h2
  simp [h2]
 have hx : ∀ x ∈ o.op.operands.toList, Ea s s' x := by
  rintro x hx t rfl
  refine ht t ?_
  simp only [Oper.looksAt, List.mem_append]
  left
  exact List.mem_filterMap.2 ⟨_, hx, rfl⟩
 unfold nf at h ⊢
 have hd : dstOk s' o.dst = dstOk s o.dst := by unfold dstOk; rw [hz]
 rw [hd, hg]
 split at h
 ·simp at h
 ·rename_i hc
  rw [if_neg hc]
  split at h
  ·simp at h
  ·exact h
  ·exact nfGo_congr h hx hm
end Go.Sx

