/- My framework, part 1: a function's code is reckoned to a tree; what the tree says, the function does. Generic: no program in sight. -/
import Derived.Calls
import Derived.Orders
import Derived.Tactics
import Derived.Laws.Sem
import Derived.Laws.Cells
import Derived.Laws.World
import Derived.Laws.Rows
import Derived.Laws.Slices
import Derived.Laws.Tables
import Derived.Laws.Small
/- The memory discipline of my walks: a persistent heap, own blocks, triples of calls. Generic: no program in sight. -/
namespace Go.Sx
open Go
abbrev Env := Os × (Nat → Question → Nat) × Array (Nat × ByteArray)
def nG (w : World) : Env := (w.os, w.tape, w.output)
structure Heap where
 get : Nat → Option Obj
 env : Env
instance : CoeFun Heap (fun _ => Nat → Option Obj) := ⟨Heap.get⟩
abbrev Own := List (Nat × Obj)
def Heap.le (H H' : Heap) : Prop := (∀ b o, H b = some o → H' b = some o) ∧ H'.env = H.env
theorem Heap.le_refl (H : Heap) : Heap.le H H := ⟨fun _ _ h => h, rfl⟩
theorem Heap.le_trans {H H' H'' : Heap} (h : Heap.le H H') (h' : Heap.le H' H'') : Heap.le H H'' := ⟨fun b o e => h'.1 b o (h.1 b o e), h'.2.trans h.2⟩
structure Models (w : World) (H : Heap) (O : Own) : Prop where
 pers : ∀ b o, H b = some o → w.heap[b]? = some o
 own : ∀ p, p ∈ O → w.heap[p.1]? = some p.2 ∧ H p.1 = none
 nodup : (O.map (·.1)).Nodup
 env : nG w = H.env
theorem Models.perm {w : World} {H : Heap} {O O' : Own} (h : Models w H O) (hp : O.Perm O') : Models w H O' :=
 ⟨h.pers, fun p hp' => h.own p (hp.mem_iff.2 hp'), (hp.map _).nodup_iff.1 h.nodup, h.env⟩
theorem Models.sub {w : World} {H : Heap} {O O' : Own} (h : Models w H O) (hs : O'.Sublist O) : Models w H O' :=
 ⟨h.pers, fun p hp => h.own p (hs.subset hp), (hs.map _).nodup h.nodup, h.env⟩
theorem Models.update {w w' : World} {H : Heap} {r : Nat} {o o' : Obj} {O : Own} (h : Models w H ((r, o) :: O))
  (hs : ∀ b, b ≠ r → w'.heap[b]? = w.heap[b]?) (hr : w'.heap[r]? = some o') (he : nG w' = nG w) : Models w' H ((r, o') :: O) := by
 have hn := h.nodup
 simp only [List.map_cons, List.nodup_cons] at hn
 refine ⟨fun b x hb => ?_, fun p hp => ?_, ?_, he.trans h.env⟩
 ·have hne : b ≠ r := by
   intro e; subst e
   have := (h.own (b, o) (by simp)).2
   simp [this] at hb
  rw [hs b hne]; exact h.pers b x hb
 ·rcases List.mem_cons.1 hp with rfl | hp
  ·exact ⟨hr, (h.own (r, o) (by simp)).2⟩
  ·have hne : p.1 ≠ r := fun e => hn.1 (e ▸ List.mem_map_of_mem hp)
   rw [hs _ hne]; exact h.own p (List.mem_cons_of_mem _ hp)
 ·simpa [List.nodup_cons] using hn
theorem Models.push {w : World} {H : Heap} {O : Own} (h : Models w H O) (o : Obj) :
  Models { w with heap := w.heap.push o } H ((w.heap.size, o) :: O) := by
 have lt : ∀ b (x : Obj), w.heap[b]? = some x → b < w.heap.size := fun b x hb => by
  rcases Nat.lt_or_ge b w.heap.size with h | h
  ·exact h
  ·simp [Array.getElem?_eq_none h] at hb
 have keep : ∀ b (x : Obj), w.heap[b]? = some x → (w.heap.push o)[b]? = some x := fun b x hb => by
  have := lt b x hb
  rw [Array.getElem?_push, if_neg (by omega)]; exact hb
 refine ⟨fun b x hb => keep b x (h.pers b x hb), fun p hp => ?_, ?_, h.env⟩
 ·rcases List.mem_cons.1 hp with rfl | hp
  ·refine ⟨by simp, ?_⟩
   cases hH : H w.heap.size with
   | none => rfl
   | some x => have := lt _ _ (h.pers _ _ hH); omega
  ·exact ⟨keep _ _ (h.own p hp).1, (h.own p hp).2⟩
 ·simp only [List.map_cons, List.nodup_cons]
  refine ⟨fun hm => ?_, h.nodup⟩
  obtain ⟨p, hp, he⟩ := List.mem_map.1 hm
  have := lt _ _ (h.own p hp).1
  omega
theorem Models.same {w w' : World} {H : Heap} {O : Own} (h : Models w H O) (e : w'.heap = w.heap) (he : nG w' = nG w) : Models w' H O :=
 ⟨fun b o hb => by rw [e]; exact h.pers b o hb, fun p hp => by rw [e]; exact h.own p hp, h.nodup, he.trans h.env⟩
def Heap.ins (H : Heap) (r : Nat) (o : Obj) : Heap := ⟨fun b => match H b with
 | some x => some x
 | none => if b = r then some o else none, H.env⟩
theorem Heap.le_ins (H : Heap) (r : Nat) (o : Obj) : Heap.le H (H.ins r o) := ⟨fun b x h => by simp only [Heap.ins]; rw [h], rfl⟩
theorem Models.freeze {w : World} {H : Heap} {r : Nat} {o : Obj} {O : Own} (h : Models w H ((r, o) :: O)) : Models w (H.ins r o) O := by
 have hn := h.nodup
 simp only [List.map_cons, List.nodup_cons] at hn
 refine ⟨fun b x hb => ?_, fun p hp => ?_, hn.2, h.env⟩
 ·simp only [Heap.ins] at hb
  split at hb
  ·rename_i y hy; cases hb; exact h.pers b _ hy
  ·split at hb
   ·rename_i e; subst e; cases hb; exact (h.own (b, o) (by simp)).1
   ·cases hb
 ·have hne : p.1 ≠ r := fun e => hn.1 (e ▸ List.mem_map_of_mem hp)
  have hp' := h.own p (List.mem_cons_of_mem _ hp)
  refine ⟨hp'.1, ?_⟩
  simp only [Heap.ins, hp'.2, if_neg hne]
def Ghost (H : Heap) (O : Own) (H' : Heap) (O' : Own) : Prop := ∀ w F, Models w H (O ++ F) → Models w H' (O' ++ F) ∧ Heap.le H H'
def Cons (H : Heap) (O : Own) : Prop := ∃ w F, Models w H (O ++ F)
theorem Cons.none {H : Heap} {O : Own} (h : Cons H O) {p : Nat × Obj} (hp : p ∈ O) : H p.1 = none :=
 let ⟨_, _, hm⟩ := h; (hm.own p (List.mem_append_left _ hp)).2
theorem Cons.nodup {H : Heap} {O : Own} (h : Cons H O) : (O.map (·.1)).Nodup := by
 obtain ⟨_, _, hm⟩ := h
 have := hm.nodup
 rw [List.map_append] at this
 exact (List.nodup_append.1 this).1
theorem Ghost.refl (H : Heap) (O : Own) : Ghost H O H O := fun _ _ h => ⟨h, Heap.le_refl H⟩
theorem Ghost.trans {H H' H'' : Heap} {O O' O'' : Own} (h : Ghost H O H' O') (h' : Ghost H' O' H'' O'') : Ghost H O H'' O'' :=
 fun w F hm => ⟨(h' w F (h w F hm).1).1, Heap.le_trans (h w F hm).2 (h' w F (h w F hm).1).2⟩
theorem Ghost.perm {H : Heap} {O O' : Own} (hp : O.Perm O') : Ghost H O H O' := fun _ F h => ⟨h.perm (hp.append_right F), Heap.le_refl H⟩
theorem Ghost.sub {H : Heap} {O O' : Own} (hs : O'.Sublist O) : Ghost H O H O' := fun _ F h => ⟨h.sub (hs.append_right F), Heap.le_refl H⟩
theorem Ghost.drop (H : Heap) (O : Own) : Ghost H O H [] := Ghost.sub (List.nil_sublist O)
theorem Ghost.freeze (H : Heap) (r : Nat) (o : Obj) (O : Own) : Ghost H ((r, o) :: O) (H.ins r o) O := fun _ _ h =>
 ⟨Models.freeze (by simpa using h), Heap.le_ins H r o⟩
theorem Ghost.frame {H H' : Heap} {O O' : Own} (h : Ghost H O H' O') (X : Own) : Ghost H (O ++ X) H' (O' ++ X) := fun w F hm => by
 have := h w (X ++ F) (by simpa using hm)
 exact ⟨by simpa using this.1, this.2⟩
def Triple (P : Program) (f : FuncId) (args : List Value) (H : Heap) (O : Own) (Q : Value → Heap → Own → Prop) : Prop :=
 ∀ w F, Models w H (O ++ F) → Calls P f args.toArray w fun e w' => ∃ v H' O', e = .returned v ∧ Q v H' O' ∧ Heap.le H H' ∧ Models w' H' (O' ++ F)
theorem Triple.mono {P : Program} {f : FuncId} {args : List Value} {H : Heap} {O : Own} {Q Q' : Value → Heap → Own → Prop} (h : Triple P f args H O Q)
  (hq : ∀ v H' O', Heap.le H H' → Q v H' O' → Q' v H' O') : Triple P f args H O Q' :=
 fun w F hm => (h w F hm).mono fun _ _ ⟨v, H', O', he, q, hle, hm'⟩ => ⟨v, H', O', he, hq _ _ _ hle q, hle, hm'⟩
theorem Triple.frame {P : Program} {f : FuncId} {args : List Value} {H : Heap} {O : Own} {Q : Value → Heap → Own → Prop} (h : Triple P f args H O Q) (X : Own) :
  Triple P f args H (O ++ X) fun v H' O' => ∃ O'', O' = O'' ++ X ∧ Q v H' O'' :=
 fun w F hm => (h w (X ++ F) (by simpa using hm)).mono fun _ _ ⟨v, H', O', he, q, hle, hm'⟩ => ⟨v, H', O' ++ X, he, ⟨O', rfl, q⟩, hle, by simpa using hm'⟩
def dq (P : Program) (s : Sem Next) (H : Heap) (O : Own) (Q : Value → Heap → Own → Prop) : Prop :=
 ∀ w F, Models w H (O ++ F) → ∃ v w' H' O', s.run P w = .ok (.value v) w' ∧ Q v H' O' ∧ Heap.le H H' ∧ Models w' H' (O' ++ F)
def Heap.cell? (H : Heap) (a : Addr) : Option Value :=
 match H a.block with
 | some (.cells c _ _) => if a.spot.isSome then none else c[a.off]?
 | _ => none
theorem Models.cell? {w : World} {H : Heap} {O : Own} (h : Models w H O) {a : Addr} {v : Value} (hc : H.cell? a = some v) : w.cell? a = some v := by
 unfold Heap.cell? at hc
 cases hb : H a.block with
 | none => simp [hb] at hc
 | some o =>
  simp only [hb] at hc
  simp only [World.cell?, h.pers _ _ hb]
  exact hc
theorem Heap.le.cell? {H H' : Heap} (h : Heap.le H H') {a : Addr} {v : Value} (hc : H.cell? a = some v) : H'.cell? a = some v := by
 unfold Heap.cell? at *
 cases hb : H a.block with
 | none => simp [hb] at hc
 | some o =>
  simp only [hb] at hc
  simp only [h.1 _ _ hb]
  exact hc
def Heap.read (H : Heap) (p : Value) (m : Nat) : Option (List Value) :=
 match p with
 | .pointer (some a) => (List.range m).mapM fun i => H.cell? (a.add i)
 | _ => none
theorem Be {α β : Type} {f g : α → Option β} (h : ∀ a b, f a = some b → g a = some b) : ∀ (l : List α) (r : List β), l.mapM f = some r → l.mapM g = some r := by
 intro l
 induction l with
 | nil => intro r h; simpa using h
 | cons a l ih =>
  intro r hr
  simp only [List.mapM_cons, Option.pure_def, Option.bind_eq_bind] at hr ⊢
  cases ha : f a with
  | none => simp [ha] at hr
  | some b =>
   simp only [ha, Option.bind_some] at hr
   cases hl : l.mapM f with
   | none => simp [hl] at hr
   | some bs =>
    simp only [hl, Option.bind_some] at hr
    simp only [h a b ha, ih bs hl, Option.bind_some]
    exact hr
theorem Heap.le.read {H H' : Heap} (h : Heap.le H H') {p : Value} {m : Nat} {vs : List Value} (hr : H.read p m = some vs) : H'.read p m = some vs := by
 cases p with
 | pointer a =>
  cases a with
  | none => simp [Heap.read] at hr
  | some a => exact Be (fun i v hv => h.cell? hv) _ _ hr
 | _ => simp [Heap.read] at hr
end Go.Sx

/- Symbolic values and states, the normal forms of operations, trees. Generic. -/
namespace Go.Sx
open Go
def g (vs : List Value) (i : Nat) : Value := vs.getD i undef
def aS (x : Value) (n : Nat) : Value :=
 match x with
 | .pointer (some a) => .pointer (some (a.add n))
 | _ => undef
def Bg : Value → Bool
 | .pointer (some _) => true
 | _ => false
inductive Cp where
 | b (n r off : Nat)
 | v (x : Value)
def Cp.den : Cp → Value
 | .b _ r off => .pointer (some ⟨r, off, none⟩)
 | .v x => x
inductive At where
 | any
 | k (v : Value)
 | v (x : Value)
 | px (x : Value) (off : Nat)
 | p (n r off : Nat)
 | sl (n r off len cap : Nat)
 | clo (f : Nat) (caps : List Cp)
 | mp (n r : Nat)
def At.den : At → Value
 | .any => undef
 | .k x => x
 | .v x => x
 | .px x off => aS x off
 | .p _ r off => .pointer (some ⟨r, off, none⟩)
 | .sl _ r off len cap => .slice (some ⟨r, off, none⟩) len cap
 | .clo f caps => .func (.func f) #[] (caps.map Cp.den).toArray
 | .mp _ r => .map (some r)
def At.known : At → Bool
 | .any => false
 | _ => true
def At.fit : At → Bool
 | .any | .px .. => false
 | .k x => x.oneCell'
 | _ => true
def At.ok : At → Prop
 | .v x => x.oneCell' = true
 | _ => True
inductive S1 where
 | at (a : At)
 | agg (l : List At)
def S1.den : S1 → Value
 | .at a => a.den
 | .agg l => .agg (l.map At.den).toArray
def S1.cells : S1 → List At
 | .at a => [a]
 | .agg l => l
def S1.isAgg : S1 → Bool
 | .agg _ => true
 | _ => false
inductive SV where
 | s (x : S1)
 | tup (l : List S1)
 | opt (gl : List (At × Bool)) (x : S1)
abbrev Gd := List (Value × Bool)
def On : Gd → Prop
 | [] => True
 | p :: r => p.1 = .bool p.2 ∧ On r
def nj (gl : List (At × Bool)) : Gd := gl.map fun p => (p.1.den, p.2)
def SV.rel : SV → Value → Prop
 | .s (.at .any), _ => True
 | .s x, v => v = x.den
 | .tup l, v => v = .tuple (l.map S1.den).toArray
 | .opt gl x, v => (On (nj gl) → v = x.den) ∧ (¬ On (nj gl) → v = undef)
structure Bx where
 r : Nat
 T : TypeId
 cs : List At
structure SS where
 sz : Nat
 tmps : Nat → SV
 mem : Nat → Option Bx
 next : Nat
def SS.set (s : SS) (d : Option Nat) (v : SV) : SS :=
 match d with
 | none => s
 | some d => { s with tmps := fun t => if t = d then v else s.tmps t }
def SS.setBox (s : SS) (n : Nat) (b : Option Bx) : SS := { s with mem := fun m => if m = n then b else s.mem m }
inductive BK where
 | int | bool | str | slice | ptr | iface | map | func
def ej (op : BinOp) (k : IntKind) (a b : Int) : Option Value :=
 match op with
 | .add => some (.int k (k.wrap (a + b)))
 | .sub => some (.int k (k.wrap (a - b)))
 | .mul => some (.int k (k.wrap (a * b)))
 | .quo => if b = 0 then none else some (.int k (k.wrap (a.tdiv b)))
 | .rem => if b = 0 then none else some (.int k (a.tmod b))
 | .and => some (.int k (k.wrap (BitVec.ofInt k.bits a &&& BitVec.ofInt k.bits b).toNat))
 | .or => some (.int k (k.wrap (BitVec.ofInt k.bits a ||| BitVec.ofInt k.bits b).toNat))
 | .xor => some (.int k (k.wrap (BitVec.ofInt k.bits a ^^^ BitVec.ofInt k.bits b).toNat))
 | .andNot => some (.int k (k.wrap (BitVec.ofInt k.bits a &&& ~~~ BitVec.ofInt k.bits b).toNat))
 | .eql => some (.bool (a == b))
 | .neq => some (.bool (a != b))
 | .lss => some (.bool (decide (a < b)))
 | .leq => some (.bool (decide (a ≤ b)))
 | .gtr => some (.bool (decide (a > b)))
 | .geq => some (.bool (decide (a ≥ b)))
 | _ => none
def oI (op : BinOp) (k : IntKind) (a b : Int) : Option Value :=
 if b < 0 then none else
 match op with
 | .shl => some (.int k (k.wrap (a * 2 ^ (min b.toNat k.bits))))
 | .shr => some (.int k (a.fdiv (2 ^ (min b.toNat k.bits))))
 | _ => none
def Dl (op : BinOp) (a b : ByteArray) : Option Value :=
 match op with
 | .add => if ((a.size + b.size : Nat) : Int) > IntKind.i64.max then none else some (.string (a ++ b))
 | .eql => some (.bool (a.toList == b.toList))
 | .neq => some (.bool (!(a.toList == b.toList)))
 | _ => none
def J6 (bk : BK) (x y : Value) : Option Bool :=
 match bk, x, y with
 | .bool, .bool a, .bool b => some (a == b)
 | .slice, .slice none _ _, .slice b _ _ => some b.isNone
 | .slice, .slice _ _ _, .slice none _ _ => some false
 | .ptr, .pointer none, .pointer b => some b.isNone
 | .ptr, .pointer _, .pointer none => some false
 | .map, .map none, .map b => some b.isNone
 | .map, .map _, .map none => some false
 | .func, .nilFunc, .nilFunc => some true
 | .func, .nilFunc, .func _ _ _ => some false
 | .func, .func _ _ _, .nilFunc => some false
 | _, _, _ => none
def Dm (op : BinOp) (bk : BK) (x y : Value) : Option Value :=
 match op with
 | .eql => (J6 bk x y).map .bool
 | .neq => (J6 bk x y).map fun b => .bool (!b)
 | _ => none
def fU (op : BinOp) (bk : BK) (x y : Value) : Option Value :=
 match bk, x, y with
 | .int, .int k a, .int k' b =>
  match op with
  | .shl | .shr => oI op k a b
  | _ => if k = k' then ej op k a b else none
 | .str, .string a, .string b => Dl op a b
 | _, _, _ => Dm op bk x y
inductive POp where
 | bin (op : BinOp) (bk : BK)
 | not | neg | compl
 | pick
 | len | slen | cap
 | idx (size : Nat)
 | pidx (len size : Nat)
 | sidx
 | aidx
 | conv (k : IntKind)
 | slc (size : Nat) (lo hi mx : Bool)
 | sslc (lo hi : Bool)
 | min2 | max2
def pz (size : Nat) (s i : Value) : Option Value :=
 match s, i with
 | .slice (some a) len _, .int _ i => if 0 ≤ i ∧ i < len then some (.pointer (some (a.add (i.toNat * size)))) else none
 | _, _ => none
def tk (len size : Nat) (p i : Value) : Option Value :=
 match p, i with
 | .pointer (some a), .int _ i => if 0 ≤ i ∧ i < len then some (.pointer (some (a.add (i.toNat * size)))) else none
 | _, _ => none
def yM (s i : Value) : Option Value :=
 match s, i with
 | .string s, .int _ i => (if 0 ≤ i then s[i.toNat]? else none).map fun b => .int .u8 b.toNat
 | _, _ => none
def tn (i : Value) (cs : List Value) : Option Value :=
 match i with
 | .int _ i => if 0 ≤ i ∧ i < cs.length then cs[i.toNat]? else none
 | _ => none
def asI : Value → Option Int
 | .int _ i => some i
 | _ => none
def Lh (i : Int) (y : Nat) : Decidable (0 ≤ i ∧ i ≤ (y : Int)) :=
 match i with
 | .ofNat n => match h : Nat.ble n y with
  | true => .isTrue ⟨Int.natCast_nonneg n, Int.ofNat_le.2 (Nat.le_of_ble_eq_true h)⟩
  | false => .isFalse fun c => by
   have h2 := Nat.ble_eq_true_of_le (Int.ofNat_le.1 c.2)
   rw [h2] at h; cases h
 | .negSucc n => .isFalse fun c => by have := c.1; omega
def mu (v : Value) (y : Nat) : Option Nat := (asI v).bind fun i => @ite (Option Nat) (0 ≤ i ∧ i ≤ (y : Int)) (Lh i y) (some i.toNat) none
def cC (x : Option Value) (y d : Nat) : Option Nat :=
 match x with
 | some v => mu v y
 | none => some d
def dJ (x : Option Value) (full : Bool) (y d : Nat) : Option Nat :=
 match x with
 | some v => mu v y
 | none => if full then none else some d
def bA (len cap : Nat) (lo hi mx : Option Value) : Option (Nat × Nat × Nat) :=
 (cC mx cap cap).bind fun m => (dJ hi mx.isSome m len).bind fun h => (cC lo h 0).bind fun l => some (l, h, m)
def dR : List Bool → List Value → List (Option Value)
 | [], _ => []
 | true :: bs, v :: vs => some v :: dR bs vs
 | true :: bs, [] => none :: dR bs []
 | false :: bs, vs => none :: dR bs vs
def gD (size : Nat) (x : Value) (lo hi mx : Option Value) : Option Value :=
 match x with
 | .slice a len cap => (bA len cap lo hi mx).map fun (l, h, m) => .slice (if m = l then a else a.map (·.add (l * size))) (h - l) (m - l)
 | _ => none
def yL (x : Value) (lo hi : Option Value) : Option Value :=
 match x with
 | .string s => (bA s.size s.size lo hi none).map fun (l, h, _) => .string (s.extract l h)
 | _ => none
def al (op : POp) (args : List Value) : Option Value :=
 match op, args with
 | .bin op bk, [x, y] => fU op bk x y
 | .not, [.bool b] => some (.bool (!b))
 | .neg, [.int k n] => some (.int k (k.wrap (0 - n)))
 | .compl, [.int k n] => ej .xor k (if k.signed then -1 else k.max) n
 | .pick, [.bool b, x, y] => some (if b then x else y)
 | .len, [.slice _ n _] => some (goInt n)
 | .slen, [.string s] => some (goInt s.size)
 | .cap, [.slice _ _ n] => some (goInt n)
 | .idx size, [s, i] => pz size s i
 | .pidx len size, [p, i] => tk len size p i
 | .sidx, [s, i] => yM s i
 | .aidx, i :: cs => tn i cs
 | .conv k, [.int _ n] => some (.int k (k.wrap n))
 | .slc size lo hi mx, x :: rest => match dR [lo, hi, mx] rest with | [l, h, m] => gD size x l h m | _ => none
 | .sslc lo hi, x :: rest => match dR [lo, hi] rest with | [l, h] => yL x l h | _ => none
 | .min2, [.int k x, .int _ y] => some (.int k (if y < x then y else x))
 | .max2, [.int k x, .int _ y] => some (.int k (if y > x then y else x))
 | _, _ => none
inductive PrimOp where
 | bi (b : Builtin) (argTypes : Array TypeId) (type : TypeId)
 | makeSlice (t : TypeId)
 | makeMap (t : TypeId) (has : Bool)
 | lookup (t : TypeId) (ok : Bool)
 | mapUpdate (t : TypeId)
 | range (t : TypeId)
 | next (str : Bool) (type : TypeId)
 | convert (src dst : TypeId)
 | eqv (op : BinOp) (t : TypeId) (const : Bool)
 | typeAssert (x a : TypeId) (ok : Bool)
 | intr (f : FuncId)
 | entry
def PrimOp.sem (o : PrimOp) (args : List Value) : Sem Next :=
 let v (s : Sem Value) : Sem Next := do pure (.value (← s))
 match o, args with
 | .bi b at_ ty, args => builtin b at_ ty #[] args.toArray
 | .makeSlice t, [l, c] => v (Instr.makeSlice t l c)
 | .makeMap t false, [] => v (Instr.makeMap t none)
 | .makeMap t true, [r] => v (Instr.makeMap t (some r))
 | .lookup t ok, [m, k] => v (Instr.lookup t m k ok)
 | .mapUpdate t, [m, k, x] => do Instr.mapUpdate t m k x; pure (.value (.bool false))
 | .range t, [x] => v (Instr.range t x)
 | .next str ty, [x] => v (Instr.next x str ty)
 | .convert a b, [x] => v (Go.convert a b x)
 | .eqv op t c, [x, y] => v (do eqGuard op t (if c then .const undef else .global 0) (.global 0) x y; binOp op t x y)
 | .typeAssert t a ok, [x] => v (Instr.typeAssert x t a ok)
 | .intr f, args => callFunc f args.toArray
 | .entry, [x] => v (Instr.entry x)
 | _, _ => stuck "prim"
inductive Shp where
 | one
 | agg (m : Nat)
 | tup (l : List (Option Nat))
def Shp.openList : List (Option Nat) → List Value → Option (List Value)
 | [], [] => some []
 | none :: r, v :: vs => (Shp.openList r vs).map (v :: ·)
 | some m :: r, .agg cs :: vs => if cs.size = m then (Shp.openList r vs).map (cs.toList ++ ·) else none
 | _, _ => none
def Shp.open : Shp → Value → Option (List Value)
 | .one, v => some [v]
 | .agg m, .agg cs => if cs.size = m then some cs.toList else none
 | .tup l, .tuple vs => Shp.openList l vs.toList
 | _, _ => none
def atsFrom (vs : List Value) (i m : Nat) : List At := (List.range m).map fun j => .v (g vs (i + j))
def Shp.svList (vs : List Value) : Nat → List (Option Nat) → List S1
 | _, [] => []
 | i, none :: r => .at (.v (g vs i)) :: Shp.svList vs (i + 1) r
 | i, some m :: r => .agg (atsFrom vs i m) :: Shp.svList vs (i + m) r
def Shp.sv (vs : List Value) : Shp → SV
 | .one => .s (.at (.v (g vs 0)))
 | .agg m => .s (.agg (atsFrom vs 0 m))
 | .tup l => .tup (Shp.svList vs 0 l)
def Shp.count : Shp → Nat
 | .one => 1
 | .agg m => m
 | .tup l => l.foldr (fun o n => o.getD 1 + n) 0
def Shp.isAgg : Shp → Nat → Bool
 | .agg m, n => m == n
 | _, _ => false
structure BV where
 r : Nat
 T : TypeId
 vs : List Value
def BV.obj (b : BV) : Nat × Obj := (b.r, .cells b.vs.toArray b.T (0, 0))
inductive Ck where
 | eqN (a b : Nat)
 | eqV (a b : Value)
 | ptr (g : Gd) (v : Value)
def Ck.holds : Ck → Prop
 | .eqN a b => a = b
 | .eqV a b => a = b
 | .ptr g v => On g → Bg v = true
inductive Tree where
 | stuck (why : Nat)
 | ret (v : Value) (own : List BV)
 | pure (g : Gd) (op : POp) (args : List Value) (k : Value → Tree)
 | raw (g : Gd) (op : PrimOp) (args : List Value) (k : Value → Tree)
 | load (g : Gd) (p : Value) (m : Nat) (k : List Value → Tree)
 | chk (c : Ck) (t : Tree)
 | newbox (k : Nat → Tree)
 | br (v : Value) (t e : Tree)
 | sw (v : Value) (i : Nat) (t e : Tree)
 | call (d : Bool) (f : FuncId) (args : List Value) (frz own : List BV) (shp : Shp) (k : List Value → List (List Value) → Tree)
 | callv (d : Bool) (fv : Value) (args : List Value) (frz own : List BV) (shp : Shp) (k : List Value → List (List Value) → Tree)
 | prim (op : PrimOp) (args : List Value) (frz own : List BV) (shp : Shp) (k : List Value → List (List Value) → Tree)
 | store (p : Value) (vs : List Value) (t : Tree)
 | loop (lab key : Nat) (init : List Value) (body : (List Value → Heap → Own → Prop) → List Value → Tree)
 | cut (lab key : Nat) (body : (List Value → Heap → Own → Prop) → Tree) (rest : List Value → Tree)
 | cont (lab : Nat) (C : List Value → Heap → Own → Prop) (vals : List Value) (eqs : List (List Value × List Value))
def Heap.insAll (H : Heap) : List BV → Heap
 | [] => H
 | b :: r => Heap.insAll (H.ins b.r b.obj.2) r
theorem Heap.le_insAll : ∀ (l : List BV) (H : Heap), Heap.le H (H.insAll l)
 | [], H => Heap.le_refl H
 | b :: r, H => Heap.le_trans (Heap.le_ins H b.r b.obj.2) (Heap.le_insAll r _)
def MS (O : Own) (p : Value) (m : Nat) (vs : List Value) : Prop :=
 ∃ a cs T, p = .pointer (some a) ∧ a.spot = none ∧ (a.block, Obj.cells cs T (0, 0)) ∈ O ∧ (cs.toList.drop a.off).take m = vs ∧ vs.length = m
def Reads (H : Heap) (O : Own) (p : Value) (m : Nat) (vs : List Value) : Prop := H.read p m = some vs ∨ MS O p m vs
def ct (cs : List Value) (off : Nat) (vs : List Value) : List Value := cs.take off ++ vs ++ cs.drop (off + vs.length)
def tq (O : Own) (p : Value) (vs : List Value) (O' : Own) : Prop :=
 ∃ a cs T L, p = .pointer (some a) ∧ a.spot = none ∧ O.Perm ((a.block, Obj.cells cs T (0, 0)) :: L) ∧ a.off + vs.length ≤ cs.size ∧
  O' = (a.block, Obj.cells (ct cs.toList a.off vs).toArray T (0, 0)) :: L
def nc : List BV → List (List Value) → List BV
 | b :: bs, c :: cs => { b with vs := c } :: nc bs cs
 | _, _ => []
def Ones : List Value → Prop
 | [] => True
 | v :: r => v.oneCell' = true ∧ Ones r
def LP : List BV → List (List Value) → Prop
 | [], [] => True
 | b :: bs, c :: cs => c.length = b.vs.length ∧ Ones c ∧ LP bs cs
 | _, _ => False
def Eqs : List (List Value × List Value) → Prop
 | [] => True
 | p :: r => p.1 = p.2 ∧ Eqs r
def tt (P : Program) (f : FuncId) : Prop := ∃ fn, P.funcs[f]? = some fn ∧ (fn.name == "runtime.NumGoroutine") = false ∧ fn.body.isNone = false
def iG (T : Heap → Own → (Value → Heap → Own → Prop) → Prop) (d : Bool) (frz own : List BV) (shp : Shp) (K : List Value → List (List Value) → Heap → Own → Prop)
  (H : Heap) (O : Own) : Prop :=
 Cons H (frz.map BV.obj ++ (own.map BV.obj ++ O)) → ∃ H1 O1 O2 Q, (if d then H1 = H.insAll frz ∧ ((O1 = [] ∧ O2 = O) ∨ (own = [] ∧ O1 = O ∧ O2 = [] ∧ ∀ v H' O', Q v H' O' → O' = O)) else Ghost (H.insAll frz) O H1 (O1 ++ O2)) ∧ T H1 (own.map BV.obj ++ O1) Q ∧
  ∀ v H' O', Q v H' O' → Heap.le H1 H' → ∃ vs cs O3, shp.open v = some vs ∧ Ones vs ∧ LP own cs ∧ O' = (nc own cs).map BV.obj ++ O3 ∧ K vs cs H' (O3 ++ O2)
def Tree.den (P : Program) (Q : Value → Heap → Own → Prop) : Tree → Heap → Own → Prop
 | .stuck _, _, _ => False
 | .ret v own, H, O => Cons H (own.map BV.obj ++ O) → ∃ H' O', Ghost H (own.map BV.obj ++ O) H' O' ∧ Q v H' O'
 | .pure gd op args k, H, O => ∃ v, (On gd → al op args = some v) ∧ (gd = [] ∨ v.oneCell' = true) ∧ (k v).den P Q H O
 | .raw gd op args k, H, O => ∃ v, (On gd → ∀ w, (op.sem args).run P w = .ok (.value v) w) ∧ v.oneCell' = true ∧ (k v).den P Q H O
 | .load gd p m k, H, O => ∃ vs, vs.length = m ∧ Ones vs ∧ (On gd → Reads H O p m vs) ∧ (k vs).den P Q H O
 | .chk c t, H, O => c.holds ∧ t.den P Q H O
 | .newbox k, H, O => ∀ r, (k r).den P Q H O
 | .br v t e, H, O => ∃ b, v = .bool b ∧ (b = true → t.den P Q H O) ∧ (b = false → e.den P Q H O)
 | .sw v i t e, H, O => ∃ kd n, v = .int kd n ∧ (n = i → t.den P Q H O) ∧ (n ≠ i → e.den P Q H O)
 | .call d f args frz own shp k, H, O => iG (fun H1 O1 R => Triple P f args H1 O1 R) d frz own shp (fun vs cs => (k vs cs).den P Q) H O
 | .callv d fv args frz own shp k, H, O => ∃ f caps, fv = .func (.func f) #[] caps ∧ tt P f ∧
   iG (fun H1 O1 R => Triple P f (args ++ caps.toList) H1 O1 R) d frz own shp (fun vs cs => (k vs cs).den P Q) H O
 | .prim op args frz own shp k, H, O => iG (fun H1 O1 R => dq P (op.sem args) H1 O1 R) false frz own shp (fun vs cs => (k vs cs).den P Q) H O
 | .store p vs t, H, O => ∃ O', tq O p vs O' ∧ t.den P Q H O'
 | .loop _ _ init body, H, O => ∃ (I : List Value → Heap → Own → Prop) (μ : List Value → Heap → Own → Nat),
   (Cons H O → ∃ H1 O1, Ghost H O H1 O1 ∧ I init H1 O1) ∧
   ∀ vs H' O', vs.length = init.length → Ones vs → Heap.le H H' → I vs H' O' →
    (body (fun vs' H'' O'' => Cons H'' O'' → ∃ H3 O3, Ghost H'' O'' H3 O3 ∧ I vs' H3 O3 ∧ μ vs' H3 O3 < μ vs H' O') vs).den P Q H' O'
 | .cut _ _ body rest, H, O => ∃ R : List Value → Heap → Own → Prop,
   (body (fun vs' H'' O'' => Cons H'' O'' → ∃ H3 O3, Ghost H'' O'' H3 O3 ∧ R vs' H3 O3)).den P Q H O ∧
   ∀ vs H' O', Ones vs → Heap.le H H' → R vs H' O' → (rest vs).den P Q H' O'
 | .cont _ C vals eqs, H, O => Eqs eqs ∧ C vals H O
end Go.Sx

/- The evaluator of single operations: normal forms. Generic. -/
namespace Go.Sx
open Go
inductive FK where
 | sil
 | pure (g : Gd) (op : POp) (args : List Value)
 | raw (g : Gd) (op : PrimOp) (args : List Value)
 | load (g : Gd) (p : Value) (m : Nat)
 | split (c : Value)
 | isplit (c : Value) (n : Nat)
inductive HK where
 | call (f : FuncId) (args : List Value)
 | callv (fv : Value) (args : List Value)
 | prim (op : PrimOp) (args : List Value)
inductive NF where
 | fl (cs : List Ck) (k : FK) (X : List Value → SV)
 | box (cs : List Ck) (name : Nat) (T : TypeId) (cells : List At) (val : Nat → At)
 | stb (cs : List Ck) (n : Nat) (b : Bx)
 | hv (cs : List Ck) (k : HK) (frz own : List (Nat × Bx)) (shp : Shp) (post : List Value → List Ck) (sv : List Value → SV)
 | st (cs : List Ck) (p : Value) (vs : List Value)
structure FP where
 reads : List Nat := []
def FK.ch : FK → Bool
 | .pure gd _ _ | .raw gd _ _ => !gd.isEmpty
 | .load .. => true
 | _ => false
def NF.ch : NF → Bool
 | .fl _ k _ => k.ch
 | _ => false
def NF.bx : NF → Bool
 | .box .. => true
 | _ => false
def NF.writes : NF → List Nat
 | .box _ n _ _ _ => [n]
 | .stb _ n _ => [n]
 | .hv _ _ frz own _ _ _ => (frz ++ own).map (·.1)
 | _ => []
def mO (P : Program) (t : TypeId) : Option Nat :=
 match P.info? t, P.underlying t with
 | some i, some _ => some i.size
 | _, _ => none
def dU (P : Program) (t : TypeId) : Bool :=
 match P.underlying t with
 | some (.struct _) | some (.array _ _) => true
 | _ => false
def xg (P : Program) (t : TypeId) : Option (List At) := ((P.info? t).bind (·.zero)).map fun z => z.cells.toList.map .k
def Ab (P : Program) (t : TypeId) (f : Nat) : Option Field :=
 match P.underlying t with
 | some (.struct fs) => fs[f]?
 | _ => none
def If (P : Program) (t : TypeId) (cs : List At) : Option S1 :=
 if dU P t then some (.agg cs) else match cs with | [a] => some (.at a) | _ => none
def S1.known (x : S1) : Bool := x.cells.all At.known
def wQ : Value → S1
 | .agg cs => .agg (cs.toList.map .k)
 | v => .at (.k v)
def xk (gl gl' : List (At × Bool)) : Option (List Ck) :=
 let rear := gl.drop (gl.length - gl'.length)
 if rear.length = gl'.length && (rear.zip gl').all (fun p => p.1.2 == p.2.2) then some ((rear.zip gl').map fun p => .eqV p.1.1.den p.2.1.den) else none
def tc (s : SS) (gl : List (At × Bool)) (x : Operand) : Option (S1 × List Ck) :=
 match x with
 | .tmp t =>
  match s.tmps t with
  | .s x => if x.known then some (x, []) else none
  | .opt gl' x => if x.known then (xk gl gl').map fun c => (x, c) else none
  | .tup _ => none
 | .const v => some (wQ v, [])
 | .global n => some (.at (.k (.pointer (some ⟨n, 0, none⟩))), [])
 | .func f => some (.at (.clo f []), [])
def mh (s : SS) (gl : List (At × Bool)) (x : Operand) : Option (At × List Ck) :=
 match tc s gl x with
 | some (.at a, c) => some (a, c)
 | _ => none
def eF (s : SS) (gl : List (At × Bool)) : List Operand → Option (List At × List Ck)
 | [] => some ([], [])
 | x :: r =>
  match mh s gl x, eF s gl r with
  | some (a, c), some (as, cs) => some (a :: as, c ++ cs)
  | _, _ => none
def tF (s : SS) (gl : List (At × Bool)) : List Operand → Option (List S1 × List Ck)
 | [] => some ([], [])
 | x :: r =>
  match tc s gl x, tF s gl r with
  | some (a, c), some (as, cs) => some (a :: as, c ++ cs)
  | _, _ => none
inductive GR where
 | go (gl : List (At × Bool))
 | skip
 | bad
def aW (tgt : Nat → Option Tmp) (s : SS) (o : Oper) : GR :=
 match o.guard with
 | none => .go []
 | some (j, want) =>
  match tgt j with
  | none => .bad
  | some t =>
   match s.tmps t with
   | .s (.at (.k (.bool b))) => if b == want then .go [] else .skip
   | .s (.at (.k (.tuple _))) => .skip
   | .s (.at c) => if c.known then .go [(c, want)] else .bad
   | .opt gl (.at c) => if c.known then .go ((c, want) :: gl) else .bad
   | _ => .bad
def Bb (gl : List (At × Bool)) (x : S1) : SV := if gl.isEmpty then .s x else .opt gl x
def zw : At → Option Value
 | .k (.int k n) => some (.int k n)
 | .k (.bool b) => some (.bool b)
 | _ => none
def KS (op : POp) (args : List At) : Option Value :=
 (args.mapM zw).bind (al op)
def fS (gl : List (At × Bool)) (total : Bool) (dst : Option Tmp) (op : POp) (args : List At) (cs : List Ck) : NF :=
 match KS op args with
 | some v => .fl cs .sil (fun _ => (Bb gl (.at (.k v))))
 | none => .fl cs (.pure (if total then [] else nj gl) op (args.map At.den)) (fun vs => (Bb gl (.at (.v (g vs 0)))))
def NS (P : Program) (t : TypeId) : Option BK :=
 match P.underlying t with
 | some (.int _) => some .int
 | some .bool => some .bool
 | some .string => some .str
 | some (.slice _) => some .slice
 | some (.pointer _) => some .ptr
 | some (.map _ _) => some .map
 | some (.func _ _ _) => some .func
 | _ => none
def iM (cells : List At) (off : Nat) (v : List At) : List At := cells.take off ++ v ++ cells.drop (off + v.length)
def ei (s : SS) (gl : List (At × Bool)) (place : Nat → Option (Nat × Nat)) : List (Nat × Operand) → List At → Option (List At × List Ck)
 | [], cells => some (cells, [])
 | (i, x) :: r, cells =>
  match place i, tc s gl x with
  | some (off, size), some (v, c) =>
   if v.cells.length = size && off + size ≤ cells.length && v.cells.all At.fit then
    (ei s gl place r (iM cells off v.cells)).map fun (cs, c') => (cs, c ++ c')
   else none
  | _, _ => none
def cQ (z : List At) : Nat → List At
 | 0 => []
 | n + 1 => z ++ cQ z n
def J1 (l : List Nat) (n : Nat) : List Nat := if l.contains n then l else l ++ [n]
def je : List At → List Nat → List Nat
 | [], acc => acc
 | .sl n .. :: r, acc => je r (J1 acc n)
 | _ :: r, acc => je r acc
def Fi : List Cp → List Nat → List Nat
 | [], acc => acc
 | .b n .. :: r, acc => Fi r (J1 acc n)
 | _ :: r, acc => Fi r acc
def jF : List At → List Nat → List Nat
 | [], acc => acc
 | .p n .. :: r, acc => jF r (J1 acc n)
 | .clo _ cs :: r, acc => jF r (Fi cs acc)
 | _ :: r, acc => jF r acc
def jf (s : SS) (l : List Nat) : List (Nat × Bx) := l.filterMap fun n => (s.mem n).map fun b => (n, b)
def Bx.bv (b : Bx) : BV := ⟨b.r, b.T, b.cs.map At.den⟩
def cI : List Nat → SS → SS
 | [], s => s
 | n :: r, s => cI r (s.setBox n none)
def oS : Nat → List (Nat × Bx) → List (List Value) → SS → SS
 | _, [], _, s => s
 | i, (n, b) :: r, css, s => oS (i + 1) r css (s.setBox n (some { b with cs := atsFrom (css.getD i []) 0 b.cs.length }))
def dS : List (Nat × Bx) → List (List Value) → SS → SS
 | (n, b) :: r, vs :: vss, s => dS r vss (s.setBox n (some { b with cs := atsFrom vs 0 b.cs.length }))
 | _, _, s => s
def fm (s : SS) : Nat → List Nat → List Nat → List Nat
 | 0, r, acc => r ++ acc
 | _, [], acc => acc
 | fuel + 1, n :: r, acc =>
  if acc.contains n then fm s fuel r acc else
  match s.mem n with
  | none => fm s fuel r (acc ++ [n])
  | some b => fm s fuel (je b.cs (jF b.cs r)) (acc ++ [n])
def gZ (s : SS) : Nat → List Nat → List Nat → List Nat
 | 0, r, acc => r ++ acc
 | _, [], acc => acc
 | fuel + 1, n :: r, acc =>
  if acc.contains n then gZ s fuel r acc else
  match s.mem n with
  | none => gZ s fuel r (acc ++ [n])
  | some b => gZ s fuel (jF b.cs r) (acc ++ [n])
def kh (s : SS) : List Nat → List Nat → List Nat
 | [], acc => acc
 | n :: r, acc => kh s r (match s.mem n with | some b => je b.cs acc | none => acc)
def N9 (P : Program) (t : TypeId) : Option Shp :=
 match P.underlying t with
 | some (.tuple ts) => some (.tup (ts.toList.map fun t => if dU P t then mO P t else none))
 | some (.struct _) | some (.array _ _) => (mO P t).map .agg
 | some _ => some .one
 | none => none
def Jd : List Nat → Bool
 | [] => true
 | n :: r => !r.contains n && Jd r
def eG (s : SS) (dst : Option Tmp) (shp : Shp) (hk : HK) (atoms : List At) (cs : List Ck) : Option (NF × FP) :=
 let ps := gZ s 50 (jF atoms []) []
 let frzN := fm s 50 (kh s ps (je atoms [])) []
 let ownN := ps.filter (!frzN.contains ·)
 let frz := jf s frzN
 let own := jf s ownN
 let rds := ps ++ frzN
 if (frz ++ own).all (fun p => p.2.cs.all At.known) && Jd ((frz ++ own).map (·.1)) then
  some (.hv cs hk frz own shp (fun _ => []) shp.sv, { reads := rds })
 else none
def IK : At → List Nat
 | .p n .. => [n]
 | .sl n .. => [n]
 | _ => []
def Gq (gl : List (At × Bool)) (x : At) (o : Nat) : Option (At × List Ck) :=
 match x with
 | .p n r off => some (.p n r (off + o), [])
 | .v x => some (if o = 0 then .v x else if gl.isEmpty then .v (aS x o) else .px x o, [.ptr (nj gl) x])
 | .px x off => some (.px x (off + o), [.ptr (nj gl) x])
 | .k x => some (if o = 0 then .k x else if gl.isEmpty then .v (aS x o) else .px x o, [.ptr (nj gl) x])
 | _ => none
def xu (P : Program) (s : SS) (gl : List (At × Bool)) (dst : Option Tmp) (t : TypeId) (x : At) (cs : List Ck) : Option (NF × FP) :=
 (mO P t).bind fun m =>
 let far (y : Value) : Option (NF × FP) := some (.fl cs (.load (nj gl) y m)
   (fun vs => (Bb gl (if dU P t then .agg (atsFrom vs 0 m) else .at (.v (g vs 0))))), { reads := IK x })
 match x with
 | .p n r off =>
  match s.mem n with
  | some b =>
   let cells := (b.cs.drop off).take m
   if cells.length = m && cells.all At.known then
    (If P t cells).map fun v => (.fl (.eqN r b.r :: cs) .sil (fun _ => (Bb gl v)), { reads := [n] })
   else none
  | none => if !dU P t && m != 1 then none else far x.den
 | .v _ | .px _ _ | .k _ => if !dU P t && m != 1 then none else far x.den
 | _ => none
def rB (P : Program) (s : SS) (t : TypeId) (x : At) (y : S1) (cs : List Ck) : Option (NF × FP) :=
 (mO P t).bind fun m =>
 if y.cells.length ≠ m || !y.cells.all At.fit then none else
 match x with
 | .p n r off =>
  match s.mem n with
  | some b =>
   if off + m ≤ b.cs.length then
    some (.stb (.eqN r b.r :: cs) n { b with cs := iM b.cs off y.cells }, { reads := [n] })
   else none
  | none => none
 | .v _ | .px _ _ => if m = 0 then none else some (.st (.ptr [] x.den :: cs) x.den (y.cells.map At.den), {})
 | _ => none
def xr (P : Program) (t : TypeId) (cs : List At) (off : Nat) : Option S1 :=
 (mO P t).bind fun m =>
 let l := (cs.drop off).take m
 if l.length = m then If P t l else none
def ke : At → Option Nat
 | .k (.int _ n) => if 0 ≤ n then some n.toNat else none
 | _ => none
def ur (P : Program) (gl : List (At × Bool)) (dst : Option Tmp) (t : TypeId) (x i : At) (cs : List Ck) : Option (NF × FP) :=
 match P.underlying t with
 | some (.array len elem) =>
  (mO P elem).bind fun size =>
  match ke i with
  | some n => if n < len then (Gq gl x (n * size)).map fun (a, c) => (.fl (c ++ cs) .sil (fun _ => (Bb gl (.at a))), {}) else none
  | none =>
   match x with
   | .p n r off => if gl.isEmpty && len ≤ 16 then some (.fl cs (.isplit i.den len) (fun vs => (.s (.at (.p n r (off + (match g vs 0 with | .int _ n => n.toNat | _ => 0) * size))))), {}) else none
   | .v _ | .px _ _ | .k _ => if len ≤ 1 then none else some (fS gl false dst (.pidx len size) [x, i] cs, {})
   | _ => none
 | some (.slice elem) =>
  (mO P elem).bind fun size =>
  match x, ke i with
  | .sl n r off len _, some k => if k < len then some (.fl cs .sil (fun _ => (Bb gl (.at (.p n r (off + k * size))))), {}) else none
  | _, _ => some (fS gl false dst (.idx size) [x, i] cs, {})
 | _ => none
def E6 (P : Program) (gl : List (At × Bool)) (dst : Option Tmp) (t : TypeId) (x : At) (lo hi mx : Option At) (cs : List Ck) : Option (NF × FP) :=
 let rest := lo.toList ++ hi.toList ++ mx.toList
 match P.underlying t with
 | some .string => if mx.isSome then none else some (fS gl false dst (.sslc lo.isSome hi.isSome) (x :: rest) cs, {})
 | some (.slice elem) =>
  (mO P elem).bind fun size =>
  match x, lo.map ke, hi.map ke, mx with
  | .sl n r off len cap, l, h, none =>
   match l.getD (some 0), h.getD (some len) with
   | some l, some h => if l ≤ h && h ≤ cap then some (.fl cs .sil (fun _ => (Bb gl (.at (.sl n r (if cap = l then off else off + l * size) (h - l) (cap - l))))), {}) else none
   | _, _ => some (fS gl false dst (.slc size lo.isSome hi.isSome mx.isSome) (x :: rest) cs, {})
  | _, _, _, _ => some (fS gl false dst (.slc size lo.isSome hi.isSome mx.isSome) (x :: rest) cs, {})
 | some (.array len elem) =>
  (mO P elem).bind fun size =>
  match x, lo.map ke, hi.map ke, mx with
  | .p n r off, l, h, none =>
   match l.getD (some 0), h.getD (some len) with
   | some l, some h => if l ≤ h && h ≤ len then some (.fl cs .sil (fun _ => (Bb gl (.at (.sl n r (if len = l then off else off + l * size) (h - l) (len - l))))), {}) else none
   | _, _ => none
  | .k (.pointer (some ⟨r, off, none⟩)), l, h, none =>
   match l.getD (some 0), h.getD (some len) with
   | some l, some h => if l ≤ h && h ≤ len then some (.fl cs .sil (fun _ => (Bb gl (.at (.k (.slice (some ⟨r, if len = l then off else off + l * size, none⟩) (h - l) (len - l)))))), {}) else none
   | _, _ => none
  | _, _, _, _ => none
 | _ => none
def xE : List At → Option (List Cp)
 | [] => some []
 | .p n r off :: l => (xE l).map (.b n r off :: ·)
 | .v x :: l => (xE l).map (.v x :: ·)
 | .k x :: l => (xE l).map (.v x :: ·)
 | _ => none
def zj (x : At) : List Nat → Option (List At)
 | [] => some []
 | o :: r => match x, zj x r with
  | .p n r' off, some l => some (.p n r' (off + o) :: l)
  | _, _ => none
def CL (vs : List Value) : List At → Nat → List Ck
 | [], _ => []
 | a :: r, i => .eqV (g vs i) a.den :: CL vs r (i + 1)
def cT (gl : List (At × Bool)) (dst : Option Tmp) (v : S1) (cs : List Ck) : Option (NF × FP) := some (.fl cs .sil (fun _ => (Bb gl v)), {})
def nI (s : SS) (gl : List (At × Bool)) (dst : Option Tmp) (name : Nat) (T : TypeId) (cells : List At) (val : Nat → At) (cs : List Ck) : Option (NF × FP) :=
 if gl.isEmpty && (s.mem name).isNone then some (.box cs name T cells val, { reads := [name] }) else none
def vt (s : SS) (gl : List (At × Bool)) (dst : Option Tmp) (sp : Bool) (x : Operand) : Option (NF × FP) :=
 if sp then
  if gl.isEmpty then
   (mh s gl x).bind fun (a, cs) =>
    match a with
    | .k v => cT gl dst (.at (.k v)) cs
    | a => some (.fl cs (.split a.den) (fun vs => (.s (.at (.k (g vs 0))))), {})
  else none
 else
  match x with
  | .tmp t => match s.tmps t with
   | .tup l => if gl.isEmpty then some (.fl [] .sil (fun _ => (.tup l)), {}) else none
   | _ => (tc s gl x).bind fun (v, cs) => cT gl dst v cs
  | x => (tc s gl x).bind fun (v, cs) => cT gl dst v cs
def BD (s : SS) (gl : List (At × Bool)) (dst : Option Tmp) (c a b : Operand) : Option (NF × FP) :=
 (mh s gl c).bind fun (c, cs) =>
  match c with
  | .k (.bool true) => (tc s gl a).bind fun (v, cs') => cT gl dst v (cs ++ cs')
  | .k (.bool false) => (tc s gl b).bind fun (v, cs') => cT gl dst v (cs ++ cs')
  | c =>
   match mh s ((c, true) :: gl) a, mh s ((c, false) :: gl) b with
   | some (a, ca), some (b, cb) => if a.fit && b.fit then some (fS gl true dst .pick [c, a, b] (cs ++ ca ++ cb), {}) else none
   | _, _ => none
def wW (P : Program) (s : SS) (gl : List (At × Bool)) (dst : Option Tmp) (T : TypeId) (parts : List (Nat × Operand)) : Option (NF × FP) :=
 (xg P T).bind fun zero =>
  match P.underlying T with
  | some (.struct fs) =>
   (fs.toList.mapM fun f => (P.info? f.type).map fun i => (f.offset, i.size)).bind fun places =>
    (ei s gl (fun i => places.toArray[i]?) parts zero).bind fun (cells, cs) => cT gl dst (.agg cells) cs
  | some (.array _ elem) =>
   (mO P elem).bind fun size => (ei s gl (fun i => some (i * size, size)) parts zero).bind fun (cells, cs) => cT gl dst (.agg cells) cs
  | _ => none
def iP (P : Program) (s : SS) (gl : List (At × Bool)) (dst : Option Tmp) (name : Nat) (T : TypeId) (len : Nat) (parts : List (Nat × Operand)) : Option (NF × FP) :=
 match P.underlying T with
 | some (.slice elem) =>
  (mO P elem).bind fun size => (xg P elem).bind fun zero =>
   if zero.length = size && size ≠ 0 && len * size ≤ 65536 then
    (ei s gl (fun i => some (i * size, size)) parts (cQ zero len)).bind fun (cells, cs) => nI s gl dst name elem cells (fun r => .sl name r 0 len len) cs
   else none
 | _ => none
def Mp (gl : List (At × Bool)) (dst : Option Tmp) (x : At) (cs : List Ck) : Option (NF × FP) :=
 match x with
 | .p .. | .clo .. => cT gl dst (.at x) cs
 | .v y | .k y => cT gl dst (.at x) (.ptr (nj gl) y :: cs)
 | .px y _ => cT gl dst (.at x) (.ptr (nj gl) y :: cs)
 | _ => none
def wH : Operand → Bool
 | .const _ => true
 | _ => false
def Kg : BinOp → Bool
 | .quo | .rem | .shl | .shr => false
 | _ => true
def fs0 (P : Program) (s : SS) (gl : List (At × Bool)) (dst : Option Tmp) (op : BinOp) (t : TypeId) (x y : Operand) : Option (NF × FP) :=
 match NS P t with
 | some bk => (eF s gl [x, y]).bind fun (as, cs) => some (fS gl (Kg op) dst (.bin op bk) as cs, {})
 | none =>
  match op with
  | .eql | .neq => (tF s gl [x, y]).bind fun (as, cs) => some (.fl cs (.raw (nj gl) (.eqv op t (wH x || wH y)) (as.map S1.den)) (fun vs => (Bb gl (.at (.v (g vs 0))))), {})
  | _ => none
def N5 (P : Program) (gl : List (At × Bool)) (dst : Option Tmp) (op : UnOp) (t : TypeId) (x : At) (cs : List Ck) : Option (NF × FP) :=
 match op, P.underlying t with
 | .not, some .bool => some (fS gl true dst .not [x] cs, {})
 | .neg, some (.int _) => some (fS gl true dst .neg [x] cs, {})
 | .xor, some (.int _) => some (fS gl true dst .compl [x] cs, {})
 | _, _ => none
def Ch (P : Program) (s : SS) (gl : List (At × Bool)) (dst : Option Tmp) (a b : TypeId) (x : At) (cs : List Ck) : Option (NF × FP) :=
 match P.underlying a, P.underlying b with
 | some (.int _), some (.int k) => some (fS gl true dst (.conv k) [x] cs, {})
 | _, _ => if gl.isEmpty then eG s dst .one (.prim (.convert a b) [x.den]) [x] cs else none
def wI (P : Program) (s : SS) (gl : List (At × Bool)) (dst : Option Tmp) (t : TypeId) (x : Operand) : Option (NF × FP) :=
 match P.underlying t with
 | some (.interface _) | none => none
 | some _ => (tc s gl x).bind fun (v, cs) => if (jF v.cells (je v.cells [])).isEmpty then cT gl dst (.at (.v (.iface t v.den))) cs else none
def Fs (P : Program) (gl : List (At × Bool)) (dst : Option Tmp) (t : TypeId) (x : S1) (i : At) (cs : List Ck) : Option (NF × FP) :=
 match P.underlying t, x with
 | some (.array len elem), .agg cells =>
  (mO P elem).bind fun size =>
   match ke i with
   | some n => if n < len then (xr P elem cells (n * size)).bind fun v => cT gl dst v cs else none
   | none => if size = 1 && !dU P elem && cells.length = len && cells.all At.fit && (jF cells (je cells [])).isEmpty then some (fS gl false dst .aidx (i :: cells) cs, {})
    else if gl.isEmpty && size = 1 && !dU P elem && cells.length = len && cells.all At.known && len ≤ 16 then some (.fl cs (.isplit i.den len) (fun vs => .s (.at (cells.getD (match g vs 0 with | .int _ n => n.toNat | _ => 0) .any))), {}) else none
 | some .string, .at x => some (fS gl false dst .sidx [x, i] cs, {})
 | _, _ => none
def jk (s : SS) (gl : List (At × Bool)) (dst : Option Tmp) (x : Operand) (i : Nat) : Option (NF × FP) :=
 match x with
 | .tmp t => match s.tmps t with
  | .tup l => (l[i]?).bind fun v => if v.known then cT gl dst v [] else none
  | _ => none
 | _ => none
def Jo (P : Program) (s : SS) (gl : List (At × Bool)) (dst : Option Tmp) (ty t : TypeId) (x : At) (cs : List Ck) : Option (NF × FP) :=
 match P.underlying t with
 | some (.slice _) =>
  match x with
  | .sl _ _ _ n _ => cT gl dst (.at (.k (goInt n))) cs
  | x => some (fS gl true dst .len [x] cs, {})
 | some .string => some (fS gl true dst .slen [x] cs, {})
 | some (.array n _) => cT gl dst (.at (.k (goInt n))) cs
 | some (.map _ _) => if gl.isEmpty then eG s dst .one (.prim (.bi .len #[t] ty) [x.den]) [x] cs else none
 | _ => none
def NI (P : Program) (gl : List (At × Bool)) (dst : Option Tmp) (t : TypeId) (x : At) (cs : List Ck) : Option (NF × FP) :=
 match P.underlying t with
 | some (.slice _) =>
  match x with
  | .sl _ _ _ _ n => cT gl dst (.at (.k (goInt n))) cs
  | x => some (fS gl true dst .cap [x] cs, {})
 | _ => none
def Ml {α : Type} : List α → Option α
 | [x] => some x
 | _ => none
def Ng {α : Type} : List α → Option (α × α)
 | [x, y] => some (x, y)
 | _ => none
def oL (P : Program) (s : SS) (gl : List (At × Bool)) (dst : Option Tmp) (ty : TypeId) (b : Builtin) (argTypes : Array TypeId) (args : List Operand) : Option (NF × FP) :=
 match b with
 | .len => (Ml argTypes.toList).bind fun t => (Ml args).bind fun x => (mh s gl x).bind fun (x, cs) => Jo P s gl dst ty t x cs
 | .cap => (Ml argTypes.toList).bind fun t => (Ml args).bind fun x => (mh s gl x).bind fun (x, cs) => NI P gl dst t x cs
 | .min => (Ng args).bind fun (x, y) => (eF s gl [x, y]).bind fun (as, cs) => some (fS gl true dst .min2 as cs, {})
 | .max => (Ng args).bind fun (x, y) => (eF s gl [x, y]).bind fun (as, cs) => some (fS gl true dst .max2 as cs, {})
 | .append | .copy =>
  if gl.isEmpty then (eF s gl args).bind fun (as, cs) => eG s dst .one (.prim (.bi b argTypes ty) (as.map At.den)) as cs else none
 | .delete | .clear =>
  if gl.isEmpty then (eF s gl args).bind fun (as, cs) => eG s dst (.tup []) (.prim (.bi b argTypes ty) (as.map At.den)) as cs else none
 | _ => none
def Cj (P : Program) (okf : FuncId → Bool) (rules : FuncId → Option (List Nat)) (s : SS) (dst : Option Tmp) (ty : TypeId) (f : At) (as : List S1) (cs : List Ck) : Option (NF × FP) :=
 (N9 P ty).bind fun shp =>
  match f with
  | .clo n caps =>
   if !okf n then (if caps.isEmpty then eG s dst shp (.prim (.intr n) (as.map S1.den)) (as.flatMap S1.cells) cs else none) else
   match caps.isEmpty, rules n, Ml as with
   | true, some offs, some (.at x) =>
    (zj x offs).bind fun l => if shp.isAgg l.length then
     some (.hv cs (.call n [x.den]) [] [] shp (fun vs => CL vs l 0) (fun _ => .s (.agg l)), {}) else none
   | _, _, _ => eG s dst shp (.call n (as.map S1.den ++ caps.map Cp.den)) (f :: as.flatMap S1.cells) cs
  | .v x => eG s dst shp (.callv x (as.map S1.den)) (as.flatMap S1.cells) cs
  | .k x => eG s dst shp (.callv x (as.map S1.den)) (as.flatMap S1.cells) cs
  | _ => none
def mf (s : SS) (gl : List (At × Bool)) (dst : Option Tmp) (shp : Shp) (op : PrimOp) (xs : List Operand) : Option (NF × FP) :=
 if gl.isEmpty then (eF s gl xs).bind fun (as, cs) => eG s dst shp (.prim op (as.map At.den)) as cs else none
def tR : Operand → Option Nat
 | .const (.int .i64 n) => if 0 ≤ n ∧ n ≤ 65536 then some n.toNat else none
 | _ => none
def ik (P : Program) (s : SS) (gl : List (At × Bool)) (dst : Option Tmp) (name : Nat) (t : TypeId) (l c : Operand) : Option (NF × FP) :=
 match tR l, tR c, P.underlying t with
 | some n, some m, some (.slice elem) =>
  (mO P elem).bind fun size => (xg P elem).bind fun zero =>
   if zero.length = size && size ≠ 0 && n ≤ m && m * size ≤ 65536 && ((P.info? elem).map fun i => decide (i.bytes * m ≤ 2 ^ 48)).getD false then
    nI s gl dst name elem (cQ zero m) (fun r => .sl name r 0 n m) []
   else none
 | _, _, _ => mf s gl dst .one (.makeSlice t) [l, c]
def J7 (P : Program) (okf : FuncId → Bool) (rules : FuncId → Option (List Nat)) (sp : Bool) (name : Nat) (o : Oper) (gl : List (At × Bool)) (s : SS) : Option (NF × FP) :=
 match o.op with
 | .move x => vt s gl o.dst sp x
 | .assign x => vt s gl o.dst sp x
 | .pick c a b => BD s gl o.dst c a b
 | .alloc T => (xg P T).bind fun cells => nI s gl o.dst name T cells (fun r => .p name r 0) []
 | .box T x => (tc s gl x).bind fun (v, cs) => if v.cells.all At.fit then nI s gl o.dst name T v.cells (fun r => .p name r 0) cs else none
 | .build T parts => wW P s gl o.dst T parts.toList
 | .buildSlice T len parts => iP P s gl o.dst name T len parts.toList
 | .load t x => (mh s gl x).bind fun (x, cs) => xu P s gl o.dst t x cs
 | .store t x y => if gl.isEmpty && o.dst.isNone then (mh s gl x).bind fun (x, cs) => (tc s gl y).bind fun (y, cs') => rB P s t x y (cs ++ cs') else none
 | .nilCheck x => (mh s gl x).bind fun (x, cs) => Mp gl o.dst x cs
 | .binOp op t x y _ => fs0 P s gl o.dst op t x y
 | .unOp op t x => (mh s gl x).bind fun (x, cs) => N5 P gl o.dst op t x cs
 | .convert a b x => (mh s gl x).bind fun (x, cs) => Ch P s gl o.dst a b x cs
 | .makeInterface t x => wI P s gl o.dst t x
 | .makeFunc (.func f) first caps =>
  if first.isEmpty then (eF s gl caps.toList).bind fun (as, cs) => (xE as).bind fun l => cT gl o.dst (.at (.clo f l)) cs else none
 | .fieldAddr t x f =>
  (Ab P t f).bind fun fd => (mO P fd.type).bind fun m =>
   if m = 0 then none else (mh s gl x).bind fun (x, cs) => (Gq gl x fd.offset).bind fun (a, c) => cT gl o.dst (.at a) (c ++ cs)
 | .field t x f =>
  (Ab P t f).bind fun fd => (tc s gl x).bind fun (x, cs) => (xr P fd.type x.cells fd.offset).bind fun v => if x.isAgg then cT gl o.dst v cs else none
 | .indexAddr t x i => (eF s gl [x, i]).bind fun (as, cs) => (Ng as).bind fun (x, i) => ur P gl o.dst t x i cs
 | .index t x i => (tc s gl x).bind fun (x, cs) => (mh s gl i).bind fun (i, cs') => Fs P gl o.dst t x i (cs ++ cs')
 | .slice t x lo hi mx =>
  (mh s gl x).bind fun (x, c0) => (eF s gl lo.toList).bind fun (l, c1) => (eF s gl hi.toList).bind fun (h, c2) => (eF s gl mx.toList).bind fun (m, c3) =>
   E6 P gl o.dst t x l.head? h.head? m.head? (c0 ++ c1 ++ c2 ++ c3)
 | .extract x i => jk s gl o.dst x i
 | .call c =>
  match c.callee with
  | .builtin b => oL P s gl o.dst o.type b c.argTypes c.args.toList
  | .value f =>
   if gl.isEmpty then (mh s gl f).bind fun (f, cs) => (tF s gl c.args.toList).bind fun (as, cs') => Cj P okf rules s o.dst o.type f as (cs ++ cs') else none
  | _ => none
 | .makeSlice t l c => ik P s gl o.dst name t l c
 | .makeMap t r => mf s gl o.dst .one (.makeMap t r.isSome) r.toList
 | .lookup t x i ok => mf s gl o.dst (if ok then .tup [none, none] else .one) (.lookup t ok) [x, i]
 | .mapUpdate t m k x => if o.dst.isNone then mf s gl o.dst .one (.mapUpdate t) [m, k, x] else none
 | .insert t m k x => if o.dst.isNone then mf s gl o.dst .one (.mapUpdate t) [m, k, x] else none
 | .range t x => mf s gl o.dst .one (.range t) [x]
 | .entry x => mf s gl o.dst (.tup [none, none]) .entry [x]
 | .next x str => mf s gl o.dst (if str then .tup [none, none, none] else .tup [none, none, none]) (.next str o.type) [x]
 | _ => none
def yf (s : SS) : Option Tmp → Bool
 | some d => decide (d < s.sz)
 | none => true
def nf (P : Program) (okf : FuncId → Bool) (rules : FuncId → Option (List Nat)) (tgt : Nat → Option Tmp) (sp : Bool) (name : Nat) (o : Oper) (s : SS) : Option (NF × FP) :=
 if !yf s o.dst then none else
 match aW tgt s o with
 | .bad => none
 | .skip => some (.fl [] .sil (fun _ => (.s (.at (.k undef)))), {})
 | .go gl => J7 P okf rules sp name o gl s
end Go.Sx

/- The evaluator of code: trees. Generic. -/
namespace Go.Sx
open Go
def Fp (c : Value) (kk : Nat → Tree) : Nat → Nat → Tree
 | _, 0 => .stuck 901
 | i, n + 1 => .sw c i (kk i) (Fp c kk (i + 1) n)
def JK : List Ck → Tree → Tree
 | [], t => t
 | p :: r, t => .chk p (JK r t)
def qW (dst : Option Tmp) (frz own : List (Nat × Bx)) (sv : List Value → SV) (s : SS) (vs : List Value) (css : List (List Value)) : SS :=
 (oS 0 own css (cI ((frz ++ own).map (·.1)) s)).set dst (sv vs)
def bvs (l : List (Nat × Bx)) : List BV := l.map (·.2.bv)
def Lx (d : Bool) (dst : Option Tmp) (x : NF) (s : SS) (kk : SS → Tree) : Tree :=
 match x with
 | .fl cs k X => JK cs <|
  match k with
  | .sil => kk (s.set dst (X []))
  | .pure gd op args => .pure gd op args fun v => kk (s.set dst (X [v]))
  | .raw gd op args => .raw gd op args fun v => kk (s.set dst (X [v]))
  | .load gd p m => .load gd p m fun vs => kk (s.set dst (X vs))
  | .split c => .br c (kk (s.set dst (X [.bool true]))) (kk (s.set dst (X [.bool false])))
  | .isplit c n => Fp c (fun i => kk (s.set dst (X [.int .i64 i]))) 0 n
 | .box cs n T cells val => JK cs (.newbox fun r => kk ((s.setBox n (some ⟨r, T, cells⟩)).set dst (.s (.at (val r)))))
 | .stb cs n b => JK cs (kk (s.setBox n (some b)))
 | .hv cs k frz own shp post sv => JK cs <|
  match k with
  | .call f args => .call d f args (bvs frz) (bvs own) shp fun vs css => JK (post vs) (kk (qW dst frz own sv s vs css))
  | .callv fv args => .callv d fv args (bvs frz) (bvs own) shp fun vs css => JK (post vs) (kk (qW dst frz own sv s vs css))
  | .prim op args => .prim op args (bvs frz) (bvs own) shp fun vs css => JK (post vs) (kk (qW dst frz own sv s vs css))
 | .st cs p vs => JK cs (.store p vs (kk s))
def EK (a b : List Nat) : Bool := a.all (!b.contains ·)
def FK.isLoad : FK → Bool
 | .load .. => true
 | _ => false
def HK.isCall' : HK → Bool
 | .prim .. => false
 | _ => true
def tO : NF → NF → Bool
 | .hv .., .box cs .. => cs.isEmpty
 | .hv .., _ => false
 | .st .., .box .. => true
 | .st .., _ => false
 | .box .., .hv .. => false
 | .box .., .st .. => false
 | .box .., b => !b.ch
 | .fl _ k _, .hv _ hk .. => !k.isLoad || hk.isCall'
 | .fl _ k _, .st .. => !k.isLoad
 | _, _ => true
def ux (a : NF) (fa : FP) (b : NF) (fb : FP) : Bool :=
 EK a.writes fb.reads && EK a.writes b.writes && EK fa.reads b.writes && tO a b
def Mu : Op → Bool
 | .alloc _ | .box _ _ | .buildSlice _ _ _ | .makeSlice _ _ _ | .makeMap _ _ | .lookup _ _ _ _ | .mapUpdate _ _ _ _ | .range _ _ | .convert _ _ _ => true
 | .call c => match c.callee with
  | .builtin .len | .builtin .cap | .builtin .min | .builtin .max => false
  | _ => true
 | _ => false
def lZ : List (Nat × Oper) → List Nat
 | [] => []
 | (i, o) :: r =>
  let S := lZ r
  match o.guard with
  | some (j, _) => if Mu o.op || S.contains i then (if S.contains j then S else j :: S) else S
  | none => S
def bZ (ops : Array Oper) (j : Nat) : Option Tmp := (ops[j]?).bind (·.dst)
def Oj : Op → Nat
 | .alloc _ | .box _ _ | .buildSlice _ _ _ => 2
 | .makeSlice _ l c => if (tR l).isSome && (tR c).isSome then 2 else 1
 | .store _ _ _ | .makeMap _ _ | .lookup _ _ _ _ | .mapUpdate _ _ _ _ | .insert _ _ _ _ | .range _ _ | .next _ _ | .entry _ => 1
 | .call c => match c.callee with
  | .builtin .len | .builtin .cap | .builtin .min | .builtin .max => 0
  | _ => 1
 | _ => 0
def ja (o : Oper) : List Nat := o.after.toList.filterMap fun e => if Region.binds .any e then some e.on else none
def Dd (done : Nat) (o : Oper) : Bool := (ja o).all fun p => done.testBit p
def py (done c : Nat) : List (Nat × Oper) → Option (Nat × Oper)
 | [] => none
 | (i, o) :: r => if Oj o.op == c && Dd done o then some (i, o) else py done c r
def Ai (i : Nat) : List (Nat × Oper) → List (Nat × Oper)
 | [] => []
 | (j, o) :: r => if j = i then r else (j, o) :: Ai i r
def ig : Nat → Nat → List (Nat × Oper) → List (Nat × Oper)
 | 0, _, l => l
 | fuel + 1, done, l =>
  match (py done 0 l).orElse fun _ => (py done 1 l).orElse fun _ => py done 2 l with
  | none => l
  | some (i, o) => (i, o) :: ig fuel (done ||| 1 <<< i) (Ai i l)
def jS (tab : List (Nat × Nat)) (p : Nat) : Nat :=
 match tab with
 | [] => 0
 | (q, m) :: r => if q = p then m else jS r p
def BP (tab : List (Nat × Nat)) : List Nat → Nat
 | [] => 0
 | p :: r => (1 <<< p) ||| jS tab p ||| BP tab r
def gB : List (Nat × Oper) → List (Nat × Nat) → List (Nat × Nat)
 | [], tab => tab
 | (i, o) :: r, tab => gB r ((i, BP tab (ja o)) :: tab)
def AY (tab : List (Nat × Nat)) (a i : Nat) : Bool := (jS tab i).testBit a
structure Ent where
 i : Nat
 o : Oper
 x : NF
 fp : FP
def yd (ops : Array Oper) (tab : List (Nat × Nat)) (i : Nat) (o : Oper) (x : NF) (fp : FP) (log : List Ent) : Bool :=
 log.all fun e => AY tab e.i i || (ux e.x e.fp x fp && Oper.apart ops e.o o)
def LC (nfi : Nat → Oper → Option (NF × FP)) (ops : Array Oper) (tab : List (Nat × Nat)) (a : Nat) (oa : Oper) (x : NF) (fp : FP) (log : List Ent) (r : List (Nat × Oper)) : Bool :=
 match x with
 | .hv .. =>
  let U := r.filter fun k => !AY tab a k.1
  U.all fun k =>
   match nfi k.1 k.2 with
   | some (y, fpy) => ux x fp y fpy && Oper.apart ops oa k.2 && yd ops tab k.1 k.2 y fpy log &&
    U.all fun m => m.1 == k.1 || (Oper.apart ops m.2 k.2 && match nfi m.1 m.2 with | some (z, _) => EK z.writes fpy.reads | none => false)
   | none => false
 | _ => true
def NF.isLd : NF → Bool
 | .fl _ k _ => k.isLoad
 | _ => false
def dAt (tab : List (Nat × Nat)) (i : Nat) (log : List Ent) : Bool := log.any fun e => !AY tab e.i i && e.x.isLd
def zm (P : Program) (okf : FuncId → Bool) (rules : FuncId → Option (List Nat)) (draw : Bool) (ops : Array Oper) (tab : List (Nat × Nat)) (sp : List Nat) (base : Nat) : List (Nat × Oper) → List Ent → SS → (SS → Tree) → Tree
 | [], _, s, kk => kk s
 | (i, o) :: r, log, s, kk =>
  match nf P okf rules (bZ ops) (sp.contains i) (base + i) o s with
  | none => .stuck (1000 + i)
  | some (x, fp) =>
   if draw && !(yd ops tab i o x fp log && LC (fun k ok => nf P okf rules (bZ ops) (sp.contains k) (base + k) ok s) ops tab i o x fp log r) then .stuck (2000 + i)
   else Lx (draw && dAt tab i log) o.dst x s fun s' => zm P okf rules draw ops tab sp base r (if draw then ⟨i, o, x, fp⟩ :: log else log) s' kk
def bI {α : Type} (n : Nat) : List α → List (Nat × α)
 | [] => []
 | a :: r => (n, a) :: bI (n + 1) r
def topo (n : Nat) : Nat → List (Nat × Oper) → Bool
 | done, [] => done == 2 ^ n - 1
 | done, (i, o) :: r => !done.testBit i && Dd done o && topo n (done ||| 1 <<< i) r
def wy (P : Program) (okf : FuncId → Bool) (rules : FuncId → Option (List Nat)) (ops : Array Oper) (draw : Bool) (s : SS) (kk : SS → Tree) : Tree :=
 let l := bI 0 ops.toList
 if draw then
  let l' := ig ops.size 0 l
  if topo ops.size 0 l' then
   zm P okf rules true ops (gB l' []) (lZ l) s.next l' [] s fun s' => kk { s' with next := s.next + ops.size }
  else .stuck 3000
 else zm P okf rules false ops [] (lZ l) s.next l [] s fun s' => kk { s' with next := s.next + ops.size }
inductive MU where
 | unroll (n : Nat)
 | inv (carry keep : List Nat) (boxes : List (Nat × List Nat))
structure Nd where
 okf : FuncId → Bool
 rules : FuncId → Option (List Nat)
 loop : Nat → MU
 cut : Nat → Option (List Nat × List Nat × List (Nat × List Nat))
def eI : Code → Nat
 | .region id _ _ => id
 | .seq a _ => eI a
 | .block _ b => eI b
 | .loop b => eI b
 | .cond _ a b => match a with | .skip => eI b | _ => eI a
 | _ => 99999
def HV (s : SS) (t : Nat) : At := match s.tmps t with | .s (.at a) => a | _ => .any
def MO (s : SS) (t : Nat) : Option Nat := match HV s t with | .p n _ _ => some n | .sl n _ _ _ _ => some n | _ => none
def Df (l : List Nat) (t : Nat) : Option Nat :=
 match l with
 | [] => none
 | a :: r => if a = t then some 0 else (Df r t).map (· + 1)
def eY (s : SS) : List (Nat × List Nat) → Nat → List (Nat × Bx × List Nat × Nat)
 | [], _ => []
 | (t, cells) :: r, i =>
  match MO s t with
  | none => eY s r i
  | some n => match s.mem n with
   | none => eY s r i
   | some b =>
    let rest := eY s r (i + cells.length)
    (n, b, cells, i) :: rest.filter (fun x => x.1 != n)
def lY (cs : List At) (vs : List Value) : List Nat → Nat → List At
 | [], _ => cs
 | c :: r, i => lY (cs.set c (.v (g vs i))) vs r (i + 1)
def tP (s : SS) (carry keep : List Nat) (hb : List (Nat × Bx × List Nat × Nat)) (vs : List Value) : SS :=
  { s with
    tmps := fun t => match Df carry t with | some i => .s (.at (.v (g vs i))) | none => if keep.contains t then s.tmps t else .s (.at .any)
    mem := fun n => match hb.find? (·.1 == n) with | some (_, b, cells, i) => some { b with cs := lY b.cs vs cells i } | none => none }
def dN (s : SS) (carry : List Nat) (hb : List (Nat × Bx × List Nat × Nat)) : List Value :=
 carry.map (fun t => (HV s t).den) ++ hb.flatMap fun (n, _, cells, _) => match s.mem n with | some b => cells.map fun c => (b.cs.getD c .any).den | none => []
def oH (s : SS) (carry : List Nat) (hb : List (Nat × Bx × List Nat × Nat)) : Bool :=
 carry.all (fun t => (HV s t).fit) && hb.all fun (n, _, cells, _) => match s.mem n with | some b => cells.all fun c => (b.cs.getD c .any).fit | none => false
def kE : SV → Option (List At)
 | .s x => some x.cells
 | .tup l => some (l.flatMap S1.cells)
 | .opt _ _ => none
def Is : SV → SV → Bool
 | .s (.at _), .s (.at _) => true
 | .s (.agg a), .s (.agg b) => a.length == b.length
 | .tup a, .tup b => a.length == b.length && (a.zip b).all fun p => match p.1, p.2 with | .at _, .at _ => true | .agg a, .agg b => a.length == b.length | _, _ => false
 | _, _ => false
def sd (cs : List At) (cells : List Nat) : List At := (bI 0 cs).map fun (i, a) => if cells.contains i then .k undef else a
def Hb : Nat → List (Nat × Bx × List Nat × Nat) → Bool
 | _, [] => true
 | p, (_, _, cells, i) :: r => i == p && Hb (p + cells.length) r
def vR (lab : Nat) (C : List Value → Heap → Own → Prop) (carry keep : List Nat) (hb : List (Nat × Bx × List Nat × Nat)) (h s : SS) : Tree :=
  if s.sz == h.sz && Hb carry.length hb && oH s carry hb &&
    keep.all (fun t => (Df carry t).isSome || (Is (s.tmps t) (h.tmps t) && match kE (s.tmps t) with | some l => l.all At.known | none => false)) &&
    hb.all (fun (n, b, _, _) => match s.mem n with | some b' => b'.T == b.T && b'.cs.length == b.cs.length && b'.cs.all At.known | none => false)
  then .cont lab C (dN s carry hb)
    ((keep.filter fun t => (Df carry t).isNone).map (fun t => (((kE (s.tmps t)).getD []).map At.den, ((kE (h.tmps t)).getD []).map At.den)) ++
     hb.map fun (n, b, cells, _) => match s.mem n with
      | some b' => (.pointer (some ⟨b'.r, 0, none⟩) :: (sd b'.cs cells).map At.den, .pointer (some ⟨b.r, 0, none⟩) :: (sd b.cs cells).map At.den)
      | none => ([], []))
  else .stuck 902

def wi (f : SS → (SS → Tree) → Tree) : Nat → SS → Tree
 | 0, _ => .stuck 903
 | n + 1, s => f s fun s' => wi f n s'
def sx (P : Program) (opts : Nd) : Code → SS → (SS → Tree) → (Nat → Option (SS → Tree)) → (SS → Tree) → Tree
 | .skip, s, k, _, _ => k s
 | .label _, s, k, _, _ => k s
 | .region _ ops draw, s, k, _, _ => wy P opts.okf opts.rules ops draw s k
 | .seq a b, s, k, X, R => sx P opts a s (fun s' => sx P opts b s' k X R) X R
 | .cond c a b, s, k, X, R =>
  let whole (s : SS) (k : SS → Tree) : Tree :=
   match mh s [] c with
   | some (.k (.bool true), _) => sx P opts a s k X R
   | some (.k (.bool false), _) => sx P opts b s k X R
   | some (v, _) => .br v.den (sx P opts a s k X R) (sx P opts b s k X R)
   | none => .stuck 904
  match opts.cut (eI (.cond c a b)) with
  | none => whole s k
  | some (carry, keep, boxes) =>
   let hb := eY s boxes carry.length
   .cut s.next (eI (.cond c a b)) (fun C => whole { s with next := s.next + 1 } fun s' => vR s.next C carry keep hb s s') fun vs => k (tP { s with next := s.next + 1 } carry keep hb vs)
 | .block id b, s, k, X, R => sx P opts b s k (fun j => if j = id then some k else X j) R
 | .exit id, s, _, X, _ => match X id with | some k => k s | none => .stuck 905
 | .ret, s, _, _, R => R s
 | .loop b, s, _, X, R =>
  match opts.loop (eI b) with
  | .unroll n => wi (fun s k => sx P opts b s k X R) n s
  | .inv carry keep boxes =>
   let hb := eY s boxes carry.length
   if Hb carry.length hb && oH s carry hb then
    .loop s.next (eI b) (dN s carry hb) fun C vs =>
     sx P opts b (tP { s with next := s.next + 1 } carry keep hb vs) (fun s' => vR s.next C carry keep hb s s') X R
   else .stuck 906
 | _, _, _, _, _ => .stuck 907
def lM (P : Program) : List TypeId → Nat → List Value → List SV
 | [], _, _ => []
 | T :: r, i, vs =>
  if dU P T then (let m := (mO P T).getD 0; .s (.agg (atsFrom vs i m)) :: lM P r (i + m) vs)
  else .s (.at (.v (g vs i))) :: lM P r (i + 1) vs
def uw (P : Program) (fn : Func) (vs : List Value) : SS :=
 let svs := lM P (fn.params.toList ++ List.replicate fn.nfree 0) 0 vs
 { sz := fn.ntmps, tmps := fun t => (svs[t]?).getD (.s (.at (.k undef))), mem := fun _ => none, next := 0 }
def Fa (P : Program) (s : SS) : ResultVar → Option S1
 | .tmp t => match s.tmps t with
  | .s x => if x.known then some x else none
  | _ => none
 | .cell a T => match HV s a with
  | .p n r 0 => (s.mem n).bind fun b => if b.cs.all At.known && some b.cs.length == mO P T then If P T b.cs else none
  | _ => none
def D3 (s : SS) : ResultVar → List Ck
 | .tmp _ => []
 | .cell a _ => match HV s a with
  | .p n r _ => (match s.mem n with | some b => [.eqN r b.r] | none => [])
  | _ => []
def vi (P : Program) (s : SS) : List ResultVar → Option (List S1)
 | [] => some []
 | x :: r => match Fa P s x, vi P s r with
  | some v, some vs => some (v :: vs)
  | _, _ => none
def CG (P : Program) (fn : Func) (s : SS) : Tree :=
 match vi P s fn.results.toList with
 | none => .stuck 908
 | some l =>
  let atoms := l.flatMap S1.cells
  let own := jf s (fm s 50 (jF atoms (je atoms [])) [])
  if own.all (fun b => b.2.cs.all At.known) && Jd (own.map (·.1)) then
   JK (fn.results.toList.flatMap (D3 s)) (.ret (match l with | [v] => v.den | l => .tuple (l.map S1.den).toArray) (bvs own))
  else .stuck 909
def aT (P : Program) (fn : Func) (opts : Nd) (vs : List Value) : Tree :=
 match fn.body with
 | some c => sx P opts c (uw P fn vs) (CG P fn) (fun _ => none) (CG P fn)
 | none => .stuck 910
end Go.Sx

/- What a symbolic state says of the machine's; that an operation's normal form is sound: the frame of the proof. -/
namespace Go.Sx
open Go
def AllCk : List Ck → Prop
 | [] => True
 | c :: r => c.holds ∧ AllCk r
theorem AllCk.append {a b : List Ck} : AllCk (a ++ b) ↔ AllCk a ∧ AllCk b := by
 induction a with
 | nil => simp [AllCk]
 | cons c r ih => simp [AllCk, ih, and_assoc]
def CellsRel : List At → List Value → Prop
 | [], [] => True
 | a :: r, v :: vs => (a.known = true → v = a.den) ∧ CellsRel r vs
 | _, _ => False
theorem CellsRel.length : ∀ {cs : List At} {vs : List Value}, CellsRel cs vs → cs.length = vs.length
 | [], [], _ => rfl
 | _ :: _, _ :: _, h => by simp [CellsRel.length h.2]
theorem CellsRel.known : ∀ {cs : List At} {vs : List Value}, CellsRel cs vs → cs.all At.known = true → vs = cs.map At.den
 | [], [], _, _ => rfl
 | a :: r, v :: vs, h, hk => by
  simp only [List.all_cons, Bool.and_eq_true] at hk
  rw [List.map_cons, h.1 hk.1, CellsRel.known h.2 hk.2]
theorem CellsRel.drop : ∀ {cs : List At} {vs : List Value} (n : Nat), CellsRel cs vs → CellsRel (cs.drop n) (vs.drop n)
 | _, _, 0, h => by simpa using h
 | [], [], _ + 1, _ => by simp [CellsRel]
 | _ :: _, _ :: _, n + 1, h => by simpa using CellsRel.drop n h.2
theorem CellsRel.take : ∀ {cs : List At} {vs : List Value} (n : Nat), CellsRel cs vs → CellsRel (cs.take n) (vs.take n)
 | _, _, 0, _ => by simp [CellsRel]
 | [], [], _ + 1, _ => by simp [CellsRel]
 | _ :: _, _ :: _, n + 1, h => by simpa [CellsRel] using ⟨h.1, CellsRel.take n h.2⟩
theorem CellsRel.append : ∀ {cs ds : List At} {vs us : List Value}, CellsRel cs vs → CellsRel ds us → CellsRel (cs ++ ds) (vs ++ us)
 | [], _, [], _, _, h => by simpa using h
 | _ :: _, _, _ :: _, _, h, h' => by simpa [CellsRel] using ⟨h.1, CellsRel.append h.2 h'⟩
theorem CellsRel.map (cs : List At) : CellsRel cs (cs.map At.den) := by
 induction cs with
 | nil => simp [CellsRel]
 | cons a r ih => exact ⟨fun _ => rfl, ih⟩
theorem CellsRel.fill {cs : List At} {vs : List Value} (h : CellsRel cs vs) (off : Nat) (ys : List At) :
  CellsRel (iM cs off ys) (vs.take off ++ ys.map At.den ++ vs.drop (off + ys.length)) :=
 ((h.take off).append (CellsRel.map ys)).append (h.drop _)
theorem CellsRel.from (vs : List Value) : ∀ (m i : Nat), i + m = vs.length → CellsRel ((List.range' i m).map fun j => At.v (g vs j)) (vs.drop i)
 | 0, i, h => by
  have : vs.drop i = [] := List.drop_eq_nil_of_le (by omega)
  simp [this, CellsRel]
 | m + 1, i, h => by
  have hi : i < vs.length := by omega
  rw [List.drop_eq_getElem_cons hi, List.range'_succ, List.map_cons]
  refine ⟨fun _ => ?_, CellsRel.from vs m (i + 1) (by omega)⟩
  simp [At.den, g, hi]
theorem Cn (vs : List Value) (i m : Nat) : atsFrom vs i m = (List.range' i m).map fun j => At.v (g vs j) := by
 unfold atsFrom
 rw [List.range'_eq_map_range, List.map_map]; rfl
theorem CellsRel.atsFrom {vs : List Value} {m : Nat} (h : vs.length = m) : CellsRel (atsFrom vs 0 m) vs := by
 rw [Cn]; simpa using CellsRel.from vs m 0 (by omega)
def oM (b : Option Bx) (vs : List Value) : Nat × Obj :=
 match b with
 | some b => (b.r, .cells vs.toArray b.T (0, 0))
 | none => (0, .cells #[] 0 (0, 0))
def Boxes (m : Nat → Option Bx) (L : Own) : Prop :=
 ∃ (ns : List Nat) (f : Nat → List Value), ns.Nodup ∧ (∀ n, (m n).isSome = true ↔ n ∈ ns) ∧ (∀ n b, m n = some b → CellsRel b.cs (f n)) ∧
  L.Perm (ns.map fun n => oM (m n) (f n))
theorem Boxes.perm {m : Nat → Option Bx} {L L' : Own} (h : Boxes m L) (hp : L.Perm L') : Boxes m L' :=
 let ⟨ns, f, a, b, c, d⟩ := h; ⟨ns, f, a, b, c, hp.symm.trans d⟩
theorem Boxes.none : Boxes (fun _ => Option.none) [] := ⟨[], fun _ => [], by simp, by simp, by simp, by simp⟩
theorem Boxes.take {m : Nat → Option Bx} {L : Own} {n : Nat} {b : Bx} (h : Boxes m L) (hb : m n = some b) :
  ∃ vs L', CellsRel b.cs vs ∧ L.Perm ((b.r, .cells vs.toArray b.T (0, 0)) :: L') ∧ Boxes (fun k => if k = n then Option.none else m k) L' := by
 obtain ⟨ns, f, hn, hs, hc, hp⟩ := h
 have hin : n ∈ ns := (hs n).1 (by simp [hb])
 refine ⟨f n, (ns.erase n).map fun k => oM (m k) (f k), hc n b hb, ?_, ns.erase n, f, hn.erase n, fun k => ?_, fun k b' hk => ?_, ?_⟩
 ·refine hp.trans ?_
  have := (List.perm_cons_erase hin).map fun k => oM (m k) (f k)
  simpa [oM, hb] using this
 ·by_cases hk : k = n
  ·subst hk; simpa using fun hm => (List.Nodup.mem_erase_iff hn).1 hm |>.1 rfl
  ·simp only [hk, if_false, hs k, List.Nodup.mem_erase_iff hn]; simp [hk]
 ·by_cases e : k = n
  ·simp [e] at hk
  ·simp only [e, if_false] at hk; exact hc k b' hk
 ·refine List.Perm.of_eq (List.map_congr_left fun k hk => ?_)
  have : k ≠ n := ((List.Nodup.mem_erase_iff hn).1 hk).1
  simp [this]
theorem Boxes.put {m : Nat → Option Bx} {L : Own} {n : Nat} {b : Bx} {vs : List Value} (h : Boxes m L) (hb : m n = Option.none) (hv : CellsRel b.cs vs) :
  Boxes (fun k => if k = n then some b else m k) ((b.r, .cells vs.toArray b.T (0, 0)) :: L) := by
 obtain ⟨ns, f, hn, hs, hc, hp⟩ := h
 have hout : n ∉ ns := fun hin => by have := (hs n).2 hin; simp [hb] at this
 refine ⟨n :: ns, fun k => if k = n then vs else f k, List.nodup_cons.2 ⟨hout, hn⟩, fun k => ?_, fun k b' hk => ?_, ?_⟩
 ·by_cases e : k = n <;> simp [e, hs k]
 ·by_cases e : k = n
  ·subst e; simp at hk; subst hk; simpa using hv
  ·simp only [e, if_false] at hk ⊢; exact hc k b' hk
 ·simp only [List.map_cons, if_true, oM]
  refine List.Perm.cons _ (hp.trans (List.Perm.of_eq (List.map_congr_left fun k hk => ?_)))
  have : k ≠ n := fun e => hout (e ▸ hk)
  simp [this, oM]
theorem Dz (m : Nat → Option Bx) (n : Nat) (b : Option Bx) : (fun k => if k = n then b else if k = n then Option.none else m k) = fun k => if k = n then b else m k := by
 funext k; by_cases e : k = n <;> simp [e]
def S1.ok (x : S1) : Prop := ∀ a, a ∈ x.cells → a.ok
def SV.ok : SV → Prop
 | .s x => x.ok
 | .tup l => ∀ x, x ∈ l → x.ok
 | .opt _ x => x.ok
def SS.Ok (s : SS) : Prop := (∀ t, (s.tmps t).ok) ∧ ∀ n b, s.mem n = some b → ∀ a, a ∈ b.cs → a.ok
theorem SS.Ok.set {s : SS} (h : s.Ok) (d : Option Nat) {sv : SV} (hv : sv.ok) : (s.set d sv).Ok := by
 cases d with
 | none => exact h
 | some d =>
  refine ⟨fun t => ?_, h.2⟩
  simp only [SS.set]
  split
  ·exact hv
  ·exact h.1 t
theorem SS.Ok.setBox {s : SS} (h : s.Ok) (n : Nat) {b : Option Bx} (hv : ∀ b', b = some b' → ∀ a, a ∈ b'.cs → a.ok) : (s.setBox n b).Ok := by
 refine ⟨h.1, fun k b' hb => ?_⟩
 simp only [SS.setBox] at hb
 split at hb
 ·exact hv b' hb
 ·exact h.2 k b' hb
theorem At.fit_one {a : At} (h : a.fit = true) (ho : a.ok) : a.den.oneCell' = true := by
 cases a <;> simp_all [At.fit, At.ok, At.den, Value.oneCell']
theorem Ja {gl : List (At × Bool)} {x : S1} (h : x.ok) : (Bb gl x).ok := by
 unfold Bb; split <;> exact h
structure Conc (F : Own) (s : SS) (H : Heap) (O : Own) (a : Act) (w : World) : Prop where
 ok : s.Ok
 df : a.defers = []
 sz : a.tmps.size = s.sz
 tm : ∀ t, (s.tmps t).rel (a.tmps.getD t undef)
 mm : ∃ L, Boxes s.mem L ∧ Models w H (L ++ (O ++ F))
theorem Conc.put {F : Own} {s : SS} {H : Heap} {O : Own} {a : Act} {w : World} (h : Conc F s H O a w) {dst : Option Nat} {sv : SV} {v : Value}
  (hd : ∀ d, dst = some d → d < s.sz) (hv : sv.rel v) (hok : sv.ok) : Conc F (s.set dst sv) H O (a.put dst v) w := by
 have hok' := h.ok.set dst hok
 cases dst with
 | none => exact h
 | some d =>
  have hlt : d < a.tmps.size := by rw [h.sz]; exact hd d rfl
  refine ⟨hok', h.df, by simp [Act.put, SS.set, h.sz], fun t => ?_, h.mm⟩
  simp only [SS.set, Act.put]
  by_cases e : t = d
  ·subst e; simpa [Array.getD, hlt] using hv
  ·have := h.tm t
   simp only [e, if_false]
   have hg : (a.tmps.setIfInBounds d v).getD t undef = a.tmps.getD t undef := by
    simp only [Array.getD_eq_getD_getElem?]
    rw [Array.getElem?_setIfInBounds_ne (by omega)]
   rw [hg]; exact this
theorem E0 (c : At) (p : Bool) (gl : List (At × Bool)) : On (nj ((c, p) :: gl)) ↔ c.den = .bool p ∧ On (nj gl) := Iff.rfl
theorem Gb {gl : List (At × Bool)} {x : S1} {v : Value} (h : On (nj gl) → v = x.den) (h' : ¬ On (nj gl) → v = undef) : (Bb gl x).rel v := by
 unfold Bb
 split
 ·rename_i e
  have : gl = [] := by simpa using e
  subst this
  have hv := h trivial
  unfold SV.rel
  split <;> simp_all
 ·exact ⟨h, h'⟩
theorem ii {x : S1} {v : Value} (hk : x.known = true) (h : (SV.s x).rel v) : v = x.den := by
 rcases x with a | l
 ·cases a <;> first | exact h | simp [S1.known, S1.cells, At.known] at hk
 ·exact h
theorem FE (v : Value) : (wQ v).den = v := by
 cases v <;> simp [wQ, S1.den, At.den, Function.comp_def]
theorem yY : ∀ (rear gl' : List (At × Bool)), rear.length = gl'.length → ((rear.zip gl').all fun p => p.1.2 == p.2.2) = true →
  AllCk ((rear.zip gl').map fun p => .eqV p.1.1.den p.2.1.den) → On (nj rear) → On (nj gl')
 | [], [], _, _, _, _ => trivial
 | [], _ :: _, h, _, _, _ => by simp at h
 | _ :: _, [], h, _, _, _ => by simp at h
 | p :: r, q :: r', hl, hp, hc, ho => by
  simp only [List.zip_cons_cons, List.all_cons, Bool.and_eq_true, List.map_cons, AllCk, Ck.holds, beq_iff_eq] at hp hc
  refine ⟨?_, yY r r' (by simpa using hl) (by simpa using hp.2) hc.2 ho.2⟩
  have := ho.1
  simp only [] at this ⊢
  rw [← hc.1, ← hp.1]; exact this
theorem J4 : ∀ (gl : List (At × Bool)) (k : Nat), On (nj gl) → On (nj (gl.drop k))
 | [], k, _ => by simp [nj, On]
 | _ :: _, 0, h => h
 | _ :: r, k + 1, h => J4 r k h.2
theorem Iv {gl gl' : List (At × Bool)} {cs : List Ck} (h : xk gl gl' = some cs) (hc : AllCk cs) (ho : On (nj gl)) : On (nj gl') := by
 unfold xk at h
 simp only [] at h
 split at h
 ·rename_i hcond
  simp only [Option.some.injEq] at h
  subst h
  simp only [Bool.and_eq_true, decide_eq_true_eq] at hcond
  exact yY _ _ hcond.1 hcond.2 hc (J4 _ _ ho)
 ·simp at h
theorem jc {F : Own} {s : SS} {H : Heap} {O : Own} {a : Act} {w : World} (h : Conc F s H O a w) {gl : List (At × Bool)} {x : Operand} {v : S1} {cs : List Ck}
  (hx : tc s gl x = some (v, cs)) (hc : AllCk cs) (ho : On (nj gl)) : a.eval x = v.den := by
 cases x with
 | tmp t =>
  have ht := h.tm t
  simp only [tc] at hx
  simp only [Act.eval]
  split at hx
  ·rename_i y hy
   split at hx
   ·rename_i hk; simp only [Option.some.injEq, Prod.mk.injEq] at hx; rw [← hx.1]; rw [hy] at ht; exact ii hk ht
   ·simp at hx
  ·rename_i gl' y hy
   split at hx
   ·rename_i hk
    cases hs : xk gl gl' with
    | none => simp [hs] at hx
    | some c =>
     simp only [hs, Option.map_some, Option.some.injEq, Prod.mk.injEq] at hx
     rw [hy] at ht
     rw [← hx.1]; exact ht.1 (Iv hs (hx.2 ▸ hc) ho)
   ·simp at hx
  ·simp at hx
 | const v => simp only [tc, Option.some.injEq, Prod.mk.injEq] at hx; rw [← hx.1, FE]; rfl
 | global n => simp only [tc, Option.some.injEq, Prod.mk.injEq] at hx; rw [← hx.1]; rfl
 | func f => simp only [tc, Option.some.injEq, Prod.mk.injEq] at hx; rw [← hx.1]; rfl
theorem HG (v : Value) : (wQ v).ok := by
 intro a ha
 cases v <;> simp [wQ, S1.cells] at ha
 case agg cs => obtain ⟨x, _, rfl⟩ := ha; trivial
 all_goals (subst ha; trivial)
theorem ij {s : SS} (h : s.Ok) {gl : List (At × Bool)} {x : Operand} {v : S1} {cs : List Ck} (hx : tc s gl x = some (v, cs)) : v.ok := by
 cases x with
 | tmp t =>
  have ht := h.1 t
  simp only [tc] at hx
  split at hx
  ·rename_i y hy
   split at hx
   ·simp only [Option.some.injEq, Prod.mk.injEq] at hx; rw [← hx.1]; rw [hy] at ht; exact ht
   ·simp at hx
  ·split at hx
   ·rename_i gl' y hy hk
    cases hs : xk gl gl' with
    | none => simp [hs] at hx
    | some c => simp only [hs, Option.map_some, Option.some.injEq, Prod.mk.injEq] at hx; rw [← hx.1]; rw [hy] at ht; exact ht
   ·simp at hx
  ·simp at hx
 | const v => simp only [tc, Option.some.injEq, Prod.mk.injEq] at hx; rw [← hx.1]; exact HG v
 | global n =>
  simp only [tc, Option.some.injEq, Prod.mk.injEq] at hx; rw [← hx.1]; intro a ha; simp [S1.cells] at ha; subst ha; trivial
 | func f =>
  simp only [tc, Option.some.injEq, Prod.mk.injEq] at hx; rw [← hx.1]; intro a ha; simp [S1.cells] at ha; subst ha; trivial
theorem CP {s : SS} {gl : List (At × Bool)} {x : Operand} {a : At} {cs : List Ck} (hx : mh s gl x = some (a, cs)) : tc s gl x = some (.at a, cs) := by
 unfold mh at hx
 split at hx
 ·rename_i b c he; simp only [Option.some.injEq, Prod.mk.injEq] at hx; rw [he, hx.1, hx.2]
 ·simp at hx
theorem bo {F : Own} {s : SS} {H : Heap} {O : Own} {a : Act} {w : World} (h : Conc F s H O a w) {gl : List (At × Bool)} {x : Operand} {v : At} {cs : List Ck}
  (hx : mh s gl x = some (v, cs)) (hc : AllCk cs) (ho : On (nj gl)) : a.eval x = v.den := jc h (CP hx) hc ho
theorem zC {s : SS} (h : s.Ok) {gl : List (At × Bool)} {x : Operand} {v : At} {cs : List Ck} (hx : mh s gl x = some (v, cs)) : v.ok :=
 ij h (CP hx) v (by simp [S1.cells])
theorem yE {s : SS} (h : s.Ok) {gl : List (At × Bool)} : ∀ {xs : List Operand} {vs : List At} {cs : List Ck}, eF s gl xs = some (vs, cs) → ∀ a, a ∈ vs → a.ok
 | [], _, _, hx => by simp only [eF, Option.some.injEq, Prod.mk.injEq] at hx; rw [← hx.1]; simp
 | x :: r, vs, cs, hx => by
  simp only [eF] at hx
  split at hx
  ·rename_i a' c as cs' h1 h2
   simp only [Option.some.injEq, Prod.mk.injEq] at hx
   rw [← hx.1]
   intro a ha
   rcases List.mem_cons.1 ha with rfl | ha
   ·exact zC h h1
   ·exact yE h h2 a ha
  ·simp at hx
theorem eX {F : Own} {s : SS} {H : Heap} {O : Own} {a : Act} {w : World} (h : Conc F s H O a w) {gl : List (At × Bool)} : ∀ {xs : List Operand} {vs : List At} {cs : List Ck},
  eF s gl xs = some (vs, cs) → AllCk cs → On (nj gl) → xs.map a.eval = vs.map At.den
 | [], _, _, hx, _, _ => by simp only [eF, Option.some.injEq, Prod.mk.injEq] at hx; rw [← hx.1]; rfl
 | x :: r, vs, cs, hx, hc, ho => by
  simp only [eF] at hx
  split at hx
  ·rename_i a' c as cs' h1 h2
   simp only [Option.some.injEq, Prod.mk.injEq] at hx
   rw [← hx.2, AllCk.append] at hc
   rw [← hx.1, List.map_cons, List.map_cons, bo h h1 hc.1 ho, eX h h2 hc.2 ho]
  ·simp at hx
theorem vn {F : Own} {s : SS} {H : Heap} {O : Own} {a : Act} {w : World} (h : Conc F s H O a w) {gl : List (At × Bool)} : ∀ {xs : List Operand} {vs : List S1} {cs : List Ck},
  tF s gl xs = some (vs, cs) → AllCk cs → On (nj gl) → xs.map a.eval = vs.map S1.den
 | [], _, _, hx, _, _ => by simp only [tF, Option.some.injEq, Prod.mk.injEq] at hx; rw [← hx.1]; rfl
 | x :: r, vs, cs, hx, hc, ho => by
  simp only [tF] at hx
  split at hx
  ·rename_i a' c as cs' h1 h2
   simp only [Option.some.injEq, Prod.mk.injEq] at hx
   rw [← hx.2, AllCk.append] at hc
   rw [← hx.1, List.map_cons, List.map_cons, jc h h1 hc.1 ho, vn h h2 hc.2 ho]
  ·simp at hx
theorem kc {F : Own} {s : SS} {H : Heap} {O : Own} {a : Act} {w : World} (h : Conc F s H O a w) {ops : Array Oper} {o : Oper} {gl : List (At × Bool)}
  (hg : aW (bZ ops) s o = .go gl) : Region.wanted o (yielded ops a.tmps) = true ↔ On (nj gl) := by
 unfold aW at hg
 split at hg
 ·rename_i e; simp only [GR.go.injEq] at hg; subst hg; simp [Region.wanted, e, nj, On]
 ·rename_i j want e
  have hy : ∀ t, bZ ops j = some t → (Region.wanted o (yielded ops a.tmps) = true ↔ a.tmps.getD t undef = .bool want) := by
   intro t ht
   unfold bZ at ht
   simp only [Region.wanted, e, yielded, ht, Option.bind_some, Array.getD_eq_getD_getElem?]
   cases hv : a.tmps[t]? with
   | none => simp [undef]
   | some v => cases v <;> simp
  split at hg
  ·simp at hg
  ·rename_i t ht
   have htm := h.tm t
   rw [hy t ht]
   split at hg
   ·rename_i b hb
    rw [hb] at htm
    simp only [SV.rel, S1.den, At.den] at htm
    split at hg
    ·rename_i hbw; simp only [GR.go.injEq] at hg; subst hg; simp at hbw; simp [htm, hbw, nj, On]
    ·simp at hg
   ·simp at hg
   ·rename_i c _ _ hb
    rw [hb] at htm
    split at hg
    ·rename_i hk
     simp only [GR.go.injEq] at hg; subst hg
     have := ii (x := .at c) (by simpa [S1.known, S1.cells] using hk) htm
     rw [this]; simp [nj, On, S1.den]
    ·simp at hg
   ·rename_i gl' c hb
    rw [hb] at htm
    split at hg
    ·simp only [GR.go.injEq] at hg; subst hg
     rw [E0]
     by_cases ho : On (nj gl')
     ·rw [htm.1 ho]; simp [S1.den, ho]
     ·rw [htm.2 ho]; simp [undef, ho]
    ·simp at hg
   ·simp at hg
theorem B6 {F : Own} {s : SS} {H : Heap} {O : Own} {a : Act} {w : World} (h : Conc F s H O a w) {ops : Array Oper} {o : Oper}
  (hg : aW (bZ ops) s o = .skip) : Region.wanted o (yielded ops a.tmps) = false := by
 unfold aW at hg
 split at hg
 ·simp at hg
 ·rename_i j want e
  have hy : ∀ t, bZ ops j = some t → a.tmps.getD t undef ≠ .bool want → Region.wanted o (yielded ops a.tmps) = false := by
   intro t ht
   unfold bZ at ht
   simp only [Region.wanted, e, yielded, ht, Option.bind_some, Array.getD_eq_getD_getElem?]
   cases hv : a.tmps[t]? with
   | none => simp
   | some v => cases v <;> simp
  split at hg
  ·simp at hg
  ·rename_i t ht
   have htm := h.tm t
   refine hy t ht ?_
   split at hg
   ·rename_i b hb
    rw [hb] at htm
    simp only [SV.rel, S1.den, At.den] at htm
    split at hg
    ·simp at hg
    ·rename_i hbw; simp at hbw; simpa [htm] using hbw
   ·rename_i vs hb
    rw [hb] at htm
    simp only [SV.rel, S1.den, At.den] at htm
    simp [htm]
   ·split at hg <;> simp at hg
   ·split at hg <;> simp at hg
   ·simp at hg
end Go.Sx

/- What a normal form does; the quiet operations are sound. -/
namespace Go.Sx
open Go
def FK.pre (P : Program) (k : FK) (H : Heap) (O : Own) (vs : List Value) : Prop :=
 match k with
 | .sil => vs = []
 | .pure gd op args => ∃ v, vs = [v] ∧ (On gd → al op args = some v) ∧ (gd = [] ∨ v.oneCell' = true)
 | .raw gd op args => ∃ v, vs = [v] ∧ (On gd → ∀ w, (op.sem args).run P w = .ok (.value v) w) ∧ v.oneCell' = true
 | .load gd p m => vs.length = m ∧ Ones vs ∧ (On gd → Reads H O p m vs)
 | .split c => ∃ b, c = .bool b ∧ vs = [.bool b]
 | .isplit c n => ∃ kd i, c = .int kd i ∧ 0 ≤ i ∧ i < n ∧ vs = [.int .i64 i]
def HK.T (P : Program) : HK → Heap → Own → (Value → Heap → Own → Prop) → Prop
 | .call f args => fun H O R => Triple P f args H O R
 | .callv fv args => fun H O R => ∃ f caps, fv = .func (.func f) #[] caps ∧ tt P f ∧ Triple P f (args ++ caps.toList) H O R
 | .prim op args => fun H O R => dq P (op.sem args) H O R
def NF.run (P : Program) (d : Bool) (dst : Option Tmp) (x : NF) (s : SS) (K : SS → Heap → Own → Prop) (H : Heap) (O : Own) : Prop :=
 match x with
 | .fl cs k X => AllCk cs ∧ ∃ vs, k.pre P H O vs ∧ K (s.set dst (X vs)) H O
 | .box cs n T cells val => AllCk cs ∧ ∀ r, K ((s.setBox n (some ⟨r, T, cells⟩)).set dst (.s (.at (val r)))) H O
 | .stb cs n b => AllCk cs ∧ K (s.setBox n (some b)) H O
 | .hv cs k frz own shp post sv => AllCk cs ∧ iG (k.T P) (d && k.isCall') (bvs frz) (bvs own) shp (fun vs css H O => AllCk (post vs) ∧ K (qW dst frz own sv s vs css) H O) H O
 | .st cs p vs => AllCk cs ∧ ∃ O', tq O p vs O' ∧ K s H O'
theorem jn {P : Program} {Q : Value → Heap → Own → Prop} {H : Heap} {O : Own} {t : Tree} : ∀ {cs : List Ck},
  (JK cs t).den P Q H O → AllCk cs ∧ t.den P Q H O
 | [], h => ⟨trivial, h⟩
 | _ :: _, h => ⟨⟨h.1, (jn h.2).1⟩, (jn h.2).2⟩
theorem Jr {P : Program} {Q : Value → Heap → Own → Prop} {H : Heap} {O : Own} {c : Value} {kk : Nat → Tree} : ∀ {n i : Nat},
  (Fp c kk i n).den P Q H O → ∃ (kd : IntKind) (j : Nat), c = .int kd j ∧ i ≤ j ∧ j < i + n ∧ (kk j).den P Q H O
 | 0, i, h => h.elim
 | n + 1, i, h => by
  obtain ⟨kd, m, hc, h1, h2⟩ := h
  by_cases e : m = i
  ·exact ⟨kd, i, by rw [hc, e], Nat.le_refl _, by omega, h1 e⟩
  ·obtain ⟨kd', j, hc', hl, hu, hk⟩ := Jr (h2 e)
   exact ⟨kd', j, hc', by omega, by omega, hk⟩
theorem tu {T T' : Heap → Own → (Value → Heap → Own → Prop) → Prop} {d : Bool} {frz own : List BV} {shp : Shp} {K K' : List Value → List (List Value) → Heap → Own → Prop} {H : Heap} {O : Own}
  (hT : ∀ H O R, T H O R → T' H O R) (hK : ∀ vs cs H O, K vs cs H O → K' vs cs H O) (h : iG T d frz own shp K H O) : iG T' d frz own shp K' H O := by
 intro hcons
 obtain ⟨H1, O1, O2, Q, hg, ht, hk⟩ := h hcons
 exact ⟨H1, O1, O2, Q, hg, hT _ _ _ ht, fun v H' O' hq hle => let ⟨vs, cs, O3, a, b, c, e, k⟩ := hk v H' O' hq hle; ⟨vs, cs, O3, a, b, c, e, hK _ _ _ _ k⟩⟩
theorem Hl {P : Program} {Q : Value → Heap → Own → Prop} {d : Bool} {dst : Option Tmp} {x : NF} {s : SS} {kk : SS → Tree} {H : Heap} {O : Own}
  (h : (Lx d dst x s kk).den P Q H O) : x.run P d dst s (fun s' H' O' => (kk s').den P Q H' O') H O := by
 cases x with
 | fl cs k upd =>
  obtain ⟨hc, h⟩ := jn h
  refine ⟨hc, ?_⟩
  cases k with
  | sil => exact ⟨[], rfl, h⟩
  | pure gd op args => obtain ⟨v, h1, h2, h3⟩ := h; exact ⟨[v], ⟨v, rfl, h1, h2⟩, h3⟩
  | raw gd op args => obtain ⟨v, h1, h2, h3⟩ := h; exact ⟨[v], ⟨v, rfl, h1, h2⟩, h3⟩
  | load gd p m => obtain ⟨vs, h1, h2, h3, h4⟩ := h; exact ⟨vs, ⟨h1, h2, h3⟩, h4⟩
  | split c =>
   obtain ⟨b, hb, h1, h2⟩ := h
   refine ⟨[.bool b], ⟨b, hb, rfl⟩, ?_⟩
   cases b
   ·exact h2 rfl
   ·exact h1 rfl
  | isplit c n =>
   obtain ⟨kd, j, hc', _, hu, hk⟩ := Jr h
   exact ⟨[.int .i64 j], ⟨kd, j, hc', by omega, by omega, rfl⟩, hk⟩
 | box cs n T cells val => exact jn h
 | stb cs n b => exact jn h
 | hv cs k frz own shp post upd =>
  obtain ⟨hc, h⟩ := jn h
  refine ⟨hc, ?_⟩
  cases k with
  | call f args =>
   show iG _ (d && true) _ _ _ _ _ _
   rw [Bool.and_true]
   exact tu (fun _ _ _ x => x) (fun _ _ _ _ x => jn x) h
  | callv fv args =>
   obtain ⟨f, caps, hf, hok, h⟩ := h
   show iG _ (d && true) _ _ _ _ _ _
   rw [Bool.and_true]
   exact tu (fun _ _ _ x => ⟨f, caps, hf, hok, x⟩) (fun _ _ _ _ x => jn x) h
  | prim op args =>
   show iG _ (d && false) _ _ _ _ _ _
   rw [Bool.and_false]
   exact tu (fun _ _ _ x => x) (fun _ _ _ _ x => jn x) h
 | st cs p vs => exact jn h
def wp1 (P : Program) (ops : Array Oper) (Q : Exit → Act → World → Prop) (o : Oper) (K : Act → World → Prop) (a : Act) (w : World) : Prop :=
 if Region.wanted o (yielded ops a.tmps) then o.wp P a w K Q ∨ (o.asks P a w ∧ LetsOut Q) else K (a.put o.dst undef) w
def Sound (P : Program) (ops : Array Oper) (o : Oper) (s : SS) (x : NF) : Prop :=
 ∀ (F : Own) (H : Heap) (O : Own) (a : Act) (w : World) (d : Bool) (K : SS → Heap → Own → Prop) (Q : Exit → Act → World → Prop),
  Conc F s H O a w → x.run P d o.dst s K H O →
  wp1 P ops Q o (fun a' w' => ∃ s' H' O', Conc F s' H' O' a' w' ∧ Heap.le H H' ∧ K s' H' O') a w
theorem hD {a : At} (h : a.ok) : (S1.at a).ok := by intro b hb; simp [S1.cells] at hb; subst hb; exact h
theorem DI (v : Value) : (S1.at (.k v)).ok := hD trivial
theorem GS {P : Program} {ops : Array Oper} {o : Oper} {s : SS} (hg : aW (bZ ops) s o = .skip) (hd : ∀ d, o.dst = some d → d < s.sz) :
  Sound P ops o s (.fl [] .sil (fun _ => .s (.at (.k undef)))) := by
 intro F H O a w d K Q hc hr
 obtain ⟨_, vs, _, hk⟩ := hr
 unfold wp1
 rw [if_neg (by simp [B6 hc hg])]
 exact ⟨_, H, O, hc.put (sv := .s (.at (.k undef))) hd (show undef = At.den (.k undef) from rfl) (DI undef), Heap.le_refl H, hk⟩
theorem cF {P : Program} {ops : Array Oper} {o : Oper} {s : SS} {gl : List (At × Bool)} {cs : List Ck} {k : FK} {X : List Value → S1}
  (hg : aW (bZ ops) s o = .go gl) (hd : ∀ d, o.dst = some d → d < s.sz)
  (hok : ∀ H O vs, s.Ok → AllCk cs → k.pre P H O vs → (X vs).ok)
  (hrun : ∀ F H O a w vs, Conc F s H O a w → AllCk cs → k.pre P H O vs → On (nj gl) → (execOp a.eval o).run P w = .ok (.value (X vs).den) w) :
  Sound P ops o s (.fl cs k (fun vs => Bb gl (X vs))) := by
 intro F H O a w d K Q hc hr
 obtain ⟨hcs, vs, hp, hk⟩ := hr
 unfold wp1
 by_cases ho : On (nj gl)
 ·rw [if_pos ((kc hc hg).2 ho)]
  refine .inl ?_
  unfold Oper.wp
  rw [hrun F H O a w vs hc hcs hp ho, Oper.upon_value]
  exact ⟨_, H, O, hc.put hd (Gb (fun _ => rfl) (fun h => absurd ho h)) (Ja (hok H O vs hc.ok hcs hp)), Heap.le_refl H, hk⟩
 ·rw [if_neg (fun h => ho ((kc hc hg).1 h))]
  exact ⟨_, H, O, hc.put hd (Gb (fun h => absurd h ho) (fun _ => rfl)) (Ja (hok H O vs hc.ok hcs hp)), Heap.le_refl H, hk⟩
theorem EI {op : POp} {args : List Value} {v : Value} (h : al op args = some v) (ha : op = .pick ∨ op = .aidx → Ones args.tail) : v.oneCell' = true := by
 have hg : ∀ (l : List Value) (i : Nat) (x : Value), Ones l → l[i]? = some x → x.oneCell' = true := by
  intro l
  induction l with
  | nil => intro i x _ hx; simp at hx
  | cons y r ih =>
   intro i x ho hx
   cases i with
   | zero => simp at hx; subst hx; exact ho.1
   | succ i => exact ih i x ho.2 (by simpa using hx)
 have hint : ∀ op k a b v, ej op k a b = some v → v.oneCell' = true := by
  intro op k a b v h
  cases op <;> simp only [ej] at h <;> first
   | (simp at h; done)
   | (simp only [Option.some.injEq] at h; subst h; rfl)
   | (split at h <;> first | (simp at h; done) | (simp only [Option.some.injEq] at h; subst h; rfl))
 have hnil : ∀ op bk x y v, Dm op bk x y = some v → v.oneCell' = true := by
  intro op bk x y v h
  cases op <;> simp only [Dm] at h <;> first
   | (simp at h; done)
   | (simp only [Option.map_eq_some_iff] at h; obtain ⟨b, _, rfl⟩ := h; rfl)
 cases op with
 | bin op bk =>
  match args, h with
  | [x, y], h =>
   simp only [al] at h
   unfold fU at h
   split at h
   ·split at h
    ·unfold oI at h; split at h
     ·simp at h
     ·simp only [Option.some.injEq] at h; subst h; rfl
    ·unfold oI at h; split at h
     ·simp at h
     ·simp only [Option.some.injEq] at h; subst h; rfl
    ·split at h
     ·exact hint _ _ _ _ _ h
     ·simp at h
   ·unfold Dl at h
    split at h
    ·split at h
     ·simp at h
     ·simp only [Option.some.injEq] at h; subst h; rfl
    ·simp only [Option.some.injEq] at h; subst h; rfl
    ·simp only [Option.some.injEq] at h; subst h; rfl
    ·simp at h
   ·exact hnil _ _ _ _ _ h
  | [], h => simp [al] at h
  | [_], h => simp [al] at h
  | _ :: _ :: _ :: _, h => simp [al] at h
 | pick =>
  have ho := ha (.inl rfl)
  rcases args with _ | ⟨c, _ | ⟨x, _ | ⟨y, _ | ⟨u, r⟩⟩⟩⟩
  ·simp [al] at h
  ·simp [al] at h
  ·simp [al] at h
  ·cases c <;> simp only [al, reduceCtorEq, Option.some.injEq] at h
   rename_i b
   cases b
   ·simp only [Bool.false_eq_true, if_false] at h; subst h; exact ho.2.1
   ·simp only [if_true] at h; subst h; exact ho.1
  ·simp [al] at h
 | aidx =>
  have ho := ha (.inr rfl)
  match args, h, ho with
  | [], h, _ => simp [al] at h
  | i :: cs, h, ho =>
   simp only [al, tn] at h
   split at h
   ·split at h
    ·exact hg _ _ _ ho h
    ·simp at h
   ·simp at h
 | _ =>
  unfold al at h
  split at h <;> simp_all
  all_goals try (subst h; rfl)
  all_goals first
   | exact hint _ _ _ _ _ h
   | (unfold pz at h; split at h <;> first | (simp at h; done) | (split at h <;> simp at h; subst h; rfl))
   | (unfold tk at h; split at h <;> first | (simp at h; done) | (split at h <;> simp at h; subst h; rfl))
   | (unfold yM at h; split at h <;> first | (simp at h; done) | (simp only [Option.map_eq_some_iff] at h; obtain ⟨_, _, rfl⟩ := h; rfl))
   | (split at h <;> first | (simp at h; done) | (unfold gD at h; split at h <;> first | (simp at h; done) | (simp only [Option.map_eq_some_iff] at h; obtain ⟨_, _, rfl⟩ := h; rfl)))
   | (split at h <;> first | (simp at h; done) | (unfold yL at h; split at h <;> first | (simp at h; done) | (simp only [Option.map_eq_some_iff] at h; obtain ⟨_, _, rfl⟩ := h; rfl)))
end Go.Sx

/- The quiet operations, one by one. -/
namespace Go.Sx
open Go
theorem aF {P : Program} {t : TypeId} {d : TypeDesc} (h : P.underlying t = some d) (w : World) : (underlying t).run P w = .ok d w := by
 simp [underlying, h]
theorem DS {P : Program} {t : TypeId} {m : Nat} (h : mO P t = some m) : ∃ i d, P.info? t = some i ∧ i.size = m ∧ P.underlying t = some d := by
 unfold mO at h
 split at h
 ·rename_i i d h1 h2; exact ⟨i, d, h1, by simpa using h, h2⟩
 ·simp at h
theorem bL {P : Program} {t : TypeId} {m : Nat} (h : mO P t = some m) (w : World) : (sizeOf t).run P w = .ok m w := by
 obtain ⟨i, d, hi, hs, _⟩ := DS h
 simp [sizeOf, typeInfo, hi, hs]
theorem s9 {P : Program} {t : TypeId} {m : Nat} (h : mO P t = some m) (w : World) : (isAgg t).run P w = .ok (dU P t) w := by
 obtain ⟨i, d, _, _, hu⟩ := DS h
 unfold isAgg dU
 rw [Sem.run_bind, aF hu w, hu]
 cases d <;> rfl
theorem mX {P : Program} {t : TypeId} {m : Nat} (hs : mO P t = some m) {w : World} {a : Addr} {vs : List Value} (hl : vs.length = m)
  (hc : ∀ j v, vs[j]? = some v → w.cell? (a.add j) = some v) (h1 : dU P t = true ∨ m = 1) :
  (loadVar t a).run P w = .ok (if dU P t then .agg vs.toArray else g vs 0) w := by
 unfold loadVar
 rw [Sem.run_bind, s9 hs w]
 simp only [Result.andThen_ok]
 cases hA : dU P t with
 | true =>
  have hl' := run_loadCells_list (P := P) w a vs hc
  rw [hl] at hl'
  simp [Sem.run_bind, bL hs w, hl']
 | false =>
  have hm : m = 1 := h1.resolve_left (by simp [hA])
  match vs, hl with
  | [v], _ =>
   have := hc 0 v rfl
   have h0 : a.add 0 = a := by simp [Addr.add]
   rw [h0] at this
   simp [run_load, this, g]
  | [], hl => simp [hm] at hl
  | _ :: _ :: _, hl => simp [hm] at hl
theorem Ds {F : Own} {s : SS} {H : Heap} {O : Own} {a : Act} {w : World} (h : Conc F s H O a w) {n : Nat} {b : Bx} (hb : s.mem n = some b) :
  ∃ vs, CellsRel b.cs vs ∧ w.heap[b.r]? = some (.cells vs.toArray b.T (0, 0)) := by
 obtain ⟨L, hL, hm⟩ := h.mm
 obtain ⟨vs, L', hv, hp, _⟩ := hL.take hb
 refine ⟨vs, hv, ?_⟩
 have := (hm.perm (hp.append_right _)).own (b.r, .cells vs.toArray b.T (0, 0)) (by simp)
 exact this.1
theorem cB (r off j : Nat) : (⟨r, off, none⟩ : Addr).add j = ⟨r, off + j, none⟩ := by
 unfold Addr.add; split <;> simp_all
theorem Az (a : Addr) (i j : Nat) : (a.add i).add j = a.add (i + j) := by
 cases a
 by_cases hi : i = 0 <;> by_cases hj : j = 0 <;> simp [Addr.add, hi, hj, Nat.add_assoc]
theorem nm {w : World} {r : Nat} {vs : List Value} {T : TypeId} (h : w.heap[r]? = some (.cells vs.toArray T (0, 0))) (off : Nat) {m : Nat} :
  ∀ j v, ((vs.drop off).take m)[j]? = some v → w.cell? ((⟨r, off, none⟩ : Addr).add j) = some v := by
 intro j v hv
 rw [cB, cell_of_row w r (off + j) _ T _ h]
 rw [List.getElem?_take] at hv
 split at hv
 ·rw [List.getElem?_drop] at hv; simpa using hv
 ·simp at hv
theorem vv {α β : Type} {f : α → Option β} : ∀ {l : List α} {r : List β}, l.mapM f = some r → ∀ (j : Nat) (v : β), r[j]? = some v → ∃ a, l[j]? = some a ∧ f a = some v
 | [], r, h, j, v, hv => by simp at h; subst h; simp at hv
 | a :: l, r, h, j, v, hv => by
  simp only [List.mapM_cons, Option.pure_def, Option.bind_eq_bind] at h
  cases ha : f a with
  | none => simp [ha] at h
  | some b =>
   simp only [ha, Option.bind_some] at h
   cases hl : l.mapM f with
   | none => simp [hl] at h
   | some bs =>
    simp only [hl, Option.bind_some, Option.some.injEq] at h
    subst h
    cases j with
    | zero => simp at hv; subst hv; exact ⟨a, rfl, ha⟩
    | succ j => simpa using vv hl j v (by simpa using hv)
theorem Fb {w : World} {H : Heap} {O L : Own} {p : Value} {m : Nat} {vs : List Value} (h : Reads H O p m vs) (hm : Models w H L) (hs : ∀ x, x ∈ O → x ∈ L) (h0 : 0 < m) :
  ∃ a, p = .pointer (some a) ∧ ∀ j v, vs[j]? = some v → w.cell? (a.add j) = some v := by
 rcases h with h | ⟨a, cs, T, rfl, hsp, hin, hv, _⟩
 ·unfold Heap.read at h
  split at h
  ·rename_i a
   refine ⟨a, rfl, fun j v hv => ?_⟩
   obtain ⟨i, hi, hc⟩ := vv h j v hv
   have : i = j := by
    rw [List.getElem?_eq_some_iff] at hi
    obtain ⟨_, hi⟩ := hi
    simpa using hi.symm
   subst this
   exact hm.cell? hc
  ·simp at h
 ·refine ⟨a, rfl, fun j v hj => ?_⟩
  have hrow := (hm.own _ (hs _ hin)).1
  rw [← hv] at hj
  have ha : a = ⟨a.block, a.off, none⟩ := by cases a; simp_all
  rw [ha]
  have := nm (vs := cs.toList) (T := T) (by simpa using hrow) a.off (m := m) j v hj
  exact this
theorem Ax {vs : List Value} {m : Nat} (h : vs.length = m) : (atsFrom vs 0 m).map At.den = vs := by
 have := (CellsRel.atsFrom h).known (by simp [atsFrom, At.known])
 exact this.symm
theorem Ones.get : ∀ {vs : List Value}, Ones vs → ∀ i, i < vs.length → (g vs i).oneCell' = true
 | [], _, i, h => by simp at h
 | v :: _, h, 0, _ => h.1
 | _ :: r, h, i + 1, hi => by simpa [g] using Ones.get (vs := r) h.2 i (by simpa using hi)
theorem oD {vs : List Value} {i m : Nat} (h : i + m ≤ vs.length) (ho : Ones vs) : ∀ a, a ∈ atsFrom vs i m → a.ok := by
 intro a ha
 simp only [atsFrom, List.mem_map, List.mem_range] at ha
 obtain ⟨j, hj, rfl⟩ := ha
 exact ho.get _ (by omega)
variable {P : Program} {ops : Array Oper} {o : Oper} {s : SS} {gl : List (At × Bool)}
theorem Eu {t : TypeId} {x : Operand} {y : At} {cs : List Ck} {nfp : NF × FP} (ho : o.op = .load t x) (hx : mh s gl x = some (y, cs))
    (hg : aW (bZ ops) s o = .go gl) (hd : ∀ d, o.dst = some d → d < s.sz) (h : xu P s gl o.dst t y cs = some nfp) : Sound P ops o s nfp.1 := by
  unfold xu at h
  cases hm : mO P t with
  | none => simp [hm] at h
  | some m =>
    simp only [hm, Option.bind_some] at h
    have far : (dU P t = true ∨ m = 1) → Sound P ops o s (.fl cs (.load (nj gl) y.den m) (fun vs => Bb gl (if dU P t then .agg (atsFrom vs 0 m) else .at (.v (g vs 0))))) := by
      intro h1
      refine cF (X := fun vs => if dU P t then .agg (atsFrom vs 0 m) else .at (.v (g vs 0))) hg hd ?_ ?_
      · intro H O vs _ _ ⟨hl, hone, _⟩
        split
        · exact oD (by omega) hone
        · rename_i hA
          have : m = 1 := h1.resolve_left hA
          exact hD (hone.get 0 (by omega))
      · intro F H O a w vs hc hcs ⟨hl, hone, hr⟩ hon
        have he := bo hc hx hcs hon
        have hr := hr hon
        by_cases h0 : m = 0
        · have hA : dU P t = true := h1.resolve_right (by omega)
          obtain ⟨b, hb⟩ : ∃ b, y.den = .pointer (some b) := by
            rcases hr with hr | ⟨b, _, _, hb, _⟩
            · unfold Heap.read at hr; split at hr
              · rename_i b hb; exact ⟨b, hb⟩
              · simp at hr
            · exact ⟨b, hb⟩
          have hv : vs = [] := List.eq_nil_of_length_eq_zero (by omega)
          subst hv
          have := mX (P := P) hm (w := w) (a := b) (vs := []) (by simpa using h0.symm) (by simp) (.inl hA)
          simp only [execOp, ho, he, hb, Instr.loadAt, Instr.sureAddr, Sem.run_bind, Sem.run_pure, Result.andThen_ok, this, hA, if_true]
          simp [S1.den, atsFrom, h0]
        · obtain ⟨L, hL, hmod⟩ := hc.mm
          obtain ⟨b, hb, hcell⟩ := Fb hr hmod (fun x hx => by simp [hx]) (by omega)
          have := mX (P := P) hm (w := w) (a := b) (vs := vs) hl hcell h1
          simp only [execOp, ho, he, hb, Instr.loadAt, Instr.sureAddr, Sem.run_bind, Sem.run_pure, Result.andThen_ok, this]
          cases hA : dU P t with
          | true => simp [S1.den, Ax hl]
          | false => simp [S1.den, At.den]
    have near : ∀ {n r off : Nat} {b : Bx} {v : S1}, y = .p n r off → s.mem n = some b → ((b.cs.drop off).take m).length = m → ((b.cs.drop off).take m).all At.known = true →
        If P t ((b.cs.drop off).take m) = some v → Sound P ops o s (.fl (.eqN r b.r :: cs) .sil (fun _ => Bb gl v)) := by
      intro n r off b v hy hb hlen hk hv
      refine cF (X := fun _ => v) hg hd ?_ ?_
      · intro H O vs hok _ _ a ha
        have : ∀ a, a ∈ v.cells → a ∈ b.cs := by
          intro a ha
          unfold If at hv
          split at hv
          · simp only [Option.some.injEq] at hv; subst hv; exact List.mem_of_mem_drop (List.mem_of_mem_take ha)
          · split at hv
            · rename_i a' he; simp only [Option.some.injEq] at hv; subst hv
              simp [S1.cells] at ha; subst ha
              have : a ∈ (b.cs.drop off).take m := by rw [he]; simp
              exact List.mem_of_mem_drop (List.mem_of_mem_take this)
            · simp at hv
        exact hok.2 n b hb a (this a ha)
      · intro F H O a w vs hc hcs _ hon
        have he := bo hc hx hcs.2 hon
        have hr : r = b.r := hcs.1
        obtain ⟨us, hus, hrow⟩ := Ds hc hb
        have hcells := ((hus.drop off).take m).known hk
        have hlen' : ((us.drop off).take m).length = m := by rw [hcells]; simpa using hlen
        have h1 : dU P t = true ∨ m = 1 := by
          unfold If at hv
          split at hv
          · rename_i hA; exact .inl hA
          · split at hv
            · rename_i a' he'; rw [he'] at hlen; exact .inr (by simpa using hlen.symm)
            · simp at hv
        have := mX (P := P) hm (w := w) (a := ⟨b.r, off, none⟩) hlen' (nm hrow off) h1
        simp only [execOp, ho, he, hy, At.den, hr, Instr.loadAt, Instr.sureAddr, Sem.run_bind, Sem.run_pure, Result.andThen_ok, this]
        rw [hcells]
        unfold If at hv
        split at hv
        · rename_i hA; simp only [Option.some.injEq] at hv; subst hv; simp [hA, S1.den]
        · rename_i hA
          split at hv
          · rename_i a' he'; simp only [Option.some.injEq] at hv; subst hv
            have hA' : dU P t = false := by simpa using hA
            rw [he']; simp [hA', S1.den, g]
          · simp at hv
    split at h
    · rename_i n r off
      split at h
      · rename_i b hb
        split at h
        · rename_i hcond
          simp only [Bool.and_eq_true, decide_eq_true_eq] at hcond
          simp only [Option.map_eq_some_iff] at h
          obtain ⟨v, hv, rfl⟩ := h
          exact near rfl hb hcond.1 hcond.2 hv
        · simp at h
      · split at h
        · simp at h
        · rename_i hcond
          simp only [Option.some.injEq] at h; subst h
          refine far ?_
          simp only [Bool.and_eq_true, Bool.not_eq_true', bne_iff_ne, ne_eq, not_and, Decidable.not_not] at hcond
          cases hA : dU P t with
          | true => exact .inl rfl
          | false => exact .inr (hcond hA)
    all_goals first
      | (simp at h; done)
      | (split at h
         · simp at h
         · rename_i hcond
           simp only [Option.some.injEq] at h; subst h
           refine far ?_
           simp only [Bool.and_eq_true, Bool.not_eq_true', bne_iff_ne, ne_eq, not_and, Decidable.not_not] at hcond
           cases hA : dU P t with
           | true => exact .inl rfl
           | false => exact .inr (hcond hA))
end Go.Sx

/- The pure operations. -/
namespace Go.Sx
open Go
theorem Eb : ∀ {as : List At} {vs : List Value}, as.mapM zw = some vs → as.map At.den = vs
 | [], vs, h => by simp at h; subst h; rfl
 | a :: r, vs, h => by
  simp only [List.mapM_cons, Option.pure_def, Option.bind_eq_bind] at h
  cases ha : zw a with
  | none => simp [ha] at h
  | some b =>
   simp only [ha, Option.bind_some] at h
   cases hl : r.mapM zw with
   | none => simp [hl] at h
   | some bs =>
    simp only [hl, Option.bind_some, Option.some.injEq] at h
    subst h
    rw [List.map_cons, Eb hl]
    unfold zw at ha
    split at ha <;> simp at ha <;> subst ha <;> rfl
theorem Gl {as : List At} (hf : ∀ a, a ∈ as → a.fit = true) (ho : ∀ a, a ∈ as → a.ok) : Ones (as.map At.den) := by
 induction as with
 | nil => trivial
 | cons a r ih => exact ⟨At.fit_one (hf a (by simp)) (ho a (by simp)), ih (fun b hb => hf b (by simp [hb])) (fun b hb => ho b (by simp [hb]))⟩
variable {P : Program} {ops : Array Oper} {o : Oper} {s : SS} {gl : List (At × Bool)}
theorem bM {total : Bool} {op : POp} {as : List At} {cs : List Ck}
  (hg : aW (bZ ops) s o = .go gl) (hd : ∀ d, o.dst = some d → d < s.sz)
  (hfit : op = .pick ∨ op = .aidx → Ones (as.map At.den).tail ∨ ¬ s.Ok)
  (hexec : ∀ F H O a w v, Conc F s H O a w → AllCk cs → On (nj gl) → al op (as.map At.den) = some v → (execOp a.eval o).run P w = .ok (.value v) w) :
  Sound P ops o s (fS gl total o.dst op as cs) := by
 unfold fS
 split
 ·rename_i v hv
  unfold KS at hv
  simp only [Option.bind_eq_some_iff] at hv
  obtain ⟨vs, hvs, hev⟩ := hv
  refine cF (X := fun _ => .at (.k v)) hg hd (fun _ _ _ _ _ _ => DI v) ?_
  intro F H O a w _ hc hcs _ hon
  exact hexec F H O a w v hc hcs hon (by rw [Eb hvs]; exact hev)
 ·refine cF (X := fun vs => .at (.v (g vs 0))) hg hd ?_ ?_
  ·rintro H O vs hok _ ⟨v, rfl, he, hone⟩
   refine hD ?_
   show v.oneCell' = true
   rcases hone with h0 | h1
   ·have he := he (by rw [h0]; trivial)
    exact EI he (fun h => (hfit h).resolve_right (fun hn => hn hok))
   ·exact h1
  ·rintro F H O a w vs hc hcs ⟨v, rfl, he, _⟩ hon
   exact hexec F H O a w v hc hcs hon (he (by cases total <;> simp [hon, On]))
theorem rR {op : BinOp} {t : TypeId} {x y : Operand} {X Y : Value} (h : ¬ (X = .nilIface ∧ Y = .nilIface)) (h' : ∀ a b, ¬ (X = .agg a ∧ Y = .agg b)) (w : World) :
    (eqGuard op t x y X Y).run P w = .ok () w := by
  unfold eqGuard
  cases op <;> first
    | rfl
    | (simp only [Bool.not_true, Bool.false_eq_true, if_false]
       split
       · exact absurd ⟨rfl, rfl⟩ h
       · exact absurd ⟨rfl, rfl⟩ (h' _ _)
       · rfl)

theorem L6 {op : BinOp} {t : TypeId} {k : IntKind} {a b : Int} {v : Value} (hs : op ≠ .shl) (hs' : op ≠ .shr) (h : ej op k a b = some v) (w : World) :
    (binOp op t (.int k a) (.int k b)).run P w = .ok v w := by
  cases op <;> simp only [ej] at h <;> first
    | (simp at h; done)
    | exact absurd rfl hs
    | exact absurd rfl hs'
    | (simp only [Option.some.injEq] at h; subst h; simp [binOp, Op.intArith, Op.intCmp, Op.intBits]; done)
    | (split at h
       · simp at h
       · rename_i h0; simp only [Option.some.injEq] at h; subst h; simp [binOp, Op.intDiv, h0])

theorem DY {op : BinOp} {t : TypeId} {k k' : IntKind} {a b : Int} {v : Value} (h : oI op k a b = some v) (hs : op = .shl ∨ op = .shr) (w : World) :
  (binOp op t (.int k a) (.int k' b)).run P w = .ok v w := by
 unfold oI at h
 split at h
 ·simp at h
 ·rename_i h0
  rcases hs with rfl | rfl <;> simp only [Option.some.injEq] at h <;> subst h <;> simp [binOp, Op.shift, h0]
theorem L5 {op : BinOp} {t : TypeId} {a b : ByteArray} {v : Value} (h : Dl op a b = some v) (w : World) :
  (binOp op t (.string a) (.string b)).run P w = .ok v w := by
 unfold Dl at h
 split at h
 ·split at h
  ·simp at h
  ·rename_i h0
   simp only [Option.some.injEq] at h; subst h
   simp only [binOp, Op.stringOp, if_neg h0]; rfl
 ·simp only [Option.some.injEq] at h; subst h; simp [binOp, Op.stringOp]
 ·simp only [Option.some.injEq] at h; subst h; simp [binOp, Op.stringOp]
 ·simp at h
def BK.fits : BK → TypeDesc → Prop
 | .int, .int _ | .bool, .bool | .str, .string | .slice, .slice _ | .ptr, .pointer _ | .map, .map _ _ | .func, .func _ _ _ => True
 | _, _ => False
theorem MP {t : TypeId} {bk : BK} (h : NS P t = some bk) : ∃ d, P.underlying t = some d ∧ bk.fits d := by
 unfold NS at h
 split at h <;> first
  | (simp at h; done)
  | (rename_i e; simp only [Option.some.injEq] at h; subst h; exact ⟨_, e, trivial⟩)
theorem y7 {t : TypeId} {bk : BK} {d : TypeDesc} (hd : P.underlying t = some d) (hm : bk.fits d) {x y : Value} {r : Bool} (h : J6 bk x y = some r) (n : Nat) (w : World) :
  (Op.equalIn (n + 1) t x y).run P w = .ok r w := by
 simp only [Op.equalIn, Sem.run_bind, aF hd w, Result.andThen_ok]
 unfold J6 at h
 split at h <;> simp only [Option.some.injEq, reduceCtorEq] at h <;> subst h <;> cases d <;> simp_all [BK.fits]
 all_goals first
  | rfl
  | (rename_i b _ _ _; cases b <;> rfl)
  | (rename_i b _ _; cases b <;> rfl)
  | (rename_i b _; cases b <;> rfl)
  | (rename_i b; cases b <;> rfl)
  | skip
theorem CB {t : TypeId} {bk : BK} {d : TypeDesc} (hd : P.underlying t = some d) (hm : bk.fits d) {x y : Value} {r : Bool} (h : J6 bk x y = some r) (w : World) :
  (Op.equal t x y).run P w = .ok r w := y7 hd hm h 9999 w
theorem L7 {op : BinOp} {t : TypeId} {bk : BK} (hb : NS P t = some bk) {x y : Operand} {X Y : Value} {v : Value} (h : fU op bk X Y = some v) (w : World) :
  (do eqGuard op t x y X Y; binOp op t X Y : Sem Value).run P w = .ok v w := by
 unfold fU at h
 split at h
 ·rename_i k a k' b
  rw [Sem.run_bind, rR (by simp) (by simp) w, Result.andThen_ok]
  split at h
  ·exact DY h (.inl rfl) w
  ·exact DY h (.inr rfl) w
  ·rename_i h1 h2
   split at h
   ·rename_i e; subst e; exact L6 h1 h2 h w
   ·simp at h
 ·rw [Sem.run_bind, rR (by simp) (by simp) w, Result.andThen_ok]
  exact L5 h w
 ·obtain ⟨d, hd, hm⟩ := MP hb
  have key : ∀ r, J6 bk X Y = some r → (eqGuard op t x y X Y).run P w = .ok () w ∧ (Op.equal t X Y).run P w = .ok r w ∧
    (binOp .eql t X Y = do pure (.bool (← Op.equal t X Y))) ∧ (binOp .neq t X Y = do pure (.bool (!(← Op.equal t X Y)))) := by
   intro r hr
   refine ⟨rR ?_ ?_ w, CB hd hm hr w, ?_, ?_⟩
   ·rintro ⟨rfl, rfl⟩; unfold J6 at hr; split at hr <;> simp_all
   ·rintro a b ⟨rfl, rfl⟩; unfold J6 at hr; split at hr <;> simp_all
   ·unfold J6 at hr; split at hr <;> simp_all [binOp]
   ·unfold J6 at hr; split at hr <;> simp_all [binOp]
  unfold Dm at h
  split at h
  ·simp only [Option.map_eq_some_iff] at h
   obtain ⟨r, hr, rfl⟩ := h
   obtain ⟨h1, h2, h3, _⟩ := key r hr
   rw [Sem.run_bind, h1, Result.andThen_ok, h3, Sem.run_bind, h2]; rfl
  ·simp only [Option.map_eq_some_iff] at h
   obtain ⟨r, hr, rfl⟩ := h
   obtain ⟨h1, h2, _, h4⟩ := key r hr
   rw [Sem.run_bind, h1, Result.andThen_ok, h4, Sem.run_bind, h2]; rfl
  ·simp at h
end Go.Sx

/- The runs of the remaining quiet operations. -/
namespace Go.Sx
open Go
variable {P : Program} {ops : Array Oper} {o : Oper} {s : SS} {gl : List (At × Bool)}
theorem IG {t elem : TypeId} {size : Nat} (hu : P.underlying t = some (.slice elem)) (hs : mO P elem = some size) {x i v : Value} (h : pz size x i = some v) (w : World) :
  (Instr.indexAt t x i).run P w = .ok v w := by
 unfold pz at h
 split at h
 ·rename_i a len c k n
  split at h
  ·rename_i hb
   simp only [Option.some.injEq] at h; subst h
   simp [Instr.indexAt, asIntOf, aF hu, bL hs, hb]
  ·simp at h
 ·simp at h
theorem F5 {t elem : TypeId} {len size : Nat} (hu : P.underlying t = some (.array len elem)) (hs : mO P elem = some size) {x i v : Value} (h : tk len size x i = some v) (w : World) :
  (Instr.indexAt t x i).run P w = .ok v w := by
 unfold tk at h
 split at h
 ·rename_i a k n
  split at h
  ·rename_i hb
   simp only [Option.some.injEq] at h; subst h
   simp [Instr.indexAt, asIntOf, aF hu, bL hs, hb, Instr.sureAddr]
  ·simp at h
 ·simp at h
theorem Kr {t : TypeId} (hu : P.underlying t = some .string) {x i v : Value} (h : yM x i = some v) (w : World) : (Instr.index t x i).run P w = .ok v w := by
 unfold yM at h
 split at h
 ·rename_i sb k n
  simp only [Option.map_eq_some_iff] at h
  obtain ⟨b, hb, rfl⟩ := h
  simp only [Instr.index, asIntOf, Sem.run_bind, Sem.run_pure, Result.andThen_ok, aF hu, hb]
 ·simp at h
theorem F7 {t elem : TypeId} {len : Nat} {cs : List Value} (hu : P.underlying t = some (.array len elem)) (hs : mO P elem = some 1) (hA : dU P elem = false) (hl : cs.length = len)
  {i v : Value} (h : tn i cs = some v) (w : World) : (Instr.index t (.agg cs.toArray) i).run P w = .ok v w := by
 unfold tn at h
 split at h
 ·rename_i k n
  split at h
  ·rename_i hb
   rw [hl] at hb
   simp only [Instr.index, asIntOf, Sem.run_bind, Sem.run_pure, Result.andThen_ok, aF hu, if_pos hb, bL hs, part, s9 hs, hA, Nat.mul_one]
   have : cs.toArray[n.toNat]? = some v := by simpa using h
   simp [this]
  ·simp at h
 ·simp at h
theorem IF {t ty e : TypeId} {x v : Value} (hu : P.underlying t = some (.slice e)) (h : al .len [x] = some v) (w : World) :
  (Builtin.len_ #[t] ty #[x]).run P w = .ok v w := by
 cases x <;> simp [al] at h
 subst h
 simp [Builtin.len_, aF hu]
theorem Kq {t ty : TypeId} {x v : Value} (hu : P.underlying t = some .string) (h : al .slen [x] = some v) (w : World) :
  (Builtin.len_ #[t] ty #[x]).run P w = .ok v w := by
 cases x <;> simp [al] at h
 subst h
 simp [Builtin.len_, aF hu]
theorem Ks {t ty e : TypeId} {n : Nat} {x : Value} (hu : P.underlying t = some (.array n e)) (w : World) :
  (Builtin.len_ #[t] ty #[x]).run P w = .ok (goInt n) w := by
 simp [Builtin.len_, aF hu]
theorem IH {t ty e : TypeId} {x v : Value} (hu : P.underlying t = some (.slice e)) (h : al .cap [x] = some v) (w : World) :
  (Builtin.cap_ #[t] ty #[x]).run P w = .ok v w := by
 cases x <;> simp [al] at h
 subst h
 simp [Builtin.cap_, aF hu]
theorem jo {v : Value} {y n : Nat} (h : mu v y = some n) (code : BoundsCode) (w : World) : (Instr.sliceBound v y code).run P w = .ok n w := by
 unfold mu asI at h
 cases v <;> simp at h
 rename_i k i
 obtain ⟨hb, rfl⟩ := h
 simp [Instr.sliceBound, asIntOf, hb]
theorem wX {isSlice : Bool} {len cap l h m : Nat} {lo hi mx : Option Value} (hb : bA len cap lo hi mx = some (l, h, m)) (w : World) :
  (Instr.sliceBounds isSlice len cap lo hi mx).run P w = .ok (l, h, m) w := by
 unfold bA at hb
 simp only [Option.bind_eq_some_iff, Option.some.injEq, Prod.mk.injEq] at hb
 obtain ⟨m', hm, h', hh, l', hl, rfl, rfl, rfl⟩ := hb
 cases mx with
 | none =>
  simp only [cC, Option.some.injEq] at hm; subst hm
  cases hi with
  | none =>
   simp only [dJ, Option.isSome_none, Bool.false_eq_true, if_false, Option.some.injEq] at hh; subst hh
   cases lo with
   | none => simp only [cC, Option.some.injEq] at hl; subst hl; rfl
   | some v => simp only [cC] at hl; simp [Instr.sliceBounds, jo hl]
  | some u =>
   simp only [dJ] at hh
   cases lo with
   | none => simp only [cC, Option.some.injEq] at hl; subst hl; simp [Instr.sliceBounds, jo hh]
   | some v => simp only [cC] at hl; simp [Instr.sliceBounds, jo hh, jo hl]
 | some x =>
  simp only [cC] at hm
  cases hi with
  | none => simp [dJ] at hh
  | some u =>
   simp only [dJ] at hh
   cases lo with
   | none => simp only [cC, Option.some.injEq] at hl; subst hl; simp [Instr.sliceBounds, jo hm, jo hh]
   | some v => simp only [cC] at hl; simp [Instr.sliceBounds, jo hm, jo hh, jo hl]
theorem IE {t elem : TypeId} {size : Nat} (hu : P.underlying t = some (.slice elem)) (hs : mO P elem = some size) {x v : Value} {lo hi mx : Option Value} (h : gD size x lo hi mx = some v) (w : World) :
  (Instr.sliceAt t x lo hi mx).run P w = .ok v w := by
 unfold gD at h
 split at h
 ·rename_i a len c
  simp only [Option.map_eq_some_iff] at h
  obtain ⟨⟨l, hh, m⟩, hb, rfl⟩ := h
  simp only [Instr.sliceAt, Sem.run_bind, aF hu, Result.andThen_ok, Instr.slice, wX hb, bL hs]
  rfl
 ·simp at h
theorem Kp {t : TypeId} (hu : P.underlying t = some .string) {x v : Value} {lo hi : Option Value} (h : yL x lo hi = some v) (w : World) :
  (Instr.sliceAt t x lo hi none).run P w = .ok v w := by
 unfold yL at h
 split at h
 ·rename_i sb
  simp only [Option.map_eq_some_iff] at h
  obtain ⟨⟨l, hh, m⟩, hb, rfl⟩ := h
  simp only [Instr.sliceAt, Sem.run_bind, aF hu, Result.andThen_ok, Instr.slice, Option.isSome_none, Bool.false_eq_true, if_false, wX hb, Sem.run_pure]
 ·simp at h
theorem DX {t elem : TypeId} {n size l h m : Nat} (hu : P.underlying t = some (.array n elem)) (hs : mO P elem = some size) {r off : Nat} {lo hi mx : Option Value}
  (hb : bA n n lo hi mx = some (l, h, m)) (w : World) :
  (Instr.sliceAt t (.pointer (some ⟨r, off, none⟩)) lo hi mx).run P w = .ok (.slice (some (if m = l then ⟨r, off, none⟩ else ⟨r, off + l * size, none⟩)) (h - l) (m - l)) w := by
 simp only [Instr.sliceAt, Sem.run_bind, aF hu, Result.andThen_ok, Instr.sureAddr, Sem.run_pure, wX hb, bL hs, cB]
theorem xy {t : TypeId} {f : Nat} {fd : Field} (h : Ab P t f = some fd) : ∃ fs, P.underlying t = some (.struct fs) ∧ fs[f]? = some fd := by
 unfold Ab at h
 split at h
 ·rename_i fs e; exact ⟨fs, e, h⟩
 ·simp at h
theorem E8 {t : TypeId} {f : Nat} {fd : Field} {m : Nat} (hf : Ab P t f = some fd) (hs : mO P fd.type = some m) (hm : m ≠ 0) (a : Addr) (w : World) :
  (Instr.fieldAt t (.pointer (some a)) f).run P w = .ok (.pointer (some (a.add fd.offset))) w := by
 obtain ⟨fs, hu, hfd⟩ := xy hf
 simp [Instr.fieldAt, aF hu, hfd, Instr.sureAddr, fieldPlace, bL hs, hm]
theorem F6 {t : TypeId} {m : Nat} {cs : List At} {off : Nat} {v : S1} (h : xr P t cs off = some v) (w : World) (_hm : mO P t = some m) :
  (part t (cs.map At.den).toArray off).run P w = .ok v.den w := by
 unfold xr at h
 rw [_hm] at h
 simp only [Option.bind_some] at h
 split at h
 ·rename_i hl
  unfold If at h
  unfold part
  rw [Sem.run_bind, s9 _hm, Result.andThen_ok]
  split at h
  ·rename_i hA
   simp only [Option.some.injEq] at h; subst h
   simp [hA, bL _hm, S1.den]
  ·rename_i hA
   have hA' : dU P t = false := by simpa using hA
   split at h
   ·rename_i a he
    simp only [Option.some.injEq] at h; subst h
    have hget : cs[off]? = some a := by
     have : (List.take m (cs.drop off))[0]? = some a := by rw [he]; rfl
     have h0 : 0 < m := by rw [he] at hl; simp at hl; omega
     simpa [List.getElem?_take, h0] using this
    simp [hA', hget, S1.den]
   ·simp at h
 ·simp at h
theorem zx {t : TypeId} {cs : List At} {off : Nat} {v : S1} (h : xr P t cs off = some v) : ∃ m, mO P t = some m := by
 unfold xr at h
 cases hm : mO P t with
 | none => simp [hm] at h
 | some m => exact ⟨m, rfl⟩
theorem BE {t : TypeId} {cs : List At} {off : Nat} {v : S1} (h : xr P t cs off = some v) : ∀ a, a ∈ v.cells → a ∈ cs := by
 unfold xr at h
 cases hm : mO P t with
 | none => simp [hm] at h
 | some m =>
  simp only [hm, Option.bind_some] at h
  split at h
  ·unfold If at h
   split at h
   ·simp only [Option.some.injEq] at h; subst h
    intro a ha; exact List.mem_of_mem_drop (List.mem_of_mem_take ha)
   ·split at h
    ·rename_i a he
     simp only [Option.some.injEq] at h; subst h
     intro b hb; simp [S1.cells] at hb; subst hb
     have : b ∈ (cs.drop off).take m := by rw [he]; simp
     exact List.mem_of_mem_drop (List.mem_of_mem_take this)
    ·simp at h
  ·simp at h
theorem Am {v : S1} (hf : v.cells.all At.fit = true) (ho : v.ok) : v.den.cells = (v.cells.map At.den).toArray := by
 rcases v with a | l
 ·have h1 : a.den.oneCell' = true := At.fit_one (by simpa [S1.cells] using hf) (ho a (by simp [S1.cells]))
  simp only [S1.den, S1.cells, List.map_cons, List.map_nil]
  cases hd : a.den <;> simp_all [Value.cells, Value.oneCell']
 ·rfl
theorem JB (vs : List Value) : ∀ (off : Nat) (cells : List Value), off + vs.length ≤ cells.length →
  (vs.zipIdx.foldl (fun (cs : Array Value) (p : Value × Nat) => cs.setIfInBounds (off + p.2) p.1) cells.toArray) = (cells.take off ++ vs ++ cells.drop (off + vs.length)).toArray := by
 have gen : ∀ (vs : List Value) (k off : Nat) (cells : List Value), off + k + vs.length ≤ cells.length →
   ((vs.zipIdx k).foldl (fun (cs : Array Value) (p : Value × Nat) => cs.setIfInBounds (off + p.2) p.1) cells.toArray) = (cells.take (off + k) ++ vs ++ cells.drop (off + k + vs.length)).toArray := by
  intro vs
  induction vs with
  | nil => intro k off cells _; simp
  | cons v r ih =>
   intro k off cells h
   simp only [List.length_cons] at h
   simp only [List.zipIdx_cons, List.foldl_cons, List.setIfInBounds_toArray]
   have hlen : (cells.set (off + k) v).length = cells.length := by simp
   have := ih (k + 1) off (cells.set (off + k) v) (by simp; omega)
   rw [this]
   congr 1
   have e1 : (cells.set (off + k) v).take (off + (k + 1)) = cells.take (off + k) ++ [v] := by
    apply List.ext_getElem?
    intro i
    by_cases hi : i < off + k
    ·rw [List.getElem?_take, if_pos (by omega), List.getElem?_set_ne (by omega), List.getElem?_append_left (by simp; omega), List.getElem?_take, if_pos hi]
    ·by_cases he : i = off + k
     ·subst he
      rw [List.getElem?_take, if_pos (by omega), List.getElem?_set_self (by omega), List.getElem?_append_right (by simp; omega)]
      have : off + k - (cells.take (off + k)).length = 0 := by simp; omega
      rw [this]; rfl
     ·rw [List.getElem?_take, if_neg (by omega), List.getElem?_eq_none (by simp; omega)]
   have e2 : (cells.set (off + k) v).drop (off + (k + 1) + r.length) = cells.drop (off + k + (r.length + 1)) := by
    rw [List.drop_set_of_lt (by omega)]; congr 1; omega
   rw [e1, e2]; simp
 intro off cells h
 simpa using gen vs 0 off cells (by simpa using h)
theorem yJ {F : Own} {H : Heap} {O : Own} {a : Act} {w : World} (hc : Conc F s H O a w) {place : Nat → Option (Nat × Nat)} (hon : On (nj gl)) :
  ∀ {parts : List (Nat × Operand)} {cells out : List At} {cs : List Ck}, ei s gl place parts cells = some (out, cs) → AllCk cs →
   Instr.fill place (cells.map At.den).toArray (parts.map fun p => (p.1, a.eval p.2)) = some (out.map At.den).toArray
 | [], cells, out, cs, h, _ => by simp only [ei, Option.some.injEq, Prod.mk.injEq] at h; rw [← h.1]; rfl
 | (i, x) :: r, cells, out, cs, h, hcs => by
  simp only [ei] at h
  split at h
  ·rename_i off size v c hp hx
   split at h
   ·rename_i hcond
    simp only [Bool.and_eq_true, decide_eq_true_eq] at hcond
    obtain ⟨hcond, hfit⟩ := hcond
    simp only [Option.map_eq_some_iff] at h
    obtain ⟨⟨cs', c'⟩, hr, he⟩ := h
    simp only [Prod.mk.injEq] at he
    obtain ⟨rfl, rfl⟩ := he
    rw [AllCk.append] at hcs
    have hv := jc hc hx hcs.1 hon
    have hcells : v.den.cells = (v.cells.map At.den).toArray := by
     have hok := ij hc.ok hx
     exact Am hfit hok
    simp only [List.map_cons, Instr.fill, hp, hv, hcells]
    have hsz : (v.cells.map At.den).toArray.size = size := by simp [hcond.1]
    have : (decide ((v.cells.map At.den).toArray.size ≠ size) || decide (off + (v.cells.map At.den).toArray.size > (cells.map At.den).toArray.size)) = false := by
     simp only [List.size_toArray, List.length_map, Bool.or_eq_false_iff, decide_eq_false_iff_not]; omega
    rw [this]
    simp only [Bool.false_eq_true, if_false]
    have hf := JB (v.cells.map At.den) off (cells.map At.den) (by simp; omega)
    have hz : ((v.cells.map At.den).toArray.zipIdx).foldl (fun (cs : Array Value) (p : Value × Nat) => cs.setIfInBounds (off + p.2) p.1) (cells.map At.den).toArray = ((iM cells off v.cells).map At.den).toArray := by
     rw [← Array.foldl_toList, Array.toList_zipIdx, List.toList_toArray, hf]
     simp [iM, List.map_take, List.map_drop]
    rw [hz]
    exact yJ hc hon hr hcs.2
   ·simp at h
  ·simp at h
end Go.Sx

/- Stores, new boxes, calls. -/
namespace Go.Sx
open Go
variable {P : Program} {ops : Array Oper} {o : Oper} {s : SS} {gl : List (At × Bool)}
theorem E3 (vs : List Value) (off : Nat) (v : Value) (r : List Value) (h : off < vs.length) : ct (vs.set off v) (off + 1) r = ct vs off (v :: r) := by
 unfold ct
 have e1 : (vs.set off v).take (off + 1) = vs.take off ++ [v] := by
  rw [List.take_set]
  apply List.ext_getElem?
  intro i
  by_cases hi : i < off
  ·rw [List.getElem?_set_ne (by omega), List.getElem?_take, if_pos (by omega), List.getElem?_append_left (by simp; omega), List.getElem?_take, if_pos hi]
  ·by_cases he : i = off
   ·subst he
    rw [List.getElem?_set_self (by simp; omega), List.getElem?_append_right (by simp; omega)]
    have : i - (vs.take i).length = 0 := by simp; omega
    rw [this]; rfl
   ·rw [List.getElem?_set_ne (by omega), List.getElem?_take, if_neg (by omega), List.getElem?_eq_none (by simp; omega)]
 have e2 : (vs.set off v).drop (off + 1 + r.length) = vs.drop (off + (v :: r).length) := by
  rw [List.drop_set_of_lt (by omega), List.length_cons]; congr 1; omega
 rw [e1, e2]; simp
theorem tK {r off : Nat} {T : TypeId} : ∀ (ys : List Value) (i : Nat) (vs : List Value) (w : World), w.heap[r]? = some (.cells vs.toArray T (0, 0)) → Ones ys → off + i + ys.length ≤ vs.length →
  ∃ w', (storeCells ⟨r, off, none⟩ ys i).run P w = .ok () w' ∧ (∀ b, b ≠ r → w'.heap[b]? = w.heap[b]?) ∧ w'.heap[r]? = some (.cells (ct vs (off + i) ys).toArray T (0, 0)) ∧ nG w' = nG w
 | [], i, vs, w, h, _, hl => ⟨w, rfl, fun _ _ => rfl, by rw [h]; simp [ct], rfl⟩
 | y :: ys, i, vs, w, h, ho, hl => by
  simp only [List.length_cons] at hl
  have hcell : w.cell? ⟨r, off + i, none⟩ = some (vs[off + i]'(by omega)) := by
   rw [cell_of_row w r (off + i) _ T _ h]; simp
  have hfr : w.frozen? ⟨r, off + i, none⟩ = false := frozen_of_row w r (off + i) _ T h
  have hset : (w.setCell ⟨r, off + i, none⟩ y).heap[r]? = some (.cells (vs.set (off + i) y).toArray T (0, 0)) := by
   rw [heap_setCell_same w r (off + i) vs.toArray T y h]; simp
  have henv : nG (w.setCell ⟨r, off + i, none⟩ y) = nG w := by
   unfold World.setCell; split <;> rfl
  obtain ⟨w', hr, hs, hb, he⟩ := tK (r := r) (off := off) ys (i + 1) (vs.set (off + i) y) (w.setCell ⟨r, off + i, none⟩ y) hset ho.2 (by simp; omega)
  refine ⟨w', ?_, fun b hne => ?_, ?_, he.trans henv⟩
  ·simp only [storeCells, Sem.run_bind, cB, run_store P w _ y .plain ho.1, hcell, hfr, Bool.false_eq_true, if_false, Result.andThen_ok]
   exact hr
  ·rw [hs b hne, heap_setCell_other w ⟨r, off + i, none⟩ b y hne]
  ·rw [hb, ← E3 vs (off + i) y ys (by omega)]; rfl
theorem xm {t : TypeId} {m : Nat} (hs : mO P t = some m) {r off : Nat} {T : TypeId} {vs : List Value} {w : World} (h : w.heap[r]? = some (.cells vs.toArray T (0, 0))) {y : Value} {ys : List Value}
  (hy : y.cells = ys.toArray) (ho : Ones ys) (hm : ys.length = m) (hl : off + ys.length ≤ vs.length) :
  ∃ w', (storeVar t ⟨r, off, none⟩ y).run P w = .ok () w' ∧ (∀ b, b ≠ r → w'.heap[b]? = w.heap[b]?) ∧ w'.heap[r]? = some (.cells (ct vs off ys).toArray T (0, 0)) ∧ nG w' = nG w := by
 obtain ⟨w', hr, hb, hc, he⟩ := tK (P := P) (off := off) ys 0 vs w h ho (by omega)
 refine ⟨w', ?_, hb, hc, he⟩
 unfold storeVar
 rw [Sem.run_bind, bL hs, Result.andThen_ok]
 have : ¬ (y.cells.size ≠ m) := by rw [hy]; simp [hm]
 simp only [this, if_false]
 rw [hy]
 simpa using hr
theorem Cw {t : TypeId} {x y : Operand} {x' : At} {y' : S1} {cx cy : List Ck} {nfp : NF × FP} (ho : o.op = .store t x y) (hdst : o.dst = none) (hx : mh s [] x = some (x', cx)) (hy : tc s [] y = some (y', cy))
    (hg : aW (bZ ops) s o = .go []) (h : rB P s t x' y' (cx ++ cy) = some nfp) : Sound P ops o s nfp.1 := by
  unfold rB at h
  cases hm : mO P t with
  | none => simp [hm] at h
  | some m =>
    simp only [hm, Option.bind_some] at h
    split at h
    · simp at h
    · rename_i hcond
      simp only [Bool.or_eq_true, decide_eq_true_eq, Bool.not_eq_true', not_or, Decidable.not_not, Bool.not_eq_false] at hcond
      obtain ⟨hlen, hfit⟩ := hcond
      have common : ∀ {F H O a w}, Conc F s H O a w → AllCk (cx ++ cy) → a.eval x = x'.den ∧ a.eval y = y'.den ∧ y'.den.cells = (y'.cells.map At.den).toArray ∧ Ones (y'.cells.map At.den) := by
        intro F H O a w hc hcs
        rw [AllCk.append] at hcs
        have hok := ij hc.ok hy
        exact ⟨bo hc hx hcs.1 trivial, jc hc hy hcs.2 trivial, Am hfit hok, Gl (by simpa using hfit) hok⟩
      split at h
      · rename_i n r off
        split at h
        · rename_i b hb
          split at h
          · rename_i hl
            simp only [Option.some.injEq] at h; subst h
            intro F H O a w d K Q hc hr
            obtain ⟨hcs, hk⟩ := hr
            obtain ⟨e1, e2, e3, e4⟩ := common hc hcs.2
            have hrb : r = b.r := hcs.1
            unfold wp1
            rw [if_pos ((kc hc hg).2 trivial)]
            refine .inl ?_
            obtain ⟨L, hL, hmod⟩ := hc.mm
            obtain ⟨us, L', hus, hperm, hL'⟩ := hL.take hb
            have hmod' := hmod.perm (hperm.append_right _)
            simp only [List.cons_append] at hmod'
            have hrow := (hmod'.own (b.r, .cells us.toArray b.T (0, 0)) (by simp)).1
            obtain ⟨w', hrun, hoth, hnew, henv⟩ := xm (P := P) hm hrow e3 e4 (by simpa using hlen) (off := off) (by have := hus.length; simp; omega)
            unfold Oper.wp
            have : (execOp a.eval o).run P w = .ok .skip w' := by
              simp only [execOp, ho, e1, e2, At.den, hrb, Instr.storeAt, Instr.sureAddr, Sem.run_bind, Sem.run_pure, Result.andThen_ok, hrun]
            rw [this, Oper.upon_skip, hdst]
            refine ⟨_, H, O, ?_, Heap.le_refl H, hk⟩
            have hput := hL'.put (n := n) (b := { b with cs := iM b.cs off y'.cells }) (vs := us.take off ++ y'.cells.map At.den ++ us.drop (off + y'.cells.length)) (by simp) (hus.fill off y'.cells)
            rw [Dz] at hput
            refine ⟨hc.ok.setBox n ?_, hc.df, hc.sz, hc.tm, _, hput, ?_⟩
            · rintro b' hb' a' ha'
              simp only [Option.some.injEq] at hb'; subst hb'
              simp only [iM, List.mem_append] at ha'
              rcases ha' with (ha' | ha') | ha'
              · exact hc.ok.2 n b hb a' (List.mem_of_mem_take ha')
              · exact ij hc.ok hy a' ha'
              · exact hc.ok.2 n b hb a' (List.mem_of_mem_drop ha')
            · refine hmod'.update hoth ?_ henv
              rw [hnew]; simp [ct]
          · simp at h
        · simp at h
      all_goals first
        | (simp at h; done)
        | (split at h
           · simp at h
           · rename_i hm0
             simp only [Option.some.injEq] at h; subst h
             intro F H O a w d K Q hc hr
             obtain ⟨hcs, O', hst, hk⟩ := hr
             obtain ⟨e1, e2, e3, e4⟩ := common hc hcs.2
             unfold wp1
             rw [if_pos ((kc hc hg).2 trivial)]
             refine .inl ?_
             obtain ⟨ad, cs, T, L', hp, hsp, hperm, hl, hO'⟩ := hst
             have had : ad = ⟨ad.block, ad.off, none⟩ := by cases ad; simp_all
             obtain ⟨L, hL, hmod⟩ := hc.mm
             have hmod' : Models w H ((ad.block, .cells cs T (0, 0)) :: (L ++ (L' ++ F))) := by
               refine hmod.perm ?_
               have := (hperm.append_right F)
               refine (List.Perm.append_left L this).trans ?_
               simp only [List.cons_append]
               exact List.perm_middle
             have hrow : w.heap[ad.block]? = some (.cells cs.toList.toArray T (0, 0)) := by simpa using (hmod'.own (ad.block, .cells cs T (0, 0)) (by simp)).1
             obtain ⟨w', hrun, hoth, hnew, henv⟩ := xm (P := P) hm hrow e3 e4 (by simpa using hlen) (off := ad.off) (by simpa using hl)
             unfold Oper.wp
             have : (execOp a.eval o).run P w = .ok .skip w' := by
               simp only [execOp, ho, e1, e2, hp, Instr.storeAt, Instr.sureAddr, Sem.run_bind, Sem.run_pure, Result.andThen_ok]
               rw [had, hrun]; rfl
             rw [this, Oper.upon_skip, hdst]
             refine ⟨s, H, O', ⟨hc.ok, hc.df, hc.sz, hc.tm, L, hL, ?_⟩, Heap.le_refl H, hk⟩
             have hu := hmod'.update hoth hnew henv
             subst hO'
             refine hu.perm ?_
             simp only [List.cons_append]
             exact List.perm_middle.symm)
end Go.Sx

/- New boxes; calls and the like. -/
namespace Go.Sx
open Go
variable {P : Program} {ops : Array Oper} {o : Oper} {s : SS} {gl : List (At × Bool)}
theorem Iy {name : Nat} {T : TypeId} {cells : List At} {val : Nat → At} {cs : List Ck} (hg : aW (bZ ops) s o = .go []) (hd : ∀ d, o.dst = some d → d < s.sz)
  (hn : s.mem name = none) (hv : ∀ r, (val r).ok) (hvk : ∀ r, (val r).known = true) (hcells : s.Ok → ∀ a, a ∈ cells → a.ok)
  (hrun : ∀ F H O a w, Conc F s H O a w → AllCk cs → ∃ vs : List Value, CellsRel cells vs ∧
   (execOp a.eval o).run P w = .ok (.value (val w.heap.size).den) { w with heap := w.heap.push (.cells vs.toArray T (0, 0)) }) :
  Sound P ops o s (.box cs name T cells val) := by
 intro F H O a w d K Q hc hr
 obtain ⟨hcs, hk⟩ := hr
 obtain ⟨vs, hvs, hex⟩ := hrun F H O a w hc hcs
 unfold wp1
 rw [if_pos ((kc hc hg).2 trivial)]
 refine .inl ?_
 unfold Oper.wp
 rw [hex, Oper.upon_value]
 obtain ⟨L, hL, hmod⟩ := hc.mm
 have h1 : Conc F (s.setBox name (some ⟨w.heap.size, T, cells⟩)) H O a { w with heap := w.heap.push (.cells vs.toArray T (0, 0)) } := by
  refine ⟨hc.ok.setBox name ?_, hc.df, hc.sz, hc.tm, _, hL.put (n := name) (b := ⟨w.heap.size, T, cells⟩) hn hvs, ?_⟩
  ·rintro b' hb' a' ha'
   simp only [Option.some.injEq] at hb'; subst hb'; exact hcells hc.ok a' ha'
  ·simpa using hmod.push (.cells vs.toArray T (0, 0))
 refine ⟨_, H, O, h1.put (sv := .s (.at (val w.heap.size))) hd ?_ (hD (hv _)), Heap.le_refl H, hk _⟩
 cases hval : val w.heap.size <;> first
  | rfl
  | (have := hvk w.heap.size; rw [hval] at this; simp [At.known] at this)
theorem of {T : TypeId} {cells : List At} (h : xg P T = some cells) : ∃ z : Value, (∀ w, (zeroValue T).run P w = .ok z w) ∧ z.cells.toList = cells.map At.den ∧ cells.all At.known = true ∧ ∀ a, a ∈ cells → a.ok := by
 unfold xg at h
 cases hi : P.info? T with
 | none => simp [hi] at h
 | some i =>
  simp only [hi, Option.bind_some, Option.map_eq_some_iff] at h
  obtain ⟨z, hz, rfl⟩ := h
  refine ⟨z, fun w => by simp [zeroValue, typeInfo, hi, hz], by simp [Function.comp_def, At.den], by simp [At.known], ?_⟩
  intro a ha; simp only [List.mem_map] at ha; obtain ⟨x, _, rfl⟩ := ha; trivial
def zl (z : List Value) : Nat → List Value
 | 0 => []
 | n + 1 => z ++ zl z n
theorem lF (z : List Value) (hz : z.length ≠ 0) : ∀ n : Nat, ((Array.range (n * z.length)).map fun i => z.toArray[i % z.toArray.size]!).toList = (zl z n)
 | 0 => by simp [zl]
 | n + 1 => by
  have ih := lF z hz n
  simp only [Array.toList_map, Array.toList_range] at ih ⊢
  rw [show (n + 1) * z.length = z.length + n * z.length by rw [Nat.add_mul]; omega, List.range_add, List.map_append, List.map_map]
  have e1 : (List.range z.length).map (fun i => z.toArray[i % z.toArray.size]!) = z := by
   apply List.ext_getElem
   ·simp
   ·intro i h1 h2
    have hi : i < z.length := by simpa using h1
    simp [Nat.mod_eq_of_lt hi, hi]
  have e2 : (List.range (n * z.length)).map ((fun i => z.toArray[i % z.toArray.size]!) ∘ fun i => z.length + i) = (List.range (n * z.length)).map fun i => z.toArray[i % z.toArray.size]! := by
   apply List.map_congr_left
   intro i _
   simp [Function.comp]
  rw [e1, e2, ih]; rfl
theorem mY (z : List At) : ∀ n, (cQ z n).map At.den = zl (z.map At.den) n
 | 0 => rfl
 | n + 1 => by simp [cQ, zl, mY z n]
theorem ki {z : List At} : ∀ {n : Nat} {a : At}, a ∈ cQ z n → a ∈ z
 | 0, a, h => by simp [cQ] at h
 | n + 1, a, h => by
  simp only [cQ, List.mem_append] at h
  exact h.elim id ki
theorem lL (hok : s.Ok) {place : Nat → Option (Nat × Nat)} : ∀ {parts : List (Nat × Operand)} {cells out : List At} {cs : List Ck}, ei s gl place parts cells = some (out, cs) →
  (∀ a, a ∈ cells → a.ok) → ∀ a, a ∈ out → a.ok
 | [], cells, out, cs, h, hc => by simp only [ei, Option.some.injEq, Prod.mk.injEq] at h; rw [← h.1]; exact hc
 | (i, x) :: r, cells, out, cs, h, hc => by
  simp only [ei] at h
  split at h
  ·rename_i off size v c hp hx
   split at h
   ·simp only [Option.map_eq_some_iff] at h
    obtain ⟨⟨cs', c'⟩, hr, he⟩ := h
    simp only [Prod.mk.injEq] at he
    obtain ⟨rfl, rfl⟩ := he
    refine lL hok hr ?_
    intro a ha
    simp only [iM, List.mem_append] at ha
    rcases ha with (ha | ha) | ha
    ·exact hc a (List.mem_of_mem_take ha)
    ·exact ij hok hx a ha
    ·exact hc a (List.mem_of_mem_drop ha)
   ·simp at h
  ·simp at h
theorem um : ∀ {l : List Nat}, Jd l = true → l.Nodup
 | [], _ => by simp
 | n :: r, h => by
  simp only [Jd, Bool.and_eq_true, Bool.not_eq_true', List.contains_eq_mem, decide_eq_false_iff_not] at h
  exact List.nodup_cons.2 ⟨h.1, um h.2⟩
theorem nl : ∀ {l : List Nat} {s : SS} {n : Nat}, (cI l s).mem n = if n ∈ l then none else s.mem n
 | [], s, n => by simp [cI]
 | m :: r, s, n => by
  rw [cI, nl]
  by_cases h : n ∈ r
  ·simp [h]
  ·by_cases e : n = m <;> simp [h, e, SS.setBox]
theorem eL : ∀ {l : List Nat} {s : SS}, (cI l s).tmps = s.tmps ∧ (cI l s).sz = s.sz
 | [], _ => ⟨rfl, rfl⟩
 | m :: r, s => by rw [cI]; exact eL (l := r) (s := s.setBox m none)
theorem lH : ∀ {l : List (Nat × Bx)} {css : List (List Value)} {s : SS}, (dS l css s).tmps = s.tmps ∧ (dS l css s).sz = s.sz
 | [], _, _ => by simp [dS]
 | _ :: _, [], _ => by simp [dS]
 | (n, b) :: r, vs :: vss, s => by rw [dS]; exact lH (l := r)
theorem GU {s : SS} (h : s.Ok) (l : List Nat) : (cI l s).Ok := by
 refine ⟨by rw [eL.1]; exact h.1, fun n b hb => ?_⟩
 rw [nl] at hb
 split at hb
 ·simp at hb
 ·exact h.2 n b hb
theorem zr : ∀ {l : List (Nat × Bx)} {css : List (List Value)} {s : SS}, s.Ok → LP (l.map (·.2.bv)) css → (dS l css s).Ok
 | [], _, _, h, _ => by simpa [dS] using h
 | _ :: _, [], _, h, _ => by simpa [dS] using h
 | (n, b) :: r, vs :: vss, s, h, hf => by
  rw [dS]
  refine zr (h.setBox n ?_) hf.2.2
  rintro b' hb' a ha
  simp only [Option.some.injEq] at hb'; subst hb'
  have hl : vs.length = b.cs.length := by have := hf.1; simpa [Bx.bv] using this
  exact oD (by omega) hf.2.1 a ha
theorem Cu : ∀ {l : List (Nat × Bx)} {s : SS} {L : Own}, Boxes s.mem L → (∀ p, p ∈ l → s.mem p.1 = some p.2) → (l.map (·.1)).Nodup → (∀ p, p ∈ l → p.2.cs.all At.known = true) →
  ∃ L', L.Perm (l.map (fun p => p.2.bv.obj) ++ L') ∧ Boxes (cI (l.map (·.1)) s).mem L'
 | [], s, L, h, _, _, _ => ⟨L, by simp, h⟩
 | (n, b) :: r, s, L, h, hm, hn, hk => by
  obtain ⟨vs, L1, hvs, hp, h1⟩ := h.take (hm (n, b) (by simp))
  simp only [List.map_cons, List.nodup_cons] at hn
  have hr : ∀ p, p ∈ r → (s.setBox n none).mem p.1 = some p.2 := by
   intro p hp'
   have : p.1 ≠ n := fun e => hn.1 (e ▸ List.mem_map_of_mem hp')
   simp only [SS.setBox, this, if_false]
   exact hm p (by simp [hp'])
  obtain ⟨L', hp2, h2⟩ := Cu (s := s.setBox n none) (L := L1) h1 hr hn.2 (fun p hp' => hk p (by simp [hp']))
  refine ⟨L', hp.trans ?_, by simpa [cI] using h2⟩
  have : vs = b.cs.map At.den := hvs.known (hk (n, b) (by simp))
  simp only [List.map_cons, List.cons_append]
  rw [this]
  exact List.Perm.cons _ hp2
theorem I5 : ∀ {l : List (Nat × Bx)} {css : List (List Value)} {s : SS} {i : Nat}, LP (l.map (·.2.bv)) (css.drop i) → oS i l css s = dS l (css.drop i) s
 | [], css, s, i, _ => by cases css.drop i <;> rfl
 | (n, b) :: r, css, s, i, h => by
  cases hd : css.drop i with
  | nil => rw [hd] at h; exact h.elim
  | cons v vs =>
   rw [hd] at h
   have hlt : i < css.length := by
    rcases Nat.lt_or_ge i css.length with h' | h'
    ·exact h'
    ·rw [List.drop_of_length_le h'] at hd; cases hd
   rw [List.drop_eq_getElem_cons hlt] at hd
   obtain ⟨rfl, hd2⟩ := List.cons.inj hd
   have hv : css.getD i [] = css[i] := by simp [List.getD, hlt]
   rw [oS, dS, ← hd2, I5 (l := r) (i := i + 1) (by rw [hd2]; exact h.2.2), hv]
theorem zt : ∀ {l : List (Nat × Bx)} {css : List (List Value)} {s : SS} {i : Nat}, (oS i l css s).tmps = s.tmps ∧ (oS i l css s).sz = s.sz
 | [], _, _, _ => ⟨rfl, rfl⟩
 | (n, b) :: r, css, s, i => by rw [oS]; exact zt (l := r)
theorem I4 : ∀ {l : List (Nat × Bx)} {css : List (List Value)} {s : SS} {L : Own}, Boxes s.mem L → (∀ p, p ∈ l → s.mem p.1 = none) → (l.map (·.1)).Nodup → LP (l.map (·.2.bv)) css →
  ∃ L', L'.Perm ((nc (l.map (·.2.bv)) css).map BV.obj ++ L) ∧ Boxes (dS l css s).mem L'
 | [], css, s, L, h, _, _, _ => by cases css <;> exact ⟨L, by simp [nc], by simpa [dS] using h⟩
 | (n, b) :: r, [], s, L, h, _, _, hf => by simp [LP] at hf
 | (n, b) :: r, vs :: vss, s, L, h, hm, hn, hf => by
  simp only [List.map_cons, List.nodup_cons] at hn
  have hl : vs.length = b.cs.length := by have := hf.1; simpa [Bx.bv] using this
  have h1 := h.put (n := n) (b := { b with cs := atsFrom vs 0 b.cs.length }) (vs := vs) (hm (n, b) (by simp)) (CellsRel.atsFrom hl)
  obtain ⟨L', hp, h2⟩ := I4 (l := r) (css := vss) (s := s.setBox n (some { b with cs := atsFrom vs 0 b.cs.length })) h1 (by
   intro p hp'
   have : p.1 ≠ n := fun e => hn.1 (e ▸ List.mem_map_of_mem hp')
   simp only [SS.setBox, this, if_false]
   exact hm p (by simp [hp'])) hn.2 hf.2.2
  refine ⟨L', hp.trans ?_, by simpa [dS] using h2⟩
  simp only [List.map_cons, nc, List.cons_append]
  exact List.perm_middle
theorem nE {s : SS} {l : List Nat} : ∀ p, p ∈ jf s l → s.mem p.1 = some p.2 := by
 intro p hp
 simp only [jf, List.mem_filterMap, Option.map_eq_some_iff] at hp
 obtain ⟨n, _, b, hb, rfl⟩ := hp
 exact hb
theorem pm : ∀ {l : List BV} {w : World} {H : Heap} {O : Own}, Models w H (l.map BV.obj ++ O) → Models w (H.insAll l) O ∧ Heap.le H (H.insAll l)
 | [], w, H, O, h => ⟨by simpa [Heap.insAll] using h, Heap.le_refl H⟩
 | b :: r, w, H, O, h => by
  simp only [List.map_cons, List.cons_append] at h
  have hf : Models w (H.ins b.r b.obj.2) (r.map BV.obj ++ O) := Models.freeze h
  have hle : Heap.le H (H.ins b.r b.obj.2) := (Ghost.freeze H b.r b.obj.2 [] w (r.map BV.obj ++ O) h).2
  obtain ⟨h1, h2⟩ := pm hf
  exact ⟨h1, Heap.le_trans hle h2⟩
theorem zD {vs : List Value} (ho : Ones vs) : ∀ {l : List (Option Nat)} {i : Nat}, i + Shp.count (.tup l) ≤ vs.length → ∀ x, x ∈ Shp.svList vs i l → x.ok
 | [], i, _, x, hx => by simp [Shp.svList] at hx
 | none :: r, i, h, x, hx => by
  simp only [Shp.count, List.foldr_cons, Option.getD_none] at h
  simp only [Shp.svList, List.mem_cons] at hx
  rcases hx with rfl | hx
  ·exact hD (ho.get i (by omega))
  ·exact zD ho (l := r) (i := i + 1) (by simp only [Shp.count]; omega) x hx
 | some m :: r, i, h, x, hx => by
  simp only [Shp.count, List.foldr_cons, Option.getD_some] at h
  simp only [Shp.svList, List.mem_cons] at hx
  rcases hx with rfl | hx
  ·exact oD (by omega) ho
  ·exact zD ho (l := r) (i := i + m) (by simp only [Shp.count]; omega) x hx
theorem pd : ∀ {l : List (Option Nat)} {xs vs pre : List Value}, Shp.openList l xs = some vs →
  vs.length = Shp.count (.tup l) ∧ (Shp.svList (pre ++ vs) pre.length l).map S1.den = xs
 | [], [], vs, pre, h => by simp only [Shp.openList, Option.some.injEq] at h; subst h; simp [Shp.count, Shp.svList]
 | [], _ :: _, vs, pre, h => by simp [Shp.openList] at h
 | none :: r, [], vs, pre, h => by simp [Shp.openList] at h
 | none :: r, v :: xs, vs, pre, h => by
  simp only [Shp.openList, Option.map_eq_some_iff] at h
  obtain ⟨us, hu, rfl⟩ := h
  obtain ⟨h1, h2⟩ := pd (pre := pre ++ [v]) hu
  refine ⟨?_, ?_⟩
  ·simp only [Shp.count, List.foldr_cons, Option.getD_none, List.length_cons] at h1 ⊢; omega
  ·simp only [Shp.svList, List.map_cons]
   have e : pre ++ v :: us = pre ++ [v] ++ us := by simp
   have : g (pre ++ v :: us) pre.length = v := by simp [g]
   rw [S1.den, At.den, this, e]
   have hl : (pre ++ [v]).length = pre.length + 1 := by simp
   rw [← hl, h2]
 | some m :: r, [], vs, pre, h => by simp [Shp.openList] at h
 | some m :: r, v :: xs, vs, pre, h => by
  cases v with
  | agg cs =>
   simp only [Shp.openList] at h
   split at h
   ·rename_i hsz
    simp only [Option.map_eq_some_iff] at h
    obtain ⟨us, hu, rfl⟩ := h
    obtain ⟨h1, h2⟩ := pd (pre := pre ++ cs.toList) hu
    have hl : (pre ++ cs.toList).length = pre.length + m := by simp [hsz]
    refine ⟨?_, ?_⟩
    ·simp only [Shp.count, List.foldr_cons, Option.getD_some, List.length_append, Array.length_toList] at h1 ⊢
     omega
    ·simp only [Shp.svList, List.map_cons]
     rw [← hl, ← List.append_assoc, h2]
     congr 1
     simp only [S1.den, Value.agg.injEq]
     rw [Cn]
     apply Array.ext'
     simp only [List.toList_toArray, List.map_map]
     apply List.ext_getElem
     ·simp [hsz]
     ·intro i hi1 hi2
      have hi : i < cs.size := by simpa using hi2
      have hlt : ¬ (pre.length + i < pre.length) := by omega
      simp [At.den, g, List.getElem?_append, hi, hlt]
   ·simp at h
  | _ => simp [Shp.openList] at h
theorem I8 {shp : Shp} {v : Value} {vs : List Value} (h : shp.open v = some vs) (ho : Ones vs) : (shp.sv vs).rel v ∧ (shp.sv vs).ok := by
 cases shp with
 | one =>
  simp only [Shp.open, Option.some.injEq] at h; subst h
  exact ⟨rfl, hD ho.1⟩
 | agg m =>
  cases v with
  | agg cs =>
   simp only [Shp.open] at h
   split at h
   ·rename_i hsz
    simp only [Option.some.injEq] at h; subst h
    refine ⟨?_, oD (by simp [hsz]) ho⟩
    show _ = Value.agg ((atsFrom cs.toList 0 m).map At.den).toArray
    rw [Ax (by simp [hsz])]
   ·simp at h
  | _ => simp [Shp.open] at h
 | tup l =>
  cases v with
  | tuple xs =>
   simp only [Shp.open] at h
   obtain ⟨h1, h2⟩ := pd (pre := []) h
   refine ⟨?_, zD ho (l := l) (i := 0) (by omega)⟩
   show _ = Value.tuple ((Shp.svList vs 0 l).map S1.den).toArray
   have h2' : (Shp.svList vs 0 l).map S1.den = xs.toList := by simpa using h2
   rw [h2']
  | _ => simp [Shp.open] at h
theorem F4 {hk : HK} {frz own : List (Nat × Bx)} {shp : Shp} {post : List Value → List Ck} {cs : List Ck} {sv : List Value → SV} (hg : aW (bZ ops) s o = .go []) (hd : ∀ d, o.dst = some d → d < s.sz)
  (hfrz : ∀ p, p ∈ frz ++ own → s.mem p.1 = some p.2) (hnd : ((frz ++ own).map (·.1)).Nodup) (hkn : ∀ p, p ∈ frz ++ own → p.2.cs.all At.known = true)
  (hsv : ∀ v vs, s.Ok → shp.open v = some vs → Ones vs → AllCk (post vs) → (sv vs).rel v ∧ (sv vs).ok)
  (hex : ∀ F H O a w, Conc F s H O a w → AllCk cs → ∀ H1 O1 R, hk.T P H1 O1 R → ∀ F1, Models w H1 (O1 ++ F1) → ∀ (next : Act → World → Prop) (Q : Exit → Act → World → Prop),
   (∀ v w' H' O', R v H' O' → Heap.le H1 H' → Models w' H' (O' ++ F1) → next (a.put o.dst v) w') → o.wp P a w next Q) :
  Sound P ops o s (.hv cs hk frz own shp post sv) := by
 intro F H O a w d K Q hc hr
 obtain ⟨hcs, hr⟩ := hr
 unfold wp1
 rw [if_pos ((kc hc hg).2 trivial)]
 refine .inl ?_
 obtain ⟨L, hL, hmod⟩ := hc.mm
 obtain ⟨L', hp, hL'⟩ := Cu hL hfrz hnd hkn
 have hm0 : Models w H ((frz.map (·.2.bv)).map BV.obj ++ ((own.map (·.2.bv)).map BV.obj ++ (L' ++ (O ++ F)))) := by
  refine hmod.perm ((hp.append_right _).trans (List.Perm.of_eq ?_))
  simp [List.map_map, Function.comp_def]
 obtain ⟨H1, O1, O2, R, hgh, hT, hk'⟩ := hr ⟨w, L' ++ F, hm0.perm (by
  rw [List.append_assoc, List.append_assoc]
  exact List.Perm.append_left _ (List.Perm.append_left _ (List.perm_append_comm_assoc _ _ _))) ⟩
 obtain ⟨hm1, hle1⟩ := pm hm0
 have hgh' : Ghost (H.insAll (frz.map (·.2.bv))) O H1 (O1 ++ O2) := by
  split at hgh
  ·obtain ⟨rfl, ⟨rfl, rfl⟩ | ⟨_, rfl, rfl, _⟩⟩ := hgh
   ·exact Ghost.refl _ _
   ·rw [List.append_nil]; exact Ghost.refl _ _
  ·exact hgh
 have hm2 : Models w (H.insAll (frz.map (·.2.bv))) (O ++ ((own.map (·.2.bv)).map BV.obj ++ (L' ++ F))) := by
  refine hm1.perm ?_
  exact (List.Perm.append_left _ (List.perm_append_comm_assoc _ _ _)).trans (List.perm_append_comm_assoc _ _ _)
 obtain ⟨hm3, hle2⟩ := hgh' w _ hm2
 have hm4 : Models w H1 (((own.map (·.2.bv)).map BV.obj ++ O1) ++ (O2 ++ (L' ++ F))) := by
  refine hm3.perm ?_
  rw [List.append_assoc, List.append_assoc]
  exact (List.Perm.append_left _ (List.perm_append_comm_assoc _ _ _)).trans (List.perm_append_comm_assoc _ _ _)
 refine hex F H O a w hc hcs H1 _ R hT _ hm4 _ Q ?_
 intro v w' H' O' hR hle3 hm5
 obtain ⟨vs, css, O3, hop, hones, hfits, rfl, hpost, hK⟩ := hk' v H' O' hR hle3
 obtain ⟨hrel, hok⟩ := hsv v vs hc.ok hop hones hpost
 have hmemNone : ∀ p, p ∈ own → (cI ((frz ++ own).map (·.1)) s).mem p.1 = none := by
  intro p hp'
  rw [nl, if_pos (List.mem_map_of_mem (by simp [hp']))]
 have hndo : (own.map (·.1)).Nodup := by
  rw [List.map_append] at hnd; exact (List.nodup_append.1 hnd).2.1
 obtain ⟨L'', hp'', hL''⟩ := I4 (css := css) hL' hmemNone hndo hfits
 have hconc : Conc F (dS own css (cI ((frz ++ own).map (·.1)) s)) H' (O3 ++ O2) a w' := by
  refine ⟨zr (GU hc.ok _) hfits, hc.df, ?_, ?_, L'', hL'', ?_⟩
  ·rw [lH.2, eL.2]; exact hc.sz
  ·rw [lH.1, eL.1]; exact hc.tm
  ·refine hm5.perm (List.Perm.trans ?_ (hp''.symm.append_right _))
   rw [List.append_assoc, List.append_assoc, ← List.append_assoc O3]
   exact List.Perm.append_left _ (List.perm_append_comm_assoc _ _ _)
 have hpb : oS 0 own css (cI ((frz ++ own).map (·.1)) s) = dS own css (cI ((frz ++ own).map (·.1)) s) := I5 (i := 0) hfits
 rw [qW, hpb] at hK
 refine ⟨_, H', O3 ++ O2, hconc.put ?_ hrel hok, Heap.le_trans hle1 (Heap.le_trans hle2 hle3), hK⟩
 intro d' hd'
 rw [lH.2, eL.2]; exact hd d' hd'
end Go.Sx

/- Every operation's normal form is sound. -/
namespace Go.Sx
open Go
variable {P : Program} {ops : Array Oper} {o : Oper} {s : SS} {gl : List (At × Bool)}
theorem bB {v : S1} {cs : List Ck} {x : NF} {fp : FP} (hg : aW (bZ ops) s o = .go gl) (hd : ∀ d, o.dst = some d → d < s.sz) (h : cT gl o.dst v cs = some (x, fp))
  (hok : s.Ok → AllCk cs → v.ok) (hrun : ∀ F H O a w, Conc F s H O a w → AllCk cs → On (nj gl) → (execOp a.eval o).run P w = .ok (.value v.den) w) : Sound P ops o s x := by
 simp only [cT, Option.some.injEq, Prod.mk.injEq] at h
 rw [← h.1]
 exact cF (X := fun _ => v) hg hd (fun _ _ _ h1 h2 _ => hok h1 h2) (fun F H O a w _ hc hcs _ hon => hrun F H O a w hc hcs hon)
theorem pC {name : Nat} {T : TypeId} {cells : List At} {val : Nat → At} {cs : List Ck} {x : NF} {fp : FP} (hg : aW (bZ ops) s o = .go gl) (hd : ∀ d, o.dst = some d → d < s.sz)
  (h : nI s gl o.dst name T cells val cs = some (x, fp)) (hv : ∀ r, (val r).ok) (hvk : ∀ r, (val r).known = true) (hcells : s.Ok → ∀ a, a ∈ cells → a.ok)
  (hrun : ∀ F H O a w, Conc F s H O a w → AllCk cs → gl = [] → ∃ vs : List Value, CellsRel cells vs ∧
   (execOp a.eval o).run P w = .ok (.value (val w.heap.size).den) { w with heap := w.heap.push (.cells vs.toArray T (0, 0)) }) : Sound P ops o s x := by
 unfold nI at h
 split at h
 ·rename_i hcond
  simp only [Bool.and_eq_true, Option.isNone_iff_eq_none, List.isEmpty_iff] at hcond
  simp only [Option.some.injEq, Prod.mk.injEq] at h
  rw [← h.1]
  obtain ⟨rfl, hn⟩ := hcond
  exact Iy hg hd hn hv hvk hcells (fun F H O a w hc hcs => hrun F H O a w hc hcs rfl)
 ·simp at h
theorem fT {dst : Option Tmp} {shp : Shp} {hk : HK} {atoms : List At} {cs : List Ck} {x : NF} {fp : FP} (hdst : dst = o.dst) (hg : aW (bZ ops) s o = .go []) (hd : ∀ d, o.dst = some d → d < s.sz)
  (h : eG s dst shp hk atoms cs = some (x, fp))
  (hex : ∀ F H O a w, Conc F s H O a w → AllCk cs → ∀ H1 O1 R, hk.T P H1 O1 R → ∀ F1, Models w H1 (O1 ++ F1) → ∀ (next : Act → World → Prop) (Q : Exit → Act → World → Prop),
   (∀ v w' H' O', R v H' O' → Heap.le H1 H' → Models w' H' (O' ++ F1) → next (a.put o.dst v) w') → o.wp P a w next Q) : Sound P ops o s x := by
 subst hdst
 unfold eG at h
 simp only [] at h
 split at h
 ·rename_i hcond
  simp only [Bool.and_eq_true] at hcond
  simp only [Option.some.injEq, Prod.mk.injEq] at h
  rw [← h.1]
  refine F4 (sv := shp.sv) hg hd ?_ (um hcond.2) ?_ (fun v vs _ ho hn _ => I8 ho hn) hex
  ·intro p hp
   rcases List.mem_append.1 hp with hp | hp
   ·exact nE p hp
   ·exact nE p hp
  ·intro p hp
   have := hcond.1
   rw [List.all_eq_true] at this
   exact this p hp
 ·simp at h
theorem Cq {a : Act} {w : World} {f : FuncId} {args : List Value} {H1 : Heap} {O1 F1 : Own} {R : Value → Heap → Own → Prop} {next : Act → World → Prop} {Q : Exit → Act → World → Prop}
  (hT : Triple P f args H1 O1 R) (hm : Models w H1 (O1 ++ F1)) (hrun : (execOp a.eval o).run P w = .ok (.enter f args.toArray) w)
  (hn : ∀ v w' H' O', R v H' O' → Heap.le H1 H' → Models w' H' (O' ++ F1) → next (a.put o.dst v) w') : o.wp P a w next Q := by
 unfold Oper.wp
 rw [hrun, Oper.upon_enter]
 exact (hT w F1 hm).mono fun e w' ⟨v, H', O', he, hR, hle, hm'⟩ => by subst he; exact hn v w' H' O' hR hle hm'
theorem yS {a : Act} {w : World} {sem : Sem Next} {H1 : Heap} {O1 F1 : Own} {R : Value → Heap → Own → Prop} {next : Act → World → Prop} {Q : Exit → Act → World → Prop}
  (hT : dq P sem H1 O1 R) (hm : Models w H1 (O1 ++ F1)) (hrun : (execOp a.eval o).run P w = sem.run P w)
  (hn : ∀ v w' H' O', R v H' O' → Heap.le H1 H' → Models w' H' (O' ++ F1) → next (a.put o.dst v) w') : o.wp P a w next Q := by
 unfold Oper.wp
 obtain ⟨v, w', H', O', hr, hR, hle, hm'⟩ := hT w F1 hm
 rw [hrun, hr, Oper.upon_value]
 exact hn v w' H' O' hR hle hm'
theorem ET {f : FuncId} (h : tt P f) (args : Array Value) (w : World) : (callFunc f args).run P w = .ok (.enter f args) w := by
 obtain ⟨fn, h1, h2, h3⟩ := h
 simp only [callFunc, Sem.run_bind, run_program, Result.andThen_ok, h1, h2, h3, Bool.false_eq_true, if_false]
 rfl
theorem yP {c : Call} {f : Operand} {n : FuncId} {caps : Array Value} {a : Act} (hop : o.op = .call c) (hcal : c.callee = .value f) (hf : a.eval f = .func (.func n) #[] caps) (hok : tt P n) (w : World) :
  (execOp a.eval o).run P w = .ok (.enter n (c.args.map a.eval ++ caps)) w := by
 simp only [execOp, hop, resolve, hcal, hf, Deferred.ofValue, Sem.run_bind, Sem.run_pure, Result.andThen_ok, invoke, Array.empty_append, ET hok]
theorem zA {s : SS} {gl : List (At × Bool)} {x y : Operand} {as : List At} {cs : List Ck} (h : eF s gl [x, y] = some (as, cs)) : ∃ a b, as = [a, b] := by
 simp only [eF] at h
 split at h
 ·rename_i a c as' cs' h1 h2
  simp only [Option.some.injEq, Prod.mk.injEq] at h
  split at h2
  ·rename_i b c2 as2 cs2 h3 h4
   simp only [Option.some.injEq, Prod.mk.injEq] at h2 h4
   exact ⟨a, b, by rw [← h.1, ← h2.1, ← h4.1]⟩
  ·simp at h2
 ·simp at h
theorem yK {F : Own} {H : Heap} {O : Own} {a : Act} {w : World} (h : Conc F s H O a w) {x y : Operand} {x' y' : At} {cs : List Ck}
  (hx : eF s gl [x, y] = some ([x', y'], cs)) (hc : AllCk cs) (ho : On (nj gl)) : a.eval x = x'.den ∧ a.eval y = y'.den := by
 have := eX h hx hc ho
 simpa using this
theorem zJ {x : At} {n : Nat} {a : At} {c : List Ck} (h : Gq gl x n = some (a, c)) : (AllCk c → x.ok → a.ok) ∧
  (AllCk c → On (nj gl) → ∃ ad, x.den = .pointer (some ad) ∧ a.den = .pointer (some (ad.add n))) := by
 have hp : ∀ y : Value, Bg y = true → ∃ ad, y = .pointer (some ad) := by
  intro y hy
  unfold Bg at hy; split at hy
  ·exact ⟨_, rfl⟩
  ·simp at hy
 have hadd0 : ∀ ad : Addr, ad.add 0 = ad := fun ad => by simp [Addr.add]
 cases x <;> simp only [Gq] at h
 case p n' r off =>
  simp only [Option.some.injEq, Prod.mk.injEq] at h
  obtain ⟨rfl, rfl⟩ := h
  exact ⟨fun _ _ => trivial, fun _ _ => ⟨⟨r, off, none⟩, rfl, by rw [cB]; rfl⟩⟩
 case px y off =>
  simp only [Option.some.injEq, Prod.mk.injEq] at h
  obtain ⟨rfl, rfl⟩ := h
  refine ⟨fun _ _ => trivial, fun hc ho => ?_⟩
  obtain ⟨ad, rfl⟩ := hp y (hc.1 ho)
  exact ⟨ad.add off, rfl, by simp [At.den, aS, Az]⟩
 case v y =>
  simp only [Option.some.injEq, Prod.mk.injEq] at h
  obtain ⟨rfl, rfl⟩ := h
  refine ⟨fun hc ho => ?_, fun hc ho => ?_⟩
  ·split
   ·exact ho
   ·split
    ·rename_i he
     have : gl = [] := by simpa using he
     subst this
     obtain ⟨ad, rfl⟩ := hp y (hc.1 trivial)
     rfl
    ·trivial
  ·obtain ⟨ad, rfl⟩ := hp y (hc.1 ho)
   refine ⟨ad, rfl, ?_⟩
   split
   ·rename_i h0; subst h0; rw [hadd0]; rfl
   ·split <;> rfl
 case k y =>
  simp only [Option.some.injEq, Prod.mk.injEq] at h
  obtain ⟨rfl, rfl⟩ := h
  refine ⟨fun hc ho => ?_, fun hc ho => ?_⟩
  ·split
   ·exact ho
   ·split
    ·rename_i he
     have : gl = [] := by simpa using he
     subst this
     obtain ⟨ad, rfl⟩ := hp y (hc.1 trivial)
     rfl
    ·trivial
  ·obtain ⟨ad, rfl⟩ := hp y (hc.1 ho)
   refine ⟨ad, rfl, ?_⟩
   split
   ·rename_i h0; subst h0; rw [hadd0]; rfl
   ·split <;> rfl
 all_goals simp at h
theorem lN {i : At} {n : Nat} (h : ke i = some n) : ∃ k, i.den = .int k n := by
 unfold ke at h
 split at h
 ·rename_i k m
  split at h
  ·rename_i h0
   simp only [Option.some.injEq] at h
   exact ⟨k, by simp [At.den]; omega⟩
  ·simp at h
 ·simp at h
theorem zV {t : TypeId} {x i : Operand} {x' i' : At} {cs : List Ck} {y : NF} {fp : FP} (hop : o.op = .indexAddr t x i) (hx : eF s gl [x, i] = some ([x', i'], cs))
    (hg : aW (bZ ops) s o = .go gl) (hd : ∀ d, o.dst = some d → d < s.sz) (h : ur P gl o.dst t x' i' cs = some (y, fp)) : Sound P ops o s y := by
  have hok := fun hs : s.Ok => yE hs hx
  have ev := fun {F H O a w} (hc : Conc F s H O a w) (hcs : AllCk cs) (hon : On (nj gl)) => yK hc hx hcs hon
  unfold ur at h
  split at h
  · rename_i len elem hu
    cases hs : mO P elem with
    | none => simp [hs] at h
    | some size =>
      simp only [hs, Option.bind_some] at h
      have harr : ∀ {ad : Addr} {k : IntKind} {n : Int}, 0 ≤ n ∧ n < len → ∀ w, (Instr.indexAt t (.pointer (some ad)) (.int k n)).run P w = .ok (.pointer (some (ad.add (n.toNat * size)))) w :=
        fun hb w => F5 hu hs (by simp [tk, hb]) w
      split at h
      · rename_i n hn
        split at h
        · rename_i hlt
          simp only [Option.map_eq_some_iff, Prod.mk.injEq] at h
          obtain ⟨⟨a', c⟩, hm, rfl, _⟩ := h
          obtain ⟨h1, h2⟩ := zJ hm
          refine cF (X := fun _ => .at a') hg hd ?_ ?_
          · intro H O vs hs' hc _
            rw [AllCk.append] at hc
            exact hD (h1 hc.1 (hok hs' x' (by simp)))
          · intro F H O a w vs hc hcs _ hon
            rw [AllCk.append] at hcs
            obtain ⟨e1, e2⟩ := ev hc hcs.2 hon
            obtain ⟨ad, hx', ha'⟩ := h2 hcs.1 hon
            obtain ⟨k, hk⟩ := lN hn
            simp only [execOp, hop, e1, e2, hx', hk, Sem.run_bind, harr (ad := ad) (k := k) (n := n) (by omega), Result.andThen_ok, Sem.run_pure, S1.den, ha', Int.toNat_natCast]
        · simp at h
      · split at h
        · rename_i n r off
          split at h
          · rename_i hcond
            simp only [Bool.and_eq_true, List.isEmpty_iff, decide_eq_true_eq] at hcond
            obtain ⟨rfl, _⟩ := hcond
            simp only [Option.some.injEq, Prod.mk.injEq] at h
            obtain ⟨rfl, _⟩ := h
            refine cF (gl := []) (X := fun vs => .at (.p n r (off + (match g vs 0 with | .int _ n => n.toNat | _ => 0) * size))) hg hd (fun _ _ _ _ _ _ => hD trivial) ?_
            rintro F H O a w vs hc hcs ⟨kd, j, hj, h0, h1, rfl⟩ hon
            obtain ⟨e1, e2⟩ := ev hc hcs hon
            have e1' : a.eval x = .pointer (some ⟨r, off, none⟩) := e1
            simp only [execOp, hop, e1', e2, hj, Sem.run_bind, harr (ad := ⟨r, off, none⟩) (k := kd) (n := j) ⟨h0, h1⟩, Result.andThen_ok, Sem.run_pure, S1.den, cB]
            rfl
          · simp at h
        all_goals first
          | (simp at h; done)
          | (split at h
             · simp at h
             · simp only [Option.some.injEq, Prod.mk.injEq] at h
               obtain ⟨rfl, _⟩ := h
               refine bM hg hd (by simp) ?_
               intro F H O a w v hc hcs hon he
               obtain ⟨e1, e2⟩ := ev hc hcs hon
               simp only [List.map_cons, List.map_nil, al] at he
               simp only [execOp, hop, e1, e2, Sem.run_bind, F5 hu hs he, Result.andThen_ok, Sem.run_pure])
  · rename_i elem hu
    cases hs : mO P elem with
    | none => simp [hs] at h
    | some size =>
      simp only [hs, Option.bind_some] at h
      have gen : ∀ {y fp}, some (fS gl false o.dst (.idx size) [x', i'] cs, ({} : FP)) = some (y, fp) → Sound P ops o s y := by
        intro y fp h
        simp only [Option.some.injEq, Prod.mk.injEq] at h
        obtain ⟨rfl, _⟩ := h
        refine bM hg hd (by simp) ?_
        intro F H O a w v hc hcs hon he
        obtain ⟨e1, e2⟩ := ev hc hcs hon
        simp only [List.map_cons, List.map_nil, al] at he
        simp only [execOp, hop, e1, e2, Sem.run_bind, IG hu hs he, Result.andThen_ok, Sem.run_pure]
      split at h
      · rename_i n r off len c k hk
        split at h
        · rename_i hlt
          simp only [Option.some.injEq, Prod.mk.injEq] at h
          obtain ⟨rfl, _⟩ := h
          refine cF (X := fun _ => .at (.p n r (off + k * size))) hg hd (fun _ _ _ _ _ _ => hD trivial) ?_
          intro F H O a w vs hc hcs _ hon
          obtain ⟨e1, e2⟩ := ev hc hcs hon
          obtain ⟨kd, hkd⟩ := lN hk
          have : (Instr.indexAt t (.slice (some ⟨r, off, none⟩) len c) (.int kd k)).run P w = .ok (.pointer (some ⟨r, off + k * size, none⟩)) w :=
            IG hu hs (by simp [pz, hlt, cB]) w
          have e1' : a.eval x = .slice (some ⟨r, off, none⟩) len c := e1
          simp only [execOp, hop, e1', e2, hkd, Sem.run_bind, this, Result.andThen_ok, Sem.run_pure]
          rfl
        · simp at h
      · exact gen h
  · simp at h

theorem CN {F : Own} {H : Heap} {O : Own} {a : Act} {w : World} (h : Conc F s H O a w) {x : Option Operand} {l : List At} {cs : List Ck}
  (hx : eF s gl x.toList = some (l, cs)) (hc : AllCk cs) (ho : On (nj gl)) : x.map a.eval = l.head?.map At.den ∧ (l.head?.isSome = x.isSome) ∧ l = l.head?.toList := by
 have hd := eX h hx hc ho
 cases x with
 | none =>
  simp only [Option.toList, eF, Option.some.injEq, Prod.mk.injEq] at hx
  rw [← hx.1]; simp
 | some y =>
  simp only [Option.toList, List.map_cons, List.map_nil] at hd
  match l, hd with
  | [b], hd => simp at hd; simp [hd]
  | [], hd => simp at hd
  | _ :: _ :: _, hd => simp at hd
theorem Iq (lo hi mx : Option Value) : dR [lo.isSome, hi.isSome, mx.isSome] (lo.toList ++ hi.toList ++ mx.toList) = [lo, hi, mx] := by
 cases lo <;> cases hi <;> cases mx <;> rfl
theorem Ir (lo hi : Option Value) : dR [lo.isSome, hi.isSome] (lo.toList ++ hi.toList ++ []) = [lo, hi] := by
 cases lo <;> cases hi <;> rfl
theorem BQ (x : Option At) : x.toList.map At.den = (x.map At.den).toList := by cases x <;> rfl
theorem lW {x : Option At} {d n y : Nat} (h : (x.map ke).getD (some d) = some n) (hy : n ≤ y) : cC (x.map At.den) y d = some n ∧ dJ (x.map At.den) false y d = some n := by
 cases x with
 | none => simpa [cC, dJ] using h
 | some a =>
  simp only [Option.map_some, Option.getD_some] at h
  obtain ⟨k, hk⟩ := lN h
  simp [hk, cC, dJ, mu, asI, hy]
theorem E5 {t : TypeId} {x : Operand} {lo hi mx : Option Operand} {x' : At} {l h' m : List At} {c0 c1 c2 c3 : List Ck} {y : NF} {fp : FP} (hop : o.op = .slice t x lo hi mx)
  (h0 : mh s gl x = some (x', c0)) (h1 : eF s gl lo.toList = some (l, c1)) (h2 : eF s gl hi.toList = some (h', c2)) (h3 : eF s gl mx.toList = some (m, c3))
  (hg : aW (bZ ops) s o = .go gl) (hd : ∀ d, o.dst = some d → d < s.sz) (h : E6 P gl o.dst t x' l.head? h'.head? m.head? (c0 ++ c1 ++ c2 ++ c3) = some (y, fp)) : Sound P ops o s y := by
 have ev : ∀ {F H O a w}, Conc F s H O a w → AllCk (c0 ++ c1 ++ c2 ++ c3) → On (nj gl) → a.eval x = x'.den ∧ lo.map a.eval = l.head?.map At.den ∧ hi.map a.eval = h'.head?.map At.den ∧ mx.map a.eval = m.head?.map At.den := by
  intro F H O a w hc hcs hon
  simp only [AllCk.append] at hcs
  exact ⟨bo hc h0 hcs.1.1.1 hon, (CN hc h1 hcs.1.1.2 hon).1, (CN hc h2 hcs.1.2 hon).1, (CN hc h3 hcs.2 hon).1⟩
 generalize l.head? = lo' at h ev
 generalize h'.head? = hi' at h ev
 generalize m.head? = mx' at h ev
 unfold E6 at h
 simp only [] at h
 split at h
 ·rename_i hu
  split at h
  ·simp at h
  ·rename_i hmx
   simp only [Option.some.injEq, Prod.mk.injEq] at h
   obtain ⟨rfl, _⟩ := h
   have hmx' : mx' = none := by cases mx' <;> simp_all
   subst hmx'
   refine bM hg hd (by simp) ?_
   intro F H O a w v hc hcs hon he
   obtain ⟨e0, e1, e2, e3⟩ := ev hc hcs hon
   simp only [List.map_cons, List.map_append, al, BQ, Option.toList_none, List.map_nil, List.append_nil] at he
   have hta := Ir (lo'.map At.den) (hi'.map At.den)
   simp only [List.append_nil, Option.isSome_map] at hta
   rw [hta] at he
   simp only [Option.map_none] at e3
   simp only [execOp, hop, e0, e1, e2, e3, Sem.run_bind, Kp hu he, Result.andThen_ok, Sem.run_pure]
 ·rename_i elem hu
  cases hs : mO P elem with
  | none => simp [hs] at h
  | some size =>
   simp only [hs, Option.bind_some] at h
   have gen : ∀ {y fp}, some (fS gl false o.dst (.slc size lo'.isSome hi'.isSome mx'.isSome) (x' :: (lo'.toList ++ hi'.toList ++ mx'.toList)) (c0 ++ c1 ++ c2 ++ c3), ({} : FP)) = some (y, fp) → Sound P ops o s y := by
    intro y fp h
    simp only [Option.some.injEq, Prod.mk.injEq] at h
    obtain ⟨rfl, _⟩ := h
    refine bM hg hd (by simp) ?_
    intro F H O a w v hc hcs hon he
    obtain ⟨e0, e1, e2, e3⟩ := ev hc hcs hon
    simp only [List.map_cons, List.map_append, al, BQ] at he
    have hta := Iq (lo'.map At.den) (hi'.map At.den) (mx'.map At.den)
    simp only [Option.isSome_map] at hta
    rw [hta] at he
    simp only [execOp, hop, e0, e1, e2, e3, Sem.run_bind, IE hu hs he, Result.andThen_ok, Sem.run_pure]
   split at h
   ·rename_i l'' h'' n r off len cap
    split at h
    ·rename_i l3 h3' hl hh
     split at h
     ·rename_i hcond
      simp only [Bool.and_eq_true, decide_eq_true_eq] at hcond
      simp only [Option.some.injEq, Prod.mk.injEq] at h
      obtain ⟨rfl, _⟩ := h
      refine cF (X := fun _ => .at (.sl n r (if cap = l3 then off else off + l3 * size) (h3' - l3) (cap - l3))) hg hd (fun _ _ _ _ _ _ => hD trivial) ?_
      intro F H O a w vs hc hcs _ hon
      obtain ⟨e0, e1, e2, e3⟩ := ev hc hcs hon
      have hb : gD size (.slice (some ⟨r, off, none⟩) len cap) (lo'.map At.den) (hi'.map At.den) none =
        some (.slice (if cap = l3 then some ⟨r, off, none⟩ else some ⟨r, off + l3 * size, none⟩) (h3' - l3) (cap - l3)) := by
       have b1 := (lW (x := hi') (d := len) (n := h3') (y := cap) hh hcond.2).2
       have b2 := (lW (x := lo') (d := 0) (n := l3) (y := h3') hl hcond.1).1
       have b3 : bA len cap (lo'.map At.den) (hi'.map At.den) none = some (l3, h3', cap) := by
        show ((dJ (hi'.map At.den) false cap len).bind fun h => (cC (lo'.map At.den) h 0).bind fun l => some (l, h, cap)) = _
        rw [b1]; simp only [Option.bind_some]
        rw [b2]; rfl
       simp only [gD, b3, Option.map_some, cB]
      have e0' : a.eval x = .slice (some ⟨r, off, none⟩) len cap := e0
      simp only [Option.map_none] at e3
      simp only [execOp, hop, e0', e1, e2, e3, Sem.run_bind, IE hu hs hb, Result.andThen_ok, Sem.run_pure, S1.den, At.den]
      split <;> rfl
     ·simp at h
    ·exact gen h
   ·exact gen h
 ·rename_i len elem hu
  cases hs : mO P elem with
  | none => simp [hs] at h
  | some size =>
   simp only [hs, Option.bind_some] at h
   split at h
   ·rename_i l'' h'' n r off
    split at h
    ·rename_i l3 h3' hl hh
     split at h
     ·rename_i hcond
      simp only [Bool.and_eq_true, decide_eq_true_eq] at hcond
      simp only [Option.some.injEq, Prod.mk.injEq] at h
      obtain ⟨rfl, _⟩ := h
      refine cF (X := fun _ => .at (.sl n r (if len = l3 then off else off + l3 * size) (h3' - l3) (len - l3))) hg hd (fun _ _ _ _ _ _ => hD trivial) ?_
      intro F H O a w vs hc hcs _ hon
      obtain ⟨e0, e1, e2, e3⟩ := ev hc hcs hon
      have hb : bA len len (lo'.map At.den) (hi'.map At.den) none = some (l3, h3', len) := by
       have b1 := (lW (x := hi') (d := len) (n := h3') (y := len) hh hcond.2).2
       have b2 := (lW (x := lo') (d := 0) (n := l3) (y := h3') hl hcond.1).1
       show ((cC none len len).bind fun m => (dJ (hi'.map At.den) false m len).bind fun h => (cC (lo'.map At.den) h 0).bind fun l => some (l, h, m)) = _
       show ((dJ (hi'.map At.den) false len len).bind fun h => (cC (lo'.map At.den) h 0).bind fun l => some (l, h, len)) = _
       rw [b1]; simp only [Option.bind_some]
       rw [b2]; rfl
      have e0' : a.eval x = .pointer (some ⟨r, off, none⟩) := e0
      simp only [Option.map_none] at e3
      simp only [execOp, hop, e0', e1, e2, e3, Sem.run_bind, DX hu hs hb, Result.andThen_ok, Sem.run_pure, S1.den, At.den]
      split <;> rfl
     ·simp at h
    ·simp at h
   ·rename_i l'' h'' r off
    split at h
    ·rename_i l3 h3' hl hh
     split at h
     ·rename_i hcond
      simp only [Bool.and_eq_true, decide_eq_true_eq] at hcond
      simp only [Option.some.injEq, Prod.mk.injEq] at h
      obtain ⟨rfl, _⟩ := h
      refine cF (X := fun _ => .at (.k (.slice (some ⟨r, if len = l3 then off else off + l3 * size, none⟩) (h3' - l3) (len - l3)))) hg hd (fun _ _ _ _ _ _ => hD trivial) ?_
      intro F H O a w vs hc hcs _ hon
      obtain ⟨e0, e1, e2, e3⟩ := ev hc hcs hon
      have hb : bA len len (lo'.map At.den) (hi'.map At.den) none = some (l3, h3', len) := by
       have b1 := (lW (x := hi') (d := len) (n := h3') (y := len) hh hcond.2).2
       have b2 := (lW (x := lo') (d := 0) (n := l3) (y := h3') hl hcond.1).1
       show ((cC none len len).bind fun m => (dJ (hi'.map At.den) false m len).bind fun h => (cC (lo'.map At.den) h 0).bind fun l => some (l, h, m)) = _
       show ((dJ (hi'.map At.den) false len len).bind fun h => (cC (lo'.map At.den) h 0).bind fun l => some (l, h, len)) = _
       rw [b1]; simp only [Option.bind_some]
       rw [b2]; rfl
      have e0' : a.eval x = .pointer (some ⟨r, off, none⟩) := e0
      simp only [Option.map_none] at e3
      simp only [execOp, hop, e0', e1, e2, e3, Sem.run_bind, DX hu hs hb, Result.andThen_ok, Sem.run_pure, S1.den, At.den]
      split <;> rfl
     ·simp at h
    ·simp at h
   ·simp at h
 ·simp at h
end Go.Sx

/- Every operation's normal form is sound: the whole table. -/
namespace Go.Sx
open Go
variable {P : Program} {ops : Array Oper} {o : Oper} {s : SS} {gl : List (At × Bool)}
theorem BN {sp : Bool} {x : Operand} {y : NF} {fp : FP} (hrun : ∀ a : Act, ∀ w, (execOp a.eval o).run P w = .ok (.value (a.eval x)) w)
  (hg : aW (bZ ops) s o = .go gl) (hd : ∀ d, o.dst = some d → d < s.sz) (h : vt s gl o.dst sp x = some (y, fp)) : Sound P ops o s y := by
 have gen : ∀ {v : S1} {cs : List Ck}, tc s gl x = some (v, cs) → cT gl o.dst v cs = some (y, fp) → Sound P ops o s y := by
  intro v cs hx h
  exact bB hg hd h (fun hs _ => ij hs hx) (fun F H O a w hc hcs hon => by rw [hrun, jc hc hx hcs hon])
 have gen' : ((tc s gl x).bind fun (v, cs) => cT gl o.dst v cs) = some (y, fp) → Sound P ops o s y := by
  intro h
  simp only [Option.bind_eq_some_iff] at h
  obtain ⟨⟨v, cs⟩, hx, h⟩ := h
  exact gen hx h
 unfold vt at h
 split at h
 ·split at h
  ·rename_i hgl
   have : gl = [] := by simpa using hgl
   subst this
   simp only [Option.bind_eq_some_iff] at h
   obtain ⟨⟨a', cs⟩, hx, h⟩ := h
   simp only [] at h
   split at h
   ·exact gen (CP hx) h
   ·simp only [Option.some.injEq, Prod.mk.injEq] at h
    obtain ⟨rfl, _⟩ := h
    refine cF (gl := []) (X := fun vs => .at (.k (g vs 0))) hg hd (fun _ _ _ _ _ _ => DI _) ?_
    rintro F H O a w vs hc hcs ⟨b, hb, rfl⟩ hon
    rw [hrun, bo hc hx hcs hon, hb]; rfl
  ·simp at h
 ·cases x with
  | tmp t =>
   simp only [] at h
   split at h
   ·rename_i l hl
    split at h
    ·rename_i hgl
     have : gl = [] := by simpa using hgl
     subst this
     simp only [Option.some.injEq, Prod.mk.injEq] at h
     obtain ⟨rfl, _⟩ := h
     intro F H O a w d K Q hc hr
     obtain ⟨_, vs, _, hk⟩ := hr
     unfold wp1
     rw [if_pos ((kc hc hg).2 trivial)]
     refine .inl ?_
     unfold Oper.wp
     rw [hrun, Oper.upon_value]
     have ht := hc.tm t
     rw [hl] at ht
     have hok := hc.ok.1 t
     rw [hl] at hok
     exact ⟨_, H, O, hc.put (sv := .tup l) hd ht hok, Heap.le_refl H, hk⟩
    ·simp at h
   ·exact gen' h
  | const v => exact gen' h
  | global n => exact gen' h
  | func f => exact gen' h
theorem He {c a b : Operand} {y : NF} {fp : FP} (hop : o.op = .pick c a b)
  (hg : aW (bZ ops) s o = .go gl) (hd : ∀ d, o.dst = some d → d < s.sz) (h : BD s gl o.dst c a b = some (y, fp)) : Sound P ops o s y := by
 unfold BD at h
 simp only [Option.bind_eq_some_iff] at h
 obtain ⟨⟨c', cs⟩, hc', h⟩ := h
 simp only [] at h
 split at h
 ·simp only [Option.bind_eq_some_iff] at h
  obtain ⟨⟨v, cs'⟩, hv, h⟩ := h
  refine bB hg hd h (fun hs _ => ij hs hv) ?_
  intro F H O a' w hc hcs hon
  rw [AllCk.append] at hcs
  have e1 : a'.eval c = .bool true := bo hc hc' hcs.1 hon
  have e2 := jc hc hv hcs.2 hon
  simp [execOp, hop, e1, asBool, e2]
 ·simp only [Option.bind_eq_some_iff] at h
  obtain ⟨⟨v, cs'⟩, hv, h⟩ := h
  refine bB hg hd h (fun hs _ => ij hs hv) ?_
  intro F H O a' w hc hcs hon
  rw [AllCk.append] at hcs
  have e1 : a'.eval c = .bool false := bo hc hc' hcs.1 hon
  have e2 := jc hc hv hcs.2 hon
  simp [execOp, hop, e1, asBool, e2]
 ·split at h
  ·rename_i a1 ca b1 cb ha hb
   split at h
   ·rename_i hfit
    simp only [Bool.and_eq_true] at hfit
    simp only [Option.some.injEq, Prod.mk.injEq] at h
    obtain ⟨rfl, _⟩ := h
    refine bM hg hd ?_ ?_
    ·intro _
     by_cases hs : s.Ok
     ·exact .inl ⟨At.fit_one hfit.1 (zC hs ha), At.fit_one hfit.2 (zC hs hb), trivial⟩
     ·exact .inr hs
    ·intro F H O a' w v hc hcs hon he
     simp only [AllCk.append] at hcs
     have e1 := bo hc hc' hcs.1.1 hon
     simp only [List.map_cons, List.map_nil] at he
     cases hcd : c'.den <;> simp only [hcd, al] at he <;> try (simp at he; done)
     rename_i bv
     simp only [Option.some.injEq] at he
     cases bv with
     | true =>
      have e2 := bo hc ha hcs.1.2 (gl := (c', true) :: gl) ⟨hcd, hon⟩
      simp only [if_true] at he
      simp [execOp, hop, e1, hcd, asBool, e2, he]
     | false =>
      have e2 := bo hc hb hcs.2 (gl := (c', false) :: gl) ⟨hcd, hon⟩
      simp only [Bool.false_eq_true, if_false] at he
      simp [execOp, hop, e1, hcd, asBool, e2, he]
   ·simp at h
  ·simp at h
theorem FO {T : TypeId} {parts : Array (Nat × Operand)} {y : NF} {fp : FP} (hop : o.op = .build T parts)
  (hg : aW (bZ ops) s o = .go gl) (hd : ∀ d, o.dst = some d → d < s.sz) (h : wW P s gl o.dst T parts.toList = some (y, fp)) : Sound P ops o s y := by
 unfold wW at h
 simp only [Option.bind_eq_some_iff] at h
 obtain ⟨zero, hz, h⟩ := h
 obtain ⟨z, hzr, hzc, hzk, hzo⟩ := of hz
 have hzc' : z.cells = (zero.map At.den).toArray := by rw [← hzc]
 have hparts : ∀ a : Act, (parts.map fun p => (p.1, a.eval p.2)).toList = parts.toList.map fun p => (p.1, a.eval p.2) := fun a => by simp
 split at h
 ·rename_i fs hu
  simp only [Option.bind_eq_some_iff] at h
  obtain ⟨places, hp, ⟨cells, cs⟩, hf, h⟩ := h
  refine bB hg hd h (fun hs _ => lL hs hf hzo) ?_
  intro F H O a w hc hcs hon
  have hfill := yJ hc hon hf hcs
  have hb : P.built T (parts.map fun p => (p.1, a.eval p.2)).toList = some (cells.map At.den).toArray := by
   unfold xg at hz
   cases hi : P.info? T with
   | none => simp [hi] at hz
   | some i =>
    simp only [hi, Option.bind_some, Option.map_eq_some_iff] at hz
    obtain ⟨z0, hz0, hz1⟩ := hz
    have : z0.cells = (zero.map At.den).toArray := by rw [← hz1]; simp [Function.comp_def, At.den]
    unfold Program.built
    simp only [hi, hu, hz0, hp, this, hparts]
    exact hfill
  simp only [execOp, hop, Sem.run_bind, run_build w T _ _ hb, Result.andThen_ok, Sem.run_pure]
  rfl
 ·rename_i n elem hu
  simp only [Option.bind_eq_some_iff] at h
  obtain ⟨size, hs, ⟨cells, cs⟩, hf, h⟩ := h
  refine bB hg hd h (fun hs' _ => lL hs' hf hzo) ?_
  intro F H O a w hc hcs hon
  have hfill := yJ hc hon hf hcs
  simp only [execOp, hop, Instr.build, Sem.run_bind, hzr, Result.andThen_ok, aF hu, bL hs, hparts, hzc', hfill, Sem.run_pure]
  rfl
 ·simp at h
theorem yi {name : Nat} {T : TypeId} {len : Nat} {parts : Array (Nat × Operand)} {y : NF} {fp : FP} (hop : o.op = .buildSlice T len parts)
  (hg : aW (bZ ops) s o = .go gl) (hd : ∀ d, o.dst = some d → d < s.sz) (h : iP P s gl o.dst name T len parts.toList = some (y, fp)) : Sound P ops o s y := by
 unfold iP at h
 split at h
 ·rename_i elem hu
  simp only [Option.bind_eq_some_iff] at h
  obtain ⟨size, hs, zero, hz, h⟩ := h
  split at h
  ·rename_i hcond
   simp only [Bool.and_eq_true, decide_eq_true_eq] at hcond
   obtain ⟨⟨hzl, hs0⟩, hlim⟩ := hcond
   simp only [Option.bind_eq_some_iff] at h
   obtain ⟨⟨cells, cs⟩, hf, h⟩ := h
   obtain ⟨z, hzr, hzc, hzk, hzo⟩ := of hz
   refine pC hg hd h (fun _ => trivial) (fun _ => rfl) (fun hs' => lL hs' hf (fun a ha => hzo a (ki ha))) ?_
   intro F H O a w hc hcs hgl
   subst hgl
   refine ⟨cells.map At.den, CellsRel.map cells, ?_⟩
   have hfill := yJ (gl := []) hc trivial hf hcs
   have hzc' : z.cells = (zero.map At.den).toArray := by rw [← hzc]
   have hparts : (parts.map fun p => (p.1, a.eval p.2)).toList = parts.toList.map fun p => (p.1, a.eval p.2) := by simp
   have hlim' : ¬ (len * size > 2 ^ 24) := by have : (2:Nat) ^ 24 = 16777216 := rfl; omega
   have hrep : ((Array.range (len * size)).map fun i => (zero.map At.den).toArray[i % (zero.map At.den).toArray.size]!) = ((cQ zero len).map At.den).toArray := by
    have := lF (zero.map At.den) (by rw [List.length_map, hzl]; exact hs0) len
    apply Array.ext'
    rw [mY, ← this]
    simp [hzl]
   by_cases h0 : len * size = 0
   ·have hl0 : len = 0 := by
     rcases Nat.mul_eq_zero.1 h0 with h | h
     ·exact h
     ·exact absurd h hs0
    subst hl0
    simp only [cQ, List.map_nil] at hfill
    simp only [execOp, hop, Instr.buildSlice, Sem.run_bind, aF hu, Result.andThen_ok, bL hs, Nat.zero_mul, hparts]
    simp only [Nat.not_lt_zero, gt_iff_lt, if_false, if_true, Sem.run_bind, Sem.run_pure, Result.andThen_ok, show Array.range 0 = #[] from rfl, Array.map_empty, hfill, newRow, run_newObj]
    rfl
   ·simp only [execOp, hop, Instr.buildSlice, Sem.run_bind, aF hu, Result.andThen_ok, bL hs, hlim', if_false, h0, hzr, Sem.run_pure, hzc', hrep, hparts, hfill, newRow, run_newObj]
    rfl
  ·simp at h
 ·simp at h
theorem zL {name : Nat} {t : TypeId} {l c : Operand} {y : NF} {fp : FP} {n m : Nat} {elem : TypeId} (hop : o.op = .makeSlice t l c)
  (hg : aW (bZ ops) s o = .go gl) (hd : ∀ d, o.dst = some d → d < s.sz) (hl : tR l = some n) (hc0 : tR c = some m) (hu : P.underlying t = some (.slice elem))
  (h : ik P s gl o.dst name t l c = some (y, fp)) : Sound P ops o s y := by
 unfold ik at h
 rw [hl, hc0, hu] at h
 simp only [Option.bind_eq_some_iff] at h
 obtain ⟨size, hs, zero, hz, h⟩ := h
 split at h
 ·rename_i hcond
  simp only [Bool.and_eq_true, decide_eq_true_eq] at hcond
  obtain ⟨⟨⟨⟨hzl, hs0⟩, hnm⟩, hlim⟩, hby⟩ := hcond
  obtain ⟨z, hzr, hzc, hzk, hzo⟩ := of hz
  have hk : ∀ {x : Operand} {k : Nat}, tR x = some k → x = .const (.int .i64 k) ∧ k ≤ 65536 := by
   intro x k hx
   unfold tR at hx
   split at hx
   ·split at hx
    ·rename_i v hv
     simp only [Option.some.injEq] at hx
     subst hx
     exact ⟨by congr 2; omega, by omega⟩
    ·simp at hx
   ·simp at hx
  obtain ⟨rfl, hn6⟩ := hk hl
  obtain ⟨rfl, hm6⟩ := hk hc0
  refine pC hg hd h (fun _ => trivial) (fun _ => rfl) (fun _ => fun a ha => hzo a (ki ha)) ?_
  intro F H O a w hc hcs hgl
  subst hgl
  refine ⟨(cQ zero m).map At.den, CellsRel.map _, ?_⟩
  have hzc' : z.cells = (zero.map At.den).toArray := by rw [← hzc]
  have hrep : ((Array.range (m * size)).map fun i => (zero.map At.den).toArray[i % (zero.map At.den).toArray.size]!) = ((cQ zero m).map At.den).toArray := by
   have := lF (zero.map At.den) (by rw [List.length_map, hzl]; exact hs0) m
   apply Array.ext'
   rw [mY, ← this]
   simp [hzl]
  cases hi : P.info? elem with
  | none => rw [hi] at hby; simp at hby
  | some i =>
   rw [hi] at hby
   simp only [Option.map_some, Option.getD_some, decide_eq_true_eq] at hby
   have w1 : IntKind.i64.wrap (n : Int) = n := by simp only [IntKind.wrap, IntKind.bits, IntKind.signed]; simp; omega
   have w2 : IntKind.i64.wrap (m : Int) = m := by simp only [IntKind.wrap, IntKind.bits, IntKind.signed]; simp; omega
   have hby' : ¬ ((i.bytes : Int) * (m : Int) > 2 ^ 48) := by
    have : ((i.bytes * m : Nat) : Int) ≤ ((2 ^ 48 : Nat) : Int) := Int.ofNat_le.2 hby
    have e : ((i.bytes * m : Nat) : Int) = (i.bytes : Int) * (m : Int) := Int.natCast_mul _ _
    have e2 : ((2 ^ 48 : Nat) : Int) = 2 ^ 48 := by rfl
    omega
   have hcnd : ¬ (((decide ((m : Int) < 0) || decide ((i.bytes : Int) * (m : Int) > 2 ^ 48)) || decide ((n : Int) < 0) || decide ((n : Int) > (m : Int))) = true) := by
    simp only [Bool.or_eq_true, decide_eq_true_eq]
    omega
   have hti : (typeInfo elem).run P w = .ok i w := by simp [typeInfo, hi]
   have hA : ∀ k : Nat, (asInt (.int .i64 (k : Int))).run P w = .ok (k : Int) w := fun k => rfl
   have hms : (Instr.makeSlice t (.int .i64 (n : Int)) (.int .i64 (m : Int))).run P w = .ok (.slice (some ⟨w.heap.size, 0, none⟩) n m) { w with heap := w.heap.push (.cells ((cQ zero m).map At.den).toArray elem (0, 0)) } := by
    unfold Instr.makeSlice
    rw [Sem.run_bind, aF hu]
    simp only [Result.andThen_ok]
    rw [Sem.run_bind, hA, Result.andThen_ok, Sem.run_bind, hA, Result.andThen_ok, Sem.run_bind, hti, Result.andThen_ok]
    simp only [w1, w2]
    rw [if_neg hcnd]
    by_cases h0 : m * size = 0
    ·have hm0 : m = 0 := (Nat.mul_eq_zero.1 h0).resolve_right hs0
     subst hm0
     simp only [Sem.run_bind, run_askRoom, bL hs, Result.andThen_ok, Int.toNat_natCast, Nat.zero_mul, if_true, Sem.run_pure, show Array.range 0 = #[] from rfl, Array.map_empty, newRow, run_newObj, cQ, List.map_nil]
    ·simp only [Sem.run_bind, run_askRoom, bL hs, Result.andThen_ok, Int.toNat_natCast, h0, if_false, hzr, Sem.run_pure, hzc', hrep, newRow, run_newObj]
   simp only [execOp, hop, Act.eval, Sem.run_bind, hms, Result.andThen_ok, Sem.run_pure]
   rfl
 ·simp at h
end Go.Sx

/- Every operation's normal form is sound: the rest, and the whole table. -/
namespace Go.Sx
open Go
variable {P : Program} {ops : Array Oper} {o : Oper} {s : SS} {gl : List (At × Bool)}
theorem wG {y : Value} (h : Bg y = true) : ∃ ad, y = .pointer (some ad) := by
 unfold Bg at h; split at h
 ·exact ⟨_, rfl⟩
 ·simp at h
theorem Je {x : Operand} {x' : At} {cs : List Ck} {y : NF} {fp : FP} (hop : o.op = .nilCheck x) (hx : mh s gl x = some (x', cs))
  (hg : aW (bZ ops) s o = .go gl) (hd : ∀ d, o.dst = some d → d < s.sz) (h : Mp gl o.dst x' cs = some (y, fp)) : Sound P ops o s y := by
 have hok := fun hs : s.Ok => zC hs hx
 unfold Mp at h
 split at h
 ·refine bB hg hd h (fun hs _ => hD (hok hs)) ?_
  intro F H O a w hc hcs hon
  have e := bo hc hx hcs hon
  simp only [execOp, hop, e]; rfl
 ·refine bB hg hd h (fun hs _ => hD (hok hs)) ?_
  intro F H O a w hc hcs hon
  have e := bo hc hx hcs hon
  simp only [execOp, hop, e]; rfl
 ·refine bB hg hd h (fun hs _ => hD (hok hs)) ?_
  intro F H O a w hc hcs hon
  have e := bo hc hx hcs.2 hon
  obtain ⟨ad, had⟩ := wG (hcs.1 hon)
  subst had
  simp only [execOp, hop, e]; rfl
 ·refine bB hg hd h (fun hs _ => hD (hok hs)) ?_
  intro F H O a w hc hcs hon
  have e := bo hc hx hcs.2 hon
  obtain ⟨ad, had⟩ := wG (hcs.1 hon)
  subst had
  simp only [execOp, hop, e]; rfl
 ·refine bB hg hd h (fun hs _ => hD (hok hs)) ?_
  intro F H O a w hc hcs hon
  have e := bo hc hx hcs.2 hon
  obtain ⟨ad, had⟩ := wG (hcs.1 hon)
  subst had
  simp only [execOp, hop, e]; rfl
 ·simp at h
theorem I9 {s : SS} {gl : List (At × Bool)} {x y : Operand} {as : List S1} {cs : List Ck} (h : tF s gl [x, y] = some (as, cs)) : ∃ a b, as = [a, b] := by
 simp only [tF] at h
 split at h
 ·rename_i a c as' cs' h1 h2
  simp only [Option.some.injEq, Prod.mk.injEq] at h
  split at h2
  ·rename_i b c2 as2 cs2 h3 h4
   simp only [Option.some.injEq, Prod.mk.injEq] at h2 h4
   exact ⟨a, b, by rw [← h.1, ← h2.1, ← h4.1]⟩
  ·simp at h2
 ·simp at h
theorem Mv {op : BinOp} {t yt : TypeId} {x y : Operand} {X Y v : Value} (hop : o.op = .binOp op t x y yt) {a : Act} (ex : a.eval x = X) (ey : a.eval y = Y)
  (h : ∀ w, ((PrimOp.eqv op t (wH x || wH y)).sem [X, Y]).run P w = .ok (.value v) w) (w : World) : (execOp a.eval o).run P w = .ok (.value v) w := by
 have hw := h w
 simp only [PrimOp.sem] at hw
 simp only [execOp, hop, ex, ey]
 have : (eqGuard op t x y X Y) = (eqGuard op t (if (wH x || wH y) = true then .const undef else .global 0) (.global 0) X Y) := by
  unfold eqGuard
  cases x <;> cases y <;> rfl
 rw [this]; exact hw
theorem JW {op : BinOp} {t yt : TypeId} {x y : Operand} {z : NF} {fp : FP} (hop : o.op = .binOp op t x y yt)
    (hg : aW (bZ ops) s o = .go gl) (hd : ∀ d, o.dst = some d → d < s.sz) (h : fs0 P s gl o.dst op t x y = some (z, fp)) : Sound P ops o s z := by
  unfold fs0 at h
  split at h
  · rename_i bk hbk
    simp only [Option.bind_eq_some_iff] at h
    obtain ⟨⟨as, cs⟩, hx, h⟩ := h
    obtain ⟨x', y', rfl⟩ := zA hx
    simp only [Option.some.injEq, Prod.mk.injEq] at h
    obtain ⟨rfl, _⟩ := h
    refine bM hg hd (by simp) ?_
    intro F H O a w v hc hcs hon he
    obtain ⟨e1, e2⟩ := yK hc hx hcs hon
    simp only [List.map_cons, List.map_nil, al] at he
    simp only [execOp, hop, e1, e2]
    rw [Sem.run_bind, L7 hbk he]; rfl
  · split at h
    all_goals first
      | (simp at h; done)
      | (simp only [Option.bind_eq_some_iff] at h
         obtain ⟨⟨as, cs⟩, hx, h⟩ := h
         obtain ⟨x', y', rfl⟩ := I9 hx
         simp only [Option.some.injEq, Prod.mk.injEq] at h
         obtain ⟨rfl, _⟩ := h
         refine cF (X := fun vs => .at (.v (g vs 0))) hg hd ?_ ?_
         · rintro H O vs _ _ ⟨v, rfl, _, hone⟩; exact hD hone
         · rintro F H O a w vs hc hcs ⟨v, rfl, he, _⟩ hon
           have e := vn hc hx hcs hon
           simp only [List.map_cons, List.map_nil, List.cons.injEq, and_true] at e
           exact Mv hop e.1 e.2 (he hon) w)

theorem Ke {op : UnOp} {t : TypeId} {x : Operand} {x' : At} {cs : List Ck} {z : NF} {fp : FP} (hop : o.op = .unOp op t x) (hx : mh s gl x = some (x', cs))
    (hg : aW (bZ ops) s o = .go gl) (hd : ∀ d, o.dst = some d → d < s.sz) (h : N5 P gl o.dst op t x' cs = some (z, fp)) : Sound P ops o s z := by
  unfold N5 at h
  split at h
  all_goals first
    | (simp at h; done)
    | (simp only [Option.some.injEq, Prod.mk.injEq] at h
       obtain ⟨rfl, _⟩ := h
       refine bM hg hd (by simp) ?_
       intro F H O a w v hc hcs hon he
       have e := bo hc hx hcs hon
       simp only [List.map_cons, List.map_nil] at he
       simp only [execOp, hop, e]
       cases hv : x'.den <;> simp only [hv, al, reduceCtorEq, ej, Option.some.injEq] at he
       subst he
       rfl)

theorem HF {ta tb : TypeId} {x : Operand} {x' : At} {cs : List Ck} {z : NF} {fp : FP} (hop : o.op = .convert ta tb x) (hx : mh s gl x = some (x', cs))
  (hg : aW (bZ ops) s o = .go gl) (hd : ∀ d, o.dst = some d → d < s.sz) (h : Ch P s gl o.dst ta tb x' cs = some (z, fp)) : Sound P ops o s z := by
 unfold Ch at h
 split at h
 ·rename_i k0 k hu1 hu2
  simp only [Option.some.injEq, Prod.mk.injEq] at h
  obtain ⟨rfl, _⟩ := h
  refine bM hg hd (by simp) ?_
  intro F H O a w v hc hcs hon he
  have e := bo hc hx hcs hon
  simp only [List.map_cons, List.map_nil] at he
  cases hv : x'.den <;> simp only [hv, al, reduceCtorEq, Option.some.injEq] at he
  subst he
  simp only [execOp, hop, e, hv, convert, Sem.run_bind, aF hu1, aF hu2, Result.andThen_ok, Conv.intToInt, Sem.run_pure]
 ·split at h
  ·rename_i hgl
   have : gl = [] := by simpa using hgl
   subst this
   refine fT rfl hg hd h ?_
   intro F H O a w hc hcs H1 O1 R hT F1 hm next Q hn
   have e := bo hc hx hcs trivial
   exact yS hT hm (by simp only [execOp, hop, e, PrimOp.sem]) hn
  ·simp at h
theorem Ft {t : TypeId} {x : Operand} {z : NF} {fp : FP} (hop : o.op = .makeInterface t x)
  (hg : aW (bZ ops) s o = .go gl) (hd : ∀ d, o.dst = some d → d < s.sz) (h : wI P s gl o.dst t x = some (z, fp)) : Sound P ops o s z := by
 unfold wI at h
 split at h
 ·simp at h
 ·simp at h
 ·rename_i d hni hu
  simp only [Option.bind_eq_some_iff] at h
  obtain ⟨⟨v, cs⟩, hx, h⟩ := h
  simp only [] at h
  split at h
  ·refine bB hg hd h (fun _ _ => hD rfl) ?_
   intro F H O a w hc hcs hon
   have e := jc hc hx hcs hon
   simp only [execOp, hop, e, Instr.makeInterface, Sem.run_bind, aF hu, Result.andThen_ok]
   cases d <;> first | rfl | exact absurd hu (hni _)
  ·simp at h
theorem EQ : ∀ {as : List At} {l : List Cp}, xE as = some l → l.map Cp.den = as.map At.den
 | [], l, h => by simp only [xE, Option.some.injEq] at h; subst h; rfl
 | a :: r, l, h => by
  cases a <;> simp only [xE, Option.map_eq_some_iff, reduceCtorEq] at h
  all_goals
   obtain ⟨l', hl, rfl⟩ := h
   simp only [List.map_cons, EQ hl]
   rfl
theorem Hw {f : FuncId} {first caps : Array Operand} {as : List At} {cs : List Ck} {l : List Cp} {z : NF} {fp : FP} (hop : o.op = .makeFunc (.func f) first caps) (hf : first.isEmpty = true)
  (hx : eF s gl caps.toList = some (as, cs)) (hl : xE as = some l)
  (hg : aW (bZ ops) s o = .go gl) (hd : ∀ d, o.dst = some d → d < s.sz) (h : cT gl o.dst (.at (.clo f l)) cs = some (z, fp)) : Sound P ops o s z := by
 refine bB hg hd h (fun _ _ => hD trivial) ?_
 intro F H O a w hc hcs hon
 have e := eX hc hx hcs hon
 have : first = #[] := by simpa using hf
 subst this
 have hcaps : caps.map a.eval = (l.map Cp.den).toArray := by
  rw [EQ hl, ← e]; apply Array.ext'; simp
 simp only [execOp, hop, Instr.makeFunc, hcaps, Sem.run_bind, Sem.run_pure, Result.andThen_ok, Array.map_empty]
 rfl
theorem Fr {t : TypeId} {x i : Operand} {x' : S1} {i' : At} {cx ci : List Ck} {z : NF} {fp : FP} (hop : o.op = .index t x i) (hx : tc s gl x = some (x', cx)) (hi : mh s gl i = some (i', ci))
  (hg : aW (bZ ops) s o = .go gl) (hd : ∀ d, o.dst = some d → d < s.sz) (h : Fs P gl o.dst t x' i' (cx ++ ci) = some (z, fp)) : Sound P ops o s z := by
 have ev : ∀ {F H O a w}, Conc F s H O a w → AllCk (cx ++ ci) → On (nj gl) → a.eval x = x'.den ∧ a.eval i = i'.den := by
  intro F H O a w hc hcs hon
  rw [AllCk.append] at hcs
  exact ⟨jc hc hx hcs.1 hon, bo hc hi hcs.2 hon⟩
 unfold Fs at h
 split at h
 ·rename_i len elem cells hu
  simp only [Option.bind_eq_some_iff] at h
  obtain ⟨size, hs, h⟩ := h
  split at h
  ·rename_i n hn
   split at h
   ·rename_i hlt
    simp only [Option.bind_eq_some_iff] at h
    obtain ⟨v, hv, h⟩ := h
    refine bB hg hd h (fun hs' _ a ha => ij hs' hx a (BE hv a ha)) ?_
    intro F H O a w hc hcs hon
    obtain ⟨e1, e2⟩ := ev hc hcs hon
    obtain ⟨k, hk⟩ := lN hn
    obtain ⟨m, hm⟩ := zx hv
    have hb : (0 : Int) ≤ n ∧ (n : Int) < len := by omega
    have e1' : a.eval x = .agg (cells.map At.den).toArray := e1
    simp only [execOp, hop, e1', e2, hk, Instr.index, asIntOf, Sem.run_bind, Sem.run_pure, Result.andThen_ok, aF hu, if_pos hb, bL hs, Int.toNat_natCast, F6 hv w hm]
   ·simp at h
  ·split at h
   ·rename_i hcond
    simp only [Bool.and_eq_true, decide_eq_true_eq, Bool.not_eq_true'] at hcond
    obtain ⟨⟨⟨⟨h1, hA⟩, hl⟩, hfit⟩, _⟩ := hcond
    subst h1
    simp only [Option.some.injEq, Prod.mk.injEq] at h
    obtain ⟨rfl, _⟩ := h
    refine bM hg hd ?_ ?_
    ·intro _
     by_cases hs' : s.Ok
     ·exact .inl (Gl (by simpa using hfit) (ij hs' hx))
     ·exact .inr hs'
    ·intro F H O a w v hc hcs hon he
     obtain ⟨e1, e2⟩ := ev hc hcs hon
     simp only [List.map_cons, al] at he
     have e1' : a.eval x = .agg (cells.map At.den).toArray := e1
     have hrun := F7 hu hs hA (by simpa using hl) he w
     simp only [execOp, hop, e1', e2, Sem.run_bind, hrun, Result.andThen_ok, Sem.run_pure]
   ·split at h
    ·rename_i hcond
     simp only [Bool.and_eq_true, decide_eq_true_eq, Bool.not_eq_true', List.isEmpty_iff] at hcond
     obtain ⟨⟨⟨⟨⟨hgl, h1⟩, hA⟩, hl⟩, hkn⟩, _⟩ := hcond
     subst hgl
     subst h1
     simp only [Option.some.injEq, Prod.mk.injEq] at h
     obtain ⟨rfl, _⟩ := h
     have hmem : ∀ n : Nat, n < cells.length → cells.getD n .any ∈ cells := fun n hn => by simp [List.getD, hn]
     refine cF (gl := []) (X := fun vs => .at (cells.getD (match g vs 0 with | .int _ n => n.toNat | _ => 0) .any)) hg hd ?_ ?_
     ·rintro H O vs hs' _ ⟨kd, j, hj, h0, h2, rfl⟩
      refine hD (ij hs' hx _ ?_)
      show cells.getD j.toNat .any ∈ cells
      exact hmem _ (by omega)
     ·rintro F H O a w vs hc hcs ⟨kd, j, hj, h0, h2, rfl⟩ hon
      obtain ⟨e1, e2⟩ := ev hc hcs hon
      have e1' : a.eval x = .agg (cells.map At.den).toArray := e1
      have he : al .aidx (i'.den :: cells.map At.den) = some ((cells.getD j.toNat .any).den) := by
       rw [hj]
       simp only [al, tn, List.length_map]
       rw [if_pos ⟨h0, by omega⟩, List.getElem?_map]
       have : j.toNat < cells.length := by omega
       simp [List.getD, this]
      have hrun := F7 hu hs hA (by simpa using hl) he w
      simp only [execOp, hop, e1', e2, Sem.run_bind, hrun, Result.andThen_ok, Sem.run_pure]
      rfl
    ·simp at h
 ·rename_i x1 hu
  simp only [Option.some.injEq, Prod.mk.injEq] at h
  obtain ⟨rfl, _⟩ := h
  refine bM hg hd (by simp) ?_
  intro F H O a w v hc hcs hon he
  obtain ⟨e1, e2⟩ := ev hc hcs hon
  simp only [List.map_cons, List.map_nil, al] at he
  have e1' : a.eval x = x1.den := e1
  simp only [execOp, hop, e1', e2, Sem.run_bind, Kr hu he w, Result.andThen_ok, Sem.run_pure]
 ·simp at h
theorem Dk {x : Operand} {i : Nat} {z : NF} {fp : FP} (hop : o.op = .extract x i)
  (hg : aW (bZ ops) s o = .go gl) (hd : ∀ d, o.dst = some d → d < s.sz) (h : jk s gl o.dst x i = some (z, fp)) : Sound P ops o s z := by
 cases x with
 | tmp t =>
  simp only [jk] at h
  split at h
  ·rename_i l hl
   simp only [Option.bind_eq_some_iff] at h
   obtain ⟨v, hv, h⟩ := h
   split at h
   ·refine bB hg hd h (fun hs _ => ?_) ?_
    ·have := hs.1 t; rw [hl] at this; exact this v (List.mem_of_getElem? hv)
    ·intro F H O a w hc hcs hon
     have ht := hc.tm t
     rw [hl] at ht
     have e : a.eval (.tmp t) = .tuple (l.map S1.den).toArray := ht
     have hget : ((l.map S1.den).toArray)[i]? = some v.den := by simp [hv]
     simp only [execOp, hop, e, Instr.extract, hget, Sem.run_bind, Sem.run_pure, Result.andThen_ok]
   ·simp at h
  ·simp at h
 | const v => simp [jk] at h
 | global n => simp [jk] at h
 | func f => simp [jk] at h
theorem oC {α : Type} {l : List α} {x : α} (h : Ml l = some x) : l = [x] := by
 unfold Ml at h; split at h
 ·simp only [Option.some.injEq] at h; rw [h]
 ·simp at h
theorem uS {α : Type} {l : List α} {x : α × α} (h : Ng l = some x) : l = [x.1, x.2] := by
 unfold Ng at h; split at h
 ·simp only [Option.some.injEq] at h; rw [← h]
 ·simp at h
theorem iO {c : Call} {b : Builtin} {a : Act} (hop : o.op = .call c) (hcal : c.callee = .builtin b) (hb : b ≠ .print) (hb' : b ≠ .println) (w : World) :
  (execOp a.eval o).run P w = (builtin b c.argTypes o.type #[] (c.args.map a.eval)).run P w := by
 simp only [execOp, hop, resolve, hcal, Sem.run_bind, Sem.run_pure, Result.andThen_ok, invoke]
 cases b <;> first | rfl | exact absurd rfl hb | exact absurd rfl hb'
theorem Dw {c : Call} {b : Builtin} {z : NF} {fp : FP} (hop : o.op = .call c) (hcal : c.callee = .builtin b)
    (hg : aW (bZ ops) s o = .go gl) (hd : ∀ d, o.dst = some d → d < s.sz) (h : oL P s gl o.dst o.type b c.argTypes c.args.toList = some (z, fp)) : Sound P ops o s z := by
  unfold oL at h
  split at h
  · -- len
    simp only [Option.bind_eq_some_iff] at h
    obtain ⟨t, ht, x, hx, ⟨x', cs⟩, hx', h⟩ := h
    have ht' : c.argTypes = #[t] := by apply Array.ext'; simpa using oC ht
    have hargs : c.args = #[x] := by apply Array.ext'; simpa using oC hx
    have ex : ∀ {F H O a w}, Conc F s H O a w → AllCk cs → On (nj gl) → (execOp a.eval o).run P w = (Functor.map (fun v => Next.value v) (Builtin.len_ #[t] o.type #[x'.den])).run P w := by
      intro F H O a w hc hcs hon
      rw [iO hop hcal (by simp) (by simp), ht', hargs]
      have e := bo hc hx' hcs hon
      simp only [builtin, List.map_toArray, List.map_cons, List.map_nil, e]
      rfl
    unfold Jo at h
    split at h
    · rename_i e hu
      split at h
      · rename_i n r off m cp hxe
        simp only [] at hxe
        subst hxe
        refine bB hg hd h (fun _ _ => DI _) ?_
        intro F H O a w hc hcs hon
        rw [ex hc hcs hon, Sem.run_map, IF hu (x := (At.sl n r off m cp).den) (v := goInt m) rfl]; rfl
      · simp only [Option.some.injEq, Prod.mk.injEq] at h
        obtain ⟨rfl, _⟩ := h
        refine bM hg hd (by simp) ?_
        intro F H O a w v hc hcs hon he
        rw [ex hc hcs hon, Sem.run_map, IF hu he]; rfl
    · rename_i hu
      simp only [Option.some.injEq, Prod.mk.injEq] at h
      obtain ⟨rfl, _⟩ := h
      refine bM hg hd (by simp) ?_
      intro F H O a w v hc hcs hon he
      rw [ex hc hcs hon, Sem.run_map, Kq hu he]; rfl
    · rename_i n e hu
      refine bB hg hd h (fun _ _ => DI _) ?_
      intro F H O a w hc hcs hon
      rw [ex hc hcs hon, Sem.run_map, Ks hu]; rfl
    · rename_i k e hu
      split at h
      · rename_i hgl
        have : gl = [] := by simpa using hgl
        subst this
        refine fT rfl hg hd h ?_
        intro F H O a w hc hcs H1 O1 R hT F1 hm next Q hn
        exact yS hT hm (by rw [ex hc hcs trivial]; rfl) hn
      · simp at h
    · simp at h
  · -- cap
    simp only [Option.bind_eq_some_iff] at h
    obtain ⟨t, ht, x, hx, ⟨x', cs⟩, hx', h⟩ := h
    have ht' : c.argTypes = #[t] := by apply Array.ext'; simpa using oC ht
    have hargs : c.args = #[x] := by apply Array.ext'; simpa using oC hx
    have ex : ∀ {F H O a w}, Conc F s H O a w → AllCk cs → On (nj gl) → (execOp a.eval o).run P w = (Functor.map (fun v => Next.value v) (Builtin.cap_ #[t] o.type #[x'.den])).run P w := by
      intro F H O a w hc hcs hon
      rw [iO hop hcal (by simp) (by simp), ht', hargs]
      have e := bo hc hx' hcs hon
      simp only [builtin, List.map_toArray, List.map_cons, List.map_nil, e]
      rfl
    unfold NI at h
    split at h
    · rename_i e hu
      split at h
      · rename_i n r off m cp hxe
        simp only [] at hxe
        subst hxe
        refine bB hg hd h (fun _ _ => DI _) ?_
        intro F H O a w hc hcs hon
        rw [ex hc hcs hon, Sem.run_map, IH hu (x := (At.sl n r off m cp).den) (v := goInt cp) rfl]; rfl
      · simp only [Option.some.injEq, Prod.mk.injEq] at h
        obtain ⟨rfl, _⟩ := h
        refine bM hg hd (by simp) ?_
        intro F H O a w v hc hcs hon he
        rw [ex hc hcs hon, Sem.run_map, IH hu he]; rfl
    · simp at h
  · -- min
    simp only [Option.bind_eq_some_iff] at h
    obtain ⟨⟨x, y⟩, hxy, ⟨as, cs⟩, hx, h⟩ := h
    have hargs : c.args = #[x, y] := by apply Array.ext'; simpa using uS hxy
    obtain ⟨x', y', rfl⟩ := zA hx
    simp only [Option.some.injEq, Prod.mk.injEq] at h
    obtain ⟨rfl, _⟩ := h
    refine bM hg hd (by simp) ?_
    intro F H O a w v hc hcs hon he
    obtain ⟨e1, e2⟩ := yK hc hx hcs hon
    rw [iO hop hcal (by simp) (by simp), hargs]
    simp only [List.map_cons, List.map_nil] at he
    simp only [builtin, List.map_toArray, List.map_cons, List.map_nil, e1, e2]
    cases hv1 : x'.den <;> cases hv2 : y'.den <;> simp only [hv1, hv2, al, reduceCtorEq, Option.some.injEq] at he
    subst he
    rw [Sem.run_bind, run_min_int2]; rfl
  · -- max
    simp only [Option.bind_eq_some_iff] at h
    obtain ⟨⟨x, y⟩, hxy, ⟨as, cs⟩, hx, h⟩ := h
    have hargs : c.args = #[x, y] := by apply Array.ext'; simpa using uS hxy
    obtain ⟨x', y', rfl⟩ := zA hx
    simp only [Option.some.injEq, Prod.mk.injEq] at h
    obtain ⟨rfl, _⟩ := h
    refine bM hg hd (by simp) ?_
    intro F H O a w v hc hcs hon he
    obtain ⟨e1, e2⟩ := yK hc hx hcs hon
    rw [iO hop hcal (by simp) (by simp), hargs]
    simp only [List.map_cons, List.map_nil] at he
    simp only [builtin, List.map_toArray, List.map_cons, List.map_nil, e1, e2]
    cases hv1 : x'.den <;> cases hv2 : y'.den <;> simp only [hv1, hv2, al, reduceCtorEq, Option.some.injEq] at he
    subst he
    rw [Sem.run_bind, run_max_int2]; rfl
  all_goals first
    | (simp at h; done)
    | (split at h
       · rename_i hgl
         have : gl = [] := by simpa using hgl
         subst this
         simp only [Option.bind_eq_some_iff] at h
         obtain ⟨⟨as, cs⟩, hx, h⟩ := h
         refine fT rfl hg hd h ?_
         intro F H O a w hc hcs H1 O1 R hT F1 hm next Q hn
         refine yS hT hm ?_ hn
         rw [iO hop hcal (by simp) (by simp)]
         have e := eX hc hx hcs trivial
         have : c.args.map a.eval = (as.map At.den).toArray := by rw [← e]; apply Array.ext'; simp
         rw [this]; rfl
       · simp at h)

theorem iK {shp : Shp} {op : PrimOp} {xs : List Operand} {z : NF} {fp : FP}
  (hg : aW (bZ ops) s o = .go gl) (hd : ∀ d, o.dst = some d → d < s.sz) (h : mf s gl o.dst shp op xs = some (z, fp))
  (hex : ∀ (a : Act) (vs : List Value) (w : World), xs.map a.eval = vs → (execOp a.eval o).run P w = (op.sem vs).run P w) : Sound P ops o s z := by
 unfold mf at h
 split at h
 ·rename_i hgl
  have : gl = [] := by simpa using hgl
  subst this
  simp only [Option.bind_eq_some_iff] at h
  obtain ⟨⟨as, cs⟩, hx, h⟩ := h
  refine fT rfl hg hd h ?_
  intro F H O a w hc hcs H1 O1 R hT F1 hm next Q hn
  exact yS hT hm (hex a _ w (eX hc hx hcs trivial)) hn
 ·simp at h
theorem se {t : TypeId} {m k x : Operand} {z : NF} {fp : FP} (hdst : o.dst = none) (hop : o.op = .mapUpdate t m k x ∨ o.op = .insert t m k x)
  (hg : aW (bZ ops) s o = .go gl) (hd : ∀ d, o.dst = some d → d < s.sz) (h : mf s gl o.dst .one (.mapUpdate t) [m, k, x] = some (z, fp)) : Sound P ops o s z := by
 unfold mf at h
 split at h
 ·rename_i hgl
  have : gl = [] := by simpa using hgl
  subst this
  simp only [Option.bind_eq_some_iff] at h
  obtain ⟨⟨as, cs⟩, hx, h⟩ := h
  refine fT rfl hg hd h ?_
  intro F H O a w hc hcs H1 O1 R hT F1 hm next Q hn
  have e := eX hc hx hcs trivial
  obtain ⟨v, w', H', O', hr, hR, hle, hm'⟩ := hT w F1 hm
  have hn' := hn v w' H' O' hR hle hm'
  rw [hdst] at hn'
  unfold Oper.wp
  have hs : (PrimOp.mapUpdate t).sem (as.map At.den) = (do Instr.mapUpdate t (a.eval m) (a.eval k) (a.eval x); pure (.value (.bool false)) : Sem Next) := by
   rw [← e]; rfl
  rw [hs, Sem.run_bind] at hr
  have hex : (execOp a.eval o).run P w = ((Instr.mapUpdate t (a.eval m) (a.eval k) (a.eval x)).run P w).andThen fun _ w' => .ok .skip w' := by
   rcases hop with hop | hop
   ·simp only [execOp, hop, Sem.run_bind, Sem.run_pure]
   ·simp only [execOp, hop, Sem.run_bind, Sem.run_pure]
  rw [hex]
  cases hmu : (Instr.mapUpdate t (a.eval m) (a.eval k) (a.eval x)).run P w with
  | ok u w1 =>
   rw [hmu] at hr
   simp only [Result.andThen_ok, Sem.run_pure, Result.ok.injEq] at hr
   obtain ⟨_, rfl⟩ := hr
   rw [Result.andThen_ok, Oper.upon_skip, hdst]
   exact hn'
  | halt u w1 => rw [hmu] at hr; simp at hr
 ·simp at h
theorem xn (vs : List Value) : ∀ (l : List At) (i : Nat), AllCk (CL vs l i) → ∀ j a, l[j]? = some a → g vs (i + j) = a.den
 | [], _, _, j, a, h => by simp at h
 | b :: r, i, hc, 0, a, h => by simp at h; subst h; exact hc.1
 | b :: r, i, hc, j + 1, a, h => by
  have := xn vs r (i + 1) hc.2 j a (by simpa using h)
  rwa [show i + 1 + j = i + (j + 1) by omega] at this
theorem zi {x : At} : ∀ {offs : List Nat} {l : List At}, zj x offs = some l → l.all (fun a => match a with | .p .. => true | _ => false) = true
 | [], l, h => by simp only [zj, Option.some.injEq] at h; subst h; rfl
 | o :: r, l, h => by
  simp only [zj] at h
  split at h
  ·rename_i hl
   simp only [Option.some.injEq] at h; subst h
   simp [zi hl]
  ·simp at h
theorem HL {okf : FuncId → Bool} {rules : FuncId → Option (List Nat)} {c : Call} {f : Operand} {f' : At} {as : List S1} {cf ca : List Ck} {z : NF} {fp : FP} (hokf : ∀ f, okf f = true → tt P f)
  (hop : o.op = .call c) (hcal : c.callee = .value f) (hf : mh s [] f = some (f', cf)) (ha : tF s [] c.args.toList = some (as, ca))
  (hg : aW (bZ ops) s o = .go []) (hd : ∀ d, o.dst = some d → d < s.sz) (h : Cj P okf rules s o.dst o.type f' as (cf ++ ca) = some (z, fp)) : Sound P ops o s z := by
 have ev : ∀ {F H O a w}, Conc F s H O a w → AllCk (cf ++ ca) → a.eval f = f'.den ∧ c.args.map a.eval = (as.map S1.den).toArray := by
  intro F H O a w hc hcs
  rw [AllCk.append] at hcs
  have e := vn hc ha hcs.2 trivial
  exact ⟨bo hc hf hcs.1 trivial, by rw [← e]; apply Array.ext'; simp⟩
 unfold Cj at h
 simp only [Option.bind_eq_some_iff] at h
 obtain ⟨shp, hshp, h⟩ := h
 have hv : ∀ {x : Value} {atoms : List At} {z : NF} {fp : FP}, f'.den = x → eG s o.dst shp (.callv x (as.map S1.den)) atoms (cf ++ ca) = some (z, fp) → Sound P ops o s z := by
  intro x atoms z fp hx h
  refine fT rfl hg hd h ?_
  rintro F H O a w hc hcs H1 O1 R ⟨n, caps, hfv, hokn, hT⟩ F1 hm next Q hn
  obtain ⟨e1, e2⟩ := ev hc hcs
  have e1' : a.eval f = .func (.func n) #[] caps := by rw [e1, hx, hfv]
  refine Cq hT hm ?_ hn
  rw [yP hop hcal e1' hokn w, e2]
  congr 2
  apply Array.ext'; simp
 split at h
 ·rename_i n caps
  split at h
  ·split at h
   ·rename_i hce
    have hcaps : caps = [] := by simpa using hce
    subst hcaps
    refine fT rfl hg hd h ?_
    intro F H O a w hc hcs H1 O1 R hT F1 hm next Q hn
    obtain ⟨e1, e2⟩ := ev hc hcs
    have e1' : a.eval f = .func (.func n) #[] #[] := e1
    refine yS hT hm ?_ hn
    simp only [execOp, hop, resolve, hcal, e1', Deferred.ofValue, Sem.run_bind, Sem.run_pure, Result.andThen_ok, invoke, Array.empty_append, Array.append_empty, PrimOp.sem, e2]
   ·simp at h
  ·rename_i hok
   have hokn : tt P n := hokf n (by simpa using hok)
   have hh : ∀ {atoms : List At} {z : NF} {fp : FP}, eG s o.dst shp (.call n (as.map S1.den ++ caps.map Cp.den)) atoms (cf ++ ca) = some (z, fp) → Sound P ops o s z := by
    intro atoms z fp h
    refine fT rfl hg hd h ?_
    intro F H O a w hc hcs H1 O1 R hT F1 hm next Q hn
    obtain ⟨e1, e2⟩ := ev hc hcs
    refine Cq hT hm ?_ hn
    rw [yP hop hcal e1 hokn w, e2]
    congr 2
    apply Array.ext'; simp
   split at h
   ·rename_i offs x hce hru hone
    have hcaps : caps = [] := by simpa using hce
    subst hcaps
    have has := oC hone
    subst has
    simp only [Option.bind_eq_some_iff] at h
    obtain ⟨l, hl, h⟩ := h
    split at h
    ·rename_i hagg
     simp only [Option.some.injEq, Prod.mk.injEq] at h
     obtain ⟨rfl, _⟩ := h
     have hshape : shp = .agg l.length := by
      cases shp <;> simp [Shp.isAgg] at hagg
      rw [hagg]
     subst hshape
     refine F4 (hk := .call n [x.den]) (frz := []) (own := []) (shp := .agg l.length) (post := fun vs => CL vs l 0) (cs := cf ++ ca) (sv := fun _ => .s (.agg l)) hg hd (by simp) (by simp) (by simp) ?_ ?_
     ·intro v vs _ hopn hones hpost
      have hallp := zi hl
      refine ⟨?_, ?_⟩
      ·show v = .agg (l.map At.den).toArray
       cases v with
       | agg cells =>
        simp only [Shp.open] at hopn
        split at hopn
        ·rename_i hsz
         simp only [Option.some.injEq] at hopn; subst hopn
         congr 1
         apply Array.ext'
         apply List.ext_getElem?
         intro j
         simp only [List.toList_toArray, List.getElem?_map]
         by_cases hj : j < l.length
         ·have hp := xn cells.toList l 0 hpost j l[j] (by simp [hj])
          simp only [Nat.zero_add, g] at hp
          rw [List.getElem?_eq_getElem (by simp; omega), List.getElem?_eq_getElem hj]
          simp only [Option.map_some]
          rw [← hp]
          have hjc : j < cells.size := by omega
          simp [List.getD, hjc]
         ·rw [List.getElem?_eq_none (by simp; omega), List.getElem?_eq_none (by omega)]; rfl
        ·simp at hopn
       | _ => simp [Shp.open] at hopn
      ·intro a ha'
       rw [List.all_eq_true] at hallp
       have := hallp a ha'
       cases a <;> simp at this
       trivial
     ·intro F H O a w hc hcs H1 O1 R hT F1 hm next Q hn
      obtain ⟨e1, e2⟩ := ev hc hcs
      refine Cq hT hm ?_ hn
      rw [yP hop hcal e1 hokn w, e2]
      rfl
    ·simp at h
   ·exact hh h
 ·exact hv rfl h
 ·exact hv rfl h
 ·simp at h
theorem Hm {okf : FuncId → Bool} {rules : FuncId → Option (List Nat)} {sp : Bool} {name : Nat} {y : NF} {fp : FP} (hokf : ∀ f, okf f = true → tt P f)
  (hg : aW (bZ ops) s o = .go gl) (hd : ∀ d, o.dst = some d → d < s.sz) (h : J7 P okf rules sp name o gl s = some (y, fp)) : Sound P ops o s y := by
 unfold J7 at h
 split at h
 ·rename_i x hop; exact BN (fun a w => by simp [execOp, hop]) hg hd h
 ·rename_i x hop; exact BN (fun a w => by simp [execOp, hop]) hg hd h
 ·rename_i c a b hop; exact He hop hg hd h
 ·rename_i T hop
  simp only [Option.bind_eq_some_iff] at h
  obtain ⟨cells, hz, h⟩ := h
  obtain ⟨z, hzr, hzc, hzk, hzo⟩ := of hz
  refine pC hg hd h (fun _ => trivial) (fun _ => rfl) (fun _ => hzo) ?_
  intro F H O a w hc hcs hgl
  refine ⟨cells.map At.den, CellsRel.map cells, ?_⟩
  have hzc' : z.cells = (cells.map At.den).toArray := by rw [← hzc]
  simp only [execOp, hop, Instr.alloc, Sem.run_bind, hzr, Result.andThen_ok, newVar, newRow, hzc', run_newObj, Sem.run_pure]
  rfl
 ·rename_i T x hop
  simp only [Option.bind_eq_some_iff] at h
  obtain ⟨⟨v, cs⟩, hx, h⟩ := h
  simp only [] at h
  split at h
  ·rename_i hfit
   refine pC hg hd h (fun _ => trivial) (fun _ => rfl) (fun hs => ij hs hx) ?_
   intro F H O a w hc hcs hgl
   subst hgl
   refine ⟨v.cells.map At.den, CellsRel.map v.cells, ?_⟩
   have e := jc hc hx hcs trivial
   simp only [execOp, hop, e, Instr.box, Sem.run_bind, Result.andThen_ok, newVar, newRow, Am hfit (ij hc.ok hx), run_newObj, Sem.run_pure]
   rfl
  ·simp at h
 ·rename_i T parts hop; exact FO hop hg hd h
 ·rename_i T len parts hop; exact yi hop hg hd h
 ·rename_i t x hop
  simp only [Option.bind_eq_some_iff] at h
  obtain ⟨⟨x', cs⟩, hx, h⟩ := h
  exact Eu hop hx hg hd h
 ·rename_i t x y' hop
  split at h
  ·rename_i hcond
   simp only [Bool.and_eq_true, List.isEmpty_iff, Option.isNone_iff_eq_none] at hcond
   obtain ⟨rfl, hdst⟩ := hcond
   simp only [Option.bind_eq_some_iff] at h
   obtain ⟨⟨x', cs⟩, hx, ⟨y1, cs'⟩, hy, h⟩ := h
   exact Cw hop hdst hx hy hg h
  ·simp at h
 ·rename_i x hop
  simp only [Option.bind_eq_some_iff] at h
  obtain ⟨⟨x', cs⟩, hx, h⟩ := h
  exact Je hop hx hg hd h
 ·rename_i op t x y' yt hop; exact JW hop hg hd h
 ·rename_i op t x hop
  simp only [Option.bind_eq_some_iff] at h
  obtain ⟨⟨x', cs⟩, hx, h⟩ := h
  exact Ke hop hx hg hd h
 ·rename_i a b x hop
  simp only [Option.bind_eq_some_iff] at h
  obtain ⟨⟨x', cs⟩, hx, h⟩ := h
  exact HF hop hx hg hd h
 ·rename_i t x hop; exact Ft hop hg hd h
 ·rename_i f first caps hop
  split at h
  ·rename_i hf
   simp only [Option.bind_eq_some_iff] at h
   obtain ⟨⟨as, cs⟩, hx, l, hl, h⟩ := h
   exact Hw hop hf hx hl hg hd h
  ·simp at h
 ·rename_i t x f hop
  simp only [Option.bind_eq_some_iff] at h
  obtain ⟨fd, hfd, m, hm, h⟩ := h
  split at h
  ·simp at h
  ·rename_i hm0
   simp only [Option.bind_eq_some_iff] at h
   obtain ⟨⟨x', cs⟩, hx, ⟨a', c⟩, hmv, h⟩ := h
   obtain ⟨h1, h2⟩ := zJ hmv
   refine bB hg hd h (fun hs hcs => hD (h1 (AllCk.append.1 hcs).1 (zC hs hx))) ?_
   intro F H O a w hc hcs hon
   rw [AllCk.append] at hcs
   have e := bo hc hx hcs.2 hon
   obtain ⟨ad, hxd, had⟩ := h2 hcs.1 hon
   simp only [execOp, hop, e, hxd, Sem.run_bind, E8 hfd hm hm0, Result.andThen_ok, Sem.run_pure, S1.den, had]
 ·rename_i t x f hop
  simp only [Option.bind_eq_some_iff] at h
  obtain ⟨fd, hfd, ⟨x', cs⟩, hx, v, hv, h⟩ := h
  split at h
  ·rename_i hagg
   obtain ⟨m, hm⟩ := zx hv
   refine bB hg hd h (fun hs _ a ha => ij hs hx a (BE hv a ha)) ?_
   intro F H O a w hc hcs hon
   have e := jc hc hx hcs hon
   obtain ⟨fs, hu, hfs⟩ := xy hfd
   rcases x' with a' | l
   ·simp [S1.isAgg] at hagg
   ·have e' : a.eval x = .agg (l.map At.den).toArray := e
    have hp := F6 hv w hm
    simp only [execOp, hop, e', Instr.field, Sem.run_bind, aF hu, Result.andThen_ok, hfs, asAgg, Sem.run_pure]
    simp only [S1.cells] at hp
    rw [hp]; rfl
  ·simp at h
 ·rename_i t x i hop
  simp only [Option.bind_eq_some_iff] at h
  obtain ⟨⟨as, cs⟩, hx, ⟨x', i'⟩, h2, h⟩ := h
  have := uS h2
  subst this
  exact zV hop hx hg hd h
 ·rename_i t x i hop
  simp only [Option.bind_eq_some_iff] at h
  obtain ⟨⟨x', cs⟩, hx, ⟨i', cs'⟩, hi, h⟩ := h
  exact Fr hop hx hi hg hd h
 ·rename_i t x lo hi mx hop
  simp only [Option.bind_eq_some_iff] at h
  obtain ⟨⟨x', c0⟩, h0, ⟨l, c1⟩, h1, ⟨h', c2⟩, h2, ⟨m, c3⟩, h3, h⟩ := h
  exact E5 hop h0 h1 h2 h3 hg hd h
 ·rename_i x i hop; exact Dk hop hg hd h
 ·rename_i c hop
  split at h
  ·rename_i b hcal; exact Dw hop hcal hg hd h
  ·rename_i f hcal
   split at h
   ·rename_i hgl
    have : gl = [] := by simpa using hgl
    subst this
    simp only [Option.bind_eq_some_iff] at h
    obtain ⟨⟨f', cf⟩, hf, ⟨as, ca⟩, ha, h⟩ := h
    exact HL hokf hop hcal hf ha hg hd h
   ·simp at h
  ·simp at h
 ·rename_i t l c hop
  cases hl : tR l with
  | none =>
   unfold ik at h
   simp only [hl] at h
   refine iK hg hd h ?_
   rintro a vs w rfl
   simp only [execOp, hop, PrimOp.sem, List.map_cons, List.map_nil]
  | some n =>
   cases hc : tR c with
   | none =>
    unfold ik at h
    simp only [hl, hc] at h
    refine iK hg hd h ?_
    rintro a vs w rfl
    simp only [execOp, hop, PrimOp.sem, List.map_cons, List.map_nil]
   | some m =>
    by_cases hu : ∃ e, P.underlying t = some (.slice e)
    ·obtain ⟨e, hu⟩ := hu
     exact zL hop hg hd hl hc hu h
    ·unfold ik at h
     split at h
     ·rename_i e1 e2 hu'
      exact absurd ⟨_, hu'⟩ hu
     ·refine iK hg hd h ?_
      rintro a vs w rfl
      simp only [execOp, hop, PrimOp.sem, List.map_cons, List.map_nil]
 ·rename_i t r hop
  refine iK hg hd h ?_
  rintro a vs w rfl
  cases r <;> simp only [execOp, hop, PrimOp.sem, Option.toList, List.map_cons, List.map_nil, Option.isSome_none, Option.isSome_some, Option.map_none, Option.map_some]
 ·rename_i t x i ok hop
  refine iK hg hd h ?_
  rintro a vs w rfl
  simp only [execOp, hop, PrimOp.sem, List.map_cons, List.map_nil]
 ·rename_i t m k x hop
  split at h
  ·rename_i hdst
   exact se (by simpa using hdst) (.inl hop) hg hd h
  ·simp at h
 ·rename_i t m k x hop
  split at h
  ·rename_i hdst
   exact se (by simpa using hdst) (.inr hop) hg hd h
  ·simp at h
 ·rename_i t x hop
  refine iK hg hd h ?_
  rintro a vs w rfl
  simp only [execOp, hop, PrimOp.sem, List.map_cons, List.map_nil]
 ·rename_i x hop
  refine iK hg hd h ?_
  rintro a vs w rfl
  simp only [execOp, hop, PrimOp.sem, List.map_cons, List.map_nil]
 ·rename_i x str hop
  refine iK hg hd h ?_
  rintro a vs w rfl
  simp only [execOp, hop, PrimOp.sem, List.map_cons, List.map_nil]
 ·simp at h
theorem vr {okf : FuncId → Bool} {rules : FuncId → Option (List Nat)} {sp : Bool} {name : Nat} {y : NF} {fp : FP} (hokf : ∀ f, okf f = true → tt P f)
  (h : nf P okf rules (bZ ops) sp name o s = some (y, fp)) : Sound P ops o s y := by
 unfold nf at h
 split at h
 ·simp at h
 ·rename_i hdst
  have hd : ∀ d, o.dst = some d → d < s.sz := by
   intro d hd
   simp only [hd, yf, Bool.not_eq_true', decide_eq_false_iff_not, Decidable.not_not] at hdst
   exact hdst
  split at h
  ·simp at h
  ·rename_i hg
   simp only [Option.some.injEq, Prod.mk.injEq] at h
   obtain ⟨rfl, _⟩ := h
   exact GS hg hd
  ·rename_i gl hg
   exact Hm hokf hg hd h
end Go.Sx

/- The normal form hangs on what it looks at alone. -/
namespace Go.Sx
open Go
variable {P : Program} {s s' : SS} {gl : List (At × Bool)}
def Ea (s s' : SS) (x : Operand) : Prop := ∀ t, x = .tmp t → s'.tmps t = s.tmps t
theorem ef {x : Operand} (h : Ea s s' x) : tc s' gl x = tc s gl x := by
 cases x with
 | tmp t => simp only [tc, h t rfl]
 | _ => rfl
theorem bq {x : Operand} (h : Ea s s' x) : mh s' gl x = mh s gl x := by
 simp only [mh, ef h]
theorem bW : ∀ {xs : List Operand}, (∀ x ∈ xs, Ea s s' x) → eF s' gl xs = eF s gl xs
 | [], _ => rfl
 | x :: r, h => by simp only [eF, bq (h x (by simp)), bW (xs := r) (fun y hy => h y (by simp [hy]))]
theorem pe : ∀ {xs : List Operand}, (∀ x ∈ xs, Ea s s' x) → tF s' gl xs = tF s gl xs
 | [], _ => rfl
 | x :: r, h => by simp only [tF, ef (h x (by simp)), pe (xs := r) (fun y hy => h y (by simp [hy]))]
theorem ml {place : Nat → Option (Nat × Nat)} : ∀ {parts : List (Nat × Operand)} {cells : List At}, (∀ p ∈ parts, Ea s s' p.2) →
  ei s' gl place parts cells = ei s gl place parts cells
 | [], _, _ => rfl
 | (i, x) :: r, cells, h => by
  have h1 := ef (gl := gl) (h (i, x) (by simp))
  simp only [] at h1
  simp only [ei, h1]
  split
  ·split
   ·rw [ml (fun p hp => h p (by simp [hp]))]
   ·rfl
  ·rfl
theorem me : ∀ (fuel : Nat) (r acc : List Nat), (∀ n ∈ acc, n ∈ fm s fuel r acc)
 | 0, r, acc, n, h => by cases r <;> simp [fm, h]
 | fuel + 1, [], acc, n, h => by simpa [fm] using h
 | fuel + 1, m :: r, acc, n, h => by
  simp only [fm]
  split
  ·exact me fuel _ _ n h
  ·split
   ·exact me fuel _ _ n (by simp [h])
   ·exact me fuel _ _ n (by simp [h])
theorem lG : ∀ (fuel : Nat) (r acc : List Nat), (∀ n ∈ fm s fuel r acc, s'.mem n = s.mem n) → fm s' fuel r acc = fm s fuel r acc
 | 0, r, acc, _ => by cases r <;> simp [fm]
 | fuel + 1, [], acc, _ => by simp [fm]
 | fuel + 1, m :: r, acc, h => by
  simp only [fm] at h ⊢
  split
  ·rename_i hc
   simp only [hc, if_true] at h
   exact lG fuel _ _ h
  ·rename_i hc
   simp only [hc] at h
   have hm : s'.mem m = s.mem m := by
    apply h
    simp only [Bool.false_eq_true, if_false]
    split
    ·exact me fuel _ _ m (by simp)
    ·exact me fuel _ _ m (by simp)
   rw [hm]
   cases hs : s.mem m with
   | none => simp only [hs, Bool.false_eq_true, if_false] at h; exact lG fuel _ _ h
   | some b => simp only [hs, Bool.false_eq_true, if_false] at h; exact lG fuel _ _ h
theorem oA : ∀ (fuel : Nat) (r acc : List Nat), (∀ n ∈ acc, n ∈ gZ s fuel r acc)
 | 0, r, acc, n, h => by cases r <;> simp [gZ, h]
 | fuel + 1, [], acc, n, h => by simpa [gZ] using h
 | fuel + 1, m :: r, acc, n, h => by
  simp only [gZ]
  split
  ·exact oA fuel _ _ n h
  ·split
   ·exact oA fuel _ _ n (by simp [h])
   ·exact oA fuel _ _ n (by simp [h])
theorem mZ : ∀ (fuel : Nat) (r acc : List Nat), (∀ n ∈ gZ s fuel r acc, s'.mem n = s.mem n) → gZ s' fuel r acc = gZ s fuel r acc
 | 0, r, acc, _ => by cases r <;> simp [gZ]
 | fuel + 1, [], acc, _ => by simp [gZ]
 | fuel + 1, m :: r, acc, h => by
  simp only [gZ] at h ⊢
  split
  ·rename_i hc
   simp only [hc, if_true] at h
   exact mZ fuel _ _ h
  ·rename_i hc
   simp only [hc] at h
   have hm : s'.mem m = s.mem m := by
    apply h
    simp only [Bool.false_eq_true, if_false]
    split
    ·exact oA fuel _ _ m (by simp)
    ·exact oA fuel _ _ m (by simp)
   rw [hm]
   cases hs : s.mem m with
   | none => simp only [hs, Bool.false_eq_true, if_false] at h; exact mZ fuel _ _ h
   | some b => simp only [hs, Bool.false_eq_true, if_false] at h; exact mZ fuel _ _ h
theorem rD : ∀ (l acc : List Nat), (∀ n ∈ l, s'.mem n = s.mem n) → kh s' l acc = kh s l acc
 | [], _, _ => rfl
 | n :: r, acc, h => by
  simp only [kh, h n (by simp)]
  exact rD r _ (fun m hm => h m (by simp [hm]))
theorem sf {l : List Nat} (h : ∀ n ∈ l, s'.mem n = s.mem n) : jf s' l = jf s l := by
 unfold jf
 induction l with
 | nil => rfl
 | cons n r ih => simp only [List.filterMap_cons, h n (by simp), ih (fun m hm => h m (by simp [hm]))]
theorem dV {dst : Option Tmp} {shp : Shp} {hk : HK} {atoms : List At} {cs : List Ck} {y : NF} {fp : FP} (h : eG s dst shp hk atoms cs = some (y, fp))
  (hm : ∀ n ∈ fp.reads, s'.mem n = s.mem n) : eG s' dst shp hk atoms cs = some (y, fp) := by
 have hr : fp.reads = gZ s 50 (jF atoms []) [] ++ fm s 50 (kh s (gZ s 50 (jF atoms []) []) (je atoms [])) [] := by
  unfold eG at h
  simp only [] at h
  split at h
  ·simp only [Option.some.injEq, Prod.mk.injEq] at h; rw [← h.2]
  ·simp at h
 rw [hr] at hm
 have h1 : gZ s' 50 (jF atoms []) [] = gZ s 50 (jF atoms []) [] := mZ _ _ _ (fun n hn => hm n (by simp [hn]))
 have h2 := rD (s := s) (s' := s') (gZ s 50 (jF atoms []) []) (je atoms []) (fun n hn => hm n (by simp [hn]))
 have h3 := lG (s := s) (s' := s') 50 (kh s (gZ s 50 (jF atoms []) []) (je atoms [])) [] (fun n hn => hm n (by simp [hn]))
 rw [← h]
 unfold eG
 simp only [h1, h2, h3]
 rw [sf (s := s) (s' := s') (l := fm s 50 (kh s (gZ s 50 (jF atoms []) []) (je atoms [])) []) (fun n hn => hm n (by simp [hn]))]
 rw [sf (s := s) (s' := s') (l := List.filter _ _) (fun n hn => hm n (by simp only [List.mem_append]; exact .inl (List.mem_filter.1 hn).1))]
theorem Ev {dst : Option Tmp} {t : TypeId} {x : At} {cs : List Ck} {y : NF} {fp : FP} (h : xu P s gl dst t x cs = some (y, fp))
  (hm : ∀ n ∈ fp.reads, s'.mem n = s.mem n) : xu P s' gl dst t x cs = some (y, fp) := by
 cases x with
 | p n r off =>
  have hn : s'.mem n = s.mem n := by
   apply hm
   unfold xu at h
   simp only [Option.bind_eq_some_iff] at h
   obtain ⟨m, _, h⟩ := h
   split at h
   ·split at h
    ·simp only [Option.map_eq_some_iff, Prod.mk.injEq] at h
     obtain ⟨_, _, _, rfl⟩ := h
     simp
    ·simp at h
   ·split at h
    ·simp at h
    ·simp only [Option.some.injEq, Prod.mk.injEq] at h
     obtain ⟨_, rfl⟩ := h
     simp [IK]
  rw [← h]; simp only [xu, hn]
 | _ => rw [← h]; simp only [xu]
theorem Cx {t : TypeId} {x : At} {z : S1} {cs : List Ck} {y : NF} {fp : FP} (h : rB P s t x z cs = some (y, fp))
  (hm : ∀ n ∈ fp.reads, s'.mem n = s.mem n) : rB P s' t x z cs = some (y, fp) := by
 cases x with
 | p n r off =>
  have hn : s'.mem n = s.mem n := by
   apply hm
   unfold rB at h
   simp only [Option.bind_eq_some_iff] at h
   obtain ⟨m, _, h⟩ := h
   split at h
   ·simp at h
   ·split at h
    ·split at h
     ·simp only [Option.some.injEq, Prod.mk.injEq] at h
      obtain ⟨_, rfl⟩ := h
      simp
     ·simp at h
    ·simp at h
  rw [← h]; simp only [rB, hn]
 | _ => rw [← h]; simp only [rB]
theorem lO {dst : Option Tmp} {name : Nat} {T : TypeId} {cells : List At} {val : Nat → At} {cs : List Ck} {y : NF} {fp : FP} (h : nI s gl dst name T cells val cs = some (y, fp))
  (hm : ∀ n ∈ fp.reads, s'.mem n = s.mem n) : nI s' gl dst name T cells val cs = some (y, fp) := by
 have hn : s'.mem name = s.mem name := by
  apply hm
  unfold nI at h
  split at h
  ·simp only [Option.some.injEq, Prod.mk.injEq] at h; rw [← h.2]; simp
  ·simp at h
 rw [← h]; simp only [nI, hn]
theorem eu {dst : Option Tmp} {shp : Shp} {op : PrimOp} {xs : List Operand} {y : NF} {fp : FP} (hx : ∀ x ∈ xs, Ea s s' x) (h : mf s gl dst shp op xs = some (y, fp))
  (hm : ∀ n ∈ fp.reads, s'.mem n = s.mem n) : mf s' gl dst shp op xs = some (y, fp) := by
 unfold mf at h ⊢
 split at h
 ·rename_i hg
  rw [if_pos hg, bW hx]
  simp only [Option.bind_eq_some_iff] at h ⊢
  obtain ⟨a, ha, h⟩ := h
  exact ⟨a, ha, dV h hm⟩
 ·simp at h
theorem aP {α β : Type} {x x' : Option α} {f f' : α → Option β} {y : β} (h : x.bind f = some y) (hx : x' = x) (hf : ∀ a, x = some a → f a = some y → f' a = some y) : x'.bind f' = some y := by
 subst hx
 simp only [Option.bind_eq_some_iff] at h ⊢
 obtain ⟨a, ha, h⟩ := h
 exact ⟨a, ha, hf a ha h⟩
theorem xt {dst : Option Tmp} {sp : Bool} {x : Operand} (hx : Ea s s' x) : vt s' gl dst sp x = vt s gl dst sp x := by
 unfold vt
 rw [bq hx, ef hx]
 cases x with
 | tmp t => simp only [hx t rfl]
 | _ => rfl
theorem Ed {dst : Option Tmp} {c a b : Operand} (hc : Ea s s' c) (ha : Ea s s' a) (hb : Ea s s' b) : BD s' gl dst c a b = BD s gl dst c a b := by
 unfold BD
 rw [bq hc]
 simp only [bq ha, bq hb, ef ha, ef hb]
theorem Ad {dst : Option Tmp} {x : Operand} {i : Nat} (hx : Ea s s' x) : jk s' gl dst x i = jk s gl dst x i := by
 unfold jk
 cases x with
 | tmp t => simp only [hx t rfl]
 | _ => rfl
theorem Fo {dst : Option Tmp} {ty t : TypeId} {x : At} {cs : List Ck} {y : NF} {fp : FP} (h : Jo P s gl dst ty t x cs = some (y, fp))
    (hm : ∀ n ∈ fp.reads, s'.mem n = s.mem n) : Jo P s' gl dst ty t x cs = some (y, fp) := by
  unfold Jo at h ⊢
  split at h <;> first
    | exact h
    | (split at h
       · exact h
       · exact h)
    | (split at h
       · rename_i hg; rw [if_pos hg]; exact dV h hm
       · simp at h; done)
    | (simp at h; done)
theorem Au {dst : Option Tmp} {ty : TypeId} {b : Builtin} {ats : Array TypeId} {args : List Operand} {y : NF} {fp : FP} (hx : ∀ x ∈ args, Ea s s' x)
    (h : oL P s gl dst ty b ats args = some (y, fp)) (hm : ∀ n ∈ fp.reads, s'.mem n = s.mem n) : oL P s' gl dst ty b ats args = some (y, fp) := by
  have heavy : ∀ (b : Builtin) (sh : Shp), (if gl.isEmpty then (eF s gl args).bind fun (as, cs) => eG s dst sh (.prim (.bi b ats ty) (as.map At.den)) as cs else none) = some (y, fp) →
      (if gl.isEmpty then (eF s' gl args).bind fun (as, cs) => eG s' dst sh (.prim (.bi b ats ty) (as.map At.den)) as cs else none) = some (y, fp) := by
    intro b sh h
    split at h
    · rename_i hg
      rw [if_pos hg]
      exact aP h (bW hx) fun _ _ h => dV h hm
    · simp at h
  cases b <;> simp only [oL] at h ⊢ <;> first
    | exact heavy _ _ h
    | (simp at h; done)
    | (refine aP h rfl fun t _ h => aP h rfl fun x hx' h => ?_
       have : args = [x] := oC hx'
       subst this
       refine aP h (bq (hx x (by simp))) fun a _ h => ?_
       first
         | exact Fo h hm
         | exact h)
    | (refine aP h rfl fun p hp h => ?_
       obtain ⟨x, y⟩ := p
       have : args = [x, y] := uS hp
       subst this
       exact aP h (bW hx) fun a _ h => h)
theorem ES {okf : FuncId → Bool} {rules : FuncId → Option (List Nat)} {dst : Option Tmp} {ty : TypeId} {f : At} {as : List S1} {cs : List Ck} {y : NF} {fp : FP}
  (h : Cj P okf rules s dst ty f as cs = some (y, fp)) (hm : ∀ n ∈ fp.reads, s'.mem n = s.mem n) : Cj P okf rules s' dst ty f as cs = some (y, fp) := by
 unfold Cj at h ⊢
 refine aP h rfl fun shp _ h => ?_
 cases f with
 | clo n caps =>
  simp only [] at h ⊢
  split at h
  ·rename_i hok
   rw [if_pos hok]
   split at h
   ·rename_i hc; rw [if_pos hc]; exact dV h hm
   ·simp at h
  ·rename_i hok
   rw [if_neg hok]
   split at h
   ·exact h
   ·exact dV h hm
 | v x => exact dV h hm
 | k x => exact dV h hm
 | _ => simp at h
theorem FR {dst : Option Tmp} {op : BinOp} {t : TypeId} {x z : Operand} {y : NF} {fp : FP} (hx : ∀ u ∈ [x, z], Ea s s' u) (h : fs0 P s gl dst op t x z = some (y, fp)) : fs0 P s' gl dst op t x z = some (y, fp) := by
 rw [← h]
 simp only [fs0, bW hx, pe hx]
theorem EN {dst : Option Tmp} {a b : TypeId} {x : At} {cs : List Ck} {y : NF} {fp : FP} (h : Ch P s gl dst a b x cs = some (y, fp))
  (hm : ∀ n ∈ fp.reads, s'.mem n = s.mem n) : Ch P s' gl dst a b x cs = some (y, fp) := by
 unfold Ch at h ⊢
 split at h
 ·exact h
 ·split at h
  ·rename_i hg; rw [if_pos hg]; exact dV h hm
  ·simp at h
theorem De {dst : Option Tmp} {t : TypeId} {x : Operand} (hx : Ea s s' x) : wI P s' gl dst t x = wI P s gl dst t x := by
 simp only [wI, ef hx]
theorem Dx {dst : Option Tmp} {T : TypeId} {parts : List (Nat × Operand)} (hx : ∀ p ∈ parts, Ea s s' p.2) : wW P s' gl dst T parts = wW P s gl dst T parts := by
 simp only [wW, ml hx]
theorem vO {dst : Option Tmp} {name len : Nat} {T : TypeId} {parts : List (Nat × Operand)} {y : NF} {fp : FP} (hx : ∀ p ∈ parts, Ea s s' p.2) (h : iP P s gl dst name T len parts = some (y, fp))
  (hm : ∀ n ∈ fp.reads, s'.mem n = s.mem n) : iP P s' gl dst name T len parts = some (y, fp) := by
 unfold iP at h ⊢
 split at h
 ·refine aP h rfl fun size _ h => aP h rfl fun zero _ h => ?_
  split at h
  ·rename_i hc
   rw [if_pos hc]
   exact aP h (ml hx) fun _ _ h => lO h hm
  ·simp at h
 ·simp at h
theorem Hn {okf : FuncId → Bool} {rules : FuncId → Option (List Nat)} {sp : Bool} {name : Nat} {o : Oper} {y : NF} {fp : FP} (h : J7 P okf rules sp name o gl s = some (y, fp))
  (hx : ∀ x ∈ o.op.operands.toList, Ea s s' x) (hm : ∀ n ∈ fp.reads, s'.mem n = s.mem n) : J7 P okf rules sp name o gl s' = some (y, fp) := by
 unfold J7 at h ⊢
 cases hop : o.op <;> simp only [hop, Op.operands] at h hx ⊢
 all_goals try (simp at h; done)
 case move x => rw [xt (hx x (by simp))]; exact h
 case assign x => rw [xt (hx x (by simp))]; exact h
 case pick c a b => rw [Ed (hx c (by simp)) (hx a (by simp)) (hx b (by simp))]; exact h
 case alloc T => exact aP h rfl fun _ _ h => lO h hm
 case box T x =>
  refine aP h (ef (hx x (by simp))) fun a _ h => ?_
  obtain ⟨v, cs⟩ := a
  simp only [] at h ⊢
  split at h
  ·rename_i hc; rw [if_pos hc]; exact lO h hm
  ·simp at h
 case build T parts => rw [Dx (fun p hp => hx p.2 (List.mem_map_of_mem hp))]; exact h
 case buildSlice T len parts => exact vO (fun p hp => hx p.2 (List.mem_map_of_mem hp)) h hm
 case load t x => exact aP h (bq (hx x (by simp))) fun _ _ h => Ev h hm
 case store t x z =>
  split at h
  ·rename_i hc
   rw [if_pos hc]
   exact aP h (bq (hx x (by simp))) fun _ _ h => aP h (ef (hx z (by simp))) fun _ _ h => Cx h hm
  ·simp at h
 case nilCheck x => exact aP h (bq (hx x (by simp))) fun _ _ h => h
 case binOp op t x z _ => exact FR (fun u hu => hx u (by simpa using hu)) h
 case unOp op t x => exact aP h (bq (hx x (by simp))) fun _ _ h => h
 case convert a b x => exact aP h (bq (hx x (by simp))) fun _ _ h => EN h hm
 case makeInterface t x => rw [De (hx x (by simp))]; exact h
 case makeFunc f first caps =>
  cases f with
  | func f =>
   simp only [] at h ⊢
   split at h
   ·rename_i hc
    rw [if_pos hc]
    exact aP h (bW (fun x hx' => hx x (by simp at hx' ⊢; exact .inr hx'))) fun _ _ h => h
   ·simp at h
  | _ => simp at h
 case fieldAddr t x f =>
  refine aP h rfl fun _ _ h => aP h rfl fun m _ h => ?_
  split at h
  ·simp at h
  ·rename_i hc
   rw [if_neg hc]
   exact aP h (bq (hx x (by simp))) fun _ _ h => h
 case field t x f => exact aP h rfl fun _ _ h => aP h (ef (hx x (by simp))) fun _ _ h => h
 case indexAddr t x i => exact aP h (bW (fun u hu => hx u (by simpa using hu))) fun _ _ h => h
 case index t x i => exact aP h (ef (hx x (by simp))) fun _ _ h => aP h (bq (hx i (by simp))) fun _ _ h => h
 case slice t x lo hi mx =>
  refine aP h (bq (hx x (by simp))) fun _ _ h => aP h (bW (fun u hu => hx u (by simp at hu ⊢; simp [hu]))) fun _ _ h =>
   aP h (bW (fun u hu => hx u (by simp at hu ⊢; simp [hu]))) fun _ _ h => aP h (bW (fun u hu => hx u (by simp at hu ⊢; simp [hu]))) fun _ _ h => h
 case extract x i => rw [Ad (hx x (by simp))]; exact h
 case call c =>
  cases hc : c.callee with
  | builtin b =>
   simp only [hc] at h ⊢
   exact Au (fun x hx' => hx x (by simp only [Call.operands, hc]; simp at hx' ⊢; simp [hx'])) h hm
  | value f =>
   simp only [hc] at h ⊢
   split at h
   ·rename_i hg
    rw [if_pos hg]
    exact aP h (bq (hx f (by simp [Call.operands, hc]))) fun _ _ h => aP h (pe (fun x hx' => hx x (by simp only [Call.operands, hc]; simp at hx' ⊢; simp [hx']))) fun _ _ h => ES h hm
   ·simp at h
  | _ => simp [hc] at h
 case makeSlice t l c =>
  unfold ik at h ⊢
  split at h
  ·refine aP h rfl fun size _ h => aP h rfl fun zero _ h => ?_
   split at h
   ·rename_i hc
    rw [if_pos hc]
    exact lO h hm
   ·simp at h
  ·exact eu (fun x hx' => hx x (by simpa using hx')) h hm
 case makeMap t r => exact eu (fun x hx' => hx x (by simpa using hx')) h hm
 case lookup t x i ok => exact eu (fun u hu => hx u (by simpa using hu)) h hm
 case mapUpdate t m k x =>
  split at h
  ·rename_i hc; rw [if_pos hc]; exact eu (fun u hu => hx u (by simpa using hu)) h hm
  ·simp at h
 case insert t m k x =>
  split at h
  ·rename_i hc; rw [if_pos hc]; exact eu (fun u hu => hx u (by simpa using hu)) h hm
  ·simp at h
 case range t x => exact eu (fun u hu => hx u (by simpa using hu)) h hm
 case entry x => exact eu (fun u hu => hx u (by simpa using hu)) h hm
 case next x str => exact eu (fun u hu => hx u (by simpa using hu)) h hm
theorem vA {tgt : Nat → Option Tmp} {o : Oper} (h : ∀ j want t, o.guard = some (j, want) → tgt j = some t → s'.tmps t = s.tmps t) : aW tgt s' o = aW tgt s o := by
 unfold aW
 cases hg : o.guard with
 | none => rfl
 | some p =>
  obtain ⟨j, want⟩ := p
  simp only []
  cases ht : tgt j with
  | none => rfl
  | some t => simp only [h j want t hg ht]
theorem CV {ops : Array Oper} {okf : FuncId → Bool} {rules : FuncId → Option (List Nat)} {sp : Bool} {name : Nat} {o : Oper} {y : NF} {fp : FP} (h : nf P okf rules (bZ ops) sp name o s = some (y, fp))
  (hz : s'.sz = s.sz) (ht : ∀ t ∈ o.looksAt ops, s'.tmps t = s.tmps t) (hm : ∀ n ∈ fp.reads, s'.mem n = s.mem n) : nf P okf rules (bZ ops) sp name o s' = some (y, fp) := by
 have hg : aW (bZ ops) s' o = aW (bZ ops) s o := by
  refine vA fun j want t h1 h2 => ht t ?_
  simp only [Oper.looksAt, h1, List.mem_append]
  right
  unfold bZ at h2
  simp [h2]
 have hx : ∀ x ∈ o.op.operands.toList, Ea s s' x := by
  rintro x hx t rfl
  refine ht t ?_
  simp only [Oper.looksAt, List.mem_append]
  left
  exact List.mem_filterMap.2 ⟨_, hx, rfl⟩
 unfold nf at h ⊢
 have hd : yf s' o.dst = yf s o.dst := by unfold yf; rw [hz]
 rw [hd, hg]
 split at h
 ·simp at h
 ·rename_i hc
  rw [if_neg hc]
  split at h
  ·simp at h
  ·exact h
  ·exact Hn h hx hm
end Go.Sx

/- Unordered neighbours may be turned. -/
namespace Go.Sx
open Go
theorem SS.set_comm {s : SS} {a b : Option Nat} (h : ∀ d, a = some d → b ≠ some d) (x y : SV) : (s.set a x).set b y = (s.set b y).set a x := by
 cases a with
 | none => rfl
 | some i =>
  cases b with
  | none => rfl
  | some j =>
   have hij : i ≠ j := fun e => h i rfl (by rw [e])
   simp only [SS.set, SS.mk.injEq, true_and, and_true]
   funext t
   by_cases e : t = i
   ·subst e; simp [hij]
   ·simp [e]
theorem SS.set_setBox {s : SS} {a : Option Nat} {n : Nat} {b : Option Bx} {x : SV} : (s.set a x).setBox n b = (s.setBox n b).set a x := by
 cases a <;> rfl
theorem SS.setBox_comm {s : SS} {n m : Nat} (h : n ≠ m) (b c : Option Bx) : (s.setBox n b).setBox m c = (s.setBox m c).setBox n b := by
 simp only [SS.setBox, SS.mk.injEq, true_and, and_true]
 funext k
 by_cases e : k = n
 ·subst e; simp [h]
 ·simp [e]
theorem SS.set_tmps {s : SS} {a : Option Nat} {x : SV} {t : Nat} (h : ∀ d, a = some d → t ≠ d) : (s.set a x).tmps t = s.tmps t := by
 cases a with
 | none => rfl
 | some d => simp [SS.set, h d rfl]
theorem SS.set_mem {s : SS} {a : Option Nat} {x : SV} : (s.set a x).mem = s.mem := by cases a <;> rfl
theorem SS.set_sz {s : SS} {a : Option Nat} {x : SV} : (s.set a x).sz = s.sz := by cases a <;> rfl
theorem SS.setBox_mem {s : SS} {n m : Nat} {b : Option Bx} (h : m ≠ n) : (s.setBox n b).mem m = s.mem m := by simp [SS.setBox, h]
theorem xA : ∀ {l : List Nat} {s : SS} {a : Option Nat} {x : SV}, cI l (s.set a x) = (cI l s).set a x
 | [], _, _, _ => rfl
 | n :: r, s, a, x => by rw [cI, cI, SS.set_setBox, xA]
theorem Gh : ∀ {l : List (Nat × Bx)} {css : List (List Value)} {s : SS} {a : Option Nat} {x : SV} {i : Nat}, oS i l css (s.set a x) = (oS i l css s).set a x
 | [], _, _, _, _, _ => rfl
 | (n, b) :: r, css, s, a, x, i => by rw [oS, oS, SS.set_setBox, Gh]
theorem sq : ∀ {l : List Nat} {s : SS} {n : Nat} {b : Option Bx}, n ∉ l → cI l (s.setBox n b) = (cI l s).setBox n b
 | [], _, _, _, _ => rfl
 | m :: r, s, n, b, h => by
  simp only [List.mem_cons, not_or] at h
  rw [cI, cI, SS.setBox_comm h.1, sq h.2]
theorem zu : ∀ {l : List (Nat × Bx)} {css : List (List Value)} {s : SS} {n : Nat} {b : Option Bx} {i : Nat}, n ∉ l.map (·.1) → oS i l css (s.setBox n b) = (oS i l css s).setBox n b
 | [], _, _, _, _, _, _ => rfl
 | (m, b') :: r, css, s, n, b, i, h => by
  simp only [List.map_cons, List.mem_cons, not_or] at h
  rw [oS, oS, SS.setBox_comm h.1, zu h.2]
theorem Gi : ∀ {l : List (Nat × Bx)} {css : List (List Value)} {s : SS} {n i : Nat}, n ∉ l.map (·.1) → (oS i l css s).mem n = s.mem n
 | [], _, _, _, _, _ => rfl
 | (m, b') :: r, css, s, n, i, h => by
  simp only [List.map_cons, List.mem_cons, not_or] at h
  rw [oS, Gi h.2, SS.setBox_mem h.1]
section
variable {dst : Option Tmp} {frz own : List (Nat × Bx)} {sv : List Value → SV} {s : SS} {vs : List Value} {css : List (List Value)}
theorem EA {a : Option Nat} {x : SV} (h : ∀ d, a = some d → dst ≠ some d) : qW dst frz own sv (s.set a x) vs css = (qW dst frz own sv s vs css).set a x := by
 unfold qW
 rw [xA, Gh, SS.set_comm h]
theorem xw {n : Nat} {b : Option Bx} (h : n ∉ (frz ++ own).map (·.1)) : qW dst frz own sv (s.setBox n b) vs css = (qW dst frz own sv s vs css).setBox n b := by
 unfold qW
 have h' : n ∉ own.map (·.1) := fun hn => h (by rw [List.map_append]; exact List.mem_append.2 (.inr hn))
 rw [sq h, zu h', SS.set_setBox]
theorem Jx {n : Nat} (h : n ∉ (frz ++ own).map (·.1)) : (qW dst frz own sv s vs css).mem n = s.mem n := by
 unfold qW
 have h' : n ∉ own.map (·.1) := fun hn => h (by rw [List.map_append]; exact List.mem_append.2 (.inr hn))
 rw [SS.set_mem, Gi h', nl, if_neg h]
theorem Hu {t : Nat} (h : ∀ d, dst = some d → t ≠ d) : (qW dst frz own sv s vs css).tmps t = s.tmps t := by
 unfold qW
 rw [SS.set_tmps h, zt.1, eL.1]
theorem KO : (qW dst frz own sv s vs css).sz = s.sz := by
 unfold qW
 rw [SS.set_sz, zt.2, eL.2]
end
theorem mn {a b : List Nat} (h : EK a b = true) {n : Nat} (ha : n ∈ a) : n ∉ b := by
 unfold EK at h
 rw [List.all_eq_true] at h
 simpa using h n ha
theorem wP {a b : List Nat} (h : EK a b = true) {n : Nat} (hb : n ∈ b) : n ∉ a := fun ha => mn h ha hb
theorem NF.run_mono {P : Program} {d : Bool} {dst : Option Tmp} {x : NF} {s : SS} {K K' : SS → Heap → Own → Prop} {H : Heap} {O : Own} (hk : ∀ s H O, K s H O → K' s H O) (h : x.run P d dst s K H O) :
  x.run P d dst s K' H O := by
 cases x with
 | fl cs k X => obtain ⟨h1, vs, h2, h3⟩ := h; exact ⟨h1, vs, h2, hk _ _ _ h3⟩
 | box cs n T cells val => exact ⟨h.1, fun r => hk _ _ _ (h.2 r)⟩
 | stb cs n b => exact ⟨h.1, hk _ _ _ h.2⟩
 | hv cs k frz own shp post sv => exact ⟨h.1, tu (fun _ _ _ x => x) (fun _ _ _ _ x => ⟨x.1, hk _ _ _ x.2⟩) h.2⟩
 | st cs p vs => obtain ⟨h1, O', h2, h3⟩ := h; exact ⟨h1, O', h2, hk _ _ _ h3⟩
theorem Ll {T : Heap → Own → (Value → Heap → Own → Prop) → Prop} {d d' : Bool} (hd : d' = true → d = true) {frz own : List BV} {shp : Shp} {K : List Value → List (List Value) → Heap → Own → Prop} {H : Heap} {O : Own}
  (h : iG T d frz own shp K H O) : iG T d' frz own shp K H O := by
 cases d' with
 | true => rw [hd rfl] at h; exact h
 | false =>
  cases d with
  | false => exact h
  | true =>
   intro hcons
   obtain ⟨H1, O1, O2, Q, hg, ht, hk⟩ := h hcons
   refine ⟨H1, O1, O2, Q, ?_, ht, hk⟩
   obtain ⟨rfl, hg⟩ := hg
   show Ghost _ O _ (O1 ++ O2)
   rcases hg with ⟨rfl, rfl⟩ | ⟨_, rfl, rfl, _⟩
   ·exact Ghost.refl _ _
   ·rw [List.append_nil]; exact Ghost.refl _ _
theorem NF.run_le {P : Program} {d d' : Bool} (hd : d' = true → d = true) {dst : Option Tmp} {x : NF} {s : SS} {K : SS → Heap → Own → Prop} {H : Heap} {O : Own} (h : x.run P d dst s K H O) : x.run P d' dst s K H O := by
 cases x with
 | hv cs k frz own shp post sv => exact ⟨h.1, Ll (fun e => by simp only [Bool.and_eq_true] at e ⊢; exact ⟨hd e.1, e.2⟩) h.2⟩
 | _ => exact h
theorem FK.pre_unique {P : Program} {k : FK} {H : Heap} {O : Own} {vs us : List Value} (hc : k.ch = false) (h : k.pre P H O vs) (h' : k.pre P H O us) : vs = us := by
 cases k with
 | sil => rw [h, h']
 | pure gd op args =>
  have hg : gd = [] := by simpa [FK.ch] using hc
  subst hg
  obtain ⟨v, rfl, h1, _⟩ := h
  obtain ⟨u, rfl, h2, _⟩ := h'
  have := (h1 trivial).symm.trans (h2 trivial)
  simp only [Option.some.injEq] at this; rw [this]
 | raw gd op args =>
  have hg : gd = [] := by simpa [FK.ch] using hc
  subst hg
  obtain ⟨v, rfl, h1, _⟩ := h
  obtain ⟨u, rfl, h2, _⟩ := h'
  have := (h1 trivial default).symm.trans (h2 trivial default)
  simp only [Result.ok.injEq, Next.value.injEq, and_true] at this; rw [this]
 | load gd p m => simp [FK.ch] at hc
 | split c =>
  obtain ⟨b, h1, rfl⟩ := h
  obtain ⟨b', h2, rfl⟩ := h'
  rw [h1] at h2; simp only [Value.bool.injEq] at h2; rw [h2]
 | isplit c n =>
  obtain ⟨kd, i, h1, _, _, rfl⟩ := h
  obtain ⟨kd', i', h2, _, _, rfl⟩ := h'
  rw [h1] at h2; simp only [Value.int.injEq] at h2; rw [h2.2]
theorem FK.pre_any {P : Program} {k : FK} {H H' : Heap} {O O' : Own} {vs : List Value} (hl : k.isLoad = false) (h : k.pre P H O vs) : k.pre P H' O' vs := by
 cases k <;> first | exact h | simp [FK.isLoad] at hl
theorem Reads.mono {H H' : Heap} {O O' : Own} {p : Value} {m : Nat} {vs : List Value} (hle : Heap.le H H') (hs : ∀ x, x ∈ O → x ∈ O') (h : Reads H O p m vs) : Reads H' O' p m vs := by
 rcases h with h | ⟨a, cs, T, h1, h2, h3, h4, h5⟩
 ·exact .inl (hle.read h)
 ·exact .inr ⟨a, cs, T, h1, h2, hs _ h3, h4, h5⟩
theorem FK.pre_mono {P : Program} {k : FK} {H H' : Heap} {O O' : Own} {vs : List Value} (hle : Heap.le H H') (hs : ∀ x, x ∈ O → x ∈ O') (h : k.pre P H O vs) : k.pre P H' O' vs := by
 cases k with
 | load gd p m => exact ⟨h.1, h.2.1, fun hg => (h.2.2 hg).mono hle hs⟩
 | _ => exact h
structure Near (d : Option Tmp) (W : List Nat) (s s' : SS) : Prop where
 sz : s'.sz = s.sz
 tm : ∀ t, (∀ e, d = some e → t ≠ e) → s'.tmps t = s.tmps t
 mm : ∀ n, n ∉ W → s'.mem n = s.mem n
theorem Near.symm {d : Option Tmp} {W : List Nat} {s s' : SS} (h : Near d W s s') : Near d W s' s :=
 ⟨h.sz.symm, fun t ht => (h.tm t ht).symm, fun n hn => (h.mm n hn).symm⟩
theorem pj (d : Option Tmp) (W : List Nat) (s : SS) (x : SV) : Near d W s (s.set d x) :=
 ⟨SS.set_sz, fun _ ht => SS.set_tmps ht, fun _ _ => by rw [SS.set_mem]⟩
theorem ic (d : Option Tmp) (s : SS) (n : Nat) (b : Option Bx) (x : SV) : Near d [n] s ((s.setBox n b).set d x) :=
 ⟨SS.set_sz, fun _ ht => SS.set_tmps ht, fun m hm => by rw [SS.set_mem, SS.setBox_mem (by simpa using hm)]⟩
theorem ph (d : Option Tmp) (s : SS) (n : Nat) (b : Option Bx) : Near d [n] s (s.setBox n b) :=
 ⟨rfl, fun _ _ => rfl, fun m hm => by rw [SS.setBox_mem (by simpa using hm)]⟩
theorem zI (d : Option Tmp) (frz own : List (Nat × Bx)) (sv : List Value → SV) (s : SS) (vs : List Value) (css : List (List Value)) : Near d ((frz ++ own).map (·.1)) s (qW d frz own sv s vs css) :=
 ⟨KO, fun _ ht => Hu ht, fun _ hn => Jx hn⟩
theorem rZ (d : Option Tmp) (W : List Nat) (s : SS) : Near d W s s := ⟨rfl, fun _ _ => rfl, fun _ _ => rfl⟩
def Cong (N : SS → Option (NF × FP)) (l : List Tmp) : Prop :=
 ∀ s s' y fy, N s = some (y, fy) → s'.sz = s.sz → (∀ t ∈ l, s'.tmps t = s.tmps t) → (∀ n ∈ fy.reads, s'.mem n = s.mem n) → N s' = some (y, fy)
theorem Cong.near {N : SS → Option (NF × FP)} {l : List Tmp} (h : Cong N l) {d : Option Tmp} {W : List Nat} {s s' : SS} {y : NF} {fy : FP} (hn : Near d W s s') (hd : ∀ e, d = some e → e ∉ l)
  (hW : ∀ n ∈ fy.reads, n ∉ W) (hs : N s = some (y, fy)) : N s' = some (y, fy) :=
 h s s' y fy hs hn.sz (fun t ht => hn.tm t fun e he het => hd e he (het ▸ ht)) (fun n hr => hn.mm n (hW n hr))
def NF.isHv : NF → Bool
 | .hv .. => true
 | _ => false
theorem swap {P : Program} {da db : Option Tmp} {la lb : List Tmp} {Na Nb : SS → Option (NF × FP)} (Ca : Cong Na la) (Cb : Cong Nb lb)
  (h1 : ∀ d, da = some d → d ∉ lb) (h2 : ∀ d, da = some d → db ≠ some d) (h3 : ∀ d, db = some d → d ∉ la)
  {s : SS} {xa : NF} {fa : FP} (ha : Na s = some (xa, fa)) {dx dy : NF → Bool} (hdl : xa.isLd = true → ∀ y, dy y = true) {C : NF → FP → Prop} {K : SS → Heap → Own → Prop} {H : Heap} {O : Own}
  (hst : xa.isHv = true → ∃ y fy, Nb s = some (y, fy) ∧ ux xa fa y fy = true ∧ C y fy)
  (hb : xa.run P (dx xa) da s (fun s' H' O' => ∃ y fy, Nb s' = some (y, fy) ∧ ux xa fa y fy = true ∧ C y fy ∧ y.run P (dy y) db s' K H' O') H O) :
  ∃ y fy, Nb s = some (y, fy) ∧ ux xa fa y fy = true ∧ C y fy ∧
   y.run P (dy y) db s (fun s' H' O' => Na s' = some (xa, fa) ∧ Near db y.writes s s' ∧ xa.run P (dx xa) da s' K H' O') H O := by
 have back : ∀ {s' : SS} {y : NF} {fy : FP}, Near da xa.writes s s' → Nb s' = some (y, fy) → ux xa fa y fy = true → Nb s = some (y, fy) := by
  intro s' y fy hn hy he
  simp only [ux, Bool.and_eq_true] at he
  exact Cb.near hn.symm h1 (fun n hr => wP he.1.1.1 hr) hy
 have fwd : ∀ {s' : SS} {y : NF} {fy : FP}, ux xa fa y fy = true → Near db y.writes s s' → Na s' = some (xa, fa) := by
  intro s' y fy he hn
  simp only [ux, Bool.and_eq_true] at he
  exact Ca.near hn h3 (fun n hr => mn he.1.2 hr) ha
 have hww : ∀ {y : NF} {fy : FP}, ux xa fa y fy = true → ∀ n, n ∈ xa.writes → n ∉ y.writes := by
  intro y fy he n hn
  simp only [ux, Bool.and_eq_true] at he
  exact mn he.1.1.2 hn
 have kok : ∀ {y : NF} {fy : FP}, ux xa fa y fy = true → tO xa y = true := by
  intro y fy he
  simp only [ux, Bool.and_eq_true] at he
  exact he.2
 cases xa with
 | fl cs k X =>
  obtain ⟨hcs, vs, hp, y, fy, hy, he, hC, hr⟩ := hb
  refine ⟨y, fy, back (pj da _ s (X vs)) hy he, he, hC, ?_⟩
  have ko := kok he
  cases y with
  | fl cs' k' Y =>
   obtain ⟨hcs', us, hp', hk⟩ := hr
   refine ⟨hcs', us, hp', fwd he (pj db _ s (Y us)), pj db _ s _, hcs, vs, hp, ?_⟩
   rw [SS.set_comm h2] at hk; exact hk
  | box cs' n T cells val =>
   obtain ⟨hcs', hk⟩ := hr
   refine ⟨hcs', fun r => ⟨fwd he (ic db s n _ _), ic db s n _ _, hcs, vs, hp, ?_⟩⟩
   have := hk r
   rw [SS.set_setBox, SS.set_comm h2] at this; exact this
  | stb cs' n b =>
   obtain ⟨hcs', hk⟩ := hr
   refine ⟨hcs', fwd he (ph db s n _), ph db s n _, hcs, vs, hp, ?_⟩
   rw [SS.set_setBox] at hk; exact hk
  | hv cs' hk' frz own shp post sv =>
   obtain ⟨hcs', hr⟩ := hr
   refine ⟨hcs', fun hcons => ?_⟩
   obtain ⟨H1, O1, O2, R, hgh, hT, hk⟩ := hr hcons
   refine ⟨H1, O1, O2, R, hgh, hT, fun v H' O' hR hle => ?_⟩
   obtain ⟨us, css, O3, e1, e2, e3, e4, e5, e6⟩ := hk v H' O' hR hle
   refine ⟨us, css, O3, e1, e2, e3, e4, e5, fwd he (zI db frz own sv s us css), zI db frz own sv s us css, hcs, vs, ?_, ?_⟩
   ·cases hl : k.isLoad with
    | false => exact FK.pre_any hl hp
    | true =>
     have hcall : hk'.isCall' = true := by simpa [tO, hl] using ko
     simp only [hcall, hdl (by simpa [NF.isLd] using hl), Bool.and_true, if_true] at hgh
     obtain ⟨rfl, hgh⟩ := hgh
     rcases hgh with ⟨rfl, rfl⟩ | ⟨hown, rfl, rfl, hq⟩
     ·exact FK.pre_mono (Heap.le_trans (Heap.le_insAll _ _) hle) (fun x hx => by simp [hx]) hp
     ·have hO' := hq v H' O' hR
      rw [e4, hown] at hO'
      simp only [nc, List.map_nil, List.nil_append] at hO'
      exact FK.pre_mono (Heap.le_trans (Heap.le_insAll _ _) hle) (fun x hx => by simp [hO', hx]) hp
   ·rw [EA h2] at e6; exact e6
  | st cs' p ws =>
   obtain ⟨hcs', O', hst', hk⟩ := hr
   have hl : k.isLoad = false := by simpa [tO] using ko
   exact ⟨hcs', O', hst', fwd he (rZ db _ s), rZ db _ s, hcs, vs, FK.pre_any hl hp, hk⟩
 | box cs n T cells val =>
  obtain ⟨hcs, hk0⟩ := hb
  obtain ⟨y, fy, hy, he, hC, hr0⟩ := hk0 0
  have hys := back (ic da s n _ _) hy he
  have hall : ∀ r, y.run P (dy y) db ((s.setBox n (some ⟨r, T, cells⟩)).set da (.s (.at (val r)))) K H O := by
   intro r
   obtain ⟨y', fy', hy', he', _, hr'⟩ := hk0 r
   have := (back (ic da s n _ _) hy' he').symm.trans hys
   simp only [Option.some.injEq, Prod.mk.injEq] at this
   rw [← this.1]; exact hr'
  refine ⟨y, fy, hys, he, hC, ?_⟩
  have ko := kok he
  have hn : ∀ m, m ∈ y.writes → n ≠ m := fun m hm e => hww he n (by simp [NF.writes]) (e ▸ hm)
  cases y with
  | fl cs' k' Y =>
   have hch : k'.ch = false := by simpa [tO, NF.ch] using ko
   obtain ⟨hcs', us, hp', _⟩ := hr0
   refine ⟨hcs', us, hp', fwd he (pj db _ s (Y us)), pj db _ s _, hcs, fun r => ?_⟩
   obtain ⟨_, us', hp'', hk⟩ := hall r
   rw [← FK.pre_unique hch hp' hp'', SS.set_comm h2] at hk
   rw [SS.set_setBox]; exact hk
  | box cs' m T' cells' val' =>
   obtain ⟨hcs', _⟩ := hr0
   refine ⟨hcs', fun r' => ⟨fwd he (ic db s m _ _), ic db s m _ _, hcs, fun r => ?_⟩⟩
   have := (hall r).2 r'
   rw [SS.set_setBox, SS.set_comm h2, SS.setBox_comm (hn m (by simp [NF.writes]))] at this
   rw [SS.set_setBox]; exact this
  | stb cs' m b =>
   obtain ⟨hcs', _⟩ := hr0
   refine ⟨hcs', fwd he (ph db s m _), ph db s m _, hcs, fun r => ?_⟩
   have := (hall r).2
   rw [SS.set_setBox, SS.setBox_comm (hn m (by simp [NF.writes]))] at this
   exact this
  | hv _ _ _ _ _ _ _ => simp [tO] at ko
  | st _ _ _ => simp [tO] at ko
 | stb cs n b =>
  obtain ⟨hcs, y, fy, hy, he, hC, hr⟩ := hb
  refine ⟨y, fy, back (ph da s n _) hy he, he, hC, ?_⟩
  have hn : ∀ m, m ∈ y.writes → n ≠ m := fun m hm e => hww he n (by simp [NF.writes]) (e ▸ hm)
  cases y with
  | fl cs' k' Y =>
   obtain ⟨hcs', us, hp', hk⟩ := hr
   refine ⟨hcs', us, hp', fwd he (pj db _ s (Y us)), pj db _ s _, hcs, ?_⟩
   rw [SS.set_setBox]; exact hk
  | box cs' m T cells val =>
   obtain ⟨hcs', hk⟩ := hr
   refine ⟨hcs', fun r => ⟨fwd he (ic db s m _ _), ic db s m _ _, hcs, ?_⟩⟩
   have := hk r
   rw [SS.setBox_comm (hn m (by simp [NF.writes]))] at this
   rw [SS.set_setBox]; exact this
  | stb cs' m b' =>
   obtain ⟨hcs', hk⟩ := hr
   refine ⟨hcs', fwd he (ph db s m _), ph db s m _, hcs, ?_⟩
   rw [SS.setBox_comm (hn m (by simp [NF.writes]))] at hk; exact hk
  | hv cs' hk' frz own shp post sv =>
   obtain ⟨hcs', hr⟩ := hr
   refine ⟨hcs', fun hcons => ?_⟩
   obtain ⟨H1, O1, O2, R, hgh, hT, hk⟩ := hr hcons
   refine ⟨H1, O1, O2, R, hgh, hT, fun v H' O' hR hle => ?_⟩
   obtain ⟨us, css, O3, e1, e2, e3, e4, e5, e6⟩ := hk v H' O' hR hle
   refine ⟨us, css, O3, e1, e2, e3, e4, e5, fwd he (zI db frz own sv s us css), zI db frz own sv s us css, hcs, ?_⟩
   rw [xw (fun hm => hn n hm rfl)] at e6; exact e6
  | st cs' p ws =>
   obtain ⟨hcs', O', hst', hk⟩ := hr
   exact ⟨hcs', O', hst', fwd he (rZ db _ s), rZ db _ s, hcs, hk⟩
 | hv cs hk frz own shp post sv =>
  obtain ⟨y, fy, hys, he, hC⟩ := hst rfl
  refine ⟨y, fy, hys, he, hC, ?_⟩
  have ko := kok he
  cases y with
  | box cs' n T cells val =>
   have hcs' : cs' = [] := by simpa [tO] using ko
   subst hcs'
   obtain ⟨hcs, hb⟩ := hb
   refine ⟨trivial, fun r => ⟨fwd he (ic db s n _ _), ic db s n _ _, hcs, fun hcons => ?_⟩⟩
   obtain ⟨H1, O1, O2, R, hgh, hT, hk'⟩ := hb hcons
   refine ⟨H1, O1, O2, R, hgh, hT, fun v H' O' hR hle => ?_⟩
   obtain ⟨us, css, O3, e1, e2, e3, e4, e5, y', fy', hy', he', _, hr'⟩ := hk' v H' O' hR hle
   have := (back (zI da frz own sv s us css) hy' he').symm.trans hys
   simp only [Option.some.injEq, Prod.mk.injEq] at this
   obtain ⟨rfl, rfl⟩ := this
   refine ⟨us, css, O3, e1, e2, e3, e4, e5, ?_⟩
   have hn : n ∉ (frz ++ own).map (·.1) := fun hm => hww he n hm (by simp [NF.writes])
   rw [EA (fun d hd hd' => h2 d hd' hd), xw hn]
   exact hr'.2 r
  | _ => simp [tO] at ko
 | st cs p ws =>
  obtain ⟨hcs, O', hst', y, fy, hy, he, hC, hr⟩ := hb
  refine ⟨y, fy, back (rZ da _ s) hy he, he, hC, ?_⟩
  have ko := kok he
  cases y with
  | box cs' n T cells val =>
   obtain ⟨hcs', hk⟩ := hr
   exact ⟨hcs', fun r => ⟨fwd he (ic db s n _ _), ic db s n _ _, hcs, O', hst', hk r⟩⟩
  | _ => simp [tO] at ko
end Go.Sx

/- Regions. -/
namespace Go.Sx
open Go
structure RC where
 P : Program
 okf : FuncId → Bool
 rules : FuncId → Option (List Nat)
 ops : Array Oper
 tab : List (Nat × Nat)
 sp : List Nat
 base : Nat
def RC.N (c : RC) (i : Nat) (o : Oper) (s : SS) : Option (NF × FP) := nf c.P c.okf c.rules (bZ c.ops) (c.sp.contains i) (c.base + i) o s
theorem RC.cong (c : RC) (i : Nat) (o : Oper) : Cong (c.N i o) (o.looksAt c.ops) := fun _ _ _ _ h hz ht hm => CV h hz ht hm
def RR (c : RC) (d : Bool) (K : SS → Heap → Own → Prop) : List (Nat × Oper) → List Ent → SS → Heap → Own → Prop
 | [], _, s, H, O => K s H O
 | (i, o) :: r, log, s, H, O => ∃ x fp, c.N i o s = some (x, fp) ∧
   (d = true → yd c.ops c.tab i o x fp log = true ∧ LC (fun k ok => c.N k ok s) c.ops c.tab i o x fp log r = true) ∧
   x.run c.P (d && dAt c.tab i log) o.dst s (RR c d K r (if d then ⟨i, o, x, fp⟩ :: log else log)) H O
theorem J3 {c : RC} {d : Bool} {Q : Value → Heap → Own → Prop} {kk : SS → Tree} : ∀ {l : List (Nat × Oper)} {log : List Ent} {s : SS} {H : Heap} {O : Own},
  (zm c.P c.okf c.rules d c.ops c.tab c.sp c.base l log s kk).den c.P Q H O → RR c d (fun s H O => (kk s).den c.P Q H O) l log s H O
 | [], _, _, _, _, h => h
 | (i, o) :: r, log, s, H, O, h => by
  simp only [zm] at h
  split at h
  ·exact h.elim
  ·rename_i x fp hx
   split at h
   ·exact h.elim
   ·rename_i hc
    refine ⟨x, fp, hx, fun hd => ?_, NF.run_mono (fun _ _ _ hk => J3 hk) (Hl h)⟩
    subst hd
    simp only [Bool.true_and, Bool.not_eq_true', Bool.not_eq_false, Bool.and_eq_true] at hc
    exact hc
theorem zE {ops : Array Oper} {tab : List (Nat × Nat)} {i : Nat} {o : Oper} {x : NF} {fp : FP} {log log' : List Ent} (hs : ∀ e, e ∈ log' → e ∈ log) (h : yd ops tab i o x fp log = true) : yd ops tab i o x fp log' = true := by
 unfold yd at *
 rw [List.all_eq_true] at *
 exact fun e he => h e (hs e he)
theorem vz {nfi : Nat → Oper → Option (NF × FP)} {ops : Array Oper} {tab : List (Nat × Nat)} {a : Nat} {oa : Oper} {x : NF} {fp : FP} {log : List Ent} {r : List (Nat × Oper)} :
  LC nfi ops tab a oa x fp log r = true ↔ (x.isHv = true → ∀ k ∈ r, AY tab a k.1 = false → ∃ y fpy, nfi k.1 k.2 = some (y, fpy) ∧ ux x fp y fpy = true ∧ Oper.apart ops oa k.2 = true ∧ yd ops tab k.1 k.2 y fpy log = true ∧
   ∀ m ∈ r, AY tab a m.1 = false → m.1 = k.1 ∨ (Oper.apart ops m.2 k.2 = true ∧ ∃ z fz, nfi m.1 m.2 = some (z, fz) ∧ EK z.writes fpy.reads = true)) := by
 unfold LC
 cases x with
 | hv cs hk frz own shp post sv =>
  simp only [NF.isHv, forall_const, List.all_eq_true, List.mem_filter, Bool.not_eq_true']
  constructor
  ·intro h k hk ho
   have := h k ⟨hk, ho⟩
   split at this
   ·rename_i y fpy hy
    simp only [Bool.and_eq_true, List.all_eq_true, List.mem_filter, Bool.or_eq_true, beq_iff_eq, Bool.not_eq_true'] at this
    refine ⟨y, fpy, hy, this.1.1.1, this.1.1.2, this.1.2, fun m hm hom => ?_⟩
    rcases this.2 m ⟨hm, hom⟩ with h | ⟨h1, h2⟩
    ·exact .inl h
    ·refine .inr ⟨h1, ?_⟩
     split at h2
     ·rename_i z fz hz; exact ⟨z, fz, hz, h2⟩
     ·cases h2
   ·cases this
  ·rintro h k ⟨hk, ho⟩
   obtain ⟨y, fpy, hy, h1, h2, h3, h4⟩ := h k hk ho
   rw [hy]
   simp only [Bool.and_eq_true, List.all_eq_true, List.mem_filter, Bool.or_eq_true, beq_iff_eq, Bool.not_eq_true']
   refine ⟨⟨⟨h1, h2⟩, h3⟩, ?_⟩
   rintro m ⟨hm, hom⟩
   rcases h4 m hm hom with h | ⟨h5, z, fz, hz, h6⟩
   ·exact .inl h
   ·exact .inr ⟨h5, by rw [hz]; exact h6⟩
 | _ => simp [NF.isHv]
theorem KP {nfi : Nat → Oper → Option (NF × FP)} {ops : Array Oper} {tab : List (Nat × Nat)} {a : Nat} {oa : Oper} {x : NF} {fp : FP} {log log' : List Ent} {r r' : List (Nat × Oper)}
  (hs : ∀ e, e ∈ log' → e ∈ log) (hr : ∀ e, e ∈ r' → e ∈ r) (h : LC nfi ops tab a oa x fp log r = true) : LC nfi ops tab a oa x fp log' r' = true := by
 rw [vz] at *
 intro hx k hk ho
 obtain ⟨y, fpy, hy, h1, h2, h3, h4⟩ := h hx k (hr k hk) ho
 exact ⟨y, fpy, hy, h1, h2, zE hs h3, fun m hm hom => h4 m (hr m hm) hom⟩
theorem Mx {tab : List (Nat × Nat)} {i : Nat} {log log' : List Ent} (hs : ∀ e, e ∈ log' → e ∈ log) (h : dAt tab i log' = true) : dAt tab i log = true := by
 unfold dAt at *
 rw [List.any_eq_true] at *
 obtain ⟨e, he, h⟩ := h
 exact ⟨e, hs e he, h⟩
theorem LD {tab : List (Nat × Nat)} {i : Nat} {log log' : List Ent} (hs : ∀ e, e ∈ log' → e ∈ log) : (true && dAt tab i log') = true → (true && dAt tab i log) = true := by
 rw [Bool.true_and, Bool.true_and]; exact Mx hs
theorem EZ {c : RC} {K : SS → Heap → Own → Prop} : ∀ {l : List (Nat × Oper)} {log log' : List Ent} {s : SS} {H : Heap} {O : Own}, (∀ e, e ∈ log' → e ∈ log) → RR c true K l log s H O → RR c true K l log' s H O
 | [], _, _, _, _, _, _, h => h
 | (i, o) :: r, log, log', s, H, O, hs, ⟨x, fp, hx, hc, hr⟩ => by
  refine ⟨x, fp, hx, fun hd => ⟨zE hs (hc hd).1, KP hs (fun _ h => h) (hc hd).2⟩, NF.run_le (LD hs) (NF.run_mono (fun _ _ _ hk => EZ ?_ hk) hr)⟩
  intro e he
  simp only [if_true, List.mem_cons] at he ⊢
  exact he.imp id (hs e)
theorem Jy {c : RC} {a : Nat} {oa : Oper} {x : NF} {fp : FP} {log : List Ent} {r r' : List (Nat × Oper)} {s s' : SS} {i : Nat} {o : Oper} {y : NF} {fy : FP}
  (h : LC (fun k ok => c.N k ok s) c.ops c.tab a oa x fp log r = true) (hi : (i, o) ∈ r) (ho : AY c.tab a i = false) (hy : c.N i o s = some (y, fy)) (hn : Near o.dst y.writes s s')
  (hr : ∀ e, e ∈ r' → e ∈ r ∧ e.1 ≠ i) : LC (fun k ok => c.N k ok s') c.ops c.tab a oa x fp log r' = true := by
 rw [vz] at *
 intro hx k hk hok
 have key : ∀ k, k ∈ r' → AY c.tab a k.1 = false → ∀ z fz, c.N k.1 k.2 s = some (z, fz) → c.N k.1 k.2 s' = some (z, fz) := by
  intro k hk hok z fz hz
  obtain ⟨y', fy', hy', _, _, _, h4⟩ := h hx k (hr k hk).1 hok
  have h5 := (h4 (i, o) hi ho).resolve_left (fun e => (hr k hk).2 e.symm)
  obtain ⟨hap, z', fz', hz', hd⟩ := h5
  have hz' : c.N i o s = some (z', fz') := hz'
  rw [hy] at hz'
  simp only [Option.some.injEq, Prod.mk.injEq] at hz'
  obtain ⟨rfl, rfl⟩ := hz'
  have : (y', fy') = (z, fz) := by
   have e : some (y', fy') = some (z, fz) := hy'.symm.trans hz
   exact Option.some.inj e
  obtain ⟨rfl, rfl⟩ := Prod.mk.inj this
  exact (c.cong k.1 k.2).near hn (Oper.apart_spec hap).1 (fun n hn' => wP hd hn') hz
 obtain ⟨y', fy', hy', h1, h2, h3, h4⟩ := h hx k (hr k hk).1 hok
 refine ⟨y', fy', key k hk hok _ _ hy', h1, h2, h3, fun m hm hom => ?_⟩
 rcases h4 m (hr m hm).1 hom with h | ⟨h5, z, fz, hz, h6⟩
 ·exact .inl h
 ·exact .inr ⟨h5, z, fz, key m hm hom _ _ hz, h6⟩
theorem NF.run_any {P : Program} {d : Bool} {dst : Option Tmp} {x : NF} {s : SS} {K : SS → Heap → Own → Prop} {H : Heap} {O : Own} (hx : x.isHv = false) (h : x.run P d dst s K H O) : ∃ s' H' O', K s' H' O' := by
 cases x with
 | fl cs k X => obtain ⟨h1, vs, h2, h3⟩ := h; exact ⟨_, _, _, h3⟩
 | box cs n T cells val => exact ⟨_, _, _, h.2 0⟩
 | stb cs n b => exact ⟨_, _, _, h.2⟩
 | hv cs k frz own shp post sv => simp [NF.isHv] at hx
 | st cs p vs => obtain ⟨h1, O', h2, h3⟩ := h; exact ⟨_, _, _, h3⟩
theorem GO {c : RC} {K : SS → Heap → Own → Prop} {i : Nat} {o : Oper} {l2 : List (Nat × Oper)} : ∀ {l1 : List (Nat × Oper)} {log : List Ent} {s : SS} {H : Heap} {O : Own},
  RR c true K (l1 ++ (i, o) :: l2) log s H O → (∀ e ∈ l1, AY c.tab e.1 i = false) → (∀ e ∈ l1 ++ l2, e.1 ≠ i) →
  ∃ y fy, c.N i o s = some (y, fy) ∧ yd c.ops c.tab i o y fy log = true ∧ y.run c.P (true && dAt c.tab i log) o.dst s (RR c true K (l1 ++ l2) log) H O
 | [], log, s, H, O, ⟨x, fp, hx, hc, hr⟩, _, _ =>
  ⟨x, fp, hx, (hc rfl).1, NF.run_mono (fun _ _ _ hk => EZ (fun e he => by simp [he]) hk) hr⟩
 | (a, oa) :: l1, log, s, H, O, ⟨x, fp, hx, hc, hr⟩, ho, hne => by
  obtain ⟨hc1, hc2⟩ := hc rfl
  have hoa : AY c.tab a i = false := ho (a, oa) (by simp)
  have hr' := NF.run_mono (fun s' H' O' hk => GO (l1 := l1) hk (fun e he => ho e (by simp [he])) (fun e he => hne e (by simp only [List.cons_append, List.mem_cons]; exact .inr he))) hr
  have hlog : ∀ {y : NF} {fy : FP}, yd c.ops c.tab i o y fy (⟨a, oa, x, fp⟩ :: log) = true → ux x fp y fy = true ∧ Oper.apart c.ops oa o = true ∧ yd c.ops c.tab i o y fy log = true := by
   intro y fy h
   refine ⟨?_, ?_, zE (fun e he => by simp [he]) h⟩
   all_goals
    unfold yd at h
    rw [List.all_cons, Bool.and_eq_true] at h
    have := h.1
    simp only [hoa, Bool.false_or, Bool.and_eq_true] at this
   ·exact this.1
   ·exact this.2
  have hmem : (i, o) ∈ l1 ++ (i, o) :: l2 := by simp
  have hap : Oper.apart c.ops oa o = true := by
   cases hh : x.isHv with
   | true => obtain ⟨_, _, _, _, h2, _⟩ := (vz.1 hc2) hh (i, o) hmem hoa; exact h2
   | false => obtain ⟨_, _, _, y, fy, _, hl, _⟩ := NF.run_any hh hr'; exact (hlog hl).2.1
  obtain ⟨p1, p2, p3⟩ := Oper.apart_spec hap
  have := swap (P := c.P) (c.cong a oa) (c.cong i o) p1 p2 p3 hx (dx := fun _ => true && dAt c.tab a log) (dy := fun _ => true && dAt c.tab i (⟨a, oa, x, fp⟩ :: log)) (fun hl _ => by rw [Bool.true_and, dAt, List.any_cons]; simp [hoa, hl]) (C := fun y fy => yd c.ops c.tab i o y fy log = true) (K := RR c true K (l1 ++ l2) (⟨a, oa, x, fp⟩ :: log)) (H := H) (O := O) ?_ ?_
  ·obtain ⟨y, fy, hy, he, hC, hrun⟩ := this
   refine ⟨y, fy, hy, hC, NF.run_le (LD fun e he => List.mem_cons_of_mem _ he) <| NF.run_mono (fun s' H' O' ⟨h1, h2, h3⟩ => ⟨x, fp, h1, fun _ => ⟨hc1, ?_⟩, h3⟩) hrun⟩
   refine Jy hc2 hmem hoa hy h2 (fun e he => ⟨?_, hne e (by simp only [List.cons_append, List.mem_cons]; exact .inr he)⟩)
   exact List.mem_append.2 ((List.mem_append.1 he).imp id (List.mem_cons_of_mem _))
  ·intro hx'
   obtain ⟨y, fy, hy, h1, _, h3, _⟩ := (vz.1 hc2) hx' (i, o) hmem hoa
   exact ⟨y, fy, hy, h1, h3⟩
  ·exact NF.run_mono (fun s' H' O' ⟨y, fy, hy, hl, hrun⟩ => ⟨y, fy, hy, (hlog hl).1, (hlog hl).2.2, hrun⟩) hr'
end Go.Sx

