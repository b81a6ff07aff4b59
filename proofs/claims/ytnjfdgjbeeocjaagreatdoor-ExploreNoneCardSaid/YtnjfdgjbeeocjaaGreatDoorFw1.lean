/- My framework, part 1: a function's code is reckoned to a tree; what the tree says, the function does. Generic: no program in sight. -/
import Derived.Calls
import Derived.Orders
import Derived.Tactics
import Derived.Laws.Sem
import Derived.Laws.Cells
import Derived.Laws.World
import Derived.Laws.Rows
import Derived.Laws.Slices
import Derived.Laws.Tables
import Derived.Laws.Small
import Derived.Lib.Bytealg
import Derived.Laws.Strings
import Derived.Laws.StructEq
import Derived.ProofKit
import Derived.LaidMore
import Derived.OpenShut
import Derived.Stop.Joined
import Derived.Carry
import Derived.ShutString
namespace Go.Sx
open Go
abbrev Env := Os × (Nat → Question → Nat) × Array (Nat × ByteArray)
def cA (w : World) : Env := (w.os, w.tape, w.output)
structure Heap where
 get : Nat → Option Obj
 env : Env
instance : CoeFun Heap (fun _ => Nat → Option Obj) := ⟨Heap.get⟩
abbrev Own := List (Nat × Obj)
def Heap.le (H H' : Heap) : Prop := (∀ b o, H b = some o → H' b = some o) ∧ H'.env = H.env
theorem Heap.le_refl (H : Heap) : Heap.le H H := ⟨fun _ _ h => h, rfl⟩
theorem Heap.le_trans {H H' H'' : Heap} (h : Heap.le H H') (h' : Heap.le H' H'') : Heap.le H H'' := ⟨fun b o e => h'.1 b o (h.1 b o e), h'.2.trans h.2⟩
structure Models (w : World) (H : Heap) (O : Own) : Prop where
 pers : ∀ b o, H b = some o → w.heap[b]? = some o
 own : ∀ p, p ∈ O → w.heap[p.1]? = some p.2 ∧ H p.1 = none
 nodup : (O.map (·.1)).Nodup
 env : cA w = H.env
theorem Models.perm {w : World} {H : Heap} {O O' : Own} (h : Models w H O) (hp : O.Perm O') : Models w H O' :=
 ⟨h.pers, fun p hp' => h.own p (hp.mem_iff.2 hp'), (hp.map _).nodup_iff.1 h.nodup, h.env⟩
theorem Models.sub {w : World} {H : Heap} {O O' : Own} (h : Models w H O) (hs : O'.Sublist O) : Models w H O' :=
 ⟨h.pers, fun p hp => h.own p (hs.subset hp), (hs.map _).nodup h.nodup, h.env⟩
theorem Models.update {w w' : World} {H : Heap} {r : Nat} {o o' : Obj} {O : Own} (h : Models w H ((r, o) :: O))
  (hs : ∀ b, b ≠ r → w'.heap[b]? = w.heap[b]?) (hr : w'.heap[r]? = some o') (he : cA w' = cA w) : Models w' H ((r, o') :: O) := by
 have hn := h.nodup
 simp only [List.map_cons, List.nodup_cons] at hn
 refine ⟨fun b x hb => ?_, fun p hp => ?_, ?_, he.trans h.env⟩
 ·have hne : b ≠ r := by
   intro e; subst e
   have := (h.own (b, o) (by simp)).2
   simp [this] at hb
  rw [hs b hne]; exact h.pers b x hb
 ·rcases List.mem_cons.1 hp with rfl | hp
  ·exact ⟨hr, (h.own (r, o) (by simp)).2⟩
  ·have hne : p.1 ≠ r := fun e => hn.1 (e ▸ List.mem_map_of_mem hp)
   rw [hs _ hne]; exact h.own p (List.mem_cons_of_mem _ hp)
 ·simpa [List.nodup_cons] using hn
theorem Models.push {w : World} {H : Heap} {O : Own} (h : Models w H O) (o : Obj) :
  Models { w with heap := w.heap.push o } H ((w.heap.size, o) :: O) := by
 have lt : ∀ b (x : Obj), w.heap[b]? = some x → b < w.heap.size := fun b x hb => by
  rcases Nat.lt_or_ge b w.heap.size with h | h
  ·exact h
  ·simp [Array.getElem?_eq_none h] at hb
 have keep : ∀ b (x : Obj), w.heap[b]? = some x → (w.heap.push o)[b]? = some x := fun b x hb => by
  have := lt b x hb
  rw [Array.getElem?_push, if_neg (by omega)]; exact hb
 refine ⟨fun b x hb => keep b x (h.pers b x hb), fun p hp => ?_, ?_, h.env⟩
 ·rcases List.mem_cons.1 hp with rfl | hp
  ·refine ⟨by simp, ?_⟩
   cases hH : H w.heap.size with
   | none => rfl
   | some x => have := lt _ _ (h.pers _ _ hH); omega
  ·exact ⟨keep _ _ (h.own p hp).1, (h.own p hp).2⟩
 ·simp only [List.map_cons, List.nodup_cons]
  refine ⟨fun hm => ?_, h.nodup⟩
  obtain ⟨p, hp, he⟩ := List.mem_map.1 hm
  have := lt _ _ (h.own p hp).1
  omega
theorem Models.same {w w' : World} {H : Heap} {O : Own} (h : Models w H O) (e : w'.heap = w.heap) (he : cA w' = cA w) : Models w' H O :=
 ⟨fun b o hb => by rw [e]; exact h.pers b o hb, fun p hp => by rw [e]; exact h.own p hp, h.nodup, he.trans h.env⟩
def Heap.ins (H : Heap) (r : Nat) (o : Obj) : Heap := ⟨fun b => match H b with
 | some x => some x
 | none => if b = r then some o else none, H.env⟩
theorem Heap.le_ins (H : Heap) (r : Nat) (o : Obj) : Heap.le H (H.ins r o) := ⟨fun b x h => by simp only [Heap.ins]; rw [h], rfl⟩
theorem Models.freeze {w : World} {H : Heap} {r : Nat} {o : Obj} {O : Own} (h : Models w H ((r, o) :: O)) : Models w (H.ins r o) O := by
 have hn := h.nodup
 simp only [List.map_cons, List.nodup_cons] at hn
 refine ⟨fun b x hb => ?_, fun p hp => ?_, hn.2, h.env⟩
 ·simp only [Heap.ins] at hb
  split at hb
  ·rename_i y hy; cases hb; exact h.pers b _ hy
  ·split at hb
   ·rename_i e; subst e; cases hb; exact (h.own (b, o) (by simp)).1
   ·cases hb
 ·have hne : p.1 ≠ r := fun e => hn.1 (e ▸ List.mem_map_of_mem hp)
  have hp' := h.own p (List.mem_cons_of_mem _ hp)
  refine ⟨hp'.1, ?_⟩
  simp only [Heap.ins, hp'.2, if_neg hne]
def Ghost (H : Heap) (O : Own) (H' : Heap) (O' : Own) : Prop := ∀ w F, Models w H (O ++ F) → Models w H' (O' ++ F) ∧ Heap.le H H'
def Cons (H : Heap) (O : Own) : Prop := ∃ w F, Models w H (O ++ F)
theorem Cons.none {H : Heap} {O : Own} (h : Cons H O) {p : Nat × Obj} (hp : p ∈ O) : H p.1 = none :=
 let ⟨_, _, hm⟩ := h; (hm.own p (List.mem_append_left _ hp)).2
theorem Cons.nodup {H : Heap} {O : Own} (h : Cons H O) : (O.map (·.1)).Nodup := by
 obtain ⟨_, _, hm⟩ := h
 have := hm.nodup
 rw [List.map_append] at this
 exact (List.nodup_append.1 this).1
theorem Ghost.refl (H : Heap) (O : Own) : Ghost H O H O := fun _ _ h => ⟨h, Heap.le_refl H⟩
theorem Ghost.trans {H H' H'' : Heap} {O O' O'' : Own} (h : Ghost H O H' O') (h' : Ghost H' O' H'' O'') : Ghost H O H'' O'' :=
 fun w F hm => ⟨(h' w F (h w F hm).1).1, Heap.le_trans (h w F hm).2 (h' w F (h w F hm).1).2⟩
theorem Ghost.perm {H : Heap} {O O' : Own} (hp : O.Perm O') : Ghost H O H O' := fun _ F h => ⟨h.perm (hp.append_right F), Heap.le_refl H⟩
theorem Ghost.sub {H : Heap} {O O' : Own} (hs : O'.Sublist O) : Ghost H O H O' := fun _ F h => ⟨h.sub (hs.append_right F), Heap.le_refl H⟩
theorem Ghost.drop (H : Heap) (O : Own) : Ghost H O H [] := Ghost.sub (List.nil_sublist O)
theorem Ghost.freeze (H : Heap) (r : Nat) (o : Obj) (O : Own) : Ghost H ((r, o) :: O) (H.ins r o) O := fun _ _ h =>
 ⟨Models.freeze (by simpa using h), Heap.le_ins H r o⟩
theorem Ghost.frame {H H' : Heap} {O O' : Own} (h : Ghost H O H' O') (X : Own) : Ghost H (O ++ X) H' (O' ++ X) := fun w F hm => by
 have := h w (X ++ F) (by simpa using hm)
 exact ⟨by simpa using this.1, this.2⟩
def Triple (P : Program) (f : FuncId) (args : List Value) (H : Heap) (O : Own) (Q : Value → Heap → Own → Prop) : Prop :=
 ∀ w F, Models w H (O ++ F) → Calls P f args.toArray w fun e w' => ∃ v H' O', e = .returned v ∧ Q v H' O' ∧ Heap.le H H' ∧ Models w' H' (O' ++ F)
theorem Triple.mono {P : Program} {f : FuncId} {args : List Value} {H : Heap} {O : Own} {Q Q' : Value → Heap → Own → Prop} (h : Triple P f args H O Q)
  (hq : ∀ v H' O', Heap.le H H' → Q v H' O' → Q' v H' O') : Triple P f args H O Q' :=
 fun w F hm => (h w F hm).mono fun _ _ ⟨v, H', O', he, q, hle, hm'⟩ => ⟨v, H', O', he, hq _ _ _ hle q, hle, hm'⟩
theorem Triple.frame {P : Program} {f : FuncId} {args : List Value} {H : Heap} {O : Own} {Q : Value → Heap → Own → Prop} (h : Triple P f args H O Q) (X : Own) :
  Triple P f args H (O ++ X) fun v H' O' => ∃ O'', O' = O'' ++ X ∧ Q v H' O'' :=
 fun w F hm => (h w (X ++ F) (by simpa using hm)).mono fun _ _ ⟨v, H', O', he, q, hle, hm'⟩ => ⟨v, H', O' ++ X, he, ⟨O', rfl, q⟩, hle, by simpa using hm'⟩
def dQ (P : Program) (s : Sem Next) (H : Heap) (O : Own) (Q : Value → Heap → Own → Prop) : Prop :=
 ∀ w F, Models w H (O ++ F) → ∃ v w' H' O', s.run P w = .ok (.value v) w' ∧ Q v H' O' ∧ Heap.le H H' ∧ Models w' H' (O' ++ F)
def Heap.cell? (H : Heap) (a : Addr) : Option Value :=
 match H a.block with
 | some (.cells c _ _) => if a.spot.isSome then none else c[a.off]?
 | _ => none
theorem Models.cell? {w : World} {H : Heap} {O : Own} (h : Models w H O) {a : Addr} {v : Value} (hc : H.cell? a = some v) : w.cell? a = some v := by
 unfold Heap.cell? at hc
 cases hb : H a.block with
 | none => simp [hb] at hc
 | some o =>
  simp only [hb] at hc
  simp only [World.cell?, h.pers _ _ hb]
  exact hc
theorem Heap.le.cell? {H H' : Heap} (h : Heap.le H H') {a : Addr} {v : Value} (hc : H.cell? a = some v) : H'.cell? a = some v := by
 unfold Heap.cell? at *
 cases hb : H a.block with
 | none => simp [hb] at hc
 | some o =>
  simp only [hb] at hc
  simp only [h.1 _ _ hb]
  exact hc
def Heap.read (H : Heap) (p : Value) (m : Nat) : Option (List Value) :=
 match p with
 | .pointer (some a) => (List.range m).mapM fun i => H.cell? (a.add i)
 | _ => none
theorem gf {α β : Type} {f g : α → Option β} (h : ∀ a b, f a = some b → g a = some b) : ∀ (l : List α) (r : List β), l.mapM f = some r → l.mapM g = some r := by
 intro l
 induction l with
 | nil => intro r h; simpa using h
 | cons a l ih =>
  intro r hr
  simp only [List.mapM_cons, Option.pure_def, Option.bind_eq_bind] at hr ⊢
  cases ha : f a with
  | none => simp [ha] at hr
  | some b =>
   simp only [ha, Option.bind_some] at hr
   cases hl : l.mapM f with
   | none => simp [hl] at hr
   | some bs =>
    simp only [hl, Option.bind_some] at hr
    simp only [h a b ha, ih bs hl, Option.bind_some]
    exact hr
theorem Heap.le.read {H H' : Heap} (h : Heap.le H H') {p : Value} {m : Nat} {vs : List Value} (hr : H.read p m = some vs) : H'.read p m = some vs := by
 cases p with
 | pointer a =>
  cases a with
  | none => simp [Heap.read] at hr
  | some a => exact gf (fun i v hv => h.cell? hv) _ _ hr
 | _ => simp [Heap.read] at hr
def g (vs : List Value) (i : Nat) : Value := vs.getD i undef
def fh (x : Value) (n : Nat) : Value :=
 match x with
 | .pointer (some a) => .pointer (some (a.add n))
 | _ => undef
def kn : Value → Bool
 | .pointer (some _) => true
 | _ => false
inductive Cp where
 | b (n r off : Nat)
 | v (x : Value)
def Cp.den : Cp → Value
 | .b _ r off => .pointer (some ⟨r, off, none⟩)
 | .v x => x
inductive At where
 | any
 | k (v : Value)
 | v (x : Value)
 | px (x : Value) (off : Nat)
 | p (n r off : Nat)
 | sl (n r off len cap : Nat)
 | clo (f : Nat) (caps : List Cp)
 | mp (n r : Nat)
def At.den : At → Value
 | .any => undef
 | .k x => x
 | .v x => x
 | .px x off => fh x off
 | .p _ r off => .pointer (some ⟨r, off, none⟩)
 | .sl _ r off len cap => .slice (some ⟨r, off, none⟩) len cap
 | .clo f caps => .func (.func f) #[] (caps.map Cp.den).toArray
 | .mp _ r => .map (some r)
def At.known : At → Bool
 | .any => false
 | _ => true
def At.fit : At → Bool
 | .any | .px .. => false
 | .k x => x.oneCell'
 | _ => true
def At.ok : At → Prop
 | .v x => x.oneCell' = true
 | _ => True
inductive S1 where
 | at (a : At)
 | agg (l : List At)
def S1.den : S1 → Value
 | .at a => a.den
 | .agg l => .agg (l.map At.den).toArray
def S1.cells : S1 → List At
 | .at a => [a]
 | .agg l => l
def S1.isAgg : S1 → Bool
 | .agg _ => true
 | _ => false
inductive SV where
 | s (x : S1)
 | tup (l : List S1)
 | opt (gl : List (At × Bool)) (x : S1)
abbrev Gd := List (Value × Bool)
def On : Gd → Prop
 | [] => True
 | p :: r => p.1 = .bool p.2 ∧ On r
def bQ (gl : List (At × Bool)) : Gd := gl.map fun p => (p.1.den, p.2)
def SV.rel : SV → Value → Prop
 | .s (.at .any), _ => True
 | .s x, v => v = x.den
 | .tup l, v => v = .tuple (l.map S1.den).toArray
 | .opt gl x, v => (On (bQ gl) → v = x.den) ∧ (¬ On (bQ gl) → v = undef)
structure Bx where
 r : Nat
 T : TypeId
 cs : List At
structure SS where
 sz : Nat
 tmps : Nat → SV
 mem : Nat → Option Bx
 next : Nat
def SS.set (s : SS) (d : Option Nat) (v : SV) : SS :=
 match d with
 | none => s
 | some d => { s with tmps := fun t => if t = d then v else s.tmps t }
def SS.setBox (s : SS) (n : Nat) (b : Option Bx) : SS := { s with mem := fun m => if m = n then b else s.mem m }
inductive BK where
 | int | bool | str | slice | ptr | iface | map | func
def cu (op : BinOp) (k : IntKind) (a b : Int) : Option Value :=
 match op with
 | .add => some (.int k (k.wrap (a + b)))
 | .sub => some (.int k (k.wrap (a - b)))
 | .mul => some (.int k (k.wrap (a * b)))
 | .quo => if b = 0 then none else some (.int k (k.wrap (a.tdiv b)))
 | .rem => if b = 0 then none else some (.int k (a.tmod b))
 | .and => some (.int k (k.wrap (BitVec.ofInt k.bits a &&& BitVec.ofInt k.bits b).toNat))
 | .or => some (.int k (k.wrap (BitVec.ofInt k.bits a ||| BitVec.ofInt k.bits b).toNat))
 | .xor => some (.int k (k.wrap (BitVec.ofInt k.bits a ^^^ BitVec.ofInt k.bits b).toNat))
 | .andNot => some (.int k (k.wrap (BitVec.ofInt k.bits a &&& ~~~ BitVec.ofInt k.bits b).toNat))
 | .eql => some (.bool (a == b))
 | .neq => some (.bool (a != b))
 | .lss => some (.bool (decide (a < b)))
 | .leq => some (.bool (decide (a ≤ b)))
 | .gtr => some (.bool (decide (a > b)))
 | .geq => some (.bool (decide (a ≥ b)))
 | _ => none
def cO (op : BinOp) (k : IntKind) (a b : Int) : Option Value :=
 if b < 0 then none else
 match op with
 | .shl => some (.int k (k.wrap (a * 2 ^ (min b.toNat k.bits))))
 | .shr => some (.int k (a.fdiv (2 ^ (min b.toNat k.bits))))
 | _ => none
def ik (op : BinOp) (a b : ByteArray) : Option Value :=
 match op with
 | .add => if ((a.size + b.size : Nat) : Int) > IntKind.i64.max then none else some (.string (a ++ b))
 | .eql => some (.bool (a.toList == b.toList))
 | .neq => some (.bool (!(a.toList == b.toList)))
 | _ => none
def lD (bk : BK) (x y : Value) : Option Bool :=
 match bk, x, y with
 | .bool, .bool a, .bool b => some (a == b)
 | .slice, .slice none _ _, .slice b _ _ => some b.isNone
 | .slice, .slice _ _ _, .slice none _ _ => some false
 | .ptr, .pointer none, .pointer b => some b.isNone
 | .ptr, .pointer _, .pointer none => some false
 | .map, .map none, .map b => some b.isNone
 | .map, .map _, .map none => some false
 | .func, .nilFunc, .nilFunc => some true
 | .func, .nilFunc, .func _ _ _ => some false
 | .func, .func _ _ _, .nilFunc => some false
 | _, _, _ => none
def il (op : BinOp) (bk : BK) (x y : Value) : Option Value :=
 match op with
 | .eql => (lD bk x y).map .bool
 | .neq => (lD bk x y).map fun b => .bool (!b)
 | _ => none
def fM (op : BinOp) (bk : BK) (x y : Value) : Option Value :=
 match bk, x, y with
 | .int, .int k a, .int k' b =>
  match op with
  | .shl | .shr => cO op k a b
  | _ => if k = k' then cu op k a b else none
 | .str, .string a, .string b => ik op a b
 | _, _, _ => il op bk x y
inductive POp where
 | bin (op : BinOp) (bk : BK)
 | not | neg | compl
 | pick
 | len | slen | cap
 | idx (size : Nat)
 | pidx (len size : Nat)
 | sidx
 | aidx
 | conv (k : IntKind)
 | slc (size : Nat) (lo hi mx : Bool)
 | sslc (lo hi : Bool)
 | min2 | max2
def cP (size : Nat) (s i : Value) : Option Value :=
 match s, i with
 | .slice (some a) len _, .int _ i => if 0 ≤ i ∧ i < len then some (.pointer (some (a.add (i.toNat * size)))) else none
 | _, _ => none
def dc (len size : Nat) (p i : Value) : Option Value :=
 match p, i with
 | .pointer (some a), .int _ i => if 0 ≤ i ∧ i < len then some (.pointer (some (a.add (i.toNat * size)))) else none
 | _, _ => none
def eQ (s i : Value) : Option Value :=
 match s, i with
 | .string s, .int _ i => (if 0 ≤ i then s[i.toNat]? else none).map fun b => .int .u8 b.toNat
 | _, _ => none
def dJ (i : Value) (cs : List Value) : Option Value :=
 match i with
 | .int _ i => if 0 ≤ i ∧ i < cs.length then cs[i.toNat]? else none
 | _ => none
def asI : Value → Option Int
 | .int _ i => some i
 | _ => none
def mD (i : Int) (y : Nat) : Decidable (0 ≤ i ∧ i ≤ (y : Int)) :=
 match i with
 | .ofNat n => match h : Nat.ble n y with
  | true => .isTrue ⟨Int.natCast_nonneg n, Int.ofNat_le.2 (Nat.le_of_ble_eq_true h)⟩
  | false => .isFalse fun c => by
   have h2 := Nat.ble_eq_true_of_le (Int.ofNat_le.1 c.2)
   rw [h2] at h; cases h
 | .negSucc n => .isFalse fun c => by have := c.1; omega
def jj (v : Value) (y : Nat) : Option Nat := (asI v).bind fun i => @ite (Option Nat) (0 ≤ i ∧ i ≤ (y : Int)) (mD i y) (some i.toNat) none
def aD (x : Option Value) (y d : Nat) : Option Nat :=
 match x with
 | some v => jj v y
 | none => some d
def bf (x : Option Value) (full : Bool) (y d : Nat) : Option Nat :=
 match x with
 | some v => jj v y
 | none => if full then none else some d
def bj (len cap : Nat) (lo hi mx : Option Value) : Option (Nat × Nat × Nat) :=
 (aD mx cap cap).bind fun m => (bf hi mx.isSome m len).bind fun h => (aD lo h 0).bind fun l => some (l, h, m)
def ce : List Bool → List Value → List (Option Value)
 | [], _ => []
 | true :: bs, v :: vs => some v :: ce bs vs
 | true :: bs, [] => none :: ce bs []
 | false :: bs, vs => none :: ce bs vs
def d3 (size : Nat) (x : Value) (lo hi mx : Option Value) : Option Value :=
 match x with
 | .slice a len cap => (bj len cap lo hi mx).map fun (l, h, m) => .slice (if m = l then a else a.map (·.add (l * size))) (h - l) (m - l)
 | _ => none
def eP (x : Value) (lo hi : Option Value) : Option Value :=
 match x with
 | .string s => (bj s.size s.size lo hi none).map fun (l, h, _) => .string (s.extract l h)
 | _ => none
def ag (op : POp) (args : List Value) : Option Value :=
 match op, args with
 | .bin op bk, [x, y] => fM op bk x y
 | .not, [.bool b] => some (.bool (!b))
 | .neg, [.int k n] => some (.int k (k.wrap (0 - n)))
 | .compl, [.int k n] => cu .xor k (if k.signed then -1 else k.max) n
 | .pick, [.bool b, x, y] => some (if b then x else y)
 | .len, [.slice _ n _] => some (goInt n)
 | .slen, [.string s] => some (goInt s.size)
 | .cap, [.slice _ _ n] => some (goInt n)
 | .idx size, [s, i] => cP size s i
 | .pidx len size, [p, i] => dc len size p i
 | .sidx, [s, i] => eQ s i
 | .aidx, i :: cs => dJ i cs
 | .conv k, [.int _ n] => some (.int k (k.wrap n))
 | .slc size lo hi mx, x :: rest => match ce [lo, hi, mx] rest with | [l, h, m] => d3 size x l h m | _ => none
 | .sslc lo hi, x :: rest => match ce [lo, hi] rest with | [l, h] => eP x l h | _ => none
 | .min2, [.int k x, .int _ y] => some (.int k (if y < x then y else x))
 | .max2, [.int k x, .int _ y] => some (.int k (if y > x then y else x))
 | _, _ => none
inductive PrimOp where
 | bi (b : Builtin) (argTypes : Array TypeId) (type : TypeId)
 | makeSlice (t : TypeId)
 | makeMap (t : TypeId) (has : Bool)
 | lookup (t : TypeId) (ok : Bool)
 | mapUpdate (t : TypeId)
 | range (t : TypeId)
 | next (str : Bool) (type : TypeId)
 | convert (src dst : TypeId)
 | eqv (op : BinOp) (t : TypeId) (const : Bool)
 | typeAssert (x a : TypeId) (ok : Bool)
 | intr (f : FuncId)
 | entry
 | mkIface (t : TypeId) (agg : Bool)
def PrimOp.sem (o : PrimOp) (args : List Value) : Sem Next :=
 let v (s : Sem Value) : Sem Next := do pure (.value (← s))
 match o, args with
 | .bi b at_ ty, args => builtin b at_ ty #[] args.toArray
 | .makeSlice t, [l, c] => v (Instr.makeSlice t l c)
 | .makeMap t false, [] => v (Instr.makeMap t none)
 | .makeMap t true, [r] => v (Instr.makeMap t (some r))
 | .lookup t ok, [m, k] => v (Instr.lookup t m k ok)
 | .mapUpdate t, [m, k, x] => do Instr.mapUpdate t m k x; pure (.value (.bool false))
 | .range t, [x] => v (Instr.range t x)
 | .next str ty, [x] => v (Instr.next x str ty)
 | .convert a b, [x] => v (Go.convert a b x)
 | .eqv op t c, [x, y] => v (do eqGuard op t (if c then .const undef else .global 0) (.global 0) x y; binOp op t x y)
 | .typeAssert t a ok, [x] => v (Instr.typeAssert x t a ok)
 | .intr f, args => callFunc f args.toArray
 | .entry, [x] => v (Instr.entry x)
 | .mkIface t false, [x] => v (Instr.makeInterface t x)
 | .mkIface t true, cs => v (Instr.makeInterface t (.agg cs.toArray))
 | _, _ => stuck "prim"
inductive Shp where
 | one
 | agg (m : Nat)
 | tup (l : List (Option Nat))
def Shp.openList : List (Option Nat) → List Value → Option (List Value)
 | [], [] => some []
 | none :: r, v :: vs => (Shp.openList r vs).map (v :: ·)
 | some m :: r, .agg cs :: vs => if cs.size = m then (Shp.openList r vs).map (cs.toList ++ ·) else none
 | _, _ => none
def Shp.open : Shp → Value → Option (List Value)
 | .one, v => some [v]
 | .agg m, .agg cs => if cs.size = m then some cs.toList else none
 | .tup l, .tuple vs => Shp.openList l vs.toList
 | _, _ => none
def atsFrom (vs : List Value) (i m : Nat) : List At := (List.range m).map fun j => .v (g vs (i + j))
def Shp.svList (vs : List Value) : Nat → List (Option Nat) → List S1
 | _, [] => []
 | i, none :: r => .at (.v (g vs i)) :: Shp.svList vs (i + 1) r
 | i, some m :: r => .agg (atsFrom vs i m) :: Shp.svList vs (i + m) r
def Shp.sv (vs : List Value) : Shp → SV
 | .one => .s (.at (.v (g vs 0)))
 | .agg m => .s (.agg (atsFrom vs 0 m))
 | .tup l => .tup (Shp.svList vs 0 l)
def Shp.count : Shp → Nat
 | .one => 1
 | .agg m => m
 | .tup l => l.foldr (fun o n => o.getD 1 + n) 0
def Shp.isAgg : Shp → Nat → Bool
 | .agg m, n => m == n
 | _, _ => false
structure BV where
 r : Nat
 T : TypeId
 vs : List Value
def BV.obj (b : BV) : Nat × Obj := (b.r, .cells b.vs.toArray b.T (0, 0))
inductive Ck where
 | eqN (a b : Nat)
 | eqV (a b : Value)
 | ptr (g : Gd) (v : Value)
def Ck.holds : Ck → Prop
 | .eqN a b => a = b
 | .eqV a b => a = b
 | .ptr g v => On g → kn v = true
inductive Tree where
 | stuck (why : Nat)
 | ret (v : Value) (own : List BV)
 | pure (g : Gd) (op : POp) (args : List Value) (k : Value → Tree)
 | raw (g : Gd) (op : PrimOp) (args : List Value) (k : Value → Tree)
 | load (g : Gd) (p : Value) (m : Nat) (k : List Value → Tree)
 | chk (c : Ck) (t : Tree)
 | newbox (k : Nat → Tree)
 | br (v : Value) (t e : Tree)
 | sw (v : Value) (i : Nat) (t e : Tree)
 | call (d : Bool) (f : FuncId) (args : List Value) (frz own : List BV) (shp : Shp) (k : List Value → List (List Value) → Tree)
 | callv (d : Bool) (fv : Value) (args : List Value) (frz own : List BV) (shp : Shp) (k : List Value → List (List Value) → Tree)
 | callm (d : Bool) (m : String) (x : Value) (args : List Value) (frz own : List BV) (shp : Shp) (k : List Value → List (List Value) → Tree)
 | prim (op : PrimOp) (args : List Value) (frz own : List BV) (shp : Shp) (k : List Value → List (List Value) → Tree)
 | store (p : Value) (vs : List Value) (t : Tree)
 | loop (lab key : Nat) (init : List Value) (body : (List Value → Heap → Own → Prop) → List Value → Tree)
 | cut (lab key : Nat) (body : (List Value → Heap → Own → Prop) → Tree) (rest : List Value → Tree)
 | cont (lab : Nat) (C : List Value → Heap → Own → Prop) (vals : List Value) (eqs : List (List Value × List Value))
def Heap.insAll (H : Heap) : List BV → Heap
 | [] => H
 | b :: r => Heap.insAll (H.ins b.r b.obj.2) r
def m9 (O : Own) (p : Value) (m : Nat) (vs : List Value) : Prop :=
 ∃ a cs T, p = .pointer (some a) ∧ a.spot = none ∧ (a.block, Obj.cells cs T (0, 0)) ∈ O ∧ (cs.toList.drop a.off).take m = vs ∧ vs.length = m
def Reads (H : Heap) (O : Own) (p : Value) (m : Nat) (vs : List Value) : Prop := H.read p m = some vs ∨ m9 O p m vs
def aI (cs : List Value) (off : Nat) (vs : List Value) : List Value := cs.take off ++ vs ++ cs.drop (off + vs.length)
def iE (O : Own) (p : Value) (vs : List Value) (O' : Own) : Prop :=
 ∃ a cs T L, p = .pointer (some a) ∧ a.spot = none ∧ O.Perm ((a.block, Obj.cells cs T (0, 0)) :: L) ∧ a.off + vs.length ≤ cs.size ∧
  O' = (a.block, Obj.cells (aI cs.toList a.off vs).toArray T (0, 0)) :: L
def dD : List BV → List (List Value) → List BV
 | b :: bs, c :: cs => { b with vs := c } :: dD bs cs
 | _, _ => []
def Ones : List Value → Prop
 | [] => True
 | v :: r => v.oneCell' = true ∧ Ones r
def ni : List BV → List (List Value) → Prop
 | [], [] => True
 | b :: bs, c :: cs => c.length = b.vs.length ∧ Ones c ∧ ni bs cs
 | _, _ => False
def Eqs : List (List Value × List Value) → Prop
 | [] => True
 | p :: r => p.1 = p.2 ∧ Eqs r
def gm (P : Program) (f : FuncId) : Prop := ∃ fn, P.funcs[f]? = some fn ∧ (fn.name == "runtime.NumGoroutine") = false ∧ fn.body.isNone = false
def jO (T : Heap → Own → (Value → Heap → Own → Prop) → Prop) (d : Bool) (frz own : List BV) (shp : Shp) (K : List Value → List (List Value) → Heap → Own → Prop)
  (H : Heap) (O : Own) : Prop :=
 Cons H (frz.map BV.obj ++ (own.map BV.obj ++ O)) → ∃ H1 O1 O2 Q, (if d then H1 = H.insAll frz ∧ ((O1 = [] ∧ O2 = O) ∨ (own = [] ∧ O1 = O ∧ O2 = [] ∧ ∀ v H' O', Q v H' O' → O' = O)) else Ghost (H.insAll frz) O H1 (O1 ++ O2)) ∧ T H1 (own.map BV.obj ++ O1) Q ∧
  ∀ v H' O', Q v H' O' → Heap.le H1 H' → ∃ vs cs O3, shp.open v = some vs ∧ Ones vs ∧ ni own cs ∧ O' = (dD own cs).map BV.obj ++ O3 ∧ K vs cs H' (O3 ++ O2)
def lB (P : Program) (m : String) (x : Value) (f : FuncId) (r : Value) : Prop :=
 ∃ t v, x = .iface t v ∧ ∀ w, (method (P.types.size + Made.depth) t v m).run P w = .ok (f, r) w
def Tree.den (P : Program) (Q : Value → Heap → Own → Prop) : Tree → Heap → Own → Prop
 | .stuck _, _, _ => False
 | .ret v own, H, O => Cons H (own.map BV.obj ++ O) → ∃ H' O', Ghost H (own.map BV.obj ++ O) H' O' ∧ Q v H' O'
 | .pure gd op args k, H, O => ∃ v, (On gd → ag op args = some v) ∧ (gd = [] ∨ v.oneCell' = true) ∧ (k v).den P Q H O
 | .raw gd op args k, H, O => ∃ v, (On gd → ∀ w, (op.sem args).run P w = .ok (.value v) w) ∧ v.oneCell' = true ∧ (k v).den P Q H O
 | .load gd p m k, H, O => ∃ vs, vs.length = m ∧ Ones vs ∧ (On gd → Reads H O p m vs) ∧ (k vs).den P Q H O
 | .chk c t, H, O => c.holds ∧ t.den P Q H O
 | .newbox k, H, O => ∀ r, (k r).den P Q H O
 | .br v t e, H, O => ∃ b, v = .bool b ∧ (b = true → t.den P Q H O) ∧ (b = false → e.den P Q H O)
 | .sw v i t e, H, O => ∃ kd n, v = .int kd n ∧ (n = i → t.den P Q H O) ∧ (n ≠ i → e.den P Q H O)
 | .call d f args frz own shp k, H, O => jO (fun H1 O1 R => Triple P f args H1 O1 R) d frz own shp (fun vs cs => (k vs cs).den P Q) H O
 | .callv d fv args frz own shp k, H, O => ∃ f caps, fv = .func (.func f) #[] caps ∧ gm P f ∧
   jO (fun H1 O1 R => Triple P f (args ++ caps.toList) H1 O1 R) d frz own shp (fun vs cs => (k vs cs).den P Q) H O
 | .callm d m x args frz own shp k, H, O => ∃ f r, lB P m x f r ∧ gm P f ∧
   jO (fun H1 O1 R => Triple P f (r :: args) H1 O1 R) d frz own shp (fun vs cs => (k vs cs).den P Q) H O
 | .prim op args frz own shp k, H, O => jO (fun H1 O1 R => dQ P (op.sem args) H1 O1 R) false frz own shp (fun vs cs => (k vs cs).den P Q) H O
 | .store p vs t, H, O => ∃ O', iE O p vs O' ∧ t.den P Q H O'
 | .loop _ _ init body, H, O => ∃ (I : List Value → Heap → Own → Prop) (μ : List Value → Heap → Own → Nat),
   (Cons H O → ∃ H1 O1, Ghost H O H1 O1 ∧ I init H1 O1) ∧
   ∀ vs H' O', vs.length = init.length → Ones vs → Heap.le H H' → I vs H' O' →
    (body (fun vs' H'' O'' => Cons H'' O'' → ∃ H3 O3, Ghost H'' O'' H3 O3 ∧ I vs' H3 O3 ∧ μ vs' H3 O3 < μ vs H' O') vs).den P Q H' O'
 | .cut _ _ body rest, H, O => ∃ R : List Value → Heap → Own → Prop,
   (body (fun vs' H'' O'' => Cons H'' O'' → ∃ H3 O3, Ghost H'' O'' H3 O3 ∧ R vs' H3 O3)).den P Q H O ∧
   ∀ vs H' O', Ones vs → Heap.le H H' → R vs H' O' → (rest vs).den P Q H' O'
 | .cont _ C vals eqs, H, O => Eqs eqs ∧ C vals H O
inductive FK where
 | sil
 | pure (g : Gd) (op : POp) (args : List Value)
 | raw (g : Gd) (op : PrimOp) (args : List Value)
 | load (g : Gd) (p : Value) (m : Nat)
 | split (c : Value)
 | isplit (c : Value) (n : Nat)
inductive HK where
 | call (f : FuncId) (args : List Value)
 | callv (fv : Value) (args : List Value)
 | callm (m : String) (x : Value) (args : List Value)
 | prim (op : PrimOp) (args : List Value)
inductive NF where
 | fl (cs : List Ck) (k : FK) (X : List Value → SV)
 | box (cs : List Ck) (name : Nat) (T : TypeId) (cells : List At) (val : Nat → At)
 | stb (cs : List Ck) (n : Nat) (b : Bx)
 | hv (cs : List Ck) (k : HK) (frz own : List (Nat × Bx)) (shp : Shp) (post : List Value → List Ck) (sv : List Value → SV)
 | st (cs : List Ck) (p : Value) (vs : List Value)
structure FP where
 reads : List Nat := []
def NF.bx : NF → Bool
 | .box .. => true
 | _ => false
def bT (P : Program) (t : TypeId) : Option Nat :=
 match P.info? t, P.underlying t with
 | some i, some _ => some i.size
 | _, _ => none
def aG (P : Program) (t : TypeId) : Bool :=
 match P.underlying t with
 | some (.struct _) | some (.array _ _) => true
 | _ => false
def du (P : Program) (t : TypeId) : Option (List At) := ((P.info? t).bind (·.zero)).map fun z => z.cells.toList.map .k
def dp (P : Program) (t : TypeId) (f : Nat) : Option Field :=
 match P.underlying t with
 | some (.struct fs) => fs[f]?
 | _ => none
def kD (P : Program) (t : TypeId) (cs : List At) : Option S1 :=
 if aG P t then some (.agg cs) else match cs with | [a] => some (.at a) | _ => none
def S1.known (x : S1) : Bool := x.cells.all At.known
def d5 : Value → S1
 | .agg cs => .agg (cs.toList.map .k)
 | v => .at (.k v)
def ee (gl gl' : List (At × Bool)) : Option (List Ck) :=
 let rear := gl.drop (gl.length - gl'.length)
 if rear.length = gl'.length && (rear.zip gl').all (fun p => p.1.2 == p.2.2) then some ((rear.zip gl').map fun p => .eqV p.1.1.den p.2.1.den) else none
def b9 (s : SS) (gl : List (At × Bool)) (x : Operand) : Option (S1 × List Ck) :=
 match x with
 | .tmp t =>
  match s.tmps t with
  | .s x => if x.known then some (x, []) else none
  | .opt gl' x => if x.known then (ee gl gl').map fun c => (x, c) else none
  | .tup _ => none
 | .const v => some (d5 v, [])
 | .global n => some (.at (.k (.pointer (some ⟨n, 0, none⟩))), [])
 | .func f => some (.at (.clo f []), [])
def a5 (s : SS) (gl : List (At × Bool)) (x : Operand) : Option (At × List Ck) :=
 match b9 s gl x with
 | some (.at a, c) => some (a, c)
 | _ => none
def az (s : SS) (gl : List (At × Bool)) : List Operand → Option (List At × List Ck)
 | [] => some ([], [])
 | x :: r =>
  match a5 s gl x, az s gl r with
  | some (a, c), some (as, cs) => some (a :: as, c ++ cs)
  | _, _ => none
def bV (s : SS) (gl : List (At × Bool)) : List Operand → Option (List S1 × List Ck)
 | [] => some ([], [])
 | x :: r =>
  match b9 s gl x, bV s gl r with
  | some (a, c), some (as, cs) => some (a :: as, c ++ cs)
  | _, _ => none
inductive GR where
 | go (gl : List (At × Bool))
 | skip
 | bad
def af (tgt : Nat → Option Tmp) (s : SS) (o : Oper) : GR :=
 match o.guard with
 | none => .go []
 | some (j, want) =>
  match tgt j with
  | none => .bad
  | some t =>
   match s.tmps t with
   | .s (.at (.k (.bool b))) => if b == want then .go [] else .skip
   | .s (.at (.k (.tuple _))) => .skip
   | .s (.at c) => if c.known then .go [(c, want)] else .bad
   | .opt gl (.at c) => if c.known then .go ((c, want) :: gl) else .bad
   | _ => .bad
def ge (gl : List (At × Bool)) (x : S1) : SV := if gl.isEmpty then .s x else .opt gl x
def fi : At → Option Value
 | .k (.int k n) => some (.int k n)
 | .k (.bool b) => some (.bool b)
 | _ => none
def mf (op : POp) (args : List At) : Option Value :=
 (args.mapM fi).bind (ag op)
def aM (gl : List (At × Bool)) (total : Bool) (dst : Option Tmp) (op : POp) (args : List At) (cs : List Ck) : NF :=
 match mf op args with
 | some v => .fl cs .sil (fun _ => (ge gl (.at (.k v))))
 | none => .fl cs (.pure (if total then [] else bQ gl) op (args.map At.den)) (fun vs => (ge gl (.at (.v (g vs 0)))))
def nH (P : Program) (t : TypeId) : Option BK :=
 match P.underlying t with
 | some (.int _) => some .int
 | some .bool => some .bool
 | some .string => some .str
 | some (.slice _) => some .slice
 | some (.pointer _) => some .ptr
 | some (.map _ _) => some .map
 | some (.func _ _ _) => some .func
 | _ => none
def aZ (cells : List At) (off : Nat) (v : List At) : List At := cells.take off ++ v ++ cells.drop (off + v.length)
def aC (s : SS) (gl : List (At × Bool)) (place : Nat → Option (Nat × Nat)) : List (Nat × Operand) → List At → Option (List At × List Ck)
 | [], cells => some (cells, [])
 | (i, x) :: r, cells =>
  match place i, b9 s gl x with
  | some (off, size), some (v, c) =>
   if v.cells.length = size && off + size ≤ cells.length && v.cells.all At.fit then
    (aC s gl place r (aZ cells off v.cells)).map fun (cs, c') => (cs, c ++ c')
   else none
  | _, _ => none
def au (z : List At) : Nat → List At
 | 0 => []
 | n + 1 => z ++ au z n
def lz (l : List Nat) (n : Nat) : List Nat := if l.contains n then l else l ++ [n]
def bp : List At → List Nat → List Nat
 | [], acc => acc
 | .sl n .. :: r, acc => bp r (lz acc n)
 | _ :: r, acc => bp r acc
def jx : List Cp → List Nat → List Nat
 | [], acc => acc
 | .b n .. :: r, acc => jx r (lz acc n)
 | _ :: r, acc => jx r acc
def bu : List At → List Nat → List Nat
 | [], acc => acc
 | .p n .. :: r, acc => bu r (lz acc n)
 | .clo _ cs :: r, acc => bu r (jx cs acc)
 | _ :: r, acc => bu r acc
def bJ (s : SS) (l : List Nat) : List (Nat × Bx) := l.filterMap fun n => (s.mem n).map fun b => (n, b)
def Bx.bv (b : Bx) : BV := ⟨b.r, b.T, b.cs.map At.den⟩
def aF : List Nat → SS → SS
 | [], s => s
 | n :: r, s => aF r (s.setBox n none)
def nr : Nat → List (Nat × Bx) → List (List Value) → SS → SS
 | _, [], _, s => s
 | i, (n, b) :: r, css, s => nr (i + 1) r css (s.setBox n (some { b with cs := atsFrom (css.getD i []) 0 b.cs.length }))
def ay : List (Nat × Bx) → List (List Value) → SS → SS
 | (n, b) :: r, vs :: vss, s => ay r vss (s.setBox n (some { b with cs := atsFrom vs 0 b.cs.length }))
 | _, _, s => s
def aS (s : SS) : Nat → List Nat → List Nat → List Nat
 | 0, r, acc => r ++ acc
 | _, [], acc => acc
 | fuel + 1, n :: r, acc =>
  if acc.contains n then aS s fuel r acc else
  match s.mem n with
  | none => aS s fuel r (acc ++ [n])
  | some b => aS s fuel (bp b.cs (bu b.cs r)) (acc ++ [n])
def aT (s : SS) : Nat → List Nat → List Nat → List Nat
 | 0, r, acc => r ++ acc
 | _, [], acc => acc
 | fuel + 1, n :: r, acc =>
  if acc.contains n then aT s fuel r acc else
  match s.mem n with
  | none => aT s fuel r (acc ++ [n])
  | some b => aT s fuel (bu b.cs r) (acc ++ [n])
def bm (s : SS) : List Nat → List Nat → List Nat
 | [], acc => acc
 | n :: r, acc => bm s r (match s.mem n with | some b => bp b.cs acc | none => acc)
def nk (P : Program) (t : TypeId) : Option Shp :=
 match P.underlying t with
 | some (.tuple ts) => some (.tup (ts.toList.map fun t => if aG P t then bT P t else none))
 | some (.struct _) | some (.array _ _) => (bT P t).map .agg
 | some _ => some .one
 | none => none
def lZ : List Nat → Bool
 | [] => true
 | n :: r => !r.contains n && lZ r
def ax (s : SS) (dst : Option Tmp) (shp : Shp) (hk : HK) (atoms : List At) (cs : List Ck) : Option (NF × FP) :=
 let ps := aT s 50 (bu atoms []) []
 let frzN := aS s 50 (bm s ps (bp atoms [])) []
 let ownN := ps.filter (!frzN.contains ·)
 let frz := bJ s frzN
 let own := bJ s ownN
 let rds := ps ++ frzN
 if (frz ++ own).all (fun p => p.2.cs.all At.known) && lZ ((frz ++ own).map (·.1)) then
  some (.hv cs hk frz own shp (fun _ => []) shp.sv, { reads := rds })
 else none
def kV : At → List Nat
 | .p n .. => [n]
 | .sl n .. => [n]
 | _ => []
def iS (gl : List (At × Bool)) (x : At) (o : Nat) : Option (At × List Ck) :=
 match x with
 | .p n r off => some (.p n r (off + o), [])
 | .v x => some (if o = 0 then .v x else if gl.isEmpty then .v (fh x o) else .px x o, [.ptr (bQ gl) x])
 | .px x off => some (.px x (off + o), [.ptr (bQ gl) x])
 | .k x => some (if o = 0 then .k x else if gl.isEmpty then .v (fh x o) else .px x o, [.ptr (bQ gl) x])
 | _ => none
def dF (P : Program) (s : SS) (gl : List (At × Bool)) (dst : Option Tmp) (t : TypeId) (x : At) (cs : List Ck) : Option (NF × FP) :=
 (bT P t).bind fun m =>
 let far (y : Value) : Option (NF × FP) := some (.fl cs (.load (bQ gl) y m)
   (fun vs => (ge gl (if aG P t then .agg (atsFrom vs 0 m) else .at (.v (g vs 0))))), { reads := kV x })
 match x with
 | .p n r off =>
  match s.mem n with
  | some b =>
   let cells := (b.cs.drop off).take m
   if cells.length = m && cells.all At.known then
    (kD P t cells).map fun v => (.fl (.eqN r b.r :: cs) .sil (fun _ => (ge gl v)), { reads := [n] })
   else none
  | none => if !aG P t && m != 1 then none else far x.den
 | .v _ | .px _ _ | .k _ => if !aG P t && m != 1 then none else far x.den
 | _ => none
def cg (P : Program) (s : SS) (t : TypeId) (x : At) (y : S1) (cs : List Ck) : Option (NF × FP) :=
 (bT P t).bind fun m =>
 if y.cells.length ≠ m || !y.cells.all At.fit then none else
 match x with
 | .p n r off =>
  match s.mem n with
  | some b =>
   if off + m ≤ b.cs.length then
    some (.stb (.eqN r b.r :: cs) n { b with cs := aZ b.cs off y.cells }, { reads := [n] })
   else none
  | none => none
 | .v _ | .px _ _ => if m = 0 then none else some (.st (.ptr [] x.den :: cs) x.den (y.cells.map At.den), {})
 | _ => none
def dB (P : Program) (t : TypeId) (cs : List At) (off : Nat) : Option S1 :=
 (bT P t).bind fun m =>
 let l := (cs.drop off).take m
 if l.length = m then kD P t l else none
def bh : At → Option Nat
 | .k (.int _ n) => if 0 ≤ n then some n.toNat else none
 | _ => none
def cn (P : Program) (gl : List (At × Bool)) (dst : Option Tmp) (t : TypeId) (x i : At) (cs : List Ck) : Option (NF × FP) :=
 match P.underlying t with
 | some (.array len elem) =>
  (bT P elem).bind fun size =>
  match bh i with
  | some n => if n < len then (iS gl x (n * size)).map fun (a, c) => (.fl (c ++ cs) .sil (fun _ => (ge gl (.at a))), {}) else none
  | none =>
   match x with
   | .p n r off => if gl.isEmpty && len ≤ 16 then some (.fl cs (.isplit i.den len) (fun vs => (.s (.at (.p n r (off + (match g vs 0 with | .int _ n => n.toNat | _ => 0) * size))))), {}) else none
   | .v _ | .px _ _ | .k _ => if len ≤ 1 then none else some (aM gl false dst (.pidx len size) [x, i] cs, {})
   | _ => none
 | some (.slice elem) =>
  (bT P elem).bind fun size =>
  match x, bh i with
  | .sl n r off len _, some k => if k < len then some (.fl cs .sil (fun _ => (ge gl (.at (.p n r (off + k * size))))), {}) else none
  | _, _ => some (aM gl false dst (.idx size) [x, i] cs, {})
 | _ => none
def gX (P : Program) (gl : List (At × Bool)) (dst : Option Tmp) (t : TypeId) (x : At) (lo hi mx : Option At) (cs : List Ck) : Option (NF × FP) :=
 let rest := lo.toList ++ hi.toList ++ mx.toList
 match P.underlying t with
 | some .string => if mx.isSome then none else some (aM gl false dst (.sslc lo.isSome hi.isSome) (x :: rest) cs, {})
 | some (.slice elem) =>
  (bT P elem).bind fun size =>
  match x, lo.map bh, hi.map bh, mx with
  | .sl n r off len cap, l, h, none =>
   match l.getD (some 0), h.getD (some len) with
   | some l, some h => if l ≤ h && h ≤ cap then some (.fl cs .sil (fun _ => (ge gl (.at (.sl n r (if cap = l then off else off + l * size) (h - l) (cap - l))))), {}) else none
   | _, _ => some (aM gl false dst (.slc size lo.isSome hi.isSome mx.isSome) (x :: rest) cs, {})
  | _, _, _, _ => some (aM gl false dst (.slc size lo.isSome hi.isSome mx.isSome) (x :: rest) cs, {})
 | some (.array len elem) =>
  (bT P elem).bind fun size =>
  match x, lo.map bh, hi.map bh, mx with
  | .p n r off, l, h, none =>
   match l.getD (some 0), h.getD (some len) with
   | some l, some h => if l ≤ h && h ≤ len then some (.fl cs .sil (fun _ => (ge gl (.at (.sl n r (if len = l then off else off + l * size) (h - l) (len - l))))), {}) else none
   | _, _ => none
  | .k (.pointer (some ⟨r, off, none⟩)), l, h, none =>
   match l.getD (some 0), h.getD (some len) with
   | some l, some h => if l ≤ h && h ≤ len then some (.fl cs .sil (fun _ => (ge gl (.at (.k (.slice (some ⟨r, if len = l then off else off + l * size, none⟩) (h - l) (len - l)))))), {}) else none
   | _, _ => none
  | _, _, _, _ => none
 | _ => none
def dN : List At → Option (List Cp)
 | [] => some []
 | .p n r off :: l => (dN l).map (.b n r off :: ·)
 | .v x :: l => (dN l).map (.v x :: ·)
 | .k x :: l => (dN l).map (.v x :: ·)
 | _ => none
def fa (x : At) : List Nat → Option (List At)
 | [] => some []
 | o :: r => match x, fa x r with
  | .p n r' off, some l => some (.p n r' (off + o) :: l)
  | _, _ => none
def g2 (vs : List Value) : List At → Nat → List Ck
 | [], _ => []
 | a :: r, i => .eqV (g vs i) a.den :: g2 vs r (i + 1)
def ap (gl : List (At × Bool)) (dst : Option Tmp) (v : S1) (cs : List Ck) : Option (NF × FP) := some (.fl cs .sil (fun _ => (ge gl v)), {})
def bq (s : SS) (gl : List (At × Bool)) (dst : Option Tmp) (name : Nat) (T : TypeId) (cells : List At) (val : Nat → At) (cs : List Ck) : Option (NF × FP) :=
 if gl.isEmpty && (s.mem name).isNone then some (.box cs name T cells val, { reads := [name] }) else none
def cF (s : SS) (gl : List (At × Bool)) (dst : Option Tmp) (sp : Bool) (x : Operand) : Option (NF × FP) :=
 if sp then
  if gl.isEmpty then
   (a5 s gl x).bind fun (a, cs) =>
    match a with
    | .k v => ap gl dst (.at (.k v)) cs
    | a => some (.fl cs (.split a.den) (fun vs => (.s (.at (.k (g vs 0))))), {})
  else none
 else
  match x with
  | .tmp t => match s.tmps t with
   | .tup l => if gl.isEmpty then some (.fl [] .sil (fun _ => (.tup l)), {}) else none
   | _ => (b9 s gl x).bind fun (v, cs) => ap gl dst v cs
  | x => (b9 s gl x).bind fun (v, cs) => ap gl dst v cs
def fj (s : SS) (gl : List (At × Bool)) (dst : Option Tmp) (c a b : Operand) : Option (NF × FP) :=
 (a5 s gl c).bind fun (c, cs) =>
  match c with
  | .k (.bool true) => (b9 s gl a).bind fun (v, cs') => ap gl dst v (cs ++ cs')
  | .k (.bool false) => (b9 s gl b).bind fun (v, cs') => ap gl dst v (cs ++ cs')
  | c =>
   match a5 s ((c, true) :: gl) a, a5 s ((c, false) :: gl) b with
   | some (a, ca), some (b, cb) => if a.fit && b.fit then some (aM gl true dst .pick [c, a, b] (cs ++ ca ++ cb), {}) else none
   | _, _ => none
def dt (P : Program) (s : SS) (gl : List (At × Bool)) (dst : Option Tmp) (T : TypeId) (parts : List (Nat × Operand)) : Option (NF × FP) :=
 (du P T).bind fun zero =>
  match P.underlying T with
  | some (.struct fs) =>
   (fs.toList.mapM fun f => (P.info? f.type).map fun i => (f.offset, i.size)).bind fun places =>
    (aC s gl (fun i => places.toArray[i]?) parts zero).bind fun (cells, cs) => ap gl dst (.agg cells) cs
  | some (.array _ elem) =>
   (bT P elem).bind fun size => (aC s gl (fun i => some (i * size, size)) parts zero).bind fun (cells, cs) => ap gl dst (.agg cells) cs
  | _ => none
def aO (P : Program) (s : SS) (gl : List (At × Bool)) (dst : Option Tmp) (name : Nat) (T : TypeId) (len : Nat) (parts : List (Nat × Operand)) : Option (NF × FP) :=
 match P.underlying T with
 | some (.slice elem) =>
  (bT P elem).bind fun size => (du P elem).bind fun zero =>
   if zero.length = size && size ≠ 0 && len * size ≤ 65536 then
    (aC s gl (fun i => some (i * size, size)) parts (au zero len)).bind fun (cells, cs) => bq s gl dst name elem cells (fun r => .sl name r 0 len len) cs
   else none
 | _ => none
def ma (gl : List (At × Bool)) (dst : Option Tmp) (x : At) (cs : List Ck) : Option (NF × FP) :=
 match x with
 | .p .. | .clo .. => ap gl dst (.at x) cs
 | .v y | .k y => ap gl dst (.at x) (.ptr (bQ gl) y :: cs)
 | .px y _ => ap gl dst (.at x) (.ptr (bQ gl) y :: cs)
 | _ => none
def dY : Operand → Bool
 | .const _ => true
 | _ => false
def lJ : BinOp → Bool
 | .quo | .rem | .shl | .shr => false
 | _ => true
def jk (P : Program) (s : SS) (gl : List (At × Bool)) (dst : Option Tmp) (op : BinOp) (t : TypeId) (x y : Operand) : Option (NF × FP) :=
 match nH P t with
 | some bk => (az s gl [x, y]).bind fun (as, cs) => some (aM gl (lJ op) dst (.bin op bk) as cs, {})
 | none =>
  match op with
  | .eql | .neq => (bV s gl [x, y]).bind fun (as, cs) => some (.fl cs (.raw (bQ gl) (.eqv op t (dY x || dY y)) (as.map S1.den)) (fun vs => (ge gl (.at (.v (g vs 0))))), {})
  | _ => none
def nN (P : Program) (gl : List (At × Bool)) (dst : Option Tmp) (op : UnOp) (t : TypeId) (x : At) (cs : List Ck) : Option (NF × FP) :=
 match op, P.underlying t with
 | .not, some .bool => some (aM gl true dst .not [x] cs, {})
 | .neg, some (.int _) => some (aM gl true dst .neg [x] cs, {})
 | .xor, some (.int _) => some (aM gl true dst .compl [x] cs, {})
 | _, _ => none
def fS (P : Program) (s : SS) (gl : List (At × Bool)) (dst : Option Tmp) (a b : TypeId) (x : At) (cs : List Ck) : Option (NF × FP) :=
 match P.underlying a, P.underlying b with
 | some (.int _), some (.int k) => some (aM gl true dst (.conv k) [x] cs, {})
 | _, _ => if gl.isEmpty then ax s dst .one (.prim (.convert a b) [x.den]) [x] cs else none
def dl (P : Program) (s : SS) (gl : List (At × Bool)) (dst : Option Tmp) (t : TypeId) (x : Operand) : Option (NF × FP) :=
 match P.underlying t with
 | some (.interface _) | none => none
 | some _ => (b9 s gl x).bind fun (v, cs) => if (bu v.cells (bp v.cells [])).isEmpty then ap gl dst (.at (.v (.iface t v.den))) cs else
  if gl.isEmpty then ax s dst .one (.prim (.mkIface t v.isAgg) (v.cells.map At.den)) v.cells cs else none
def ie (P : Program) (gl : List (At × Bool)) (dst : Option Tmp) (t : TypeId) (x : S1) (i : At) (cs : List Ck) : Option (NF × FP) :=
 match P.underlying t, x with
 | some (.array len elem), .agg cells =>
  (bT P elem).bind fun size =>
   match bh i with
   | some n => if n < len then (dB P elem cells (n * size)).bind fun v => ap gl dst v cs else none
   | none => if size = 1 && !aG P elem && cells.length = len && cells.all At.fit && (bu cells (bp cells [])).isEmpty then some (aM gl false dst .aidx (i :: cells) cs, {})
    else if gl.isEmpty && size = 1 && !aG P elem && cells.length = len && cells.all At.known && len ≤ 16 then some (.fl cs (.isplit i.den len) (fun vs => .s (.at (cells.getD (match g vs 0 with | .int _ n => n.toNat | _ => 0) .any))), {}) else none
 | some .string, .at x => some (aM gl false dst .sidx [x, i] cs, {})
 | _, _ => none
def aU (s : SS) (gl : List (At × Bool)) (dst : Option Tmp) (x : Operand) (i : Nat) : Option (NF × FP) :=
 match x with
 | .tmp t => match s.tmps t with
  | .tup l => (l[i]?).bind fun v => if v.known then ap gl dst v [] else none
  | _ => none
 | _ => none
def lm (P : Program) (s : SS) (gl : List (At × Bool)) (dst : Option Tmp) (ty t : TypeId) (x : At) (cs : List Ck) : Option (NF × FP) :=
 match P.underlying t with
 | some (.slice _) =>
  match x with
  | .sl _ _ _ n _ => ap gl dst (.at (.k (goInt n))) cs
  | x => some (aM gl true dst .len [x] cs, {})
 | some .string => some (aM gl true dst .slen [x] cs, {})
 | some (.array n _) => ap gl dst (.at (.k (goInt n))) cs
 | some (.map _ _) => if gl.isEmpty then ax s dst .one (.prim (.bi .len #[t] ty) [x.den]) [x] cs else none
 | _ => none
def nF (P : Program) (gl : List (At × Bool)) (dst : Option Tmp) (t : TypeId) (x : At) (cs : List Ck) : Option (NF × FP) :=
 match P.underlying t with
 | some (.slice _) =>
  match x with
  | .sl _ _ _ _ n => ap gl dst (.at (.k (goInt n))) cs
  | x => some (aM gl true dst .cap [x] cs, {})
 | _ => none
def mZ {α : Type} : List α → Option α
 | [x] => some x
 | _ => none
def nb {α : Type} : List α → Option (α × α)
 | [x, y] => some (x, y)
 | _ => none
def bM (P : Program) (s : SS) (gl : List (At × Bool)) (dst : Option Tmp) (ty : TypeId) (b : Builtin) (argTypes : Array TypeId) (args : List Operand) : Option (NF × FP) :=
 match b with
 | .len => (mZ argTypes.toList).bind fun t => (mZ args).bind fun x => (a5 s gl x).bind fun (x, cs) => lm P s gl dst ty t x cs
 | .cap => (mZ argTypes.toList).bind fun t => (mZ args).bind fun x => (a5 s gl x).bind fun (x, cs) => nF P gl dst t x cs
 | .min => (nb args).bind fun (x, y) => (az s gl [x, y]).bind fun (as, cs) => some (aM gl true dst .min2 as cs, {})
 | .max => (nb args).bind fun (x, y) => (az s gl [x, y]).bind fun (as, cs) => some (aM gl true dst .max2 as cs, {})
 | .append | .copy =>
  if gl.isEmpty then (az s gl args).bind fun (as, cs) => ax s dst .one (.prim (.bi b argTypes ty) (as.map At.den)) as cs else none
 | .delete | .clear =>
  if gl.isEmpty then (az s gl args).bind fun (as, cs) => ax s dst (.tup []) (.prim (.bi b argTypes ty) (as.map At.den)) as cs else none
 | _ => none
def fW (P : Program) (okf : FuncId → Bool) (rules : FuncId → Option (List Nat)) (s : SS) (dst : Option Tmp) (ty : TypeId) (f : At) (as : List S1) (cs : List Ck) : Option (NF × FP) :=
 (nk P ty).bind fun shp =>
  match f with
  | .clo n caps =>
   if !okf n then (if caps.isEmpty then ax s dst shp (.prim (.intr n) (as.map S1.den)) (as.flatMap S1.cells) cs else none) else
   match caps.isEmpty, rules n, mZ as with
   | true, some offs, some (.at x) =>
    (fa x offs).bind fun l => if shp.isAgg l.length then
     some (.hv cs (.call n [x.den]) [] [] shp (fun vs => g2 vs l 0) (fun _ => .s (.agg l)), {}) else none
   | _, _, _ => ax s dst shp (.call n (as.map S1.den ++ caps.map Cp.den)) (f :: as.flatMap S1.cells) cs
  | .v x => ax s dst shp (.callv x (as.map S1.den)) (as.flatMap S1.cells) cs
  | .k x => ax s dst shp (.callv x (as.map S1.den)) (as.flatMap S1.cells) cs
  | _ => none
def fB (P : Program) (s : SS) (dst : Option Tmp) (ty : TypeId) (m : String) (x : At) (as : List S1) (cs : List Ck) : Option (NF × FP) :=
 (nk P ty).bind fun shp =>
  match x with
  | .v y => ax s dst shp (.callm m y (as.map S1.den)) (.v y :: as.flatMap S1.cells) cs
  | .k y => ax s dst shp (.callm m y (as.map S1.den)) (.k y :: as.flatMap S1.cells) cs
  | _ => none
def aR (s : SS) (gl : List (At × Bool)) (dst : Option Tmp) (shp : Shp) (op : PrimOp) (xs : List Operand) : Option (NF × FP) :=
 if gl.isEmpty then (az s gl xs).bind fun (as, cs) => ax s dst shp (.prim op (as.map At.den)) as cs else none
def dj : Operand → Option Nat
 | .const (.int .i64 n) => if 0 ≤ n ∧ n ≤ 65536 then some n.toNat else none
 | _ => none
def aN (P : Program) (s : SS) (gl : List (At × Bool)) (dst : Option Tmp) (name : Nat) (t : TypeId) (l c : Operand) : Option (NF × FP) :=
 match dj l, dj c, P.underlying t with
 | some n, some m, some (.slice elem) =>
  (bT P elem).bind fun size => (du P elem).bind fun zero =>
   if zero.length = size && size ≠ 0 && n ≤ m && m * size ≤ 65536 && ((P.info? elem).map fun i => decide (i.bytes * m ≤ 2 ^ 48)).getD false then
    bq s gl dst name elem (au zero m) (fun r => .sl name r 0 n m) []
   else none
 | _, _, _ => aR s gl dst .one (.makeSlice t) [l, c]
def kC (P : Program) (okf : FuncId → Bool) (rules : FuncId → Option (List Nat)) (sp : Bool) (name : Nat) (o : Oper) (gl : List (At × Bool)) (s : SS) : Option (NF × FP) :=
 match o.op with
 | .move x => cF s gl o.dst sp x
 | .assign x => cF s gl o.dst sp x
 | .pick c a b => fj s gl o.dst c a b
 | .alloc T => (du P T).bind fun cells => bq s gl o.dst name T cells (fun r => .p name r 0) []
 | .box T x => (b9 s gl x).bind fun (v, cs) => if v.cells.all At.fit then bq s gl o.dst name T v.cells (fun r => .p name r 0) cs else none
 | .build T parts => dt P s gl o.dst T parts.toList
 | .buildSlice T len parts => aO P s gl o.dst name T len parts.toList
 | .load t x => (a5 s gl x).bind fun (x, cs) => dF P s gl o.dst t x cs
 | .store t x y => if gl.isEmpty && o.dst.isNone then (a5 s gl x).bind fun (x, cs) => (b9 s gl y).bind fun (y, cs') => cg P s t x y (cs ++ cs') else none
 | .nilCheck x => (a5 s gl x).bind fun (x, cs) => ma gl o.dst x cs
 | .binOp op t x y _ => jk P s gl o.dst op t x y
 | .unOp op t x => (a5 s gl x).bind fun (x, cs) => nN P gl o.dst op t x cs
 | .convert a b x => (a5 s gl x).bind fun (x, cs) => fS P s gl o.dst a b x cs
 | .makeInterface t x => dl P s gl o.dst t x
 | .makeFunc (.func f) first caps =>
  if first.isEmpty then (az s gl caps.toList).bind fun (as, cs) => (dN as).bind fun l => ap gl o.dst (.at (.clo f l)) cs else none
 | .fieldAddr t x f =>
  (dp P t f).bind fun fd => (bT P fd.type).bind fun m =>
   if m = 0 then none else (a5 s gl x).bind fun (x, cs) => (iS gl x fd.offset).bind fun (a, c) => ap gl o.dst (.at a) (c ++ cs)
 | .field t x f =>
  (dp P t f).bind fun fd => (b9 s gl x).bind fun (x, cs) => (dB P fd.type x.cells fd.offset).bind fun v => if x.isAgg then ap gl o.dst v cs else none
 | .indexAddr t x i => (az s gl [x, i]).bind fun (as, cs) => (nb as).bind fun (x, i) => cn P gl o.dst t x i cs
 | .index t x i => (b9 s gl x).bind fun (x, cs) => (a5 s gl i).bind fun (i, cs') => ie P gl o.dst t x i (cs ++ cs')
 | .slice t x lo hi mx =>
  (a5 s gl x).bind fun (x, c0) => (az s gl lo.toList).bind fun (l, c1) => (az s gl hi.toList).bind fun (h, c2) => (az s gl mx.toList).bind fun (m, c3) =>
   gX P gl o.dst t x l.head? h.head? m.head? (c0 ++ c1 ++ c2 ++ c3)
 | .extract x i => aU s gl o.dst x i
 | .call c =>
  match c.callee with
  | .builtin b => bM P s gl o.dst o.type b c.argTypes c.args.toList
  | .value f =>
   if gl.isEmpty then (a5 s gl f).bind fun (f, cs) => (bV s gl c.args.toList).bind fun (as, cs') => fW P okf rules s o.dst o.type f as (cs ++ cs') else none
  | .invoke r m =>
   if gl.isEmpty then (a5 s gl r).bind fun (x, cs) => (bV s gl c.args.toList).bind fun (as, cs') => fB P s o.dst o.type m x as (cs ++ cs') else none
 | .makeSlice t l c => aN P s gl o.dst name t l c
 | .makeMap t r => aR s gl o.dst .one (.makeMap t r.isSome) r.toList
 | .lookup t x i ok => aR s gl o.dst (if ok then .tup [none, none] else .one) (.lookup t ok) [x, i]
 | .mapUpdate t m k x => if o.dst.isNone then aR s gl o.dst .one (.mapUpdate t) [m, k, x] else none
 | .insert t m k x => if o.dst.isNone then aR s gl o.dst .one (.mapUpdate t) [m, k, x] else none
 | .range t x => aR s gl o.dst .one (.range t) [x]
 | .entry x => aR s gl o.dst (.tup [none, none]) .entry [x]
 | .next x str => aR s gl o.dst (if str then .tup [none, none, none] else .tup [none, none, none]) (.next str o.type) [x]
 | _ => none
def dK (s : SS) : Option Tmp → Bool
 | some d => decide (d < s.sz)
 | none => true
def nf (P : Program) (okf : FuncId → Bool) (rules : FuncId → Option (List Nat)) (tgt : Nat → Option Tmp) (sp : Bool) (name : Nat) (o : Oper) (s : SS) : Option (NF × FP) :=
 if !dK s o.dst then none else
 match af tgt s o with
 | .bad => none
 | .skip => some (.fl [] .sil (fun _ => (.s (.at (.k undef)))), {})
 | .go gl => kC P okf rules sp name o gl s
def nD (dst : Option Tmp) (frz own : List (Nat × Bx)) (sv : List Value → SV) (s : SS) (vs : List Value) (css : List (List Value)) : SS :=
 (nr 0 own css (aF ((frz ++ own).map (·.1)) s)).set dst (sv vs)
def bvs (l : List (Nat × Bx)) : List BV := l.map (·.2.bv)
def kE (a b : List Nat) : Bool := a.all (!b.contains ·)
def HK.isCall' : HK → Bool
 | .prim .. => false
 | _ => true
def am (ops : Array Oper) (j : Nat) : Option Tmp := (ops[j]?).bind (·.dst)
def nX : Op → Nat
 | .alloc _ | .box _ _ | .buildSlice _ _ _ => 2
 | .makeSlice _ l c => if (dj l).isSome && (dj c).isSome then 2 else 1
 | .store _ _ _ | .makeMap _ _ | .lookup _ _ _ _ | .mapUpdate _ _ _ _ | .insert _ _ _ _ | .range _ _ | .next _ _ | .entry _ => 1
 | .call c => match c.callee with
  | .builtin .len | .builtin .cap | .builtin .min | .builtin .max => 0
  | _ => 1
 | _ => 0
def a9 (o : Oper) : List Nat := o.after.toList.filterMap fun e => if Region.binds .any e then some e.on else none
def ic (done : Nat) (o : Oper) : Bool := (a9 o).all fun p => done.testBit p
def ct (done c : Nat) : List (Nat × Oper) → Option (Nat × Oper)
 | [] => none
 | (i, o) :: r => if nX o.op == c && ic done o then some (i, o) else ct done c r
def fQ (i : Nat) : List (Nat × Oper) → List (Nat × Oper)
 | [] => []
 | (j, o) :: r => if j = i then r else (j, o) :: fQ i r
def bU : Nat → Nat → List (Nat × Oper) → List (Nat × Oper)
 | 0, _, l => l
 | fuel + 1, done, l =>
  match (ct done 0 l).orElse fun _ => (ct done 1 l).orElse fun _ => ct done 2 l with
  | none => l
  | some (i, o) => (i, o) :: bU fuel (done ||| 1 <<< i) (fQ i l)
def be (tab : List (Nat × Nat)) (p : Nat) : Nat :=
 match tab with
 | [] => 0
 | (q, m) :: r => if q = p then m else be r p
def gv (tab : List (Nat × Nat)) : List Nat → Nat
 | [] => 0
 | p :: r => (1 <<< p) ||| be tab p ||| gv tab r
def ba : List (Nat × Oper) → List (Nat × Nat) → List (Nat × Nat)
 | [], tab => tab
 | (i, o) :: r, tab => ba r ((i, gv tab (a9 o)) :: tab)
def k3 (tab : List (Nat × Nat)) (a i : Nat) : Bool := (be tab i).testBit a
def aQ {α : Type} (n : Nat) : List α → List (Nat × α)
 | [] => []
 | a :: r => (n, a) :: aQ (n + 1) r
def topo (n : Nat) : Nat → List (Nat × Oper) → Bool
 | done, [] => done == 2 ^ n - 1
 | done, (i, o) :: r => !done.testBit i && ic done o && topo n (done ||| 1 <<< i) r
inductive na where
 | unroll (n : Nat)
 | inv (carry keep : List Nat) (boxes : List (Nat × List Nat))
structure oi where
 okf : FuncId → Bool
 rules : FuncId → Option (List Nat)
 loop : Nat → na
 cut : Nat → Option (List Nat × List Nat × List (Nat × List Nat))
def nI (s : SS) (t : Nat) : At := match s.tmps t with | .s (.at a) => a | _ => .any
def jt (P : Program) (s : SS) : ResultVar → Option S1
 | .tmp t => match s.tmps t with
  | .s x => if x.known then some x else none
  | _ => none
 | .cell a T => match nI s a with
  | .p n r 0 => (s.mem n).bind fun b => if b.cs.all At.known && some b.cs.length == bT P T then kD P T b.cs else none
  | _ => none
def jW (s : SS) : ResultVar → List Ck
 | .tmp _ => []
 | .cell a _ => match nI s a with
  | .p n r _ => (match s.mem n with | some b => [.eqN r b.r] | none => [])
  | _ => []
def eg (P : Program) (s : SS) : List ResultVar → Option (List S1)
 | [] => some []
 | x :: r => match jt P s x, eg P s r with
  | some v, some vs => some (v :: vs)
  | _, _ => none
def AllCk : List Ck → Prop
 | [] => True
 | c :: r => c.holds ∧ AllCk r
theorem AllCk.append {a b : List Ck} : AllCk (a ++ b) ↔ AllCk a ∧ AllCk b := by
 induction a with
 | nil => simp [AllCk]
 | cons c r ih => simp [AllCk, ih, and_assoc]
def CellsRel : List At → List Value → Prop
 | [], [] => True
 | a :: r, v :: vs => (a.known = true → v = a.den) ∧ CellsRel r vs
 | _, _ => False
theorem CellsRel.length : ∀ {cs : List At} {vs : List Value}, CellsRel cs vs → cs.length = vs.length
 | [], [], _ => rfl
 | _ :: _, _ :: _, h => by simp [CellsRel.length h.2]
theorem CellsRel.known : ∀ {cs : List At} {vs : List Value}, CellsRel cs vs → cs.all At.known = true → vs = cs.map At.den
 | [], [], _, _ => rfl
 | a :: r, v :: vs, h, hk => by
  simp only [List.all_cons, Bool.and_eq_true] at hk
  rw [List.map_cons, h.1 hk.1, CellsRel.known h.2 hk.2]
theorem CellsRel.drop : ∀ {cs : List At} {vs : List Value} (n : Nat), CellsRel cs vs → CellsRel (cs.drop n) (vs.drop n)
 | _, _, 0, h => by simpa using h
 | [], [], _ + 1, _ => by simp [CellsRel]
 | _ :: _, _ :: _, n + 1, h => by simpa using CellsRel.drop n h.2
theorem CellsRel.take : ∀ {cs : List At} {vs : List Value} (n : Nat), CellsRel cs vs → CellsRel (cs.take n) (vs.take n)
 | _, _, 0, _ => by simp [CellsRel]
 | [], [], _ + 1, _ => by simp [CellsRel]
 | _ :: _, _ :: _, n + 1, h => by simpa [CellsRel] using ⟨h.1, CellsRel.take n h.2⟩
theorem CellsRel.append : ∀ {cs ds : List At} {vs us : List Value}, CellsRel cs vs → CellsRel ds us → CellsRel (cs ++ ds) (vs ++ us)
 | [], _, [], _, _, h => by simpa using h
 | _ :: _, _, _ :: _, _, h, h' => by simpa [CellsRel] using ⟨h.1, CellsRel.append h.2 h'⟩
theorem CellsRel.map (cs : List At) : CellsRel cs (cs.map At.den) := by
 induction cs with
 | nil => simp [CellsRel]
 | cons a r ih => exact ⟨fun _ => rfl, ih⟩
theorem CellsRel.fill {cs : List At} {vs : List Value} (h : CellsRel cs vs) (off : Nat) (ys : List At) :
  CellsRel (aZ cs off ys) (vs.take off ++ ys.map At.den ++ vs.drop (off + ys.length)) :=
 ((h.take off).append (CellsRel.map ys)).append (h.drop _)
theorem CellsRel.from (vs : List Value) : ∀ (m i : Nat), i + m = vs.length → CellsRel ((List.range' i m).map fun j => At.v (g vs j)) (vs.drop i)
 | 0, i, h => by
  have : vs.drop i = [] := List.drop_eq_nil_of_le (by omega)
  simp [this, CellsRel]
 | m + 1, i, h => by
  have hi : i < vs.length := by omega
  rw [List.drop_eq_getElem_cons hi, List.range'_succ, List.map_cons]
  refine ⟨fun _ => ?_, CellsRel.from vs m (i + 1) (by omega)⟩
  simp [At.den, g, hi]
theorem gG (vs : List Value) (i m : Nat) : atsFrom vs i m = (List.range' i m).map fun j => At.v (g vs j) := by
 unfold atsFrom
 rw [List.range'_eq_map_range, List.map_map]; rfl
theorem CellsRel.atsFrom {vs : List Value} {m : Nat} (h : vs.length = m) : CellsRel (atsFrom vs 0 m) vs := by
 rw [gG]; simpa using CellsRel.from vs m 0 (by omega)
def b7 (b : Option Bx) (vs : List Value) : Nat × Obj :=
 match b with
 | some b => (b.r, .cells vs.toArray b.T (0, 0))
 | none => (0, .cells #[] 0 (0, 0))
def Boxes (m : Nat → Option Bx) (L : Own) : Prop :=
 ∃ (ns : List Nat) (f : Nat → List Value), ns.Nodup ∧ (∀ n, (m n).isSome = true ↔ n ∈ ns) ∧ (∀ n b, m n = some b → CellsRel b.cs (f n)) ∧
  L.Perm (ns.map fun n => b7 (m n) (f n))
theorem Boxes.perm {m : Nat → Option Bx} {L L' : Own} (h : Boxes m L) (hp : L.Perm L') : Boxes m L' :=
 let ⟨ns, f, a, b, c, d⟩ := h; ⟨ns, f, a, b, c, hp.symm.trans d⟩
theorem Boxes.none : Boxes (fun _ => Option.none) [] := ⟨[], fun _ => [], by simp, by simp, by simp, by simp⟩
theorem Boxes.take {m : Nat → Option Bx} {L : Own} {n : Nat} {b : Bx} (h : Boxes m L) (hb : m n = some b) :
  ∃ vs L', CellsRel b.cs vs ∧ L.Perm ((b.r, .cells vs.toArray b.T (0, 0)) :: L') ∧ Boxes (fun k => if k = n then Option.none else m k) L' := by
 obtain ⟨ns, f, hn, hs, hc, hp⟩ := h
 have hin : n ∈ ns := (hs n).1 (by simp [hb])
 refine ⟨f n, (ns.erase n).map fun k => b7 (m k) (f k), hc n b hb, ?_, ns.erase n, f, hn.erase n, fun k => ?_, fun k b' hk => ?_, ?_⟩
 ·refine hp.trans ?_
  have := (List.perm_cons_erase hin).map fun k => b7 (m k) (f k)
  simpa [b7, hb] using this
 ·by_cases hk : k = n
  ·subst hk; simpa using fun hm => (List.Nodup.mem_erase_iff hn).1 hm |>.1 rfl
  ·simp only [hk, if_false, hs k, List.Nodup.mem_erase_iff hn]; simp [hk]
 ·by_cases e : k = n
  ·simp [e] at hk
  ·simp only [e, if_false] at hk; exact hc k b' hk
 ·refine List.Perm.of_eq (List.map_congr_left fun k hk => ?_)
  have : k ≠ n := ((List.Nodup.mem_erase_iff hn).1 hk).1
  simp [this]
theorem Boxes.put {m : Nat → Option Bx} {L : Own} {n : Nat} {b : Bx} {vs : List Value} (h : Boxes m L) (hb : m n = Option.none) (hv : CellsRel b.cs vs) :
  Boxes (fun k => if k = n then some b else m k) ((b.r, .cells vs.toArray b.T (0, 0)) :: L) := by
 obtain ⟨ns, f, hn, hs, hc, hp⟩ := h
 have hout : n ∉ ns := fun hin => by have := (hs n).2 hin; simp [hb] at this
 refine ⟨n :: ns, fun k => if k = n then vs else f k, List.nodup_cons.2 ⟨hout, hn⟩, fun k => ?_, fun k b' hk => ?_, ?_⟩
 ·by_cases e : k = n <;> simp [e, hs k]
 ·by_cases e : k = n
  ·subst e; simp at hk; subst hk; simpa using hv
  ·simp only [e, if_false] at hk ⊢; exact hc k b' hk
 ·simp only [List.map_cons, if_true, b7]
  refine List.Perm.cons _ (hp.trans (List.Perm.of_eq (List.map_congr_left fun k hk => ?_)))
  have : k ≠ n := fun e => hout (e ▸ hk)
  simp [this, b7]
theorem iy (m : Nat → Option Bx) (n : Nat) (b : Option Bx) : (fun k => if k = n then b else if k = n then Option.none else m k) = fun k => if k = n then b else m k := by
 funext k; by_cases e : k = n <;> simp [e]
def S1.ok (x : S1) : Prop := ∀ a, a ∈ x.cells → a.ok
def SV.ok : SV → Prop
 | .s x => x.ok
 | .tup l => ∀ x, x ∈ l → x.ok
 | .opt _ x => x.ok
def SS.Ok (s : SS) : Prop := (∀ t, (s.tmps t).ok) ∧ ∀ n b, s.mem n = some b → ∀ a, a ∈ b.cs → a.ok
theorem SS.Ok.set {s : SS} (h : s.Ok) (d : Option Nat) {sv : SV} (hv : sv.ok) : (s.set d sv).Ok := by
 cases d with
 | none => exact h
 | some d =>
  refine ⟨fun t => ?_, h.2⟩
  simp only [SS.set]
  split
  ·exact hv
  ·exact h.1 t
theorem SS.Ok.setBox {s : SS} (h : s.Ok) (n : Nat) {b : Option Bx} (hv : ∀ b', b = some b' → ∀ a, a ∈ b'.cs → a.ok) : (s.setBox n b).Ok := by
 refine ⟨h.1, fun k b' hb => ?_⟩
 simp only [SS.setBox] at hb
 split at hb
 ·exact hv b' hb
 ·exact h.2 k b' hb
theorem At.fit_one {a : At} (h : a.fit = true) (ho : a.ok) : a.den.oneCell' = true := by
 cases a <;> simp_all [At.fit, At.ok, At.den, Value.oneCell']
theorem k6 {gl : List (At × Bool)} {x : S1} (h : x.ok) : (ge gl x).ok := by
 unfold ge; split <;> exact h
structure Conc (F : Own) (s : SS) (H : Heap) (O : Own) (a : Act) (w : World) : Prop where
 ok : s.Ok
 df : a.defers = []
 sz : a.tmps.size = s.sz
 tm : ∀ t, (s.tmps t).rel (a.tmps.getD t undef)
 mm : ∃ L, Boxes s.mem L ∧ Models w H (L ++ (O ++ F))
theorem Conc.put {F : Own} {s : SS} {H : Heap} {O : Own} {a : Act} {w : World} (h : Conc F s H O a w) {dst : Option Nat} {sv : SV} {v : Value}
  (hd : ∀ d, dst = some d → d < s.sz) (hv : sv.rel v) (hok : sv.ok) : Conc F (s.set dst sv) H O (a.put dst v) w := by
 have hok' := h.ok.set dst hok
 cases dst with
 | none => exact h
 | some d =>
  have hlt : d < a.tmps.size := by rw [h.sz]; exact hd d rfl
  refine ⟨hok', h.df, by simp [Act.put, SS.set, h.sz], fun t => ?_, h.mm⟩
  simp only [SS.set, Act.put]
  by_cases e : t = d
  ·subst e; simpa [Array.getD, hlt] using hv
  ·have := h.tm t
   simp only [e, if_false]
   have hg : (a.tmps.setIfInBounds d v).getD t undef = a.tmps.getD t undef := by
    simp only [Array.getD_eq_getD_getElem?]
    rw [Array.getElem?_setIfInBounds_ne (by omega)]
   rw [hg]; exact this
theorem jl (c : At) (p : Bool) (gl : List (At × Bool)) : On (bQ ((c, p) :: gl)) ↔ c.den = .bool p ∧ On (bQ gl) := Iff.rfl
theorem jX {gl : List (At × Bool)} {x : S1} {v : Value} (h : On (bQ gl) → v = x.den) (h' : ¬ On (bQ gl) → v = undef) : (ge gl x).rel v := by
 unfold ge
 split
 ·rename_i e
  have : gl = [] := by simpa using e
  subst this
  have hv := h trivial
  unfold SV.rel
  split <;> simp_all
 ·exact ⟨h, h'⟩
theorem ch {x : S1} {v : Value} (hk : x.known = true) (h : (SV.s x).rel v) : v = x.den := by
 rcases x with a | l
 ·cases a <;> first | exact h | simp [S1.known, S1.cells, At.known] at hk
 ·exact h
theorem jJ (v : Value) : (d5 v).den = v := by
 cases v <;> simp [d5, S1.den, At.den, Function.comp_def]
theorem eW : ∀ (rear gl' : List (At × Bool)), rear.length = gl'.length → ((rear.zip gl').all fun p => p.1.2 == p.2.2) = true →
  AllCk ((rear.zip gl').map fun p => .eqV p.1.1.den p.2.1.den) → On (bQ rear) → On (bQ gl')
 | [], [], _, _, _, _ => trivial
 | [], _ :: _, h, _, _, _ => by simp at h
 | _ :: _, [], h, _, _, _ => by simp at h
 | p :: r, q :: r', hl, hp, hc, ho => by
  simp only [List.zip_cons_cons, List.all_cons, Bool.and_eq_true, List.map_cons, AllCk, Ck.holds, beq_iff_eq] at hp hc
  refine ⟨?_, eW r r' (by simpa using hl) (by simpa using hp.2) hc.2 ho.2⟩
  have := ho.1
  simp only [] at this ⊢
  rw [← hc.1, ← hp.1]; exact this
theorem lA : ∀ (gl : List (At × Bool)) (k : Nat), On (bQ gl) → On (bQ (gl.drop k))
 | [], k, _ => by simp [bQ, On]
 | _ :: _, 0, h => h
 | _ :: r, k + 1, h => lA r k h.2
theorem kL {gl gl' : List (At × Bool)} {cs : List Ck} (h : ee gl gl' = some cs) (hc : AllCk cs) (ho : On (bQ gl)) : On (bQ gl') := by
 unfold ee at h
 simp only [] at h
 split at h
 ·rename_i hcond
  simp only [Option.some.injEq] at h
  subst h
  simp only [Bool.and_eq_true, decide_eq_true_eq] at hcond
  exact eW _ _ hcond.1 hcond.2 hc (lA _ _ ho)
 ·simp at h
theorem aJ {F : Own} {s : SS} {H : Heap} {O : Own} {a : Act} {w : World} (h : Conc F s H O a w) {gl : List (At × Bool)} {x : Operand} {v : S1} {cs : List Ck}
  (hx : b9 s gl x = some (v, cs)) (hc : AllCk cs) (ho : On (bQ gl)) : a.eval x = v.den := by
 cases x with
 | tmp t =>
  have ht := h.tm t
  simp only [b9] at hx
  simp only [Act.eval]
  split at hx
  ·rename_i y hy
   split at hx
   ·rename_i hk; simp only [Option.some.injEq, Prod.mk.injEq] at hx; rw [← hx.1]; rw [hy] at ht; exact ch hk ht
   ·simp at hx
  ·rename_i gl' y hy
   split at hx
   ·rename_i hk
    cases hs : ee gl gl' with
    | none => simp [hs] at hx
    | some c =>
     simp only [hs, Option.map_some, Option.some.injEq, Prod.mk.injEq] at hx
     rw [hy] at ht
     rw [← hx.1]; exact ht.1 (kL hs (hx.2 ▸ hc) ho)
   ·simp at hx
  ·simp at hx
 | const v => simp only [b9, Option.some.injEq, Prod.mk.injEq] at hx; rw [← hx.1, jJ]; rfl
 | global n => simp only [b9, Option.some.injEq, Prod.mk.injEq] at hx; rw [← hx.1]; rfl
 | func f => simp only [b9, Option.some.injEq, Prod.mk.injEq] at hx; rw [← hx.1]; rfl
theorem ku (v : Value) : (d5 v).ok := by
 intro a ha
 cases v <;> simp [d5, S1.cells] at ha
 case agg cs => obtain ⟨x, _, rfl⟩ := ha; trivial
 all_goals (subst ha; trivial)
theorem aV {s : SS} (h : s.Ok) {gl : List (At × Bool)} {x : Operand} {v : S1} {cs : List Ck} (hx : b9 s gl x = some (v, cs)) : v.ok := by
 cases x with
 | tmp t =>
  have ht := h.1 t
  simp only [b9] at hx
  split at hx
  ·rename_i y hy
   split at hx
   ·simp only [Option.some.injEq, Prod.mk.injEq] at hx; rw [← hx.1]; rw [hy] at ht; exact ht
   ·simp at hx
  ·split at hx
   ·rename_i gl' y hy hk
    cases hs : ee gl gl' with
    | none => simp [hs] at hx
    | some c => simp only [hs, Option.map_some, Option.some.injEq, Prod.mk.injEq] at hx; rw [← hx.1]; rw [hy] at ht; exact ht
   ·simp at hx
  ·simp at hx
 | const v => simp only [b9, Option.some.injEq, Prod.mk.injEq] at hx; rw [← hx.1]; exact ku v
 | global n =>
  simp only [b9, Option.some.injEq, Prod.mk.injEq] at hx; rw [← hx.1]; intro a ha; simp [S1.cells] at ha; subst ha; trivial
 | func f =>
  simp only [b9, Option.some.injEq, Prod.mk.injEq] at hx; rw [← hx.1]; intro a ha; simp [S1.cells] at ha; subst ha; trivial
theorem g6 {s : SS} {gl : List (At × Bool)} {x : Operand} {a : At} {cs : List Ck} (hx : a5 s gl x = some (a, cs)) : b9 s gl x = some (.at a, cs) := by
 unfold a5 at hx
 split at hx
 ·rename_i b c he; simp only [Option.some.injEq, Prod.mk.injEq] at hx; rw [he, hx.1, hx.2]
 ·simp at hx
theorem ah {F : Own} {s : SS} {H : Heap} {O : Own} {a : Act} {w : World} (h : Conc F s H O a w) {gl : List (At × Bool)} {x : Operand} {v : At} {cs : List Ck}
  (hx : a5 s gl x = some (v, cs)) (hc : AllCk cs) (ho : On (bQ gl)) : a.eval x = v.den := aJ h (g6 hx) hc ho
theorem fo {s : SS} (h : s.Ok) {gl : List (At × Bool)} {x : Operand} {v : At} {cs : List Ck} (hx : a5 s gl x = some (v, cs)) : v.ok :=
 aV h (g6 hx) v (by simp [S1.cells])
theorem eK {s : SS} (h : s.Ok) {gl : List (At × Bool)} : ∀ {xs : List Operand} {vs : List At} {cs : List Ck}, az s gl xs = some (vs, cs) → ∀ a, a ∈ vs → a.ok
 | [], _, _, hx => by simp only [az, Option.some.injEq, Prod.mk.injEq] at hx; rw [← hx.1]; simp
 | x :: r, vs, cs, hx => by
  simp only [az] at hx
  split at hx
  ·rename_i a' c as cs' h1 h2
   simp only [Option.some.injEq, Prod.mk.injEq] at hx
   rw [← hx.1]
   intro a ha
   rcases List.mem_cons.1 ha with rfl | ha
   ·exact fo h h1
   ·exact eK h h2 a ha
  ·simp at hx
theorem aB {F : Own} {s : SS} {H : Heap} {O : Own} {a : Act} {w : World} (h : Conc F s H O a w) {gl : List (At × Bool)} : ∀ {xs : List Operand} {vs : List At} {cs : List Ck},
  az s gl xs = some (vs, cs) → AllCk cs → On (bQ gl) → xs.map a.eval = vs.map At.den
 | [], _, _, hx, _, _ => by simp only [az, Option.some.injEq, Prod.mk.injEq] at hx; rw [← hx.1]; rfl
 | x :: r, vs, cs, hx, hc, ho => by
  simp only [az] at hx
  split at hx
  ·rename_i a' c as cs' h1 h2
   simp only [Option.some.injEq, Prod.mk.injEq] at hx
   rw [← hx.2, AllCk.append] at hc
   rw [← hx.1, List.map_cons, List.map_cons, ah h h1 hc.1 ho, aB h h2 hc.2 ho]
  ·simp at hx
theorem cE {F : Own} {s : SS} {H : Heap} {O : Own} {a : Act} {w : World} (h : Conc F s H O a w) {gl : List (At × Bool)} : ∀ {xs : List Operand} {vs : List S1} {cs : List Ck},
  bV s gl xs = some (vs, cs) → AllCk cs → On (bQ gl) → xs.map a.eval = vs.map S1.den
 | [], _, _, hx, _, _ => by simp only [bV, Option.some.injEq, Prod.mk.injEq] at hx; rw [← hx.1]; rfl
 | x :: r, vs, cs, hx, hc, ho => by
  simp only [bV] at hx
  split at hx
  ·rename_i a' c as cs' h1 h2
   simp only [Option.some.injEq, Prod.mk.injEq] at hx
   rw [← hx.2, AllCk.append] at hc
   rw [← hx.1, List.map_cons, List.map_cons, aJ h h1 hc.1 ho, cE h h2 hc.2 ho]
  ·simp at hx
theorem bg {F : Own} {s : SS} {H : Heap} {O : Own} {a : Act} {w : World} (h : Conc F s H O a w) {ops : Array Oper} {o : Oper} {gl : List (At × Bool)}
  (hg : af (am ops) s o = .go gl) : Region.wanted o (yielded ops a.tmps) = true ↔ On (bQ gl) := by
 unfold af at hg
 split at hg
 ·rename_i e; simp only [GR.go.injEq] at hg; subst hg; simp [Region.wanted, e, bQ, On]
 ·rename_i j want e
  have hy : ∀ t, am ops j = some t → (Region.wanted o (yielded ops a.tmps) = true ↔ a.tmps.getD t undef = .bool want) := by
   intro t ht
   unfold am at ht
   simp only [Region.wanted, e, yielded, ht, Option.bind_some, Array.getD_eq_getD_getElem?]
   cases hv : a.tmps[t]? with
   | none => simp [undef]
   | some v => cases v <;> simp
  split at hg
  ·simp at hg
  ·rename_i t ht
   have htm := h.tm t
   rw [hy t ht]
   split at hg
   ·rename_i b hb
    rw [hb] at htm
    simp only [SV.rel, S1.den, At.den] at htm
    split at hg
    ·rename_i hbw; simp only [GR.go.injEq] at hg; subst hg; simp at hbw; simp [htm, hbw, bQ, On]
    ·simp at hg
   ·simp at hg
   ·rename_i c _ _ hb
    rw [hb] at htm
    split at hg
    ·rename_i hk
     simp only [GR.go.injEq] at hg; subst hg
     have := ch (x := .at c) (by simpa [S1.known, S1.cells] using hk) htm
     rw [this]; simp [bQ, On, S1.den]
    ·simp at hg
   ·rename_i gl' c hb
    rw [hb] at htm
    split at hg
    ·simp only [GR.go.injEq] at hg; subst hg
     rw [jl]
     by_cases ho : On (bQ gl')
     ·rw [htm.1 ho]; simp [S1.den, ho]
     ·rw [htm.2 ho]; simp [undef, ho]
    ·simp at hg
   ·simp at hg
theorem gB {F : Own} {s : SS} {H : Heap} {O : Own} {a : Act} {w : World} (h : Conc F s H O a w) {ops : Array Oper} {o : Oper}
  (hg : af (am ops) s o = .skip) : Region.wanted o (yielded ops a.tmps) = false := by
 unfold af at hg
 split at hg
 ·simp at hg
 ·rename_i j want e
  have hy : ∀ t, am ops j = some t → a.tmps.getD t undef ≠ .bool want → Region.wanted o (yielded ops a.tmps) = false := by
   intro t ht
   unfold am at ht
   simp only [Region.wanted, e, yielded, ht, Option.bind_some, Array.getD_eq_getD_getElem?]
   cases hv : a.tmps[t]? with
   | none => simp
   | some v => cases v <;> simp
  split at hg
  ·simp at hg
  ·rename_i t ht
   have htm := h.tm t
   refine hy t ht ?_
   split at hg
   ·rename_i b hb
    rw [hb] at htm
    simp only [SV.rel, S1.den, At.den] at htm
    split at hg
    ·simp at hg
    ·rename_i hbw; simp at hbw; simpa [htm] using hbw
   ·rename_i vs hb
    rw [hb] at htm
    simp only [SV.rel, S1.den, At.den] at htm
    simp [htm]
   ·split at hg <;> simp at hg
   ·split at hg <;> simp at hg
   ·simp at hg
def FK.pre (P : Program) (k : FK) (H : Heap) (O : Own) (vs : List Value) : Prop :=
 match k with
 | .sil => vs = []
 | .pure gd op args => ∃ v, vs = [v] ∧ (On gd → ag op args = some v) ∧ (gd = [] ∨ v.oneCell' = true)
 | .raw gd op args => ∃ v, vs = [v] ∧ (On gd → ∀ w, (op.sem args).run P w = .ok (.value v) w) ∧ v.oneCell' = true
 | .load gd p m => vs.length = m ∧ Ones vs ∧ (On gd → Reads H O p m vs)
 | .split c => ∃ b, c = .bool b ∧ vs = [.bool b]
 | .isplit c n => ∃ kd i, c = .int kd i ∧ 0 ≤ i ∧ i < n ∧ vs = [.int .i64 i]
def HK.T (P : Program) : HK → Heap → Own → (Value → Heap → Own → Prop) → Prop
 | .call f args => fun H O R => Triple P f args H O R
 | .callv fv args => fun H O R => ∃ f caps, fv = .func (.func f) #[] caps ∧ gm P f ∧ Triple P f (args ++ caps.toList) H O R
 | .callm m x args => fun H O R => ∃ f r, lB P m x f r ∧ gm P f ∧ Triple P f (r :: args) H O R
 | .prim op args => fun H O R => dQ P (op.sem args) H O R
def NF.run (P : Program) (d : Bool) (dst : Option Tmp) (x : NF) (s : SS) (K : SS → Heap → Own → Prop) (H : Heap) (O : Own) : Prop :=
 match x with
 | .fl cs k X => AllCk cs ∧ ∃ vs, k.pre P H O vs ∧ K (s.set dst (X vs)) H O
 | .box cs n T cells val => AllCk cs ∧ ∀ r, K ((s.setBox n (some ⟨r, T, cells⟩)).set dst (.s (.at (val r)))) H O
 | .stb cs n b => AllCk cs ∧ K (s.setBox n (some b)) H O
 | .hv cs k frz own shp post sv => AllCk cs ∧ jO (k.T P) (d && k.isCall') (bvs frz) (bvs own) shp (fun vs css H O => AllCk (post vs) ∧ K (nD dst frz own sv s vs css) H O) H O
 | .st cs p vs => AllCk cs ∧ ∃ O', iE O p vs O' ∧ K s H O'
theorem kA {T T' : Heap → Own → (Value → Heap → Own → Prop) → Prop} {d : Bool} {frz own : List BV} {shp : Shp} {K K' : List Value → List (List Value) → Heap → Own → Prop} {H : Heap} {O : Own}
  (hT : ∀ H O R, T H O R → T' H O R) (hK : ∀ vs cs H O, K vs cs H O → K' vs cs H O) (h : jO T d frz own shp K H O) : jO T' d frz own shp K' H O := by
 intro hcons
 obtain ⟨H1, O1, O2, Q, hg, ht, hk⟩ := h hcons
 exact ⟨H1, O1, O2, Q, hg, hT _ _ _ ht, fun v H' O' hq hle => let ⟨vs, cs, O3, a, b, c, e, k⟩ := hk v H' O' hq hle; ⟨vs, cs, O3, a, b, c, e, hK _ _ _ _ k⟩⟩
def wp1 (P : Program) (ops : Array Oper) (Q : Exit → Act → World → Prop) (o : Oper) (K : Act → World → Prop) (a : Act) (w : World) : Prop :=
 if Region.wanted o (yielded ops a.tmps) then o.wp P a w K Q ∨ (o.asks P a w ∧ LetsOut Q) else K (a.put o.dst undef) w
def Sound (P : Program) (ops : Array Oper) (o : Oper) (s : SS) (x : NF) : Prop :=
 ∀ (F : Own) (H : Heap) (O : Own) (a : Act) (w : World) (d : Bool) (K : SS → Heap → Own → Prop) (Q : Exit → Act → World → Prop),
  Conc F s H O a w → x.run P d o.dst s K H O →
  wp1 P ops Q o (fun a' w' => ∃ s' H' O', Conc F s' H' O' a' w' ∧ Heap.le H H' ∧ K s' H' O') a w
theorem aW {a : At} (h : a.ok) : (S1.at a).ok := by intro b hb; simp [S1.cells] at hb; subst hb; exact h
theorem ga (v : Value) : (S1.at (.k v)).ok := aW trivial
theorem j9 {P : Program} {ops : Array Oper} {o : Oper} {s : SS} (hg : af (am ops) s o = .skip) (hd : ∀ d, o.dst = some d → d < s.sz) :
  Sound P ops o s (.fl [] .sil (fun _ => .s (.at (.k undef)))) := by
 intro F H O a w d K Q hc hr
 obtain ⟨_, vs, _, hk⟩ := hr
 unfold wp1
 rw [if_neg (by simp [gB hc hg])]
 exact ⟨_, H, O, hc.put (sv := .s (.at (.k undef))) hd (show undef = At.den (.k undef) from rfl) (ga undef), Heap.le_refl H, hk⟩
theorem ao {P : Program} {ops : Array Oper} {o : Oper} {s : SS} {gl : List (At × Bool)} {cs : List Ck} {k : FK} {X : List Value → S1}
  (hg : af (am ops) s o = .go gl) (hd : ∀ d, o.dst = some d → d < s.sz)
  (hok : ∀ H O vs, s.Ok → AllCk cs → k.pre P H O vs → (X vs).ok)
  (hrun : ∀ F H O a w vs, Conc F s H O a w → AllCk cs → k.pre P H O vs → On (bQ gl) → (execOp a.eval o).run P w = .ok (.value (X vs).den) w) :
  Sound P ops o s (.fl cs k (fun vs => ge gl (X vs))) := by
 intro F H O a w d K Q hc hr
 obtain ⟨hcs, vs, hp, hk⟩ := hr
 unfold wp1
 by_cases ho : On (bQ gl)
 ·rw [if_pos ((bg hc hg).2 ho)]
  refine .inl ?_
  unfold Oper.wp
  rw [hrun F H O a w vs hc hcs hp ho, Oper.upon_value]
  exact ⟨_, H, O, hc.put hd (jX (fun _ => rfl) (fun h => absurd ho h)) (k6 (hok H O vs hc.ok hcs hp)), Heap.le_refl H, hk⟩
 ·rw [if_neg (fun h => ho ((bg hc hg).1 h))]
  exact ⟨_, H, O, hc.put hd (jX (fun h => absurd h ho) (fun _ => rfl)) (k6 (hok H O vs hc.ok hcs hp)), Heap.le_refl H, hk⟩
theorem jd {op : POp} {args : List Value} {v : Value} (h : ag op args = some v) (ha : op = .pick ∨ op = .aidx → Ones args.tail) : v.oneCell' = true := by
 have hg : ∀ (l : List Value) (i : Nat) (x : Value), Ones l → l[i]? = some x → x.oneCell' = true := by
  intro l
  induction l with
  | nil => intro i x _ hx; simp at hx
  | cons y r ih =>
   intro i x ho hx
   cases i with
   | zero => simp at hx; subst hx; exact ho.1
   | succ i => exact ih i x ho.2 (by simpa using hx)
 have hint : ∀ op k a b v, cu op k a b = some v → v.oneCell' = true := by
  intro op k a b v h
  cases op <;> simp only [cu] at h <;> first
   | (simp at h; done)
   | (simp only [Option.some.injEq] at h; subst h; rfl)
   | (split at h <;> first | (simp at h; done) | (simp only [Option.some.injEq] at h; subst h; rfl))
 have hnil : ∀ op bk x y v, il op bk x y = some v → v.oneCell' = true := by
  intro op bk x y v h
  cases op <;> simp only [il] at h <;> first
   | (simp at h; done)
   | (simp only [Option.map_eq_some_iff] at h; obtain ⟨b, _, rfl⟩ := h; rfl)
 cases op with
 | bin op bk =>
  match args, h with
  | [x, y], h =>
   simp only [ag] at h
   unfold fM at h
   split at h
   ·split at h
    ·unfold cO at h; split at h
     ·simp at h
     ·simp only [Option.some.injEq] at h; subst h; rfl
    ·unfold cO at h; split at h
     ·simp at h
     ·simp only [Option.some.injEq] at h; subst h; rfl
    ·split at h
     ·exact hint _ _ _ _ _ h
     ·simp at h
   ·unfold ik at h
    split at h
    ·split at h
     ·simp at h
     ·simp only [Option.some.injEq] at h; subst h; rfl
    ·simp only [Option.some.injEq] at h; subst h; rfl
    ·simp only [Option.some.injEq] at h; subst h; rfl
    ·simp at h
   ·exact hnil _ _ _ _ _ h
  | [], h => simp [ag] at h
  | [_], h => simp [ag] at h
  | _ :: _ :: _ :: _, h => simp [ag] at h
 | pick =>
  have ho := ha (.inl rfl)
  rcases args with _ | ⟨c, _ | ⟨x, _ | ⟨y, _ | ⟨u, r⟩⟩⟩⟩
  ·simp [ag] at h
  ·simp [ag] at h
  ·simp [ag] at h
  ·cases c <;> simp only [ag, reduceCtorEq, Option.some.injEq] at h
   rename_i b
   cases b
   ·simp only [Bool.false_eq_true, if_false] at h; subst h; exact ho.2.1
   ·simp only [if_true] at h; subst h; exact ho.1
  ·simp [ag] at h
 | aidx =>
  have ho := ha (.inr rfl)
  match args, h, ho with
  | [], h, _ => simp [ag] at h
  | i :: cs, h, ho =>
   simp only [ag, dJ] at h
   split at h
   ·split at h
    ·exact hg _ _ _ ho h
    ·simp at h
   ·simp at h
 | _ =>
  unfold ag at h
  split at h <;> simp_all
  all_goals try (subst h; rfl)
  all_goals first
   | exact hint _ _ _ _ _ h
   | (unfold cP at h; split at h <;> first | (simp at h; done) | (split at h <;> simp at h; subst h; rfl))
   | (unfold dc at h; split at h <;> first | (simp at h; done) | (split at h <;> simp at h; subst h; rfl))
   | (unfold eQ at h; split at h <;> first | (simp at h; done) | (simp only [Option.map_eq_some_iff] at h; obtain ⟨_, _, rfl⟩ := h; rfl))
   | (split at h <;> first | (simp at h; done) | (unfold d3 at h; split at h <;> first | (simp at h; done) | (simp only [Option.map_eq_some_iff] at h; obtain ⟨_, _, rfl⟩ := h; rfl)))
   | (split at h <;> first | (simp at h; done) | (unfold eP at h; split at h <;> first | (simp at h; done) | (simp only [Option.map_eq_some_iff] at h; obtain ⟨_, _, rfl⟩ := h; rfl)))
theorem ab {P : Program} {t : TypeId} {d : TypeDesc} (h : P.underlying t = some d) (w : World) : (underlying t).run P w = .ok d w := by
 simp [underlying, h]
theorem iH {P : Program} {t : TypeId} {m : Nat} (h : bT P t = some m) : ∃ i d, P.info? t = some i ∧ i.size = m ∧ P.underlying t = some d := by
 unfold bT at h
 split at h
 ·rename_i i d h1 h2; exact ⟨i, d, h1, by simpa using h, h2⟩
 ·simp at h
theorem ak {P : Program} {t : TypeId} {m : Nat} (h : bT P t = some m) (w : World) : (sizeOf t).run P w = .ok m w := by
 obtain ⟨i, d, hi, hs, _⟩ := iH h
 simp [sizeOf, typeInfo, hi, hs]
theorem cX {P : Program} {t : TypeId} {m : Nat} (h : bT P t = some m) (w : World) : (isAgg t).run P w = .ok (aG P t) w := by
 obtain ⟨i, d, _, _, hu⟩ := iH h
 unfold isAgg aG
 rw [Sem.run_bind, ab hu w, hu]
 cases d <;> rfl
theorem bN {P : Program} {t : TypeId} {m : Nat} (hs : bT P t = some m) {w : World} {a : Addr} {vs : List Value} (hl : vs.length = m)
  (hc : ∀ j v, vs[j]? = some v → w.cell? (a.add j) = some v) (h1 : aG P t = true ∨ m = 1) :
  (loadVar t a).run P w = .ok (if aG P t then .agg vs.toArray else g vs 0) w := by
 unfold loadVar
 rw [Sem.run_bind, cX hs w]
 simp only [Result.andThen_ok]
 cases hA : aG P t with
 | true =>
  have hl' := run_loadCells_list (P := P) w a vs hc
  rw [hl] at hl'
  simp [Sem.run_bind, ak hs w, hl']
 | false =>
  have hm : m = 1 := h1.resolve_left (by simp [hA])
  match vs, hl with
  | [v], _ =>
   have := hc 0 v rfl
   have h0 : a.add 0 = a := by simp [Addr.add]
   rw [h0] at this
   simp [run_load, this, g]
  | [], hl => simp [hm] at hl
  | _ :: _ :: _, hl => simp [hm] at hl
theorem ir {F : Own} {s : SS} {H : Heap} {O : Own} {a : Act} {w : World} (h : Conc F s H O a w) {n : Nat} {b : Bx} (hb : s.mem n = some b) :
  ∃ vs, CellsRel b.cs vs ∧ w.heap[b.r]? = some (.cells vs.toArray b.T (0, 0)) := by
 obtain ⟨L, hL, hm⟩ := h.mm
 obtain ⟨vs, L', hv, hp, _⟩ := hL.take hb
 refine ⟨vs, hv, ?_⟩
 have := (hm.perm (hp.append_right _)).own (b.r, .cells vs.toArray b.T (0, 0)) (by simp)
 exact this.1
theorem aK (r off j : Nat) : (⟨r, off, none⟩ : Addr).add j = ⟨r, off + j, none⟩ := by
 unfold Addr.add; split <;> simp_all
theorem ly (a : Addr) (i j : Nat) : (a.add i).add j = a.add (i + j) := by
 cases a
 by_cases hi : i = 0 <;> by_cases hj : j = 0 <;> simp [Addr.add, hi, hj, Nat.add_assoc]
theorem bR {w : World} {r : Nat} {vs : List Value} {T : TypeId} (h : w.heap[r]? = some (.cells vs.toArray T (0, 0))) (off : Nat) {m : Nat} :
  ∀ j v, ((vs.drop off).take m)[j]? = some v → w.cell? ((⟨r, off, none⟩ : Addr).add j) = some v := by
 intro j v hv
 rw [aK, cell_of_row w r (off + j) _ T _ h]
 rw [List.getElem?_take] at hv
 split at hv
 ·rw [List.getElem?_drop] at hv; simpa using hv
 ·simp at hv
theorem hX {α β : Type} {f : α → Option β} : ∀ {l : List α} {r : List β}, l.mapM f = some r → ∀ (j : Nat) (v : β), r[j]? = some v → ∃ a, l[j]? = some a ∧ f a = some v
 | [], r, h, j, v, hv => by simp at h; subst h; simp at hv
 | a :: l, r, h, j, v, hv => by
  simp only [List.mapM_cons, Option.pure_def, Option.bind_eq_bind] at h
  cases ha : f a with
  | none => simp [ha] at h
  | some b =>
   simp only [ha, Option.bind_some] at h
   cases hl : l.mapM f with
   | none => simp [hl] at h
   | some bs =>
    simp only [hl, Option.bind_some, Option.some.injEq] at h
    subst h
    cases j with
    | zero => simp at hv; subst hv; exact ⟨a, rfl, ha⟩
    | succ j => simpa using hX hl j v (by simpa using hv)
theorem ju {w : World} {H : Heap} {O L : Own} {p : Value} {m : Nat} {vs : List Value} (h : Reads H O p m vs) (hm : Models w H L) (hs : ∀ x, x ∈ O → x ∈ L) (h0 : 0 < m) :
  ∃ a, p = .pointer (some a) ∧ ∀ j v, vs[j]? = some v → w.cell? (a.add j) = some v := by
 rcases h with h | ⟨a, cs, T, rfl, hsp, hin, hv, _⟩
 ·unfold Heap.read at h
  split at h
  ·rename_i a
   refine ⟨a, rfl, fun j v hv => ?_⟩
   obtain ⟨i, hi, hc⟩ := hX h j v hv
   have : i = j := by
    rw [List.getElem?_eq_some_iff] at hi
    obtain ⟨_, hi⟩ := hi
    simpa using hi.symm
   subst this
   exact hm.cell? hc
  ·simp at h
 ·refine ⟨a, rfl, fun j v hj => ?_⟩
  have hrow := (hm.own _ (hs _ hin)).1
  rw [← hv] at hj
  have ha : a = ⟨a.block, a.off, none⟩ := by cases a; simp_all
  rw [ha]
  have := bR (vs := cs.toList) (T := T) (by simpa using hrow) a.off (m := m) j v hj
  exact this
theorem f0 {vs : List Value} {m : Nat} (h : vs.length = m) : (atsFrom vs 0 m).map At.den = vs := by
 have := (CellsRel.atsFrom h).known (by simp [atsFrom, At.known])
 exact this.symm
theorem Ones.get : ∀ {vs : List Value}, Ones vs → ∀ i, i < vs.length → (g vs i).oneCell' = true
 | [], _, i, h => by simp at h
 | v :: _, h, 0, _ => h.1
 | _ :: r, h, i + 1, hi => by simpa [g] using Ones.get (vs := r) h.2 i (by simpa using hi)
theorem cY {vs : List Value} {i m : Nat} (h : i + m ≤ vs.length) (ho : Ones vs) : ∀ a, a ∈ atsFrom vs i m → a.ok := by
 intro a ha
 simp only [atsFrom, List.mem_map, List.mem_range] at ha
 obtain ⟨j, hj, rfl⟩ := ha
 exact ho.get _ (by omega)
variable {P : Program} {ops : Array Oper} {o : Oper} {s : SS} {gl : List (At × Bool)}
theorem iZ {t : TypeId} {x : Operand} {y : At} {cs : List Ck} {nfp : NF × FP} (ho : o.op = .load t x) (hx : a5 s gl x = some (y, cs))
    (hg : af (am ops) s o = .go gl) (hd : ∀ d, o.dst = some d → d < s.sz) (h : dF P s gl o.dst t y cs = some nfp) : Sound P ops o s nfp.1 := by
  unfold dF at h
  cases hm : bT P t with
  | none => simp [hm] at h
  | some m =>
    simp only [hm, Option.bind_some] at h
    have far : (aG P t = true ∨ m = 1) → Sound P ops o s (.fl cs (.load (bQ gl) y.den m) (fun vs => ge gl (if aG P t then .agg (atsFrom vs 0 m) else .at (.v (g vs 0))))) := by
      intro h1
      refine ao (X := fun vs => if aG P t then .agg (atsFrom vs 0 m) else .at (.v (g vs 0))) hg hd ?_ ?_
      · intro H O vs _ _ ⟨hl, hone, _⟩
        split
        · exact cY (by omega) hone
        · rename_i hA
          have : m = 1 := h1.resolve_left hA
          exact aW (hone.get 0 (by omega))
      · intro F H O a w vs hc hcs ⟨hl, hone, hr⟩ hon
        have he := ah hc hx hcs hon
        have hr := hr hon
        by_cases h0 : m = 0
        · have hA : aG P t = true := h1.resolve_right (by omega)
          obtain ⟨b, hb⟩ : ∃ b, y.den = .pointer (some b) := by
            rcases hr with hr | ⟨b, _, _, hb, _⟩
            · unfold Heap.read at hr; split at hr
              · rename_i b hb; exact ⟨b, hb⟩
              · simp at hr
            · exact ⟨b, hb⟩
          have hv : vs = [] := List.eq_nil_of_length_eq_zero (by omega)
          subst hv
          have := bN (P := P) hm (w := w) (a := b) (vs := []) (by simpa using h0.symm) (by simp) (.inl hA)
          simp only [execOp, ho, he, hb, Instr.loadAt, Instr.sureAddr, Sem.run_bind, Sem.run_pure, Result.andThen_ok, this, hA, if_true]
          simp [S1.den, atsFrom, h0]
        · obtain ⟨L, hL, hmod⟩ := hc.mm
          obtain ⟨b, hb, hcell⟩ := ju hr hmod (fun x hx => by simp [hx]) (by omega)
          have := bN (P := P) hm (w := w) (a := b) (vs := vs) hl hcell h1
          simp only [execOp, ho, he, hb, Instr.loadAt, Instr.sureAddr, Sem.run_bind, Sem.run_pure, Result.andThen_ok, this]
          cases hA : aG P t with
          | true => simp [S1.den, f0 hl]
          | false => simp [S1.den, At.den]
    have near : ∀ {n r off : Nat} {b : Bx} {v : S1}, y = .p n r off → s.mem n = some b → ((b.cs.drop off).take m).length = m → ((b.cs.drop off).take m).all At.known = true →
        kD P t ((b.cs.drop off).take m) = some v → Sound P ops o s (.fl (.eqN r b.r :: cs) .sil (fun _ => ge gl v)) := by
      intro n r off b v hy hb hlen hk hv
      refine ao (X := fun _ => v) hg hd ?_ ?_
      · intro H O vs hok _ _ a ha
        have : ∀ a, a ∈ v.cells → a ∈ b.cs := by
          intro a ha
          unfold kD at hv
          split at hv
          · simp only [Option.some.injEq] at hv; subst hv; exact List.mem_of_mem_drop (List.mem_of_mem_take ha)
          · split at hv
            · rename_i a' he; simp only [Option.some.injEq] at hv; subst hv
              simp [S1.cells] at ha; subst ha
              have : a ∈ (b.cs.drop off).take m := by rw [he]; simp
              exact List.mem_of_mem_drop (List.mem_of_mem_take this)
            · simp at hv
        exact hok.2 n b hb a (this a ha)
      · intro F H O a w vs hc hcs _ hon
        have he := ah hc hx hcs.2 hon
        have hr : r = b.r := hcs.1
        obtain ⟨us, hus, hrow⟩ := ir hc hb
        have hcells := ((hus.drop off).take m).known hk
        have hlen' : ((us.drop off).take m).length = m := by rw [hcells]; simpa using hlen
        have h1 : aG P t = true ∨ m = 1 := by
          unfold kD at hv
          split at hv
          · rename_i hA; exact .inl hA
          · split at hv
            · rename_i a' he'; rw [he'] at hlen; exact .inr (by simpa using hlen.symm)
            · simp at hv
        have := bN (P := P) hm (w := w) (a := ⟨b.r, off, none⟩) hlen' (bR hrow off) h1
        simp only [execOp, ho, he, hy, At.den, hr, Instr.loadAt, Instr.sureAddr, Sem.run_bind, Sem.run_pure, Result.andThen_ok, this]
        rw [hcells]
        unfold kD at hv
        split at hv
        · rename_i hA; simp only [Option.some.injEq] at hv; subst hv; simp [hA, S1.den]
        · rename_i hA
          split at hv
          · rename_i a' he'; simp only [Option.some.injEq] at hv; subst hv
            have hA' : aG P t = false := by simpa using hA
            rw [he']; simp [hA', S1.den, g]
          · simp at hv
    split at h
    · rename_i n r off
      split at h
      · rename_i b hb
        split at h
        · rename_i hcond
          simp only [Bool.and_eq_true, decide_eq_true_eq] at hcond
          simp only [Option.map_eq_some_iff] at h
          obtain ⟨v, hv, rfl⟩ := h
          exact near rfl hb hcond.1 hcond.2 hv
        · simp at h
      · split at h
        · simp at h
        · rename_i hcond
          simp only [Option.some.injEq] at h; subst h
          refine far ?_
          simp only [Bool.and_eq_true, Bool.not_eq_true', bne_iff_ne, ne_eq, not_and, Decidable.not_not] at hcond
          cases hA : aG P t with
          | true => exact .inl rfl
          | false => exact .inr (hcond hA)
    all_goals first
      | (simp at h; done)
      | (split at h
         · simp at h
         · rename_i hcond
           simp only [Option.some.injEq] at h; subst h
           refine far ?_
           simp only [Bool.and_eq_true, Bool.not_eq_true', bne_iff_ne, ne_eq, not_and, Decidable.not_not] at hcond
           cases hA : aG P t with
           | true => exact .inl rfl
           | false => exact .inr (hcond hA))
theorem iP : ∀ {as : List At} {vs : List Value}, as.mapM fi = some vs → as.map At.den = vs
 | [], vs, h => by simp at h; subst h; rfl
 | a :: r, vs, h => by
  simp only [List.mapM_cons, Option.pure_def, Option.bind_eq_bind] at h
  cases ha : fi a with
  | none => simp [ha] at h
  | some b =>
   simp only [ha, Option.bind_some] at h
   cases hl : r.mapM fi with
   | none => simp [hl] at h
   | some bs =>
    simp only [hl, Option.bind_some, Option.some.injEq] at h
    subst h
    rw [List.map_cons, iP hl]
    unfold fi at ha
    split at ha <;> simp at ha <;> subst ha <;> rfl
theorem j0 {as : List At} (hf : ∀ a, a ∈ as → a.fit = true) (ho : ∀ a, a ∈ as → a.ok) : Ones (as.map At.den) := by
 induction as with
 | nil => trivial
 | cons a r ih => exact ⟨At.fit_one (hf a (by simp)) (ho a (by simp)), ih (fun b hb => hf b (by simp [hb])) (fun b hb => ho b (by simp [hb]))⟩
variable {P : Program} {ops : Array Oper} {o : Oper} {s : SS} {gl : List (At × Bool)}
theorem al {total : Bool} {op : POp} {as : List At} {cs : List Ck}
  (hg : af (am ops) s o = .go gl) (hd : ∀ d, o.dst = some d → d < s.sz)
  (hfit : op = .pick ∨ op = .aidx → Ones (as.map At.den).tail ∨ ¬ s.Ok)
  (hexec : ∀ F H O a w v, Conc F s H O a w → AllCk cs → On (bQ gl) → ag op (as.map At.den) = some v → (execOp a.eval o).run P w = .ok (.value v) w) :
  Sound P ops o s (aM gl total o.dst op as cs) := by
 unfold aM
 split
 ·rename_i v hv
  unfold mf at hv
  simp only [Option.bind_eq_some_iff] at hv
  obtain ⟨vs, hvs, hev⟩ := hv
  refine ao (X := fun _ => .at (.k v)) hg hd (fun _ _ _ _ _ _ => ga v) ?_
  intro F H O a w _ hc hcs _ hon
  exact hexec F H O a w v hc hcs hon (by rw [iP hvs]; exact hev)
 ·refine ao (X := fun vs => .at (.v (g vs 0))) hg hd ?_ ?_
  ·rintro H O vs hok _ ⟨v, rfl, he, hone⟩
   refine aW ?_
   show v.oneCell' = true
   rcases hone with h0 | h1
   ·have he := he (by rw [h0]; trivial)
    exact jd he (fun h => (hfit h).resolve_right (fun hn => hn hok))
   ·exact h1
  ·rintro F H O a w vs hc hcs ⟨v, rfl, he, _⟩ hon
   exact hexec F H O a w v hc hcs hon (he (by cases total <;> simp [hon, On]))
theorem cC {op : BinOp} {t : TypeId} {x y : Operand} {X Y : Value} (h : ¬ (X = .nilIface ∧ Y = .nilIface)) (h' : ∀ a b, ¬ (X = .agg a ∧ Y = .agg b)) (w : World) :
    (eqGuard op t x y X Y).run P w = .ok () w := by
  unfold eqGuard
  cases op <;> first
    | rfl
    | (simp only [Bool.not_true, Bool.false_eq_true, if_false]
       split
       · exact absurd ⟨rfl, rfl⟩ h
       · exact absurd ⟨rfl, rfl⟩ (h' _ _)
       · rfl)

theorem mT {op : BinOp} {t : TypeId} {k : IntKind} {a b : Int} {v : Value} (hs : op ≠ .shl) (hs' : op ≠ .shr) (h : cu op k a b = some v) (w : World) :
    (binOp op t (.int k a) (.int k b)).run P w = .ok v w := by
  cases op <;> simp only [cu] at h <;> first
    | (simp at h; done)
    | exact absurd rfl hs
    | exact absurd rfl hs'
    | (simp only [Option.some.injEq] at h; subst h; simp [binOp, Op.intArith, Op.intCmp, Op.intBits]; done)
    | (split at h
       · simp at h
       · rename_i h0; simp only [Option.some.injEq] at h; subst h; simp [binOp, Op.intDiv, h0])

theorem iL {op : BinOp} {t : TypeId} {k k' : IntKind} {a b : Int} {v : Value} (h : cO op k a b = some v) (hs : op = .shl ∨ op = .shr) (w : World) :
  (binOp op t (.int k a) (.int k' b)).run P w = .ok v w := by
 unfold cO at h
 split at h
 ·simp at h
 ·rename_i h0
  rcases hs with rfl | rfl <;> simp only [Option.some.injEq] at h <;> subst h <;> simp [binOp, Op.shift, h0]
theorem mS {op : BinOp} {t : TypeId} {a b : ByteArray} {v : Value} (h : ik op a b = some v) (w : World) :
  (binOp op t (.string a) (.string b)).run P w = .ok v w := by
 unfold ik at h
 split at h
 ·split at h
  ·simp at h
  ·rename_i h0
   simp only [Option.some.injEq] at h; subst h
   simp only [binOp, Op.stringOp, if_neg h0]; rfl
 ·simp only [Option.some.injEq] at h; subst h; simp [binOp, Op.stringOp]
 ·simp only [Option.some.injEq] at h; subst h; simp [binOp, Op.stringOp]
 ·simp at h
def BK.fits : BK → TypeDesc → Prop
 | .int, .int _ | .bool, .bool | .str, .string | .slice, .slice _ | .ptr, .pointer _ | .map, .map _ _ | .func, .func _ _ _ => True
 | _, _ => False
theorem m8 {t : TypeId} {bk : BK} (h : nH P t = some bk) : ∃ d, P.underlying t = some d ∧ bk.fits d := by
 unfold nH at h
 split at h <;> first
  | (simp at h; done)
  | (rename_i e; simp only [Option.some.injEq] at h; subst h; exact ⟨_, e, trivial⟩)
theorem e8 {t : TypeId} {bk : BK} {d : TypeDesc} (hd : P.underlying t = some d) (hm : bk.fits d) {x y : Value} {r : Bool} (h : lD bk x y = some r) (n : Nat) (w : World) :
  (Op.equalIn (n + 1) t x y).run P w = .ok r w := by
 simp only [Op.equalIn, Sem.run_bind, ab hd w, Result.andThen_ok]
 unfold lD at h
 split at h <;> simp only [Option.some.injEq, reduceCtorEq] at h <;> subst h <;> cases d <;> simp_all [BK.fits]
 all_goals first
  | rfl
  | (rename_i b _ _ _; cases b <;> rfl)
  | (rename_i b _ _; cases b <;> rfl)
  | (rename_i b _; cases b <;> rfl)
  | (rename_i b; cases b <;> rfl)
  | skip
theorem gY {t : TypeId} {bk : BK} {d : TypeDesc} (hd : P.underlying t = some d) (hm : bk.fits d) {x y : Value} {r : Bool} (h : lD bk x y = some r) (w : World) :
  (Op.equal t x y).run P w = .ok r w := e8 hd hm h 9999 w
theorem mU {op : BinOp} {t : TypeId} {bk : BK} (hb : nH P t = some bk) {x y : Operand} {X Y : Value} {v : Value} (h : fM op bk X Y = some v) (w : World) :
  (do eqGuard op t x y X Y; binOp op t X Y : Sem Value).run P w = .ok v w := by
 unfold fM at h
 split at h
 ·rename_i k a k' b
  rw [Sem.run_bind, cC (by simp) (by simp) w, Result.andThen_ok]
  split at h
  ·exact iL h (.inl rfl) w
  ·exact iL h (.inr rfl) w
  ·rename_i h1 h2
   split at h
   ·rename_i e; subst e; exact mT h1 h2 h w
   ·simp at h
 ·rw [Sem.run_bind, cC (by simp) (by simp) w, Result.andThen_ok]
  exact mS h w
 ·obtain ⟨d, hd, hm⟩ := m8 hb
  have key : ∀ r, lD bk X Y = some r → (eqGuard op t x y X Y).run P w = .ok () w ∧ (Op.equal t X Y).run P w = .ok r w ∧
    (binOp .eql t X Y = do pure (.bool (← Op.equal t X Y))) ∧ (binOp .neq t X Y = do pure (.bool (!(← Op.equal t X Y)))) := by
   intro r hr
   refine ⟨cC ?_ ?_ w, gY hd hm hr w, ?_, ?_⟩
   ·rintro ⟨rfl, rfl⟩; unfold lD at hr; split at hr <;> simp_all
   ·rintro a b ⟨rfl, rfl⟩; unfold lD at hr; split at hr <;> simp_all
   ·unfold lD at hr; split at hr <;> simp_all [binOp]
   ·unfold lD at hr; split at hr <;> simp_all [binOp]
  unfold il at h
  split at h
  ·simp only [Option.map_eq_some_iff] at h
   obtain ⟨r, hr, rfl⟩ := h
   obtain ⟨h1, h2, h3, _⟩ := key r hr
   rw [Sem.run_bind, h1, Result.andThen_ok, h3, Sem.run_bind, h2]; rfl
  ·simp only [Option.map_eq_some_iff] at h
   obtain ⟨r, hr, rfl⟩ := h
   obtain ⟨h1, h2, _, h4⟩ := key r hr
   rw [Sem.run_bind, h1, Result.andThen_ok, h4, Sem.run_bind, h2]; rfl
  ·simp at h
variable {P : Program} {ops : Array Oper} {o : Oper} {s : SS} {gl : List (At × Bool)}
theorem kT {t elem : TypeId} {size : Nat} (hu : P.underlying t = some (.slice elem)) (hs : bT P elem = some size) {x i v : Value} (h : cP size x i = some v) (w : World) :
  (Instr.indexAt t x i).run P w = .ok v w := by
 unfold cP at h
 split at h
 ·rename_i a len c k n
  split at h
  ·rename_i hb
   simp only [Option.some.injEq] at h; subst h
   simp [Instr.indexAt, asIntOf, ab hu, ak hs, hb]
  ·simp at h
 ·simp at h
theorem jR {t elem : TypeId} {len size : Nat} (hu : P.underlying t = some (.array len elem)) (hs : bT P elem = some size) {x i v : Value} (h : dc len size x i = some v) (w : World) :
  (Instr.indexAt t x i).run P w = .ok v w := by
 unfold dc at h
 split at h
 ·rename_i a k n
  split at h
  ·rename_i hb
   simp only [Option.some.injEq] at h; subst h
   simp [Instr.indexAt, asIntOf, ab hu, ak hs, hb, Instr.sureAddr]
  ·simp at h
 ·simp at h
theorem lP {t : TypeId} (hu : P.underlying t = some .string) {x i v : Value} (h : eQ x i = some v) (w : World) : (Instr.index t x i).run P w = .ok v w := by
 unfold eQ at h
 split at h
 ·rename_i sb k n
  simp only [Option.map_eq_some_iff] at h
  obtain ⟨b, hb, rfl⟩ := h
  simp only [Instr.index, asIntOf, Sem.run_bind, Sem.run_pure, Result.andThen_ok, ab hu, hb]
 ·simp at h
theorem jT {t elem : TypeId} {len : Nat} {cs : List Value} (hu : P.underlying t = some (.array len elem)) (hs : bT P elem = some 1) (hA : aG P elem = false) (hl : cs.length = len)
  {i v : Value} (h : dJ i cs = some v) (w : World) : (Instr.index t (.agg cs.toArray) i).run P w = .ok v w := by
 unfold dJ at h
 split at h
 ·rename_i k n
  split at h
  ·rename_i hb
   rw [hl] at hb
   simp only [Instr.index, asIntOf, Sem.run_bind, Sem.run_pure, Result.andThen_ok, ab hu, if_pos hb, ak hs, part, cX hs, hA, Nat.mul_one]
   have : cs.toArray[n.toNat]? = some v := by simpa using h
   simp [this]
  ·simp at h
 ·simp at h
theorem kS {t ty e : TypeId} {x v : Value} (hu : P.underlying t = some (.slice e)) (h : ag .len [x] = some v) (w : World) :
  (Builtin.len_ #[t] ty #[x]).run P w = .ok v w := by
 cases x <;> simp [ag] at h
 subst h
 simp [Builtin.len_, ab hu]
theorem lO {t ty : TypeId} {x v : Value} (hu : P.underlying t = some .string) (h : ag .slen [x] = some v) (w : World) :
  (Builtin.len_ #[t] ty #[x]).run P w = .ok v w := by
 cases x <;> simp [ag] at h
 subst h
 simp [Builtin.len_, ab hu]
theorem lQ {t ty e : TypeId} {n : Nat} {x : Value} (hu : P.underlying t = some (.array n e)) (w : World) :
  (Builtin.len_ #[t] ty #[x]).run P w = .ok (goInt n) w := by
 simp [Builtin.len_, ab hu]
theorem kU {t ty e : TypeId} {x v : Value} (hu : P.underlying t = some (.slice e)) (h : ag .cap [x] = some v) (w : World) :
  (Builtin.cap_ #[t] ty #[x]).run P w = .ok v w := by
 cases x <;> simp [ag] at h
 subst h
 simp [Builtin.cap_, ab hu]
theorem a8 {v : Value} {y n : Nat} (h : jj v y = some n) (code : BoundsCode) (w : World) : (Instr.sliceBound v y code).run P w = .ok n w := by
 unfold jj asI at h
 cases v <;> simp at h
 rename_i k i
 obtain ⟨hb, rfl⟩ := h
 simp [Instr.sliceBound, asIntOf, hb]
theorem ed {isSlice : Bool} {len cap l h m : Nat} {lo hi mx : Option Value} (hb : bj len cap lo hi mx = some (l, h, m)) (w : World) :
  (Instr.sliceBounds isSlice len cap lo hi mx).run P w = .ok (l, h, m) w := by
 unfold bj at hb
 simp only [Option.bind_eq_some_iff, Option.some.injEq, Prod.mk.injEq] at hb
 obtain ⟨m', hm, h', hh, l', hl, rfl, rfl, rfl⟩ := hb
 cases mx with
 | none =>
  simp only [aD, Option.some.injEq] at hm; subst hm
  cases hi with
  | none =>
   simp only [bf, Option.isSome_none, Bool.false_eq_true, if_false, Option.some.injEq] at hh; subst hh
   cases lo with
   | none => simp only [aD, Option.some.injEq] at hl; subst hl; rfl
   | some v => simp only [aD] at hl; simp [Instr.sliceBounds, a8 hl]
  | some u =>
   simp only [bf] at hh
   cases lo with
   | none => simp only [aD, Option.some.injEq] at hl; subst hl; simp [Instr.sliceBounds, a8 hh]
   | some v => simp only [aD] at hl; simp [Instr.sliceBounds, a8 hh, a8 hl]
 | some x =>
  simp only [aD] at hm
  cases hi with
  | none => simp [bf] at hh
  | some u =>
   simp only [bf] at hh
   cases lo with
   | none => simp only [aD, Option.some.injEq] at hl; subst hl; simp [Instr.sliceBounds, a8 hm, a8 hh]
   | some v => simp only [aD] at hl; simp [Instr.sliceBounds, a8 hm, a8 hh, a8 hl]
theorem kR {t elem : TypeId} {size : Nat} (hu : P.underlying t = some (.slice elem)) (hs : bT P elem = some size) {x v : Value} {lo hi mx : Option Value} (h : d3 size x lo hi mx = some v) (w : World) :
  (Instr.sliceAt t x lo hi mx).run P w = .ok v w := by
 unfold d3 at h
 split at h
 ·rename_i a len c
  simp only [Option.map_eq_some_iff] at h
  obtain ⟨⟨l, hh, m⟩, hb, rfl⟩ := h
  simp only [Instr.sliceAt, Sem.run_bind, ab hu, Result.andThen_ok, Instr.slice, ed hb, ak hs]
  rfl
 ·simp at h
theorem lN {t : TypeId} (hu : P.underlying t = some .string) {x v : Value} {lo hi : Option Value} (h : eP x lo hi = some v) (w : World) :
  (Instr.sliceAt t x lo hi none).run P w = .ok v w := by
 unfold eP at h
 split at h
 ·rename_i sb
  simp only [Option.map_eq_some_iff] at h
  obtain ⟨⟨l, hh, m⟩, hb, rfl⟩ := h
  simp only [Instr.sliceAt, Sem.run_bind, ab hu, Result.andThen_ok, Instr.slice, Option.isSome_none, Bool.false_eq_true, if_false, ed hb, Sem.run_pure]
 ·simp at h
theorem iK {t elem : TypeId} {n size l h m : Nat} (hu : P.underlying t = some (.array n elem)) (hs : bT P elem = some size) {r off : Nat} {lo hi mx : Option Value}
  (hb : bj n n lo hi mx = some (l, h, m)) (w : World) :
  (Instr.sliceAt t (.pointer (some ⟨r, off, none⟩)) lo hi mx).run P w = .ok (.slice (some (if m = l then ⟨r, off, none⟩ else ⟨r, off + l * size, none⟩)) (h - l) (m - l)) w := by
 simp only [Instr.sliceAt, Sem.run_bind, ab hu, Result.andThen_ok, Instr.sureAddr, Sem.run_pure, ed hb, ak hs, aK]
theorem ep {t : TypeId} {f : Nat} {fd : Field} (h : dp P t f = some fd) : ∃ fs, P.underlying t = some (.struct fs) ∧ fs[f]? = some fd := by
 unfold dp at h
 split at h
 ·rename_i fs e; exact ⟨fs, e, h⟩
 ·simp at h
theorem jr {t : TypeId} {f : Nat} {fd : Field} {m : Nat} (hf : dp P t f = some fd) (hs : bT P fd.type = some m) (hm : m ≠ 0) (a : Addr) (w : World) :
  (Instr.fieldAt t (.pointer (some a)) f).run P w = .ok (.pointer (some (a.add fd.offset))) w := by
 obtain ⟨fs, hu, hfd⟩ := ep hf
 simp [Instr.fieldAt, ab hu, hfd, Instr.sureAddr, fieldPlace, ak hs, hm]
theorem jS {t : TypeId} {m : Nat} {cs : List At} {off : Nat} {v : S1} (h : dB P t cs off = some v) (w : World) (_hm : bT P t = some m) :
  (part t (cs.map At.den).toArray off).run P w = .ok v.den w := by
 unfold dB at h
 rw [_hm] at h
 simp only [Option.bind_some] at h
 split at h
 ·rename_i hl
  unfold kD at h
  unfold part
  rw [Sem.run_bind, cX _hm, Result.andThen_ok]
  split at h
  ·rename_i hA
   simp only [Option.some.injEq] at h; subst h
   simp [hA, ak _hm, S1.den]
  ·rename_i hA
   have hA' : aG P t = false := by simpa using hA
   split at h
   ·rename_i a he
    simp only [Option.some.injEq] at h; subst h
    have hget : cs[off]? = some a := by
     have : (List.take m (cs.drop off))[0]? = some a := by rw [he]; rfl
     have h0 : 0 < m := by rw [he] at hl; simp at hl; omega
     simpa [List.getElem?_take, h0] using this
    simp [hA', hget, S1.den]
   ·simp at h
 ·simp at h
theorem fk {t : TypeId} {cs : List At} {off : Nat} {v : S1} (h : dB P t cs off = some v) : ∃ m, bT P t = some m := by
 unfold dB at h
 cases hm : bT P t with
 | none => simp [hm] at h
 | some m => exact ⟨m, rfl⟩
theorem gp {t : TypeId} {cs : List At} {off : Nat} {v : S1} (h : dB P t cs off = some v) : ∀ a, a ∈ v.cells → a ∈ cs := by
 unfold dB at h
 cases hm : bT P t with
 | none => simp [hm] at h
 | some m =>
  simp only [hm, Option.bind_some] at h
  split at h
  ·unfold kD at h
   split at h
   ·simp only [Option.some.injEq] at h; subst h
    intro a ha; exact List.mem_of_mem_drop (List.mem_of_mem_take ha)
   ·split at h
    ·rename_i a he
     simp only [Option.some.injEq] at h; subst h
     intro b hb; simp [S1.cells] at hb; subst hb
     have : b ∈ (cs.drop off).take m := by rw [he]; simp
     exact List.mem_of_mem_drop (List.mem_of_mem_take this)
    ·simp at h
  ·simp at h
theorem fU {v : S1} (hf : v.cells.all At.fit = true) (ho : v.ok) : v.den.cells = (v.cells.map At.den).toArray := by
 rcases v with a | l
 ·have h1 : a.den.oneCell' = true := At.fit_one (by simpa [S1.cells] using hf) (ho a (by simp [S1.cells]))
  simp only [S1.den, S1.cells, List.map_cons, List.map_nil]
  cases hd : a.den <;> simp_all [Value.cells, Value.oneCell']
 ·rfl
theorem lr (vs : List Value) : ∀ (off : Nat) (cells : List Value), off + vs.length ≤ cells.length →
  (vs.zipIdx.foldl (fun (cs : Array Value) (p : Value × Nat) => cs.setIfInBounds (off + p.2) p.1) cells.toArray) = (cells.take off ++ vs ++ cells.drop (off + vs.length)).toArray := by
 have gen : ∀ (vs : List Value) (k off : Nat) (cells : List Value), off + k + vs.length ≤ cells.length →
   ((vs.zipIdx k).foldl (fun (cs : Array Value) (p : Value × Nat) => cs.setIfInBounds (off + p.2) p.1) cells.toArray) = (cells.take (off + k) ++ vs ++ cells.drop (off + k + vs.length)).toArray := by
  intro vs
  induction vs with
  | nil => intro k off cells _; simp
  | cons v r ih =>
   intro k off cells h
   simp only [List.length_cons] at h
   simp only [List.zipIdx_cons, List.foldl_cons, List.setIfInBounds_toArray]
   have hlen : (cells.set (off + k) v).length = cells.length := by simp
   have := ih (k + 1) off (cells.set (off + k) v) (by simp; omega)
   rw [this]
   congr 1
   have e1 : (cells.set (off + k) v).take (off + (k + 1)) = cells.take (off + k) ++ [v] := by
    apply List.ext_getElem?
    intro i
    by_cases hi : i < off + k
    ·rw [List.getElem?_take, if_pos (by omega), List.getElem?_set_ne (by omega), List.getElem?_append_left (by simp; omega), List.getElem?_take, if_pos hi]
    ·by_cases he : i = off + k
     ·subst he
      rw [List.getElem?_take, if_pos (by omega), List.getElem?_set_self (by omega), List.getElem?_append_right (by simp; omega)]
      have : off + k - (cells.take (off + k)).length = 0 := by simp; omega
      rw [this]; rfl
     ·rw [List.getElem?_take, if_neg (by omega), List.getElem?_eq_none (by simp; omega)]
   have e2 : (cells.set (off + k) v).drop (off + (k + 1) + r.length) = cells.drop (off + k + (r.length + 1)) := by
    rw [List.drop_set_of_lt (by omega)]; congr 1; omega
   rw [e1, e2]; simp
 intro off cells h
 simpa using gen vs 0 off cells (by simpa using h)
theorem eN {F : Own} {H : Heap} {O : Own} {a : Act} {w : World} (hc : Conc F s H O a w) {place : Nat → Option (Nat × Nat)} (hon : On (bQ gl)) :
  ∀ {parts : List (Nat × Operand)} {cells out : List At} {cs : List Ck}, aC s gl place parts cells = some (out, cs) → AllCk cs →
   Instr.fill place (cells.map At.den).toArray (parts.map fun p => (p.1, a.eval p.2)) = some (out.map At.den).toArray
 | [], cells, out, cs, h, _ => by simp only [aC, Option.some.injEq, Prod.mk.injEq] at h; rw [← h.1]; rfl
 | (i, x) :: r, cells, out, cs, h, hcs => by
  simp only [aC] at h
  split at h
  ·rename_i off size v c hp hx
   split at h
   ·rename_i hcond
    simp only [Bool.and_eq_true, decide_eq_true_eq] at hcond
    obtain ⟨hcond, hfit⟩ := hcond
    simp only [Option.map_eq_some_iff] at h
    obtain ⟨⟨cs', c'⟩, hr, he⟩ := h
    simp only [Prod.mk.injEq] at he
    obtain ⟨rfl, rfl⟩ := he
    rw [AllCk.append] at hcs
    have hv := aJ hc hx hcs.1 hon
    have hcells : v.den.cells = (v.cells.map At.den).toArray := by
     have hok := aV hc.ok hx
     exact fU hfit hok
    simp only [List.map_cons, Instr.fill, hp, hv, hcells]
    have hsz : (v.cells.map At.den).toArray.size = size := by simp [hcond.1]
    have : (decide ((v.cells.map At.den).toArray.size ≠ size) || decide (off + (v.cells.map At.den).toArray.size > (cells.map At.den).toArray.size)) = false := by
     simp only [List.size_toArray, List.length_map, Bool.or_eq_false_iff, decide_eq_false_iff_not]; omega
    rw [this]
    simp only [Bool.false_eq_true, if_false]
    have hf := lr (v.cells.map At.den) off (cells.map At.den) (by simp; omega)
    have hz : ((v.cells.map At.den).toArray.zipIdx).foldl (fun (cs : Array Value) (p : Value × Nat) => cs.setIfInBounds (off + p.2) p.1) (cells.map At.den).toArray = ((aZ cells off v.cells).map At.den).toArray := by
     rw [← Array.foldl_toList, Array.toList_zipIdx, List.toList_toArray, hf]
     simp [aZ, List.map_take, List.map_drop]
    rw [hz]
    exact eN hc hon hr hcs.2
   ·simp at h
  ·simp at h
variable {P : Program} {ops : Array Oper} {o : Oper} {s : SS} {gl : List (At × Bool)}
theorem jo (vs : List Value) (off : Nat) (v : Value) (r : List Value) (h : off < vs.length) : aI (vs.set off v) (off + 1) r = aI vs off (v :: r) := by
 unfold aI
 have e1 : (vs.set off v).take (off + 1) = vs.take off ++ [v] := by
  rw [List.take_set]
  apply List.ext_getElem?
  intro i
  by_cases hi : i < off
  ·rw [List.getElem?_set_ne (by omega), List.getElem?_take, if_pos (by omega), List.getElem?_append_left (by simp; omega), List.getElem?_take, if_pos hi]
  ·by_cases he : i = off
   ·subst he
    rw [List.getElem?_set_self (by simp; omega), List.getElem?_append_right (by simp; omega)]
    have : i - (vs.take i).length = 0 := by simp; omega
    rw [this]; rfl
   ·rw [List.getElem?_set_ne (by omega), List.getElem?_take, if_neg (by omega), List.getElem?_eq_none (by simp; omega)]
 have e2 : (vs.set off v).drop (off + 1 + r.length) = vs.drop (off + (v :: r).length) := by
  rw [List.drop_set_of_lt (by omega), List.length_cons]; congr 1; omega
 rw [e1, e2]; simp
theorem de {r off : Nat} {T : TypeId} : ∀ (ys : List Value) (i : Nat) (vs : List Value) (w : World), w.heap[r]? = some (.cells vs.toArray T (0, 0)) → Ones ys → off + i + ys.length ≤ vs.length →
  ∃ w', (storeCells ⟨r, off, none⟩ ys i).run P w = .ok () w' ∧ (∀ b, b ≠ r → w'.heap[b]? = w.heap[b]?) ∧ w'.heap[r]? = some (.cells (aI vs (off + i) ys).toArray T (0, 0)) ∧ cA w' = cA w
 | [], i, vs, w, h, _, hl => ⟨w, rfl, fun _ _ => rfl, by rw [h]; simp [aI], rfl⟩
 | y :: ys, i, vs, w, h, ho, hl => by
  simp only [List.length_cons] at hl
  have hcell : w.cell? ⟨r, off + i, none⟩ = some (vs[off + i]'(by omega)) := by
   rw [cell_of_row w r (off + i) _ T _ h]; simp
  have hfr : w.frozen? ⟨r, off + i, none⟩ = false := frozen_of_row w r (off + i) _ T h
  have hset : (w.setCell ⟨r, off + i, none⟩ y).heap[r]? = some (.cells (vs.set (off + i) y).toArray T (0, 0)) := by
   rw [heap_setCell_same w r (off + i) vs.toArray T y h]; simp
  have henv : cA (w.setCell ⟨r, off + i, none⟩ y) = cA w := by
   unfold World.setCell; split <;> rfl
  obtain ⟨w', hr, hs, hb, he⟩ := de (r := r) (off := off) ys (i + 1) (vs.set (off + i) y) (w.setCell ⟨r, off + i, none⟩ y) hset ho.2 (by simp; omega)
  refine ⟨w', ?_, fun b hne => ?_, ?_, he.trans henv⟩
  ·simp only [storeCells, Sem.run_bind, aK, run_store P w _ y .plain ho.1, hcell, hfr, Bool.false_eq_true, if_false, Result.andThen_ok]
   exact hr
  ·rw [hs b hne, heap_setCell_other w ⟨r, off + i, none⟩ b y hne]
  ·rw [hb, ← jo vs (off + i) y ys (by omega)]; rfl
theorem ef {t : TypeId} {m : Nat} (hs : bT P t = some m) {r off : Nat} {T : TypeId} {vs : List Value} {w : World} (h : w.heap[r]? = some (.cells vs.toArray T (0, 0))) {y : Value} {ys : List Value}
  (hy : y.cells = ys.toArray) (ho : Ones ys) (hm : ys.length = m) (hl : off + ys.length ≤ vs.length) :
  ∃ w', (storeVar t ⟨r, off, none⟩ y).run P w = .ok () w' ∧ (∀ b, b ≠ r → w'.heap[b]? = w.heap[b]?) ∧ w'.heap[r]? = some (.cells (aI vs off ys).toArray T (0, 0)) ∧ cA w' = cA w := by
 obtain ⟨w', hr, hb, hc, he⟩ := de (P := P) (off := off) ys 0 vs w h ho (by omega)
 refine ⟨w', ?_, hb, hc, he⟩
 unfold storeVar
 rw [Sem.run_bind, ak hs, Result.andThen_ok]
 have : ¬ (y.cells.size ≠ m) := by rw [hy]; simp [hm]
 simp only [this, if_false]
 rw [hy]
 simpa using hr
theorem gV {t : TypeId} {x y : Operand} {x' : At} {y' : S1} {cx cy : List Ck} {nfp : NF × FP} (ho : o.op = .store t x y) (hdst : o.dst = none) (hx : a5 s [] x = some (x', cx)) (hy : b9 s [] y = some (y', cy))
    (hg : af (am ops) s o = .go []) (h : cg P s t x' y' (cx ++ cy) = some nfp) : Sound P ops o s nfp.1 := by
  unfold cg at h
  cases hm : bT P t with
  | none => simp [hm] at h
  | some m =>
    simp only [hm, Option.bind_some] at h
    split at h
    · simp at h
    · rename_i hcond
      simp only [Bool.or_eq_true, decide_eq_true_eq, Bool.not_eq_true', not_or, Decidable.not_not, Bool.not_eq_false] at hcond
      obtain ⟨hlen, hfit⟩ := hcond
      have common : ∀ {F H O a w}, Conc F s H O a w → AllCk (cx ++ cy) → a.eval x = x'.den ∧ a.eval y = y'.den ∧ y'.den.cells = (y'.cells.map At.den).toArray ∧ Ones (y'.cells.map At.den) := by
        intro F H O a w hc hcs
        rw [AllCk.append] at hcs
        have hok := aV hc.ok hy
        exact ⟨ah hc hx hcs.1 trivial, aJ hc hy hcs.2 trivial, fU hfit hok, j0 (by simpa using hfit) hok⟩
      split at h
      · rename_i n r off
        split at h
        · rename_i b hb
          split at h
          · rename_i hl
            simp only [Option.some.injEq] at h; subst h
            intro F H O a w d K Q hc hr
            obtain ⟨hcs, hk⟩ := hr
            obtain ⟨e1, e2, e3, e4⟩ := common hc hcs.2
            have hrb : r = b.r := hcs.1
            unfold wp1
            rw [if_pos ((bg hc hg).2 trivial)]
            refine .inl ?_
            obtain ⟨L, hL, hmod⟩ := hc.mm
            obtain ⟨us, L', hus, hperm, hL'⟩ := hL.take hb
            have hmod' := hmod.perm (hperm.append_right _)
            simp only [List.cons_append] at hmod'
            have hrow := (hmod'.own (b.r, .cells us.toArray b.T (0, 0)) (by simp)).1
            obtain ⟨w', hrun, hoth, hnew, henv⟩ := ef (P := P) hm hrow e3 e4 (by simpa using hlen) (off := off) (by have := hus.length; simp; omega)
            unfold Oper.wp
            have : (execOp a.eval o).run P w = .ok .skip w' := by
              simp only [execOp, ho, e1, e2, At.den, hrb, Instr.storeAt, Instr.sureAddr, Sem.run_bind, Sem.run_pure, Result.andThen_ok, hrun]
            rw [this, Oper.upon_skip, hdst]
            refine ⟨_, H, O, ?_, Heap.le_refl H, hk⟩
            have hput := hL'.put (n := n) (b := { b with cs := aZ b.cs off y'.cells }) (vs := us.take off ++ y'.cells.map At.den ++ us.drop (off + y'.cells.length)) (by simp) (hus.fill off y'.cells)
            rw [iy] at hput
            refine ⟨hc.ok.setBox n ?_, hc.df, hc.sz, hc.tm, _, hput, ?_⟩
            · rintro b' hb' a' ha'
              simp only [Option.some.injEq] at hb'; subst hb'
              simp only [aZ, List.mem_append] at ha'
              rcases ha' with (ha' | ha') | ha'
              · exact hc.ok.2 n b hb a' (List.mem_of_mem_take ha')
              · exact aV hc.ok hy a' ha'
              · exact hc.ok.2 n b hb a' (List.mem_of_mem_drop ha')
            · refine hmod'.update hoth ?_ henv
              rw [hnew]; simp [aI]
          · simp at h
        · simp at h
      all_goals first
        | (simp at h; done)
        | (split at h
           · simp at h
           · rename_i hm0
             simp only [Option.some.injEq] at h; subst h
             intro F H O a w d K Q hc hr
             obtain ⟨hcs, O', hst, hk⟩ := hr
             obtain ⟨e1, e2, e3, e4⟩ := common hc hcs.2
             unfold wp1
             rw [if_pos ((bg hc hg).2 trivial)]
             refine .inl ?_
             obtain ⟨ad, cs, T, L', hp, hsp, hperm, hl, hO'⟩ := hst
             have had : ad = ⟨ad.block, ad.off, none⟩ := by cases ad; simp_all
             obtain ⟨L, hL, hmod⟩ := hc.mm
             have hmod' : Models w H ((ad.block, .cells cs T (0, 0)) :: (L ++ (L' ++ F))) := by
               refine hmod.perm ?_
               have := (hperm.append_right F)
               refine (List.Perm.append_left L this).trans ?_
               simp only [List.cons_append]
               exact List.perm_middle
             have hrow : w.heap[ad.block]? = some (.cells cs.toList.toArray T (0, 0)) := by simpa using (hmod'.own (ad.block, .cells cs T (0, 0)) (by simp)).1
             obtain ⟨w', hrun, hoth, hnew, henv⟩ := ef (P := P) hm hrow e3 e4 (by simpa using hlen) (off := ad.off) (by simpa using hl)
             unfold Oper.wp
             have : (execOp a.eval o).run P w = .ok .skip w' := by
               simp only [execOp, ho, e1, e2, hp, Instr.storeAt, Instr.sureAddr, Sem.run_bind, Sem.run_pure, Result.andThen_ok]
               rw [had, hrun]; rfl
             rw [this, Oper.upon_skip, hdst]
             refine ⟨s, H, O', ⟨hc.ok, hc.df, hc.sz, hc.tm, L, hL, ?_⟩, Heap.le_refl H, hk⟩
             have hu := hmod'.update hoth hnew henv
             subst hO'
             refine hu.perm ?_
             simp only [List.cons_append]
             exact List.perm_middle.symm)
variable {P : Program} {ops : Array Oper} {o : Oper} {s : SS} {gl : List (At × Bool)}
theorem kO {name : Nat} {T : TypeId} {cells : List At} {val : Nat → At} {cs : List Ck} (hg : af (am ops) s o = .go []) (hd : ∀ d, o.dst = some d → d < s.sz)
  (hn : s.mem name = none) (hv : ∀ r, (val r).ok) (hvk : ∀ r, (val r).known = true) (hcells : s.Ok → ∀ a, a ∈ cells → a.ok)
  (hrun : ∀ F H O a w, Conc F s H O a w → AllCk cs → ∃ vs : List Value, CellsRel cells vs ∧
   (execOp a.eval o).run P w = .ok (.value (val w.heap.size).den) { w with heap := w.heap.push (.cells vs.toArray T (0, 0)) }) :
  Sound P ops o s (.box cs name T cells val) := by
 intro F H O a w d K Q hc hr
 obtain ⟨hcs, hk⟩ := hr
 obtain ⟨vs, hvs, hex⟩ := hrun F H O a w hc hcs
 unfold wp1
 rw [if_pos ((bg hc hg).2 trivial)]
 refine .inl ?_
 unfold Oper.wp
 rw [hex, Oper.upon_value]
 obtain ⟨L, hL, hmod⟩ := hc.mm
 have h1 : Conc F (s.setBox name (some ⟨w.heap.size, T, cells⟩)) H O a { w with heap := w.heap.push (.cells vs.toArray T (0, 0)) } := by
  refine ⟨hc.ok.setBox name ?_, hc.df, hc.sz, hc.tm, _, hL.put (n := name) (b := ⟨w.heap.size, T, cells⟩) hn hvs, ?_⟩
  ·rintro b' hb' a' ha'
   simp only [Option.some.injEq] at hb'; subst hb'; exact hcells hc.ok a' ha'
  ·simpa using hmod.push (.cells vs.toArray T (0, 0))
 refine ⟨_, H, O, h1.put (sv := .s (.at (val w.heap.size))) hd ?_ (aW (hv _)), Heap.le_refl H, hk _⟩
 cases hval : val w.heap.size <;> first
  | rfl
  | (have := hvk w.heap.size; rw [hval] at this; simp [At.known] at this)
theorem bW {T : TypeId} {cells : List At} (h : du P T = some cells) : ∃ z : Value, (∀ w, (zeroValue T).run P w = .ok z w) ∧ z.cells.toList = cells.map At.den ∧ cells.all At.known = true ∧ ∀ a, a ∈ cells → a.ok := by
 unfold du at h
 cases hi : P.info? T with
 | none => simp [hi] at h
 | some i =>
  simp only [hi, Option.bind_some, Option.map_eq_some_iff] at h
  obtain ⟨z, hz, rfl⟩ := h
  refine ⟨z, fun w => by simp [zeroValue, typeInfo, hi, hz], by simp [Function.comp_def, At.den], by simp [At.known], ?_⟩
  intro a ha; simp only [List.mem_map] at ha; obtain ⟨x, _, rfl⟩ := ha; trivial
def fb (z : List Value) : Nat → List Value
 | 0 => []
 | n + 1 => z ++ fb z n
theorem bz (z : List Value) (hz : z.length ≠ 0) : ∀ n : Nat, ((Array.range (n * z.length)).map fun i => z.toArray[i % z.toArray.size]!).toList = (fb z n)
 | 0 => by simp [fb]
 | n + 1 => by
  have ih := bz z hz n
  simp only [Array.toList_map, Array.toList_range] at ih ⊢
  rw [show (n + 1) * z.length = z.length + n * z.length by rw [Nat.add_mul]; omega, List.range_add, List.map_append, List.map_map]
  have e1 : (List.range z.length).map (fun i => z.toArray[i % z.toArray.size]!) = z := by
   apply List.ext_getElem
   ·simp
   ·intro i h1 h2
    have hi : i < z.length := by simpa using h1
    simp [Nat.mod_eq_of_lt hi, hi]
  have e2 : (List.range (n * z.length)).map ((fun i => z.toArray[i % z.toArray.size]!) ∘ fun i => z.length + i) = (List.range (n * z.length)).map fun i => z.toArray[i % z.toArray.size]! := by
   apply List.map_congr_left
   intro i _
   simp [Function.comp]
  rw [e1, e2, ih]; rfl
theorem bO (z : List At) : ∀ n, (au z n).map At.den = fb (z.map At.den) n
 | 0 => rfl
 | n + 1 => by simp [au, fb, bO z n]
theorem bn {z : List At} : ∀ {n : Nat} {a : At}, a ∈ au z n → a ∈ z
 | 0, a, h => by simp [au] at h
 | n + 1, a, h => by
  simp only [au, List.mem_append] at h
  exact h.elim id bn
theorem bC (hok : s.Ok) {place : Nat → Option (Nat × Nat)} : ∀ {parts : List (Nat × Operand)} {cells out : List At} {cs : List Ck}, aC s gl place parts cells = some (out, cs) →
  (∀ a, a ∈ cells → a.ok) → ∀ a, a ∈ out → a.ok
 | [], cells, out, cs, h, hc => by simp only [aC, Option.some.injEq, Prod.mk.injEq] at h; rw [← h.1]; exact hc
 | (i, x) :: r, cells, out, cs, h, hc => by
  simp only [aC] at h
  split at h
  ·rename_i off size v c hp hx
   split at h
   ·simp only [Option.map_eq_some_iff] at h
    obtain ⟨⟨cs', c'⟩, hr, he⟩ := h
    simp only [Prod.mk.injEq] at he
    obtain ⟨rfl, rfl⟩ := he
    refine bC hok hr ?_
    intro a ha
    simp only [aZ, List.mem_append] at ha
    rcases ha with (ha | ha) | ha
    ·exact hc a (List.mem_of_mem_take ha)
    ·exact aV hok hx a ha
    ·exact hc a (List.mem_of_mem_drop ha)
   ·simp at h
  ·simp at h
theorem fz : ∀ {l : List Nat}, lZ l = true → l.Nodup
 | [], _ => by simp
 | n :: r, h => by
  simp only [lZ, Bool.and_eq_true, Bool.not_eq_true', List.contains_eq_mem, decide_eq_false_iff_not] at h
  exact List.nodup_cons.2 ⟨h.1, fz h.2⟩
theorem cR : ∀ {l : List Nat} {s : SS} {n : Nat}, (aF l s).mem n = if n ∈ l then none else s.mem n
 | [], s, n => by simp [aF]
 | m :: r, s, n => by
  rw [aF, cR]
  by_cases h : n ∈ r
  ·simp [h]
  ·by_cases e : n = m <;> simp [h, e, SS.setBox]
theorem a6 : ∀ {l : List Nat} {s : SS}, (aF l s).tmps = s.tmps ∧ (aF l s).sz = s.sz
 | [], _ => ⟨rfl, rfl⟩
 | m :: r, s => by rw [aF]; exact a6 (l := r) (s := s.setBox m none)
theorem bB : ∀ {l : List (Nat × Bx)} {css : List (List Value)} {s : SS}, (ay l css s).tmps = s.tmps ∧ (ay l css s).sz = s.sz
 | [], _, _ => by simp [ay]
 | _ :: _, [], _ => by simp [ay]
 | (n, b) :: r, vs :: vss, s => by rw [ay]; exact bB (l := r)
theorem kb {s : SS} (h : s.Ok) (l : List Nat) : (aF l s).Ok := by
 refine ⟨by rw [a6.1]; exact h.1, fun n b hb => ?_⟩
 rw [cR] at hb
 split at hb
 ·simp at hb
 ·exact h.2 n b hb
theorem fg : ∀ {l : List (Nat × Bx)} {css : List (List Value)} {s : SS}, s.Ok → ni (l.map (·.2.bv)) css → (ay l css s).Ok
 | [], _, _, h, _ => by simpa [ay] using h
 | _ :: _, [], _, h, _ => by simpa [ay] using h
 | (n, b) :: r, vs :: vss, s, h, hf => by
  rw [ay]
  refine fg (h.setBox n ?_) hf.2.2
  rintro b' hb' a ha
  simp only [Option.some.injEq] at hb'; subst hb'
  have hl : vs.length = b.cs.length := by have := hf.1; simpa [Bx.bv] using this
  exact cY (by omega) hf.2.1 a ha
theorem jP : ∀ {l : List (Nat × Bx)} {s : SS} {L : Own}, Boxes s.mem L → (∀ p, p ∈ l → s.mem p.1 = some p.2) → (l.map (·.1)).Nodup → (∀ p, p ∈ l → p.2.cs.all At.known = true) →
  ∃ L', L.Perm (l.map (fun p => p.2.bv.obj) ++ L') ∧ Boxes (aF (l.map (·.1)) s).mem L'
 | [], s, L, h, _, _, _ => ⟨L, by simp, h⟩
 | (n, b) :: r, s, L, h, hm, hn, hk => by
  obtain ⟨vs, L1, hvs, hp, h1⟩ := h.take (hm (n, b) (by simp))
  simp only [List.map_cons, List.nodup_cons] at hn
  have hr : ∀ p, p ∈ r → (s.setBox n none).mem p.1 = some p.2 := by
   intro p hp'
   have : p.1 ≠ n := fun e => hn.1 (e ▸ List.mem_map_of_mem hp')
   simp only [SS.setBox, this, if_false]
   exact hm p (by simp [hp'])
  obtain ⟨L', hp2, h2⟩ := jP (s := s.setBox n none) (L := L1) h1 hr hn.2 (fun p hp' => hk p (by simp [hp']))
  refine ⟨L', hp.trans ?_, by simpa [aF] using h2⟩
  have : vs = b.cs.map At.den := hvs.known (hk (n, b) (by simp))
  simp only [List.map_cons, List.cons_append]
  rw [this]
  exact List.Perm.cons _ hp2
theorem kZ : ∀ {l : List (Nat × Bx)} {css : List (List Value)} {s : SS} {i : Nat}, ni (l.map (·.2.bv)) (css.drop i) → nr i l css s = ay l (css.drop i) s
 | [], css, s, i, _ => by cases css.drop i <;> rfl
 | (n, b) :: r, css, s, i, h => by
  cases hd : css.drop i with
  | nil => rw [hd] at h; exact h.elim
  | cons v vs =>
   rw [hd] at h
   have hlt : i < css.length := by
    rcases Nat.lt_or_ge i css.length with h' | h'
    ·exact h'
    ·rw [List.drop_of_length_le h'] at hd; cases hd
   rw [List.drop_eq_getElem_cons hlt] at hd
   obtain ⟨rfl, hd2⟩ := List.cons.inj hd
   have hv : css.getD i [] = css[i] := by simp [List.getD, hlt]
   rw [nr, ay, ← hd2, kZ (l := r) (i := i + 1) (by rw [hd2]; exact h.2.2), hv]
theorem kY : ∀ {l : List (Nat × Bx)} {css : List (List Value)} {s : SS} {L : Own}, Boxes s.mem L → (∀ p, p ∈ l → s.mem p.1 = none) → (l.map (·.1)).Nodup → ni (l.map (·.2.bv)) css →
  ∃ L', L'.Perm ((dD (l.map (·.2.bv)) css).map BV.obj ++ L) ∧ Boxes (ay l css s).mem L'
 | [], css, s, L, h, _, _, _ => by cases css <;> exact ⟨L, by simp [dD], by simpa [ay] using h⟩
 | (n, b) :: r, [], s, L, h, _, _, hf => by simp [ni] at hf
 | (n, b) :: r, vs :: vss, s, L, h, hm, hn, hf => by
  simp only [List.map_cons, List.nodup_cons] at hn
  have hl : vs.length = b.cs.length := by have := hf.1; simpa [Bx.bv] using this
  have h1 := h.put (n := n) (b := { b with cs := atsFrom vs 0 b.cs.length }) (vs := vs) (hm (n, b) (by simp)) (CellsRel.atsFrom hl)
  obtain ⟨L', hp, h2⟩ := kY (l := r) (css := vss) (s := s.setBox n (some { b with cs := atsFrom vs 0 b.cs.length })) h1 (by
   intro p hp'
   have : p.1 ≠ n := fun e => hn.1 (e ▸ List.mem_map_of_mem hp')
   simp only [SS.setBox, this, if_false]
   exact hm p (by simp [hp'])) hn.2 hf.2.2
  refine ⟨L', hp.trans ?_, by simpa [ay] using h2⟩
  simp only [List.map_cons, dD, List.cons_append]
  exact List.perm_middle
theorem di {s : SS} {l : List Nat} : ∀ p, p ∈ bJ s l → s.mem p.1 = some p.2 := by
 intro p hp
 simp only [bJ, List.mem_filterMap, Option.map_eq_some_iff] at hp
 obtain ⟨n, _, b, hb, rfl⟩ := hp
 exact hb
theorem dE : ∀ {l : List BV} {w : World} {H : Heap} {O : Own}, Models w H (l.map BV.obj ++ O) → Models w (H.insAll l) O ∧ Heap.le H (H.insAll l)
 | [], w, H, O, h => ⟨by simpa [Heap.insAll] using h, Heap.le_refl H⟩
 | b :: r, w, H, O, h => by
  simp only [List.map_cons, List.cons_append] at h
  have hf : Models w (H.ins b.r b.obj.2) (r.map BV.obj ++ O) := Models.freeze h
  have hle : Heap.le H (H.ins b.r b.obj.2) := (Ghost.freeze H b.r b.obj.2 [] w (r.map BV.obj ++ O) h).2
  obtain ⟨h1, h2⟩ := dE hf
  exact ⟨h1, Heap.le_trans hle h2⟩
theorem ft {vs : List Value} (ho : Ones vs) : ∀ {l : List (Option Nat)} {i : Nat}, i + Shp.count (.tup l) ≤ vs.length → ∀ x, x ∈ Shp.svList vs i l → x.ok
 | [], i, _, x, hx => by simp [Shp.svList] at hx
 | none :: r, i, h, x, hx => by
  simp only [Shp.count, List.foldr_cons, Option.getD_none] at h
  simp only [Shp.svList, List.mem_cons] at hx
  rcases hx with rfl | hx
  ·exact aW (ho.get i (by omega))
  ·exact ft ho (l := r) (i := i + 1) (by simp only [Shp.count]; omega) x hx
 | some m :: r, i, h, x, hx => by
  simp only [Shp.count, List.foldr_cons, Option.getD_some] at h
  simp only [Shp.svList, List.mem_cons] at hx
  rcases hx with rfl | hx
  ·exact cY (by omega) ho
  ·exact ft ho (l := r) (i := i + m) (by simp only [Shp.count]; omega) x hx
theorem cj : ∀ {l : List (Option Nat)} {xs vs pre : List Value}, Shp.openList l xs = some vs →
  vs.length = Shp.count (.tup l) ∧ (Shp.svList (pre ++ vs) pre.length l).map S1.den = xs
 | [], [], vs, pre, h => by simp only [Shp.openList, Option.some.injEq] at h; subst h; simp [Shp.count, Shp.svList]
 | [], _ :: _, vs, pre, h => by simp [Shp.openList] at h
 | none :: r, [], vs, pre, h => by simp [Shp.openList] at h
 | none :: r, v :: xs, vs, pre, h => by
  simp only [Shp.openList, Option.map_eq_some_iff] at h
  obtain ⟨us, hu, rfl⟩ := h
  obtain ⟨h1, h2⟩ := cj (pre := pre ++ [v]) hu
  refine ⟨?_, ?_⟩
  ·simp only [Shp.count, List.foldr_cons, Option.getD_none, List.length_cons] at h1 ⊢; omega
  ·simp only [Shp.svList, List.map_cons]
   have e : pre ++ v :: us = pre ++ [v] ++ us := by simp
   have : g (pre ++ v :: us) pre.length = v := by simp [g]
   rw [S1.den, At.den, this, e]
   have hl : (pre ++ [v]).length = pre.length + 1 := by simp
   rw [← hl, h2]
 | some m :: r, [], vs, pre, h => by simp [Shp.openList] at h
 | some m :: r, v :: xs, vs, pre, h => by
  cases v with
  | agg cs =>
   simp only [Shp.openList] at h
   split at h
   ·rename_i hsz
    simp only [Option.map_eq_some_iff] at h
    obtain ⟨us, hu, rfl⟩ := h
    obtain ⟨h1, h2⟩ := cj (pre := pre ++ cs.toList) hu
    have hl : (pre ++ cs.toList).length = pre.length + m := by simp [hsz]
    refine ⟨?_, ?_⟩
    ·simp only [Shp.count, List.foldr_cons, Option.getD_some, List.length_append, Array.length_toList] at h1 ⊢
     omega
    ·simp only [Shp.svList, List.map_cons]
     rw [← hl, ← List.append_assoc, h2]
     congr 1
     simp only [S1.den, Value.agg.injEq]
     rw [gG]
     apply Array.ext'
     simp only [List.toList_toArray, List.map_map]
     apply List.ext_getElem
     ·simp [hsz]
     ·intro i hi1 hi2
      have hi : i < cs.size := by simpa using hi2
      have hlt : ¬ (pre.length + i < pre.length) := by omega
      simp [At.den, g, List.getElem?_append, hi, hlt]
   ·simp at h
  | _ => simp [Shp.openList] at h
theorem k4 {shp : Shp} {v : Value} {vs : List Value} (h : shp.open v = some vs) (ho : Ones vs) : (shp.sv vs).rel v ∧ (shp.sv vs).ok := by
 cases shp with
 | one =>
  simp only [Shp.open, Option.some.injEq] at h; subst h
  exact ⟨rfl, aW ho.1⟩
 | agg m =>
  cases v with
  | agg cs =>
   simp only [Shp.open] at h
   split at h
   ·rename_i hsz
    simp only [Option.some.injEq] at h; subst h
    refine ⟨?_, cY (by simp [hsz]) ho⟩
    show _ = Value.agg ((atsFrom cs.toList 0 m).map At.den).toArray
    rw [f0 (by simp [hsz])]
   ·simp at h
  | _ => simp [Shp.open] at h
 | tup l =>
  cases v with
  | tuple xs =>
   simp only [Shp.open] at h
   obtain ⟨h1, h2⟩ := cj (pre := []) h
   refine ⟨?_, ft ho (l := l) (i := 0) (by omega)⟩
   show _ = Value.tuple ((Shp.svList vs 0 l).map S1.den).toArray
   have h2' : (Shp.svList vs 0 l).map S1.den = xs.toList := by simpa using h2
   rw [h2']
  | _ => simp [Shp.open] at h
theorem jQ {hk : HK} {frz own : List (Nat × Bx)} {shp : Shp} {post : List Value → List Ck} {cs : List Ck} {sv : List Value → SV} (hg : af (am ops) s o = .go []) (hd : ∀ d, o.dst = some d → d < s.sz)
  (hfrz : ∀ p, p ∈ frz ++ own → s.mem p.1 = some p.2) (hnd : ((frz ++ own).map (·.1)).Nodup) (hkn : ∀ p, p ∈ frz ++ own → p.2.cs.all At.known = true)
  (hsv : ∀ v vs, s.Ok → shp.open v = some vs → Ones vs → AllCk (post vs) → (sv vs).rel v ∧ (sv vs).ok)
  (hex : ∀ F H O a w, Conc F s H O a w → AllCk cs → ∀ H1 O1 R, hk.T P H1 O1 R → ∀ F1, Models w H1 (O1 ++ F1) → ∀ (next : Act → World → Prop) (Q : Exit → Act → World → Prop),
   (∀ v w' H' O', R v H' O' → Heap.le H1 H' → Models w' H' (O' ++ F1) → next (a.put o.dst v) w') → o.wp P a w next Q) :
  Sound P ops o s (.hv cs hk frz own shp post sv) := by
 intro F H O a w d K Q hc hr
 obtain ⟨hcs, hr⟩ := hr
 unfold wp1
 rw [if_pos ((bg hc hg).2 trivial)]
 refine .inl ?_
 obtain ⟨L, hL, hmod⟩ := hc.mm
 obtain ⟨L', hp, hL'⟩ := jP hL hfrz hnd hkn
 have hm0 : Models w H ((frz.map (·.2.bv)).map BV.obj ++ ((own.map (·.2.bv)).map BV.obj ++ (L' ++ (O ++ F)))) := by
  refine hmod.perm ((hp.append_right _).trans (List.Perm.of_eq ?_))
  simp [List.map_map, Function.comp_def]
 obtain ⟨H1, O1, O2, R, hgh, hT, hk'⟩ := hr ⟨w, L' ++ F, hm0.perm (by
  rw [List.append_assoc, List.append_assoc]
  exact List.Perm.append_left _ (List.Perm.append_left _ (List.perm_append_comm_assoc _ _ _))) ⟩
 obtain ⟨hm1, hle1⟩ := dE hm0
 have hgh' : Ghost (H.insAll (frz.map (·.2.bv))) O H1 (O1 ++ O2) := by
  split at hgh
  ·obtain ⟨rfl, ⟨rfl, rfl⟩ | ⟨_, rfl, rfl, _⟩⟩ := hgh
   ·exact Ghost.refl _ _
   ·rw [List.append_nil]; exact Ghost.refl _ _
  ·exact hgh
 have hm2 : Models w (H.insAll (frz.map (·.2.bv))) (O ++ ((own.map (·.2.bv)).map BV.obj ++ (L' ++ F))) := by
  refine hm1.perm ?_
  exact (List.Perm.append_left _ (List.perm_append_comm_assoc _ _ _)).trans (List.perm_append_comm_assoc _ _ _)
 obtain ⟨hm3, hle2⟩ := hgh' w _ hm2
 have hm4 : Models w H1 (((own.map (·.2.bv)).map BV.obj ++ O1) ++ (O2 ++ (L' ++ F))) := by
  refine hm3.perm ?_
  rw [List.append_assoc, List.append_assoc]
  exact (List.Perm.append_left _ (List.perm_append_comm_assoc _ _ _)).trans (List.perm_append_comm_assoc _ _ _)
 refine hex F H O a w hc hcs H1 _ R hT _ hm4 _ Q ?_
 intro v w' H' O' hR hle3 hm5
 obtain ⟨vs, css, O3, hop, hones, hfits, rfl, hpost, hK⟩ := hk' v H' O' hR hle3
 obtain ⟨hrel, hok⟩ := hsv v vs hc.ok hop hones hpost
 have hmemNone : ∀ p, p ∈ own → (aF ((frz ++ own).map (·.1)) s).mem p.1 = none := by
  intro p hp'
  rw [cR, if_pos (List.mem_map_of_mem (by simp [hp']))]
 have hndo : (own.map (·.1)).Nodup := by
  rw [List.map_append] at hnd; exact (List.nodup_append.1 hnd).2.1
 obtain ⟨L'', hp'', hL''⟩ := kY (css := css) hL' hmemNone hndo hfits
 have hconc : Conc F (ay own css (aF ((frz ++ own).map (·.1)) s)) H' (O3 ++ O2) a w' := by
  refine ⟨fg (kb hc.ok _) hfits, hc.df, ?_, ?_, L'', hL'', ?_⟩
  ·rw [bB.2, a6.2]; exact hc.sz
  ·rw [bB.1, a6.1]; exact hc.tm
  ·refine hm5.perm (List.Perm.trans ?_ (hp''.symm.append_right _))
   rw [List.append_assoc, List.append_assoc, ← List.append_assoc O3]
   exact List.Perm.append_left _ (List.perm_append_comm_assoc _ _ _)
 have hpb : nr 0 own css (aF ((frz ++ own).map (·.1)) s) = ay own css (aF ((frz ++ own).map (·.1)) s) := kZ (i := 0) hfits
 rw [nD, hpb] at hK
 refine ⟨_, H', O3 ++ O2, hconc.put ?_ hrel hok, Heap.le_trans hle1 (Heap.le_trans hle2 hle3), hK⟩
 intro d' hd'
 rw [bB.2, a6.2]; exact hd d' hd'
variable {P : Program} {ops : Array Oper} {o : Oper} {s : SS} {gl : List (At × Bool)}
theorem aj {v : S1} {cs : List Ck} {x : NF} {fp : FP} (hg : af (am ops) s o = .go gl) (hd : ∀ d, o.dst = some d → d < s.sz) (h : ap gl o.dst v cs = some (x, fp))
  (hok : s.Ok → AllCk cs → v.ok) (hrun : ∀ F H O a w, Conc F s H O a w → AllCk cs → On (bQ gl) → (execOp a.eval o).run P w = .ok (.value v.den) w) : Sound P ops o s x := by
 simp only [ap, Option.some.injEq, Prod.mk.injEq] at h
 rw [← h.1]
 exact ao (X := fun _ => v) hg hd (fun _ _ _ h1 h2 _ => hok h1 h2) (fun F H O a w _ hc hcs _ hon => hrun F H O a w hc hcs hon)
theorem cw {name : Nat} {T : TypeId} {cells : List At} {val : Nat → At} {cs : List Ck} {x : NF} {fp : FP} (hg : af (am ops) s o = .go gl) (hd : ∀ d, o.dst = some d → d < s.sz)
  (h : bq s gl o.dst name T cells val cs = some (x, fp)) (hv : ∀ r, (val r).ok) (hvk : ∀ r, (val r).known = true) (hcells : s.Ok → ∀ a, a ∈ cells → a.ok)
  (hrun : ∀ F H O a w, Conc F s H O a w → AllCk cs → gl = [] → ∃ vs : List Value, CellsRel cells vs ∧
   (execOp a.eval o).run P w = .ok (.value (val w.heap.size).den) { w with heap := w.heap.push (.cells vs.toArray T (0, 0)) }) : Sound P ops o s x := by
 unfold bq at h
 split at h
 ·rename_i hcond
  simp only [Bool.and_eq_true, Option.isNone_iff_eq_none, List.isEmpty_iff] at hcond
  simp only [Option.some.injEq, Prod.mk.injEq] at h
  rw [← h.1]
  obtain ⟨rfl, hn⟩ := hcond
  exact kO hg hd hn hv hvk hcells (fun F H O a w hc hcs => hrun F H O a w hc hcs rfl)
 ·simp at h
theorem aA {dst : Option Tmp} {shp : Shp} {hk : HK} {atoms : List At} {cs : List Ck} {x : NF} {fp : FP} (hdst : dst = o.dst) (hg : af (am ops) s o = .go []) (hd : ∀ d, o.dst = some d → d < s.sz)
  (h : ax s dst shp hk atoms cs = some (x, fp))
  (hex : ∀ F H O a w, Conc F s H O a w → AllCk cs → ∀ H1 O1 R, hk.T P H1 O1 R → ∀ F1, Models w H1 (O1 ++ F1) → ∀ (next : Act → World → Prop) (Q : Exit → Act → World → Prop),
   (∀ v w' H' O', R v H' O' → Heap.le H1 H' → Models w' H' (O' ++ F1) → next (a.put o.dst v) w') → o.wp P a w next Q) : Sound P ops o s x := by
 subst hdst
 unfold ax at h
 simp only [] at h
 split at h
 ·rename_i hcond
  simp only [Bool.and_eq_true] at hcond
  simp only [Option.some.injEq, Prod.mk.injEq] at h
  rw [← h.1]
  refine jQ (sv := shp.sv) hg hd ?_ (fz hcond.2) ?_ (fun v vs _ ho hn _ => k4 ho hn) hex
  ·intro p hp
   rcases List.mem_append.1 hp with hp | hp
   ·exact di p hp
   ·exact di p hp
  ·intro p hp
   have := hcond.1
   rw [List.all_eq_true] at this
   exact this p hp
 ·simp at h
theorem eI {a : Act} {w : World} {f : FuncId} {args : List Value} {H1 : Heap} {O1 F1 : Own} {R : Value → Heap → Own → Prop} {next : Act → World → Prop} {Q : Exit → Act → World → Prop}
  (hT : Triple P f args H1 O1 R) (hm : Models w H1 (O1 ++ F1)) (hrun : (execOp a.eval o).run P w = .ok (.enter f args.toArray) w)
  (hn : ∀ v w' H' O', R v H' O' → Heap.le H1 H' → Models w' H' (O' ++ F1) → next (a.put o.dst v) w') : o.wp P a w next Q := by
 unfold Oper.wp
 rw [hrun, Oper.upon_enter]
 exact (hT w F1 hm).mono fun e w' ⟨v, H', O', he, hR, hle, hm'⟩ => by subst he; exact hn v w' H' O' hR hle hm'
theorem dS {a : Act} {w : World} {sem : Sem Next} {H1 : Heap} {O1 F1 : Own} {R : Value → Heap → Own → Prop} {next : Act → World → Prop} {Q : Exit → Act → World → Prop}
  (hT : dQ P sem H1 O1 R) (hm : Models w H1 (O1 ++ F1)) (hrun : (execOp a.eval o).run P w = sem.run P w)
  (hn : ∀ v w' H' O', R v H' O' → Heap.le H1 H' → Models w' H' (O' ++ F1) → next (a.put o.dst v) w') : o.wp P a w next Q := by
 unfold Oper.wp
 obtain ⟨v, w', H', O', hr, hR, hle, hm'⟩ := hT w F1 hm
 rw [hrun, hr, Oper.upon_value]
 exact hn v w' H' O' hR hle hm'
theorem eC {f : FuncId} (h : gm P f) (args : Array Value) (w : World) : (callFunc f args).run P w = .ok (.enter f args) w := by
 obtain ⟨fn, h1, h2, h3⟩ := h
 simp only [callFunc, Sem.run_bind, run_program, Result.andThen_ok, h1, h2, h3, Bool.false_eq_true, if_false]
 rfl
theorem eS {c : Call} {f : Operand} {n : FuncId} {caps : Array Value} {a : Act} (hop : o.op = .call c) (hcal : c.callee = .value f) (hf : a.eval f = .func (.func n) #[] caps) (hok : gm P n) (w : World) :
  (execOp a.eval o).run P w = .ok (.enter n (c.args.map a.eval ++ caps)) w := by
 simp only [execOp, hop, resolve, hcal, hf, Deferred.ofValue, Sem.run_bind, Sem.run_pure, Result.andThen_ok, invoke, Array.empty_append, eC hok]
theorem md {c : Call} {x : Operand} {m : String} {f : FuncId} {v r : Value} {a : Act} (hop : o.op = .call c) (hcal : c.callee = .invoke x m) (hx : a.eval x = v) (hm : lB P m v f r) (hok : gm P f) (w : World) :
  (execOp a.eval o).run P w = .ok (.enter f (#[r] ++ c.args.map a.eval)) w := by
 obtain ⟨t, y, rfl, hr⟩ := hm
 have e0 : (#[Value.iface t y] ++ c.args.map a.eval)[0]? = some (.iface t y) := by
  rw [Array.getElem?_append_left (by simp)]; rfl
 have e1 : (#[Value.iface t y] ++ c.args.map a.eval).extract 1 (#[Value.iface t y] ++ c.args.map a.eval).size = c.args.map a.eval := by
  apply Array.ext'
  rw [Array.toList_extract, Array.toList_append, List.extract, List.take_of_length_le (by simp)]
  rfl
 simp only [execOp, hop, resolve, hcal, hx, Sem.run_bind, Sem.run_pure, Result.andThen_ok, invoke, e0, e1, callMethod, run_program, hr, eC hok]
theorem fm {s : SS} {gl : List (At × Bool)} {x y : Operand} {as : List At} {cs : List Ck} (h : az s gl [x, y] = some (as, cs)) : ∃ a b, as = [a, b] := by
 simp only [az] at h
 split at h
 ·rename_i a c as' cs' h1 h2
  simp only [Option.some.injEq, Prod.mk.injEq] at h
  split at h2
  ·rename_i b c2 as2 cs2 h3 h4
   simp only [Option.some.injEq, Prod.mk.injEq] at h2 h4
   exact ⟨a, b, by rw [← h.1, ← h2.1, ← h4.1]⟩
  ·simp at h2
 ·simp at h
theorem eO {F : Own} {H : Heap} {O : Own} {a : Act} {w : World} (h : Conc F s H O a w) {x y : Operand} {x' y' : At} {cs : List Ck}
  (hx : az s gl [x, y] = some ([x', y'], cs)) (hc : AllCk cs) (ho : On (bQ gl)) : a.eval x = x'.den ∧ a.eval y = y'.den := by
 have := aB h hx hc ho
 simpa using this
theorem fA {x : At} {n : Nat} {a : At} {c : List Ck} (h : iS gl x n = some (a, c)) : (AllCk c → x.ok → a.ok) ∧
  (AllCk c → On (bQ gl) → ∃ ad, x.den = .pointer (some ad) ∧ a.den = .pointer (some (ad.add n))) := by
 have hp : ∀ y : Value, kn y = true → ∃ ad, y = .pointer (some ad) := by
  intro y hy
  unfold kn at hy; split at hy
  ·exact ⟨_, rfl⟩
  ·simp at hy
 have hadd0 : ∀ ad : Addr, ad.add 0 = ad := fun ad => by simp [Addr.add]
 cases x <;> simp only [iS] at h
 case p n' r off =>
  simp only [Option.some.injEq, Prod.mk.injEq] at h
  obtain ⟨rfl, rfl⟩ := h
  exact ⟨fun _ _ => trivial, fun _ _ => ⟨⟨r, off, none⟩, rfl, by rw [aK]; rfl⟩⟩
 case px y off =>
  simp only [Option.some.injEq, Prod.mk.injEq] at h
  obtain ⟨rfl, rfl⟩ := h
  refine ⟨fun _ _ => trivial, fun hc ho => ?_⟩
  obtain ⟨ad, rfl⟩ := hp y (hc.1 ho)
  exact ⟨ad.add off, rfl, by simp [At.den, fh, ly]⟩
 case v y =>
  simp only [Option.some.injEq, Prod.mk.injEq] at h
  obtain ⟨rfl, rfl⟩ := h
  refine ⟨fun hc ho => ?_, fun hc ho => ?_⟩
  ·split
   ·exact ho
   ·split
    ·rename_i he
     have : gl = [] := by simpa using he
     subst this
     obtain ⟨ad, rfl⟩ := hp y (hc.1 trivial)
     rfl
    ·trivial
  ·obtain ⟨ad, rfl⟩ := hp y (hc.1 ho)
   refine ⟨ad, rfl, ?_⟩
   split
   ·rename_i h0; subst h0; rw [hadd0]; rfl
   ·split <;> rfl
 case k y =>
  simp only [Option.some.injEq, Prod.mk.injEq] at h
  obtain ⟨rfl, rfl⟩ := h
  refine ⟨fun hc ho => ?_, fun hc ho => ?_⟩
  ·split
   ·exact ho
   ·split
    ·rename_i he
     have : gl = [] := by simpa using he
     subst this
     obtain ⟨ad, rfl⟩ := hp y (hc.1 trivial)
     rfl
    ·trivial
  ·obtain ⟨ad, rfl⟩ := hp y (hc.1 ho)
   refine ⟨ad, rfl, ?_⟩
   split
   ·rename_i h0; subst h0; rw [hadd0]; rfl
   ·split <;> rfl
 all_goals simp at h
theorem bD {i : At} {n : Nat} (h : bh i = some n) : ∃ k, i.den = .int k n := by
 unfold bh at h
 split at h
 ·rename_i k m
  split at h
  ·rename_i h0
   simp only [Option.some.injEq] at h
   exact ⟨k, by simp [At.den]; omega⟩
  ·simp at h
 ·simp at h
theorem fJ {t : TypeId} {x i : Operand} {x' i' : At} {cs : List Ck} {y : NF} {fp : FP} (hop : o.op = .indexAddr t x i) (hx : az s gl [x, i] = some ([x', i'], cs))
    (hg : af (am ops) s o = .go gl) (hd : ∀ d, o.dst = some d → d < s.sz) (h : cn P gl o.dst t x' i' cs = some (y, fp)) : Sound P ops o s y := by
  have hok := fun hs : s.Ok => eK hs hx
  have ev := fun {F H O a w} (hc : Conc F s H O a w) (hcs : AllCk cs) (hon : On (bQ gl)) => eO hc hx hcs hon
  unfold cn at h
  split at h
  · rename_i len elem hu
    cases hs : bT P elem with
    | none => simp [hs] at h
    | some size =>
      simp only [hs, Option.bind_some] at h
      have harr : ∀ {ad : Addr} {k : IntKind} {n : Int}, 0 ≤ n ∧ n < len → ∀ w, (Instr.indexAt t (.pointer (some ad)) (.int k n)).run P w = .ok (.pointer (some (ad.add (n.toNat * size)))) w :=
        fun hb w => jR hu hs (by simp [dc, hb]) w
      split at h
      · rename_i n hn
        split at h
        · rename_i hlt
          simp only [Option.map_eq_some_iff, Prod.mk.injEq] at h
          obtain ⟨⟨a', c⟩, hm, rfl, _⟩ := h
          obtain ⟨h1, h2⟩ := fA hm
          refine ao (X := fun _ => .at a') hg hd ?_ ?_
          · intro H O vs hs' hc _
            rw [AllCk.append] at hc
            exact aW (h1 hc.1 (hok hs' x' (by simp)))
          · intro F H O a w vs hc hcs _ hon
            rw [AllCk.append] at hcs
            obtain ⟨e1, e2⟩ := ev hc hcs.2 hon
            obtain ⟨ad, hx', ha'⟩ := h2 hcs.1 hon
            obtain ⟨k, hk⟩ := bD hn
            simp only [execOp, hop, e1, e2, hx', hk, Sem.run_bind, harr (ad := ad) (k := k) (n := n) (by omega), Result.andThen_ok, Sem.run_pure, S1.den, ha', Int.toNat_natCast]
        · simp at h
      · split at h
        · rename_i n r off
          split at h
          · rename_i hcond
            simp only [Bool.and_eq_true, List.isEmpty_iff, decide_eq_true_eq] at hcond
            obtain ⟨rfl, _⟩ := hcond
            simp only [Option.some.injEq, Prod.mk.injEq] at h
            obtain ⟨rfl, _⟩ := h
            refine ao (gl := []) (X := fun vs => .at (.p n r (off + (match g vs 0 with | .int _ n => n.toNat | _ => 0) * size))) hg hd (fun _ _ _ _ _ _ => aW trivial) ?_
            rintro F H O a w vs hc hcs ⟨kd, j, hj, h0, h1, rfl⟩ hon
            obtain ⟨e1, e2⟩ := ev hc hcs hon
            have e1' : a.eval x = .pointer (some ⟨r, off, none⟩) := e1
            simp only [execOp, hop, e1', e2, hj, Sem.run_bind, harr (ad := ⟨r, off, none⟩) (k := kd) (n := j) ⟨h0, h1⟩, Result.andThen_ok, Sem.run_pure, S1.den, aK]
            rfl
          · simp at h
        all_goals first
          | (simp at h; done)
          | (split at h
             · simp at h
             · simp only [Option.some.injEq, Prod.mk.injEq] at h
               obtain ⟨rfl, _⟩ := h
               refine al hg hd (by simp) ?_
               intro F H O a w v hc hcs hon he
               obtain ⟨e1, e2⟩ := ev hc hcs hon
               simp only [List.map_cons, List.map_nil, ag] at he
               simp only [execOp, hop, e1, e2, Sem.run_bind, jR hu hs he, Result.andThen_ok, Sem.run_pure])
  · rename_i elem hu
    cases hs : bT P elem with
    | none => simp [hs] at h
    | some size =>
      simp only [hs, Option.bind_some] at h
      have gen : ∀ {y fp}, some (aM gl false o.dst (.idx size) [x', i'] cs, ({} : FP)) = some (y, fp) → Sound P ops o s y := by
        intro y fp h
        simp only [Option.some.injEq, Prod.mk.injEq] at h
        obtain ⟨rfl, _⟩ := h
        refine al hg hd (by simp) ?_
        intro F H O a w v hc hcs hon he
        obtain ⟨e1, e2⟩ := ev hc hcs hon
        simp only [List.map_cons, List.map_nil, ag] at he
        simp only [execOp, hop, e1, e2, Sem.run_bind, kT hu hs he, Result.andThen_ok, Sem.run_pure]
      split at h
      · rename_i n r off len c k hk
        split at h
        · rename_i hlt
          simp only [Option.some.injEq, Prod.mk.injEq] at h
          obtain ⟨rfl, _⟩ := h
          refine ao (X := fun _ => .at (.p n r (off + k * size))) hg hd (fun _ _ _ _ _ _ => aW trivial) ?_
          intro F H O a w vs hc hcs _ hon
          obtain ⟨e1, e2⟩ := ev hc hcs hon
          obtain ⟨kd, hkd⟩ := bD hk
          have : (Instr.indexAt t (.slice (some ⟨r, off, none⟩) len c) (.int kd k)).run P w = .ok (.pointer (some ⟨r, off + k * size, none⟩)) w :=
            kT hu hs (by simp [cP, hlt, aK]) w
          have e1' : a.eval x = .slice (some ⟨r, off, none⟩) len c := e1
          simp only [execOp, hop, e1', e2, hkd, Sem.run_bind, this, Result.andThen_ok, Sem.run_pure]
          rfl
        · simp at h
      · exact gen h
  · simp at h

theorem g3 {F : Own} {H : Heap} {O : Own} {a : Act} {w : World} (h : Conc F s H O a w) {x : Option Operand} {l : List At} {cs : List Ck}
  (hx : az s gl x.toList = some (l, cs)) (hc : AllCk cs) (ho : On (bQ gl)) : x.map a.eval = l.head?.map At.den ∧ (l.head?.isSome = x.isSome) ∧ l = l.head?.toList := by
 have hd := aB h hx hc ho
 cases x with
 | none =>
  simp only [Option.toList, az, Option.some.injEq, Prod.mk.injEq] at hx
  rw [← hx.1]; simp
 | some y =>
  simp only [Option.toList, List.map_cons, List.map_nil] at hd
  match l, hd with
  | [b], hd => simp at hd; simp [hd]
  | [], hd => simp at hd
  | _ :: _ :: _, hd => simp at hd
theorem kJ (lo hi mx : Option Value) : ce [lo.isSome, hi.isSome, mx.isSome] (lo.toList ++ hi.toList ++ mx.toList) = [lo, hi, mx] := by
 cases lo <;> cases hi <;> cases mx <;> rfl
theorem kK (lo hi : Option Value) : ce [lo.isSome, hi.isSome] (lo.toList ++ hi.toList ++ []) = [lo, hi] := by
 cases lo <;> cases hi <;> rfl
theorem gw (x : Option At) : x.toList.map At.den = (x.map At.den).toList := by cases x <;> rfl
theorem bG {x : Option At} {d n y : Nat} (h : (x.map bh).getD (some d) = some n) (hy : n ≤ y) : aD (x.map At.den) y d = some n ∧ bf (x.map At.den) false y d = some n := by
 cases x with
 | none => simpa [aD, bf] using h
 | some a =>
  simp only [Option.map_some, Option.getD_some] at h
  obtain ⟨k, hk⟩ := bD h
  simp [hk, aD, bf, jj, asI, hy]
theorem jp {t : TypeId} {x : Operand} {lo hi mx : Option Operand} {x' : At} {l h' m : List At} {c0 c1 c2 c3 : List Ck} {y : NF} {fp : FP} (hop : o.op = .slice t x lo hi mx)
  (h0 : a5 s gl x = some (x', c0)) (h1 : az s gl lo.toList = some (l, c1)) (h2 : az s gl hi.toList = some (h', c2)) (h3 : az s gl mx.toList = some (m, c3))
  (hg : af (am ops) s o = .go gl) (hd : ∀ d, o.dst = some d → d < s.sz) (h : gX P gl o.dst t x' l.head? h'.head? m.head? (c0 ++ c1 ++ c2 ++ c3) = some (y, fp)) : Sound P ops o s y := by
 have ev : ∀ {F H O a w}, Conc F s H O a w → AllCk (c0 ++ c1 ++ c2 ++ c3) → On (bQ gl) → a.eval x = x'.den ∧ lo.map a.eval = l.head?.map At.den ∧ hi.map a.eval = h'.head?.map At.den ∧ mx.map a.eval = m.head?.map At.den := by
  intro F H O a w hc hcs hon
  simp only [AllCk.append] at hcs
  exact ⟨ah hc h0 hcs.1.1.1 hon, (g3 hc h1 hcs.1.1.2 hon).1, (g3 hc h2 hcs.1.2 hon).1, (g3 hc h3 hcs.2 hon).1⟩
 generalize l.head? = lo' at h ev
 generalize h'.head? = hi' at h ev
 generalize m.head? = mx' at h ev
 unfold gX at h
 simp only [] at h
 split at h
 ·rename_i hu
  split at h
  ·simp at h
  ·rename_i hmx
   simp only [Option.some.injEq, Prod.mk.injEq] at h
   obtain ⟨rfl, _⟩ := h
   have hmx' : mx' = none := by cases mx' <;> simp_all
   subst hmx'
   refine al hg hd (by simp) ?_
   intro F H O a w v hc hcs hon he
   obtain ⟨e0, e1, e2, e3⟩ := ev hc hcs hon
   simp only [List.map_cons, List.map_append, ag, gw, Option.toList_none, List.map_nil, List.append_nil] at he
   have hta := kK (lo'.map At.den) (hi'.map At.den)
   simp only [List.append_nil, Option.isSome_map] at hta
   rw [hta] at he
   simp only [Option.map_none] at e3
   simp only [execOp, hop, e0, e1, e2, e3, Sem.run_bind, lN hu he, Result.andThen_ok, Sem.run_pure]
 ·rename_i elem hu
  cases hs : bT P elem with
  | none => simp [hs] at h
  | some size =>
   simp only [hs, Option.bind_some] at h
   have gen : ∀ {y fp}, some (aM gl false o.dst (.slc size lo'.isSome hi'.isSome mx'.isSome) (x' :: (lo'.toList ++ hi'.toList ++ mx'.toList)) (c0 ++ c1 ++ c2 ++ c3), ({} : FP)) = some (y, fp) → Sound P ops o s y := by
    intro y fp h
    simp only [Option.some.injEq, Prod.mk.injEq] at h
    obtain ⟨rfl, _⟩ := h
    refine al hg hd (by simp) ?_
    intro F H O a w v hc hcs hon he
    obtain ⟨e0, e1, e2, e3⟩ := ev hc hcs hon
    simp only [List.map_cons, List.map_append, ag, gw] at he
    have hta := kJ (lo'.map At.den) (hi'.map At.den) (mx'.map At.den)
    simp only [Option.isSome_map] at hta
    rw [hta] at he
    simp only [execOp, hop, e0, e1, e2, e3, Sem.run_bind, kR hu hs he, Result.andThen_ok, Sem.run_pure]
   split at h
   ·rename_i l'' h'' n r off len cap
    split at h
    ·rename_i l3 h3' hl hh
     split at h
     ·rename_i hcond
      simp only [Bool.and_eq_true, decide_eq_true_eq] at hcond
      simp only [Option.some.injEq, Prod.mk.injEq] at h
      obtain ⟨rfl, _⟩ := h
      refine ao (X := fun _ => .at (.sl n r (if cap = l3 then off else off + l3 * size) (h3' - l3) (cap - l3))) hg hd (fun _ _ _ _ _ _ => aW trivial) ?_
      intro F H O a w vs hc hcs _ hon
      obtain ⟨e0, e1, e2, e3⟩ := ev hc hcs hon
      have hb : d3 size (.slice (some ⟨r, off, none⟩) len cap) (lo'.map At.den) (hi'.map At.den) none =
        some (.slice (if cap = l3 then some ⟨r, off, none⟩ else some ⟨r, off + l3 * size, none⟩) (h3' - l3) (cap - l3)) := by
       have b1 := (bG (x := hi') (d := len) (n := h3') (y := cap) hh hcond.2).2
       have b2 := (bG (x := lo') (d := 0) (n := l3) (y := h3') hl hcond.1).1
       have b3 : bj len cap (lo'.map At.den) (hi'.map At.den) none = some (l3, h3', cap) := by
        show ((bf (hi'.map At.den) false cap len).bind fun h => (aD (lo'.map At.den) h 0).bind fun l => some (l, h, cap)) = _
        rw [b1]; simp only [Option.bind_some]
        rw [b2]; rfl
       simp only [d3, b3, Option.map_some, aK]
      have e0' : a.eval x = .slice (some ⟨r, off, none⟩) len cap := e0
      simp only [Option.map_none] at e3
      simp only [execOp, hop, e0', e1, e2, e3, Sem.run_bind, kR hu hs hb, Result.andThen_ok, Sem.run_pure, S1.den, At.den]
      split <;> rfl
     ·simp at h
    ·exact gen h
   ·exact gen h
 ·rename_i len elem hu
  cases hs : bT P elem with
  | none => simp [hs] at h
  | some size =>
   simp only [hs, Option.bind_some] at h
   split at h
   ·rename_i l'' h'' n r off
    split at h
    ·rename_i l3 h3' hl hh
     split at h
     ·rename_i hcond
      simp only [Bool.and_eq_true, decide_eq_true_eq] at hcond
      simp only [Option.some.injEq, Prod.mk.injEq] at h
      obtain ⟨rfl, _⟩ := h
      refine ao (X := fun _ => .at (.sl n r (if len = l3 then off else off + l3 * size) (h3' - l3) (len - l3))) hg hd (fun _ _ _ _ _ _ => aW trivial) ?_
      intro F H O a w vs hc hcs _ hon
      obtain ⟨e0, e1, e2, e3⟩ := ev hc hcs hon
      have hb : bj len len (lo'.map At.den) (hi'.map At.den) none = some (l3, h3', len) := by
       have b1 := (bG (x := hi') (d := len) (n := h3') (y := len) hh hcond.2).2
       have b2 := (bG (x := lo') (d := 0) (n := l3) (y := h3') hl hcond.1).1
       show ((aD none len len).bind fun m => (bf (hi'.map At.den) false m len).bind fun h => (aD (lo'.map At.den) h 0).bind fun l => some (l, h, m)) = _
       show ((bf (hi'.map At.den) false len len).bind fun h => (aD (lo'.map At.den) h 0).bind fun l => some (l, h, len)) = _
       rw [b1]; simp only [Option.bind_some]
       rw [b2]; rfl
      have e0' : a.eval x = .pointer (some ⟨r, off, none⟩) := e0
      simp only [Option.map_none] at e3
      simp only [execOp, hop, e0', e1, e2, e3, Sem.run_bind, iK hu hs hb, Result.andThen_ok, Sem.run_pure, S1.den, At.den]
      split <;> rfl
     ·simp at h
    ·simp at h
   ·rename_i l'' h'' r off
    split at h
    ·rename_i l3 h3' hl hh
     split at h
     ·rename_i hcond
      simp only [Bool.and_eq_true, decide_eq_true_eq] at hcond
      simp only [Option.some.injEq, Prod.mk.injEq] at h
      obtain ⟨rfl, _⟩ := h
      refine ao (X := fun _ => .at (.k (.slice (some ⟨r, if len = l3 then off else off + l3 * size, none⟩) (h3' - l3) (len - l3)))) hg hd (fun _ _ _ _ _ _ => aW trivial) ?_
      intro F H O a w vs hc hcs _ hon
      obtain ⟨e0, e1, e2, e3⟩ := ev hc hcs hon
      have hb : bj len len (lo'.map At.den) (hi'.map At.den) none = some (l3, h3', len) := by
       have b1 := (bG (x := hi') (d := len) (n := h3') (y := len) hh hcond.2).2
       have b2 := (bG (x := lo') (d := 0) (n := l3) (y := h3') hl hcond.1).1
       show ((aD none len len).bind fun m => (bf (hi'.map At.den) false m len).bind fun h => (aD (lo'.map At.den) h 0).bind fun l => some (l, h, m)) = _
       show ((bf (hi'.map At.den) false len len).bind fun h => (aD (lo'.map At.den) h 0).bind fun l => some (l, h, len)) = _
       rw [b1]; simp only [Option.bind_some]
       rw [b2]; rfl
      have e0' : a.eval x = .pointer (some ⟨r, off, none⟩) := e0
      simp only [Option.map_none] at e3
      simp only [execOp, hop, e0', e1, e2, e3, Sem.run_bind, iK hu hs hb, Result.andThen_ok, Sem.run_pure, S1.den, At.den]
      split <;> rfl
     ·simp at h
    ·simp at h
   ·simp at h
 ·simp at h
variable {P : Program} {ops : Array Oper} {o : Oper} {s : SS} {gl : List (At × Bool)}
theorem gu {sp : Bool} {x : Operand} {y : NF} {fp : FP} (hrun : ∀ a : Act, ∀ w, (execOp a.eval o).run P w = .ok (.value (a.eval x)) w)
  (hg : af (am ops) s o = .go gl) (hd : ∀ d, o.dst = some d → d < s.sz) (h : cF s gl o.dst sp x = some (y, fp)) : Sound P ops o s y := by
 have gen : ∀ {v : S1} {cs : List Ck}, b9 s gl x = some (v, cs) → ap gl o.dst v cs = some (y, fp) → Sound P ops o s y := by
  intro v cs hx h
  exact aj hg hd h (fun hs _ => aV hs hx) (fun F H O a w hc hcs hon => by rw [hrun, aJ hc hx hcs hon])
 have gen' : ((b9 s gl x).bind fun (v, cs) => ap gl o.dst v cs) = some (y, fp) → Sound P ops o s y := by
  intro h
  simp only [Option.bind_eq_some_iff] at h
  obtain ⟨⟨v, cs⟩, hx, h⟩ := h
  exact gen hx h
 unfold cF at h
 split at h
 ·split at h
  ·rename_i hgl
   have : gl = [] := by simpa using hgl
   subst this
   simp only [Option.bind_eq_some_iff] at h
   obtain ⟨⟨a', cs⟩, hx, h⟩ := h
   simp only [] at h
   split at h
   ·exact gen (g6 hx) h
   ·simp only [Option.some.injEq, Prod.mk.injEq] at h
    obtain ⟨rfl, _⟩ := h
    refine ao (gl := []) (X := fun vs => .at (.k (g vs 0))) hg hd (fun _ _ _ _ _ _ => ga _) ?_
    rintro F H O a w vs hc hcs ⟨b, hb, rfl⟩ hon
    rw [hrun, ah hc hx hcs hon, hb]; rfl
  ·simp at h
 ·cases x with
  | tmp t =>
   simp only [] at h
   split at h
   ·rename_i l hl
    split at h
    ·rename_i hgl
     have : gl = [] := by simpa using hgl
     subst this
     simp only [Option.some.injEq, Prod.mk.injEq] at h
     obtain ⟨rfl, _⟩ := h
     intro F H O a w d K Q hc hr
     obtain ⟨_, vs, _, hk⟩ := hr
     unfold wp1
     rw [if_pos ((bg hc hg).2 trivial)]
     refine .inl ?_
     unfold Oper.wp
     rw [hrun, Oper.upon_value]
     have ht := hc.tm t
     rw [hl] at ht
     have hok := hc.ok.1 t
     rw [hl] at hok
     exact ⟨_, H, O, hc.put (sv := .tup l) hd ht hok, Heap.le_refl H, hk⟩
    ·simp at h
   ·exact gen' h
  | const v => exact gen' h
  | global n => exact gen' h
  | func f => exact gen' h
theorem kf {c a b : Operand} {y : NF} {fp : FP} (hop : o.op = .pick c a b)
  (hg : af (am ops) s o = .go gl) (hd : ∀ d, o.dst = some d → d < s.sz) (h : fj s gl o.dst c a b = some (y, fp)) : Sound P ops o s y := by
 unfold fj at h
 simp only [Option.bind_eq_some_iff] at h
 obtain ⟨⟨c', cs⟩, hc', h⟩ := h
 simp only [] at h
 split at h
 ·simp only [Option.bind_eq_some_iff] at h
  obtain ⟨⟨v, cs'⟩, hv, h⟩ := h
  refine aj hg hd h (fun hs _ => aV hs hv) ?_
  intro F H O a' w hc hcs hon
  rw [AllCk.append] at hcs
  have e1 : a'.eval c = .bool true := ah hc hc' hcs.1 hon
  have e2 := aJ hc hv hcs.2 hon
  simp [execOp, hop, e1, asBool, e2]
 ·simp only [Option.bind_eq_some_iff] at h
  obtain ⟨⟨v, cs'⟩, hv, h⟩ := h
  refine aj hg hd h (fun hs _ => aV hs hv) ?_
  intro F H O a' w hc hcs hon
  rw [AllCk.append] at hcs
  have e1 : a'.eval c = .bool false := ah hc hc' hcs.1 hon
  have e2 := aJ hc hv hcs.2 hon
  simp [execOp, hop, e1, asBool, e2]
 ·split at h
  ·rename_i a1 ca b1 cb ha hb
   split at h
   ·rename_i hfit
    simp only [Bool.and_eq_true] at hfit
    simp only [Option.some.injEq, Prod.mk.injEq] at h
    obtain ⟨rfl, _⟩ := h
    refine al hg hd ?_ ?_
    ·intro _
     by_cases hs : s.Ok
     ·exact .inl ⟨At.fit_one hfit.1 (fo hs ha), At.fit_one hfit.2 (fo hs hb), trivial⟩
     ·exact .inr hs
    ·intro F H O a' w v hc hcs hon he
     simp only [AllCk.append] at hcs
     have e1 := ah hc hc' hcs.1.1 hon
     simp only [List.map_cons, List.map_nil] at he
     cases hcd : c'.den <;> simp only [hcd, ag] at he <;> try (simp at he; done)
     rename_i bv
     simp only [Option.some.injEq] at he
     cases bv with
     | true =>
      have e2 := ah hc ha hcs.1.2 (gl := (c', true) :: gl) ⟨hcd, hon⟩
      simp only [if_true] at he
      simp [execOp, hop, e1, hcd, asBool, e2, he]
     | false =>
      have e2 := ah hc hb hcs.2 (gl := (c', false) :: gl) ⟨hcd, hon⟩
      simp only [Bool.false_eq_true, if_false] at he
      simp [execOp, hop, e1, hcd, asBool, e2, he]
   ·simp at h
  ·simp at h
theorem jL {T : TypeId} {parts : Array (Nat × Operand)} {y : NF} {fp : FP} (hop : o.op = .build T parts)
  (hg : af (am ops) s o = .go gl) (hd : ∀ d, o.dst = some d → d < s.sz) (h : dt P s gl o.dst T parts.toList = some (y, fp)) : Sound P ops o s y := by
 unfold dt at h
 simp only [Option.bind_eq_some_iff] at h
 obtain ⟨zero, hz, h⟩ := h
 obtain ⟨z, hzr, hzc, hzk, hzo⟩ := bW hz
 have hzc' : z.cells = (zero.map At.den).toArray := by rw [← hzc]
 have hparts : ∀ a : Act, (parts.map fun p => (p.1, a.eval p.2)).toList = parts.toList.map fun p => (p.1, a.eval p.2) := fun a => by simp
 split at h
 ·rename_i fs hu
  simp only [Option.bind_eq_some_iff] at h
  obtain ⟨places, hp, ⟨cells, cs⟩, hf, h⟩ := h
  refine aj hg hd h (fun hs _ => bC hs hf hzo) ?_
  intro F H O a w hc hcs hon
  have hfill := eN hc hon hf hcs
  have hb : P.built T (parts.map fun p => (p.1, a.eval p.2)).toList = some (cells.map At.den).toArray := by
   unfold du at hz
   cases hi : P.info? T with
   | none => simp [hi] at hz
   | some i =>
    simp only [hi, Option.bind_some, Option.map_eq_some_iff] at hz
    obtain ⟨z0, hz0, hz1⟩ := hz
    have : z0.cells = (zero.map At.den).toArray := by rw [← hz1]; simp [Function.comp_def, At.den]
    unfold Program.built
    simp only [hi, hu, hz0, hp, this, hparts]
    exact hfill
  simp only [execOp, hop, Sem.run_bind, run_build w T _ _ hb, Result.andThen_ok, Sem.run_pure]
  rfl
 ·rename_i n elem hu
  simp only [Option.bind_eq_some_iff] at h
  obtain ⟨size, hs, ⟨cells, cs⟩, hf, h⟩ := h
  refine aj hg hd h (fun hs' _ => bC hs' hf hzo) ?_
  intro F H O a w hc hcs hon
  have hfill := eN hc hon hf hcs
  simp only [execOp, hop, Instr.build, Sem.run_bind, hzr, Result.andThen_ok, ab hu, ak hs, hparts, hzc', hfill, Sem.run_pure]
  rfl
 ·simp at h
theorem eG {name : Nat} {T : TypeId} {len : Nat} {parts : Array (Nat × Operand)} {y : NF} {fp : FP} (hop : o.op = .buildSlice T len parts)
  (hg : af (am ops) s o = .go gl) (hd : ∀ d, o.dst = some d → d < s.sz) (h : aO P s gl o.dst name T len parts.toList = some (y, fp)) : Sound P ops o s y := by
 unfold aO at h
 split at h
 ·rename_i elem hu
  simp only [Option.bind_eq_some_iff] at h
  obtain ⟨size, hs, zero, hz, h⟩ := h
  split at h
  ·rename_i hcond
   simp only [Bool.and_eq_true, decide_eq_true_eq] at hcond
   obtain ⟨⟨hzl, hs0⟩, hlim⟩ := hcond
   simp only [Option.bind_eq_some_iff] at h
   obtain ⟨⟨cells, cs⟩, hf, h⟩ := h
   obtain ⟨z, hzr, hzc, hzk, hzo⟩ := bW hz
   refine cw hg hd h (fun _ => trivial) (fun _ => rfl) (fun hs' => bC hs' hf (fun a ha => hzo a (bn ha))) ?_
   intro F H O a w hc hcs hgl
   subst hgl
   refine ⟨cells.map At.den, CellsRel.map cells, ?_⟩
   have hfill := eN (gl := []) hc trivial hf hcs
   have hzc' : z.cells = (zero.map At.den).toArray := by rw [← hzc]
   have hparts : (parts.map fun p => (p.1, a.eval p.2)).toList = parts.toList.map fun p => (p.1, a.eval p.2) := by simp
   have hlim' : ¬ (len * size > 2 ^ 24) := by have : (2:Nat) ^ 24 = 16777216 := rfl; omega
   have hrep : ((Array.range (len * size)).map fun i => (zero.map At.den).toArray[i % (zero.map At.den).toArray.size]!) = ((au zero len).map At.den).toArray := by
    have := bz (zero.map At.den) (by rw [List.length_map, hzl]; exact hs0) len
    apply Array.ext'
    rw [bO, ← this]
    simp [hzl]
   by_cases h0 : len * size = 0
   ·have hl0 : len = 0 := by
     rcases Nat.mul_eq_zero.1 h0 with h | h
     ·exact h
     ·exact absurd h hs0
    subst hl0
    simp only [au, List.map_nil] at hfill
    simp only [execOp, hop, Instr.buildSlice, Sem.run_bind, ab hu, Result.andThen_ok, ak hs, Nat.zero_mul, hparts]
    simp only [Nat.not_lt_zero, gt_iff_lt, if_false, if_true, Sem.run_bind, Sem.run_pure, Result.andThen_ok, show Array.range 0 = #[] from rfl, Array.map_empty, hfill, newRow, run_newObj]
    rfl
   ·simp only [execOp, hop, Instr.buildSlice, Sem.run_bind, ab hu, Result.andThen_ok, ak hs, hlim', if_false, h0, hzr, Sem.run_pure, hzc', hrep, hparts, hfill, newRow, run_newObj]
    rfl
  ·simp at h
 ·simp at h
theorem fD {name : Nat} {t : TypeId} {l c : Operand} {y : NF} {fp : FP} {n m : Nat} {elem : TypeId} (hop : o.op = .makeSlice t l c)
  (hg : af (am ops) s o = .go gl) (hd : ∀ d, o.dst = some d → d < s.sz) (hl : dj l = some n) (hc0 : dj c = some m) (hu : P.underlying t = some (.slice elem))
  (h : aN P s gl o.dst name t l c = some (y, fp)) : Sound P ops o s y := by
 unfold aN at h
 rw [hl, hc0, hu] at h
 simp only [Option.bind_eq_some_iff] at h
 obtain ⟨size, hs, zero, hz, h⟩ := h
 split at h
 ·rename_i hcond
  simp only [Bool.and_eq_true, decide_eq_true_eq] at hcond
  obtain ⟨⟨⟨⟨hzl, hs0⟩, hnm⟩, hlim⟩, hby⟩ := hcond
  obtain ⟨z, hzr, hzc, hzk, hzo⟩ := bW hz
  have hk : ∀ {x : Operand} {k : Nat}, dj x = some k → x = .const (.int .i64 k) ∧ k ≤ 65536 := by
   intro x k hx
   unfold dj at hx
   split at hx
   ·split at hx
    ·rename_i v hv
     simp only [Option.some.injEq] at hx
     subst hx
     exact ⟨by congr 2; omega, by omega⟩
    ·simp at hx
   ·simp at hx
  obtain ⟨rfl, hn6⟩ := hk hl
  obtain ⟨rfl, hm6⟩ := hk hc0
  refine cw hg hd h (fun _ => trivial) (fun _ => rfl) (fun _ => fun a ha => hzo a (bn ha)) ?_
  intro F H O a w hc hcs hgl
  subst hgl
  refine ⟨(au zero m).map At.den, CellsRel.map _, ?_⟩
  have hzc' : z.cells = (zero.map At.den).toArray := by rw [← hzc]
  have hrep : ((Array.range (m * size)).map fun i => (zero.map At.den).toArray[i % (zero.map At.den).toArray.size]!) = ((au zero m).map At.den).toArray := by
   have := bz (zero.map At.den) (by rw [List.length_map, hzl]; exact hs0) m
   apply Array.ext'
   rw [bO, ← this]
   simp [hzl]
  cases hi : P.info? elem with
  | none => rw [hi] at hby; simp at hby
  | some i =>
   rw [hi] at hby
   simp only [Option.map_some, Option.getD_some, decide_eq_true_eq] at hby
   have w1 : IntKind.i64.wrap (n : Int) = n := by simp only [IntKind.wrap, IntKind.bits, IntKind.signed]; simp; omega
   have w2 : IntKind.i64.wrap (m : Int) = m := by simp only [IntKind.wrap, IntKind.bits, IntKind.signed]; simp; omega
   have hby' : ¬ ((i.bytes : Int) * (m : Int) > 2 ^ 48) := by
    have : ((i.bytes * m : Nat) : Int) ≤ ((2 ^ 48 : Nat) : Int) := Int.ofNat_le.2 hby
    have e : ((i.bytes * m : Nat) : Int) = (i.bytes : Int) * (m : Int) := Int.natCast_mul _ _
    have e2 : ((2 ^ 48 : Nat) : Int) = 2 ^ 48 := by rfl
    omega
   have hcnd : ¬ (((decide ((m : Int) < 0) || decide ((i.bytes : Int) * (m : Int) > 2 ^ 48)) || decide ((n : Int) < 0) || decide ((n : Int) > (m : Int))) = true) := by
    simp only [Bool.or_eq_true, decide_eq_true_eq]
    omega
   have hti : (typeInfo elem).run P w = .ok i w := by simp [typeInfo, hi]
   have hA : ∀ k : Nat, (asInt (.int .i64 (k : Int))).run P w = .ok (k : Int) w := fun k => rfl
   have hms : (Instr.makeSlice t (.int .i64 (n : Int)) (.int .i64 (m : Int))).run P w = .ok (.slice (some ⟨w.heap.size, 0, none⟩) n m) { w with heap := w.heap.push (.cells ((au zero m).map At.den).toArray elem (0, 0)) } := by
    unfold Instr.makeSlice
    rw [Sem.run_bind, ab hu]
    simp only [Result.andThen_ok]
    rw [Sem.run_bind, hA, Result.andThen_ok, Sem.run_bind, hA, Result.andThen_ok, Sem.run_bind, hti, Result.andThen_ok]
    simp only [w1, w2]
    rw [if_neg hcnd]
    by_cases h0 : m * size = 0
    ·have hm0 : m = 0 := (Nat.mul_eq_zero.1 h0).resolve_right hs0
     subst hm0
     simp only [Sem.run_bind, run_askRoom, ak hs, Result.andThen_ok, Int.toNat_natCast, Nat.zero_mul, if_true, Sem.run_pure, show Array.range 0 = #[] from rfl, Array.map_empty, newRow, run_newObj, au, List.map_nil]
    ·simp only [Sem.run_bind, run_askRoom, ak hs, Result.andThen_ok, Int.toNat_natCast, h0, if_false, hzr, Sem.run_pure, hzc', hrep, newRow, run_newObj]
   simp only [execOp, hop, Act.eval, Sem.run_bind, hms, Result.andThen_ok, Sem.run_pure]
   rfl
 ·simp at h
variable {P : Program} {ops : Array Oper} {o : Oper} {s : SS} {gl : List (At × Bool)}
theorem dX {y : Value} (h : kn y = true) : ∃ ad, y = .pointer (some ad) := by
 unfold kn at h; split at h
 ·exact ⟨_, rfl⟩
 ·simp at h
theorem lh {x : Operand} {x' : At} {cs : List Ck} {y : NF} {fp : FP} (hop : o.op = .nilCheck x) (hx : a5 s gl x = some (x', cs))
  (hg : af (am ops) s o = .go gl) (hd : ∀ d, o.dst = some d → d < s.sz) (h : ma gl o.dst x' cs = some (y, fp)) : Sound P ops o s y := by
 have hok := fun hs : s.Ok => fo hs hx
 unfold ma at h
 split at h
 ·refine aj hg hd h (fun hs _ => aW (hok hs)) ?_
  intro F H O a w hc hcs hon
  have e := ah hc hx hcs hon
  simp only [execOp, hop, e]; rfl
 ·refine aj hg hd h (fun hs _ => aW (hok hs)) ?_
  intro F H O a w hc hcs hon
  have e := ah hc hx hcs hon
  simp only [execOp, hop, e]; rfl
 ·refine aj hg hd h (fun hs _ => aW (hok hs)) ?_
  intro F H O a w hc hcs hon
  have e := ah hc hx hcs.2 hon
  obtain ⟨ad, had⟩ := dX (hcs.1 hon)
  subst had
  simp only [execOp, hop, e]; rfl
 ·refine aj hg hd h (fun hs _ => aW (hok hs)) ?_
  intro F H O a w hc hcs hon
  have e := ah hc hx hcs.2 hon
  obtain ⟨ad, had⟩ := dX (hcs.1 hon)
  subst had
  simp only [execOp, hop, e]; rfl
 ·refine aj hg hd h (fun hs _ => aW (hok hs)) ?_
  intro F H O a w hc hcs hon
  have e := ah hc hx hcs.2 hon
  obtain ⟨ad, had⟩ := dX (hcs.1 hon)
  subst had
  simp only [execOp, hop, e]; rfl
 ·simp at h
theorem k5 {s : SS} {gl : List (At × Bool)} {x y : Operand} {as : List S1} {cs : List Ck} (h : bV s gl [x, y] = some (as, cs)) : ∃ a b, as = [a, b] := by
 simp only [bV] at h
 split at h
 ·rename_i a c as' cs' h1 h2
  simp only [Option.some.injEq, Prod.mk.injEq] at h
  split at h2
  ·rename_i b c2 as2 cs2 h3 h4
   simp only [Option.some.injEq, Prod.mk.injEq] at h2 h4
   exact ⟨a, b, by rw [← h.1, ← h2.1, ← h4.1]⟩
  ·simp at h2
 ·simp at h
theorem m7 {op : BinOp} {t yt : TypeId} {x y : Operand} {X Y v : Value} (hop : o.op = .binOp op t x y yt) {a : Act} (ex : a.eval x = X) (ey : a.eval y = Y)
  (h : ∀ w, ((PrimOp.eqv op t (dY x || dY y)).sem [X, Y]).run P w = .ok (.value v) w) (w : World) : (execOp a.eval o).run P w = .ok (.value v) w := by
 have hw := h w
 simp only [PrimOp.sem] at hw
 simp only [execOp, hop, ex, ey]
 have : (eqGuard op t x y X Y) = (eqGuard op t (if (dY x || dY y) = true then .const undef else .global 0) (.global 0) X Y) := by
  unfold eqGuard
  cases x <;> cases y <;> rfl
 rw [this]; exact hw
theorem lx {op : BinOp} {t yt : TypeId} {x y : Operand} {z : NF} {fp : FP} (hop : o.op = .binOp op t x y yt)
    (hg : af (am ops) s o = .go gl) (hd : ∀ d, o.dst = some d → d < s.sz) (h : jk P s gl o.dst op t x y = some (z, fp)) : Sound P ops o s z := by
  unfold jk at h
  split at h
  · rename_i bk hbk
    simp only [Option.bind_eq_some_iff] at h
    obtain ⟨⟨as, cs⟩, hx, h⟩ := h
    obtain ⟨x', y', rfl⟩ := fm hx
    simp only [Option.some.injEq, Prod.mk.injEq] at h
    obtain ⟨rfl, _⟩ := h
    refine al hg hd (by simp) ?_
    intro F H O a w v hc hcs hon he
    obtain ⟨e1, e2⟩ := eO hc hx hcs hon
    simp only [List.map_cons, List.map_nil, ag] at he
    simp only [execOp, hop, e1, e2]
    rw [Sem.run_bind, mU hbk he]; rfl
  · split at h
    all_goals first
      | (simp at h; done)
      | (simp only [Option.bind_eq_some_iff] at h
         obtain ⟨⟨as, cs⟩, hx, h⟩ := h
         obtain ⟨x', y', rfl⟩ := k5 hx
         simp only [Option.some.injEq, Prod.mk.injEq] at h
         obtain ⟨rfl, _⟩ := h
         refine ao (X := fun vs => .at (.v (g vs 0))) hg hd ?_ ?_
         · rintro H O vs _ _ ⟨v, rfl, _, hone⟩; exact aW hone
         · rintro F H O a w vs hc hcs ⟨v, rfl, he, _⟩ hon
           have e := cE hc hx hcs hon
           simp only [List.map_cons, List.map_nil, List.cons.injEq, and_true] at e
           exact m7 hop e.1 e.2 (he hon) w)

theorem lI {op : UnOp} {t : TypeId} {x : Operand} {x' : At} {cs : List Ck} {z : NF} {fp : FP} (hop : o.op = .unOp op t x) (hx : a5 s gl x = some (x', cs))
    (hg : af (am ops) s o = .go gl) (hd : ∀ d, o.dst = some d → d < s.sz) (h : nN P gl o.dst op t x' cs = some (z, fp)) : Sound P ops o s z := by
  unfold nN at h
  split at h
  all_goals first
    | (simp at h; done)
    | (simp only [Option.some.injEq, Prod.mk.injEq] at h
       obtain ⟨rfl, _⟩ := h
       refine al hg hd (by simp) ?_
       intro F H O a w v hc hcs hon he
       have e := ah hc hx hcs hon
       simp only [List.map_cons, List.map_nil] at he
       simp only [execOp, hop, e]
       cases hv : x'.den <;> simp only [hv, ag, reduceCtorEq, cu, Option.some.injEq] at he
       subst he
       rfl)

theorem ks {ta tb : TypeId} {x : Operand} {x' : At} {cs : List Ck} {z : NF} {fp : FP} (hop : o.op = .convert ta tb x) (hx : a5 s gl x = some (x', cs))
  (hg : af (am ops) s o = .go gl) (hd : ∀ d, o.dst = some d → d < s.sz) (h : fS P s gl o.dst ta tb x' cs = some (z, fp)) : Sound P ops o s z := by
 unfold fS at h
 split at h
 ·rename_i k0 k hu1 hu2
  simp only [Option.some.injEq, Prod.mk.injEq] at h
  obtain ⟨rfl, _⟩ := h
  refine al hg hd (by simp) ?_
  intro F H O a w v hc hcs hon he
  have e := ah hc hx hcs hon
  simp only [List.map_cons, List.map_nil] at he
  cases hv : x'.den <;> simp only [hv, ag, reduceCtorEq, Option.some.injEq] at he
  subst he
  simp only [execOp, hop, e, hv, convert, Sem.run_bind, ab hu1, ab hu2, Result.andThen_ok, Conv.intToInt, Sem.run_pure]
 ·split at h
  ·rename_i hgl
   have : gl = [] := by simpa using hgl
   subst this
   refine aA rfl hg hd h ?_
   intro F H O a w hc hcs H1 O1 R hT F1 hm next Q hn
   have e := ah hc hx hcs trivial
   exact dS hT hm (by simp only [execOp, hop, e, PrimOp.sem]) hn
  ·simp at h
theorem jD {t : TypeId} {x : Operand} {z : NF} {fp : FP} (hop : o.op = .makeInterface t x)
  (hg : af (am ops) s o = .go gl) (hd : ∀ d, o.dst = some d → d < s.sz) (h : dl P s gl o.dst t x = some (z, fp)) : Sound P ops o s z := by
 unfold dl at h
 split at h
 ·simp at h
 ·simp at h
 ·rename_i d hni hu
  simp only [Option.bind_eq_some_iff] at h
  obtain ⟨⟨v, cs⟩, hx, h⟩ := h
  simp only [] at h
  split at h
  ·refine aj hg hd h (fun _ _ => aW rfl) ?_
   intro F H O a w hc hcs hon
   have e := aJ hc hx hcs hon
   simp only [execOp, hop, e, Instr.makeInterface, Sem.run_bind, ab hu, Result.andThen_ok]
   cases d <;> first | rfl | exact absurd hu (hni _)
  ·split at h
   ·rename_i hgl
    have : gl = [] := by simpa using hgl
    subst this
    refine aA rfl hg hd h ?_
    intro F H O a w hc hcs H1 O1 R hT F1 hm next Q hn
    have e := aJ hc hx hcs trivial
    refine dS hT hm ?_ hn
    rcases v with c | l
    ·simp only [execOp, hop, e, S1.isAgg, S1.cells, S1.den, PrimOp.sem, List.map_cons, List.map_nil]
    ·simp only [execOp, hop, e, S1.isAgg, S1.cells, S1.den, PrimOp.sem]
   ·simp at h
theorem jg : ∀ {as : List At} {l : List Cp}, dN as = some l → l.map Cp.den = as.map At.den
 | [], l, h => by simp only [dN, Option.some.injEq] at h; subst h; rfl
 | a :: r, l, h => by
  cases a <;> simp only [dN, Option.map_eq_some_iff, reduceCtorEq] at h
  all_goals
   obtain ⟨l', hl, rfl⟩ := h
   simp only [List.map_cons, jg hl]
   rfl
theorem kp {f : FuncId} {first caps : Array Operand} {as : List At} {cs : List Ck} {l : List Cp} {z : NF} {fp : FP} (hop : o.op = .makeFunc (.func f) first caps) (hf : first.isEmpty = true)
  (hx : az s gl caps.toList = some (as, cs)) (hl : dN as = some l)
  (hg : af (am ops) s o = .go gl) (hd : ∀ d, o.dst = some d → d < s.sz) (h : ap gl o.dst (.at (.clo f l)) cs = some (z, fp)) : Sound P ops o s z := by
 refine aj hg hd h (fun _ _ => aW trivial) ?_
 intro F H O a w hc hcs hon
 have e := aB hc hx hcs hon
 have : first = #[] := by simpa using hf
 subst this
 have hcaps : caps.map a.eval = (l.map Cp.den).toArray := by
  rw [jg hl, ← e]; apply Array.ext'; simp
 simp only [execOp, hop, Instr.makeFunc, hcaps, Sem.run_bind, Sem.run_pure, Result.andThen_ok, Array.map_empty]
 rfl
theorem jC {t : TypeId} {x i : Operand} {x' : S1} {i' : At} {cx ci : List Ck} {z : NF} {fp : FP} (hop : o.op = .index t x i) (hx : b9 s gl x = some (x', cx)) (hi : a5 s gl i = some (i', ci))
  (hg : af (am ops) s o = .go gl) (hd : ∀ d, o.dst = some d → d < s.sz) (h : ie P gl o.dst t x' i' (cx ++ ci) = some (z, fp)) : Sound P ops o s z := by
 have ev : ∀ {F H O a w}, Conc F s H O a w → AllCk (cx ++ ci) → On (bQ gl) → a.eval x = x'.den ∧ a.eval i = i'.den := by
  intro F H O a w hc hcs hon
  rw [AllCk.append] at hcs
  exact ⟨aJ hc hx hcs.1 hon, ah hc hi hcs.2 hon⟩
 unfold ie at h
 split at h
 ·rename_i len elem cells hu
  simp only [Option.bind_eq_some_iff] at h
  obtain ⟨size, hs, h⟩ := h
  split at h
  ·rename_i n hn
   split at h
   ·rename_i hlt
    simp only [Option.bind_eq_some_iff] at h
    obtain ⟨v, hv, h⟩ := h
    refine aj hg hd h (fun hs' _ a ha => aV hs' hx a (gp hv a ha)) ?_
    intro F H O a w hc hcs hon
    obtain ⟨e1, e2⟩ := ev hc hcs hon
    obtain ⟨k, hk⟩ := bD hn
    obtain ⟨m, hm⟩ := fk hv
    have hb : (0 : Int) ≤ n ∧ (n : Int) < len := by omega
    have e1' : a.eval x = .agg (cells.map At.den).toArray := e1
    simp only [execOp, hop, e1', e2, hk, Instr.index, asIntOf, Sem.run_bind, Sem.run_pure, Result.andThen_ok, ab hu, if_pos hb, ak hs, Int.toNat_natCast, jS hv w hm]
   ·simp at h
  ·split at h
   ·rename_i hcond
    simp only [Bool.and_eq_true, decide_eq_true_eq, Bool.not_eq_true'] at hcond
    obtain ⟨⟨⟨⟨h1, hA⟩, hl⟩, hfit⟩, _⟩ := hcond
    subst h1
    simp only [Option.some.injEq, Prod.mk.injEq] at h
    obtain ⟨rfl, _⟩ := h
    refine al hg hd ?_ ?_
    ·intro _
     by_cases hs' : s.Ok
     ·exact .inl (j0 (by simpa using hfit) (aV hs' hx))
     ·exact .inr hs'
    ·intro F H O a w v hc hcs hon he
     obtain ⟨e1, e2⟩ := ev hc hcs hon
     simp only [List.map_cons, ag] at he
     have e1' : a.eval x = .agg (cells.map At.den).toArray := e1
     have hrun := jT hu hs hA (by simpa using hl) he w
     simp only [execOp, hop, e1', e2, Sem.run_bind, hrun, Result.andThen_ok, Sem.run_pure]
   ·split at h
    ·rename_i hcond
     simp only [Bool.and_eq_true, decide_eq_true_eq, Bool.not_eq_true', List.isEmpty_iff] at hcond
     obtain ⟨⟨⟨⟨⟨hgl, h1⟩, hA⟩, hl⟩, hkn⟩, _⟩ := hcond
     subst hgl
     subst h1
     simp only [Option.some.injEq, Prod.mk.injEq] at h
     obtain ⟨rfl, _⟩ := h
     have hmem : ∀ n : Nat, n < cells.length → cells.getD n .any ∈ cells := fun n hn => by simp [List.getD, hn]
     refine ao (gl := []) (X := fun vs => .at (cells.getD (match g vs 0 with | .int _ n => n.toNat | _ => 0) .any)) hg hd ?_ ?_
     ·rintro H O vs hs' _ ⟨kd, j, hj, h0, h2, rfl⟩
      refine aW (aV hs' hx _ ?_)
      show cells.getD j.toNat .any ∈ cells
      exact hmem _ (by omega)
     ·rintro F H O a w vs hc hcs ⟨kd, j, hj, h0, h2, rfl⟩ hon
      obtain ⟨e1, e2⟩ := ev hc hcs hon
      have e1' : a.eval x = .agg (cells.map At.den).toArray := e1
      have he : ag .aidx (i'.den :: cells.map At.den) = some ((cells.getD j.toNat .any).den) := by
       rw [hj]
       simp only [ag, dJ, List.length_map]
       rw [if_pos ⟨h0, by omega⟩, List.getElem?_map]
       have : j.toNat < cells.length := by omega
       simp [List.getD, this]
      have hrun := jT hu hs hA (by simpa using hl) he w
      simp only [execOp, hop, e1', e2, Sem.run_bind, hrun, Result.andThen_ok, Sem.run_pure]
      rfl
    ·simp at h
 ·rename_i x1 hu
  simp only [Option.some.injEq, Prod.mk.injEq] at h
  obtain ⟨rfl, _⟩ := h
  refine al hg hd (by simp) ?_
  intro F H O a w v hc hcs hon he
  obtain ⟨e1, e2⟩ := ev hc hcs hon
  simp only [List.map_cons, List.map_nil, ag] at he
  have e1' : a.eval x = x1.den := e1
  simp only [execOp, hop, e1', e2, Sem.run_bind, lP hu he w, Result.andThen_ok, Sem.run_pure]
 ·simp at h
theorem ij {x : Operand} {i : Nat} {z : NF} {fp : FP} (hop : o.op = .extract x i)
  (hg : af (am ops) s o = .go gl) (hd : ∀ d, o.dst = some d → d < s.sz) (h : aU s gl o.dst x i = some (z, fp)) : Sound P ops o s z := by
 cases x with
 | tmp t =>
  simp only [aU] at h
  split at h
  ·rename_i l hl
   simp only [Option.bind_eq_some_iff] at h
   obtain ⟨v, hv, h⟩ := h
   split at h
   ·refine aj hg hd h (fun hs _ => ?_) ?_
    ·have := hs.1 t; rw [hl] at this; exact this v (List.mem_of_getElem? hv)
    ·intro F H O a w hc hcs hon
     have ht := hc.tm t
     rw [hl] at ht
     have e : a.eval (.tmp t) = .tuple (l.map S1.den).toArray := ht
     have hget : ((l.map S1.den).toArray)[i]? = some v.den := by simp [hv]
     simp only [execOp, hop, e, Instr.extract, hget, Sem.run_bind, Sem.run_pure, Result.andThen_ok]
   ·simp at h
  ·simp at h
 | const v => simp [aU] at h
 | global n => simp [aU] at h
 | func f => simp [aU] at h
theorem bZ {α : Type} {l : List α} {x : α} (h : mZ l = some x) : l = [x] := by
 unfold mZ at h; split at h
 ·simp only [Option.some.injEq] at h; rw [h]
 ·simp at h
theorem dy {α : Type} {l : List α} {x : α × α} (h : nb l = some x) : l = [x.1, x.2] := by
 unfold nb at h; split at h
 ·simp only [Option.some.injEq] at h; rw [← h]
 ·simp at h
theorem a2 {c : Call} {b : Builtin} {a : Act} (hop : o.op = .call c) (hcal : c.callee = .builtin b) (hb : b ≠ .print) (hb' : b ≠ .println) (w : World) :
  (execOp a.eval o).run P w = (builtin b c.argTypes o.type #[] (c.args.map a.eval)).run P w := by
 simp only [execOp, hop, resolve, hcal, Sem.run_bind, Sem.run_pure, Result.andThen_ok, invoke]
 cases b <;> first | rfl | exact absurd rfl hb | exact absurd rfl hb'
theorem iv {c : Call} {b : Builtin} {z : NF} {fp : FP} (hop : o.op = .call c) (hcal : c.callee = .builtin b)
    (hg : af (am ops) s o = .go gl) (hd : ∀ d, o.dst = some d → d < s.sz) (h : bM P s gl o.dst o.type b c.argTypes c.args.toList = some (z, fp)) : Sound P ops o s z := by
  unfold bM at h
  split at h
  · -- len
    simp only [Option.bind_eq_some_iff] at h
    obtain ⟨t, ht, x, hx, ⟨x', cs⟩, hx', h⟩ := h
    have ht' : c.argTypes = #[t] := by apply Array.ext'; simpa using bZ ht
    have hargs : c.args = #[x] := by apply Array.ext'; simpa using bZ hx
    have ex : ∀ {F H O a w}, Conc F s H O a w → AllCk cs → On (bQ gl) → (execOp a.eval o).run P w = (Functor.map (fun v => Next.value v) (Builtin.len_ #[t] o.type #[x'.den])).run P w := by
      intro F H O a w hc hcs hon
      rw [a2 hop hcal (by simp) (by simp), ht', hargs]
      have e := ah hc hx' hcs hon
      simp only [builtin, List.map_toArray, List.map_cons, List.map_nil, e]
      rfl
    unfold lm at h
    split at h
    · rename_i e hu
      split at h
      · rename_i n r off m cp hxe
        simp only [] at hxe
        subst hxe
        refine aj hg hd h (fun _ _ => ga _) ?_
        intro F H O a w hc hcs hon
        rw [ex hc hcs hon, Sem.run_map, kS hu (x := (At.sl n r off m cp).den) (v := goInt m) rfl]; rfl
      · simp only [Option.some.injEq, Prod.mk.injEq] at h
        obtain ⟨rfl, _⟩ := h
        refine al hg hd (by simp) ?_
        intro F H O a w v hc hcs hon he
        rw [ex hc hcs hon, Sem.run_map, kS hu he]; rfl
    · rename_i hu
      simp only [Option.some.injEq, Prod.mk.injEq] at h
      obtain ⟨rfl, _⟩ := h
      refine al hg hd (by simp) ?_
      intro F H O a w v hc hcs hon he
      rw [ex hc hcs hon, Sem.run_map, lO hu he]; rfl
    · rename_i n e hu
      refine aj hg hd h (fun _ _ => ga _) ?_
      intro F H O a w hc hcs hon
      rw [ex hc hcs hon, Sem.run_map, lQ hu]; rfl
    · rename_i k e hu
      split at h
      · rename_i hgl
        have : gl = [] := by simpa using hgl
        subst this
        refine aA rfl hg hd h ?_
        intro F H O a w hc hcs H1 O1 R hT F1 hm next Q hn
        exact dS hT hm (by rw [ex hc hcs trivial]; rfl) hn
      · simp at h
    · simp at h
  · -- cap
    simp only [Option.bind_eq_some_iff] at h
    obtain ⟨t, ht, x, hx, ⟨x', cs⟩, hx', h⟩ := h
    have ht' : c.argTypes = #[t] := by apply Array.ext'; simpa using bZ ht
    have hargs : c.args = #[x] := by apply Array.ext'; simpa using bZ hx
    have ex : ∀ {F H O a w}, Conc F s H O a w → AllCk cs → On (bQ gl) → (execOp a.eval o).run P w = (Functor.map (fun v => Next.value v) (Builtin.cap_ #[t] o.type #[x'.den])).run P w := by
      intro F H O a w hc hcs hon
      rw [a2 hop hcal (by simp) (by simp), ht', hargs]
      have e := ah hc hx' hcs hon
      simp only [builtin, List.map_toArray, List.map_cons, List.map_nil, e]
      rfl
    unfold nF at h
    split at h
    · rename_i e hu
      split at h
      · rename_i n r off m cp hxe
        simp only [] at hxe
        subst hxe
        refine aj hg hd h (fun _ _ => ga _) ?_
        intro F H O a w hc hcs hon
        rw [ex hc hcs hon, Sem.run_map, kU hu (x := (At.sl n r off m cp).den) (v := goInt cp) rfl]; rfl
      · simp only [Option.some.injEq, Prod.mk.injEq] at h
        obtain ⟨rfl, _⟩ := h
        refine al hg hd (by simp) ?_
        intro F H O a w v hc hcs hon he
        rw [ex hc hcs hon, Sem.run_map, kU hu he]; rfl
    · simp at h
  · -- min
    simp only [Option.bind_eq_some_iff] at h
    obtain ⟨⟨x, y⟩, hxy, ⟨as, cs⟩, hx, h⟩ := h
    have hargs : c.args = #[x, y] := by apply Array.ext'; simpa using dy hxy
    obtain ⟨x', y', rfl⟩ := fm hx
    simp only [Option.some.injEq, Prod.mk.injEq] at h
    obtain ⟨rfl, _⟩ := h
    refine al hg hd (by simp) ?_
    intro F H O a w v hc hcs hon he
    obtain ⟨e1, e2⟩ := eO hc hx hcs hon
    rw [a2 hop hcal (by simp) (by simp), hargs]
    simp only [List.map_cons, List.map_nil] at he
    simp only [builtin, List.map_toArray, List.map_cons, List.map_nil, e1, e2]
    cases hv1 : x'.den <;> cases hv2 : y'.den <;> simp only [hv1, hv2, ag, reduceCtorEq, Option.some.injEq] at he
    subst he
    rw [Sem.run_bind, run_min_int2]; rfl
  · -- max
    simp only [Option.bind_eq_some_iff] at h
    obtain ⟨⟨x, y⟩, hxy, ⟨as, cs⟩, hx, h⟩ := h
    have hargs : c.args = #[x, y] := by apply Array.ext'; simpa using dy hxy
    obtain ⟨x', y', rfl⟩ := fm hx
    simp only [Option.some.injEq, Prod.mk.injEq] at h
    obtain ⟨rfl, _⟩ := h
    refine al hg hd (by simp) ?_
    intro F H O a w v hc hcs hon he
    obtain ⟨e1, e2⟩ := eO hc hx hcs hon
    rw [a2 hop hcal (by simp) (by simp), hargs]
    simp only [List.map_cons, List.map_nil] at he
    simp only [builtin, List.map_toArray, List.map_cons, List.map_nil, e1, e2]
    cases hv1 : x'.den <;> cases hv2 : y'.den <;> simp only [hv1, hv2, ag, reduceCtorEq, Option.some.injEq] at he
    subst he
    rw [Sem.run_bind, run_max_int2]; rfl
  all_goals first
    | (simp at h; done)
    | (split at h
       · rename_i hgl
         have : gl = [] := by simpa using hgl
         subst this
         simp only [Option.bind_eq_some_iff] at h
         obtain ⟨⟨as, cs⟩, hx, h⟩ := h
         refine aA rfl hg hd h ?_
         intro F H O a w hc hcs H1 O1 R hT F1 hm next Q hn
         refine dS hT hm ?_ hn
         rw [a2 hop hcal (by simp) (by simp)]
         have e := aB hc hx hcs trivial
         have : c.args.map a.eval = (as.map At.den).toArray := by rw [← e]; apply Array.ext'; simp
         rw [this]; rfl
       · simp at h)

theorem aY {shp : Shp} {op : PrimOp} {xs : List Operand} {z : NF} {fp : FP}
  (hg : af (am ops) s o = .go gl) (hd : ∀ d, o.dst = some d → d < s.sz) (h : aR s gl o.dst shp op xs = some (z, fp))
  (hex : ∀ (a : Act) (vs : List Value) (w : World), xs.map a.eval = vs → (execOp a.eval o).run P w = (op.sem vs).run P w) : Sound P ops o s z := by
 unfold aR at h
 split at h
 ·rename_i hgl
  have : gl = [] := by simpa using hgl
  subst this
  simp only [Option.bind_eq_some_iff] at h
  obtain ⟨⟨as, cs⟩, hx, h⟩ := h
  refine aA rfl hg hd h ?_
  intro F H O a w hc hcs H1 O1 R hT F1 hm next Q hn
  exact dS hT hm (hex a _ w (aB hc hx hcs trivial)) hn
 ·simp at h
theorem cH {t : TypeId} {m k x : Operand} {z : NF} {fp : FP} (hdst : o.dst = none) (hop : o.op = .mapUpdate t m k x ∨ o.op = .insert t m k x)
  (hg : af (am ops) s o = .go gl) (hd : ∀ d, o.dst = some d → d < s.sz) (h : aR s gl o.dst .one (.mapUpdate t) [m, k, x] = some (z, fp)) : Sound P ops o s z := by
 unfold aR at h
 split at h
 ·rename_i hgl
  have : gl = [] := by simpa using hgl
  subst this
  simp only [Option.bind_eq_some_iff] at h
  obtain ⟨⟨as, cs⟩, hx, h⟩ := h
  refine aA rfl hg hd h ?_
  intro F H O a w hc hcs H1 O1 R hT F1 hm next Q hn
  have e := aB hc hx hcs trivial
  obtain ⟨v, w', H', O', hr, hR, hle, hm'⟩ := hT w F1 hm
  have hn' := hn v w' H' O' hR hle hm'
  rw [hdst] at hn'
  unfold Oper.wp
  have hs : (PrimOp.mapUpdate t).sem (as.map At.den) = (do Instr.mapUpdate t (a.eval m) (a.eval k) (a.eval x); pure (.value (.bool false)) : Sem Next) := by
   rw [← e]; rfl
  rw [hs, Sem.run_bind] at hr
  have hex : (execOp a.eval o).run P w = ((Instr.mapUpdate t (a.eval m) (a.eval k) (a.eval x)).run P w).andThen fun _ w' => .ok .skip w' := by
   rcases hop with hop | hop
   ·simp only [execOp, hop, Sem.run_bind, Sem.run_pure]
   ·simp only [execOp, hop, Sem.run_bind, Sem.run_pure]
  rw [hex]
  cases hmu : (Instr.mapUpdate t (a.eval m) (a.eval k) (a.eval x)).run P w with
  | ok u w1 =>
   rw [hmu] at hr
   simp only [Result.andThen_ok, Sem.run_pure, Result.ok.injEq] at hr
   obtain ⟨_, rfl⟩ := hr
   rw [Result.andThen_ok, Oper.upon_skip, hdst]
   exact hn'
  | halt u w1 => rw [hmu] at hr; simp at hr
 ·simp at h
theorem eh (vs : List Value) : ∀ (l : List At) (i : Nat), AllCk (g2 vs l i) → ∀ j a, l[j]? = some a → g vs (i + j) = a.den
 | [], _, _, j, a, h => by simp at h
 | b :: r, i, hc, 0, a, h => by simp at h; subst h; exact hc.1
 | b :: r, i, hc, j + 1, a, h => by
  have := eh vs r (i + 1) hc.2 j a (by simpa using h)
  rwa [show i + 1 + j = i + (j + 1) by omega] at this
theorem e9 {x : At} : ∀ {offs : List Nat} {l : List At}, fa x offs = some l → l.all (fun a => match a with | .p .. => true | _ => false) = true
 | [], l, h => by simp only [fa, Option.some.injEq] at h; subst h; rfl
 | o :: r, l, h => by
  simp only [fa] at h
  split at h
  ·rename_i hl
   simp only [Option.some.injEq] at h; subst h
   simp [e9 hl]
  ·simp at h
theorem kl {c : Call} {x : Operand} {m : String} {x' : At} {as : List S1} {cx ca : List Ck} {z : NF} {fp : FP}
  (hop : o.op = .call c) (hcal : c.callee = .invoke x m) (hx : a5 s [] x = some (x', cx)) (ha : bV s [] c.args.toList = some (as, ca))
  (hg : af (am ops) s o = .go []) (hd : ∀ d, o.dst = some d → d < s.sz) (h : fB P s o.dst o.type m x' as (cx ++ ca) = some (z, fp)) : Sound P ops o s z := by
 have ev : ∀ {F H O a w}, Conc F s H O a w → AllCk (cx ++ ca) → a.eval x = x'.den ∧ c.args.map a.eval = (as.map S1.den).toArray := by
  intro F H O a w hc hcs
  rw [AllCk.append] at hcs
  have e := cE hc ha hcs.2 trivial
  exact ⟨ah hc hx hcs.1 trivial, by rw [← e]; apply Array.ext'; simp⟩
 unfold fB at h
 simp only [Option.bind_eq_some_iff] at h
 obtain ⟨shp, hshp, h⟩ := h
 have hv : ∀ {y : Value} {atoms : List At} {z : NF} {fp : FP}, x'.den = y → ax s o.dst shp (.callm m y (as.map S1.den)) atoms (cx ++ ca) = some (z, fp) → Sound P ops o s z := by
  intro y atoms z fp hy h
  refine aA rfl hg hd h ?_
  rintro F H O a w hc hcs H1 O1 R ⟨f, r, hfm, hokn, hT⟩ F1 hm next Q hn
  obtain ⟨e1, e2⟩ := ev hc hcs
  refine eI hT hm ?_ hn
  rw [md hop hcal (by rw [e1, hy]) hfm hokn w, e2]
  congr 2
  apply Array.ext'; simp
 split at h
 ·exact hv rfl h
 ·exact hv rfl h
 ·simp at h
theorem kw {okf : FuncId → Bool} {rules : FuncId → Option (List Nat)} {c : Call} {f : Operand} {f' : At} {as : List S1} {cf ca : List Ck} {z : NF} {fp : FP} (hokf : ∀ f, okf f = true → gm P f)
  (hop : o.op = .call c) (hcal : c.callee = .value f) (hf : a5 s [] f = some (f', cf)) (ha : bV s [] c.args.toList = some (as, ca))
  (hg : af (am ops) s o = .go []) (hd : ∀ d, o.dst = some d → d < s.sz) (h : fW P okf rules s o.dst o.type f' as (cf ++ ca) = some (z, fp)) : Sound P ops o s z := by
 have ev : ∀ {F H O a w}, Conc F s H O a w → AllCk (cf ++ ca) → a.eval f = f'.den ∧ c.args.map a.eval = (as.map S1.den).toArray := by
  intro F H O a w hc hcs
  rw [AllCk.append] at hcs
  have e := cE hc ha hcs.2 trivial
  exact ⟨ah hc hf hcs.1 trivial, by rw [← e]; apply Array.ext'; simp⟩
 unfold fW at h
 simp only [Option.bind_eq_some_iff] at h
 obtain ⟨shp, hshp, h⟩ := h
 have hv : ∀ {x : Value} {atoms : List At} {z : NF} {fp : FP}, f'.den = x → ax s o.dst shp (.callv x (as.map S1.den)) atoms (cf ++ ca) = some (z, fp) → Sound P ops o s z := by
  intro x atoms z fp hx h
  refine aA rfl hg hd h ?_
  rintro F H O a w hc hcs H1 O1 R ⟨n, caps, hfv, hokn, hT⟩ F1 hm next Q hn
  obtain ⟨e1, e2⟩ := ev hc hcs
  have e1' : a.eval f = .func (.func n) #[] caps := by rw [e1, hx, hfv]
  refine eI hT hm ?_ hn
  rw [eS hop hcal e1' hokn w, e2]
  congr 2
  apply Array.ext'; simp
 split at h
 ·rename_i n caps
  split at h
  ·split at h
   ·rename_i hce
    have hcaps : caps = [] := by simpa using hce
    subst hcaps
    refine aA rfl hg hd h ?_
    intro F H O a w hc hcs H1 O1 R hT F1 hm next Q hn
    obtain ⟨e1, e2⟩ := ev hc hcs
    have e1' : a.eval f = .func (.func n) #[] #[] := e1
    refine dS hT hm ?_ hn
    simp only [execOp, hop, resolve, hcal, e1', Deferred.ofValue, Sem.run_bind, Sem.run_pure, Result.andThen_ok, invoke, Array.empty_append, Array.append_empty, PrimOp.sem, e2]
   ·simp at h
  ·rename_i hok
   have hokn : gm P n := hokf n (by simpa using hok)
   have hh : ∀ {atoms : List At} {z : NF} {fp : FP}, ax s o.dst shp (.call n (as.map S1.den ++ caps.map Cp.den)) atoms (cf ++ ca) = some (z, fp) → Sound P ops o s z := by
    intro atoms z fp h
    refine aA rfl hg hd h ?_
    intro F H O a w hc hcs H1 O1 R hT F1 hm next Q hn
    obtain ⟨e1, e2⟩ := ev hc hcs
    refine eI hT hm ?_ hn
    rw [eS hop hcal e1 hokn w, e2]
    congr 2
    apply Array.ext'; simp
   split at h
   ·rename_i offs x hce hru hone
    have hcaps : caps = [] := by simpa using hce
    subst hcaps
    have has := bZ hone
    subst has
    simp only [Option.bind_eq_some_iff] at h
    obtain ⟨l, hl, h⟩ := h
    split at h
    ·rename_i hagg
     simp only [Option.some.injEq, Prod.mk.injEq] at h
     obtain ⟨rfl, _⟩ := h
     have hshape : shp = .agg l.length := by
      cases shp <;> simp [Shp.isAgg] at hagg
      rw [hagg]
     subst hshape
     refine jQ (hk := .call n [x.den]) (frz := []) (own := []) (shp := .agg l.length) (post := fun vs => g2 vs l 0) (cs := cf ++ ca) (sv := fun _ => .s (.agg l)) hg hd (by simp) (by simp) (by simp) ?_ ?_
     ·intro v vs _ hopn hones hpost
      have hallp := e9 hl
      refine ⟨?_, ?_⟩
      ·show v = .agg (l.map At.den).toArray
       cases v with
       | agg cells =>
        simp only [Shp.open] at hopn
        split at hopn
        ·rename_i hsz
         simp only [Option.some.injEq] at hopn; subst hopn
         congr 1
         apply Array.ext'
         apply List.ext_getElem?
         intro j
         simp only [List.toList_toArray, List.getElem?_map]
         by_cases hj : j < l.length
         ·have hp := eh cells.toList l 0 hpost j l[j] (by simp [hj])
          simp only [Nat.zero_add, g] at hp
          rw [List.getElem?_eq_getElem (by simp; omega), List.getElem?_eq_getElem hj]
          simp only [Option.map_some]
          rw [← hp]
          have hjc : j < cells.size := by omega
          simp [List.getD, hjc]
         ·rw [List.getElem?_eq_none (by simp; omega), List.getElem?_eq_none (by omega)]; rfl
        ·simp at hopn
       | _ => simp [Shp.open] at hopn
      ·intro a ha'
       rw [List.all_eq_true] at hallp
       have := hallp a ha'
       cases a <;> simp at this
       trivial
     ·intro F H O a w hc hcs H1 O1 R hT F1 hm next Q hn
      obtain ⟨e1, e2⟩ := ev hc hcs
      refine eI hT hm ?_ hn
      rw [eS hop hcal e1 hokn w, e2]
      rfl
    ·simp at h
   ·exact hh h
 ·exact hv rfl h
 ·exact hv rfl h
 ·simp at h
theorem kh {okf : FuncId → Bool} {rules : FuncId → Option (List Nat)} {sp : Bool} {name : Nat} {y : NF} {fp : FP} (hokf : ∀ f, okf f = true → gm P f)
  (hg : af (am ops) s o = .go gl) (hd : ∀ d, o.dst = some d → d < s.sz) (h : kC P okf rules sp name o gl s = some (y, fp)) : Sound P ops o s y := by
 unfold kC at h
 split at h
 ·rename_i x hop; exact gu (fun a w => by simp [execOp, hop]) hg hd h
 ·rename_i x hop; exact gu (fun a w => by simp [execOp, hop]) hg hd h
 ·rename_i c a b hop; exact kf hop hg hd h
 ·rename_i T hop
  simp only [Option.bind_eq_some_iff] at h
  obtain ⟨cells, hz, h⟩ := h
  obtain ⟨z, hzr, hzc, hzk, hzo⟩ := bW hz
  refine cw hg hd h (fun _ => trivial) (fun _ => rfl) (fun _ => hzo) ?_
  intro F H O a w hc hcs hgl
  refine ⟨cells.map At.den, CellsRel.map cells, ?_⟩
  have hzc' : z.cells = (cells.map At.den).toArray := by rw [← hzc]
  simp only [execOp, hop, Instr.alloc, Sem.run_bind, hzr, Result.andThen_ok, newVar, newRow, hzc', run_newObj, Sem.run_pure]
  rfl
 ·rename_i T x hop
  simp only [Option.bind_eq_some_iff] at h
  obtain ⟨⟨v, cs⟩, hx, h⟩ := h
  simp only [] at h
  split at h
  ·rename_i hfit
   refine cw hg hd h (fun _ => trivial) (fun _ => rfl) (fun hs => aV hs hx) ?_
   intro F H O a w hc hcs hgl
   subst hgl
   refine ⟨v.cells.map At.den, CellsRel.map v.cells, ?_⟩
   have e := aJ hc hx hcs trivial
   simp only [execOp, hop, e, Instr.box, Sem.run_bind, Result.andThen_ok, newVar, newRow, fU hfit (aV hc.ok hx), run_newObj, Sem.run_pure]
   rfl
  ·simp at h
 ·rename_i T parts hop; exact jL hop hg hd h
 ·rename_i T len parts hop; exact eG hop hg hd h
 ·rename_i t x hop
  simp only [Option.bind_eq_some_iff] at h
  obtain ⟨⟨x', cs⟩, hx, h⟩ := h
  exact iZ hop hx hg hd h
 ·rename_i t x y' hop
  split at h
  ·rename_i hcond
   simp only [Bool.and_eq_true, List.isEmpty_iff, Option.isNone_iff_eq_none] at hcond
   obtain ⟨rfl, hdst⟩ := hcond
   simp only [Option.bind_eq_some_iff] at h
   obtain ⟨⟨x', cs⟩, hx, ⟨y1, cs'⟩, hy, h⟩ := h
   exact gV hop hdst hx hy hg h
  ·simp at h
 ·rename_i x hop
  simp only [Option.bind_eq_some_iff] at h
  obtain ⟨⟨x', cs⟩, hx, h⟩ := h
  exact lh hop hx hg hd h
 ·rename_i op t x y' yt hop; exact lx hop hg hd h
 ·rename_i op t x hop
  simp only [Option.bind_eq_some_iff] at h
  obtain ⟨⟨x', cs⟩, hx, h⟩ := h
  exact lI hop hx hg hd h
 ·rename_i a b x hop
  simp only [Option.bind_eq_some_iff] at h
  obtain ⟨⟨x', cs⟩, hx, h⟩ := h
  exact ks hop hx hg hd h
 ·rename_i t x hop; exact jD hop hg hd h
 ·rename_i f first caps hop
  split at h
  ·rename_i hf
   simp only [Option.bind_eq_some_iff] at h
   obtain ⟨⟨as, cs⟩, hx, l, hl, h⟩ := h
   exact kp hop hf hx hl hg hd h
  ·simp at h
 ·rename_i t x f hop
  simp only [Option.bind_eq_some_iff] at h
  obtain ⟨fd, hfd, m, hm, h⟩ := h
  split at h
  ·simp at h
  ·rename_i hm0
   simp only [Option.bind_eq_some_iff] at h
   obtain ⟨⟨x', cs⟩, hx, ⟨a', c⟩, hmv, h⟩ := h
   obtain ⟨h1, h2⟩ := fA hmv
   refine aj hg hd h (fun hs hcs => aW (h1 (AllCk.append.1 hcs).1 (fo hs hx))) ?_
   intro F H O a w hc hcs hon
   rw [AllCk.append] at hcs
   have e := ah hc hx hcs.2 hon
   obtain ⟨ad, hxd, had⟩ := h2 hcs.1 hon
   simp only [execOp, hop, e, hxd, Sem.run_bind, jr hfd hm hm0, Result.andThen_ok, Sem.run_pure, S1.den, had]
 ·rename_i t x f hop
  simp only [Option.bind_eq_some_iff] at h
  obtain ⟨fd, hfd, ⟨x', cs⟩, hx, v, hv, h⟩ := h
  split at h
  ·rename_i hagg
   obtain ⟨m, hm⟩ := fk hv
   refine aj hg hd h (fun hs _ a ha => aV hs hx a (gp hv a ha)) ?_
   intro F H O a w hc hcs hon
   have e := aJ hc hx hcs hon
   obtain ⟨fs, hu, hfs⟩ := ep hfd
   rcases x' with a' | l
   ·simp [S1.isAgg] at hagg
   ·have e' : a.eval x = .agg (l.map At.den).toArray := e
    have hp := jS hv w hm
    simp only [execOp, hop, e', Instr.field, Sem.run_bind, ab hu, Result.andThen_ok, hfs, asAgg, Sem.run_pure]
    simp only [S1.cells] at hp
    rw [hp]; rfl
  ·simp at h
 ·rename_i t x i hop
  simp only [Option.bind_eq_some_iff] at h
  obtain ⟨⟨as, cs⟩, hx, ⟨x', i'⟩, h2, h⟩ := h
  have := dy h2
  subst this
  exact fJ hop hx hg hd h
 ·rename_i t x i hop
  simp only [Option.bind_eq_some_iff] at h
  obtain ⟨⟨x', cs⟩, hx, ⟨i', cs'⟩, hi, h⟩ := h
  exact jC hop hx hi hg hd h
 ·rename_i t x lo hi mx hop
  simp only [Option.bind_eq_some_iff] at h
  obtain ⟨⟨x', c0⟩, h0, ⟨l, c1⟩, h1, ⟨h', c2⟩, h2, ⟨m, c3⟩, h3, h⟩ := h
  exact jp hop h0 h1 h2 h3 hg hd h
 ·rename_i x i hop; exact ij hop hg hd h
 ·rename_i c hop
  split at h
  ·rename_i b hcal; exact iv hop hcal hg hd h
  ·rename_i f hcal
   split at h
   ·rename_i hgl
    have : gl = [] := by simpa using hgl
    subst this
    simp only [Option.bind_eq_some_iff] at h
    obtain ⟨⟨f', cf⟩, hf, ⟨as, ca⟩, ha, h⟩ := h
    exact kw hokf hop hcal hf ha hg hd h
   ·simp at h
  ·rename_i x m hcal
   split at h
   ·rename_i hgl
    have : gl = [] := by simpa using hgl
    subst this
    simp only [Option.bind_eq_some_iff] at h
    obtain ⟨⟨x', cx⟩, hx, ⟨as, ca⟩, ha, h⟩ := h
    exact kl hop hcal hx ha hg hd h
   ·simp at h
 ·rename_i t l c hop
  cases hl : dj l with
  | none =>
   unfold aN at h
   simp only [hl] at h
   refine aY hg hd h ?_
   rintro a vs w rfl
   simp only [execOp, hop, PrimOp.sem, List.map_cons, List.map_nil]
  | some n =>
   cases hc : dj c with
   | none =>
    unfold aN at h
    simp only [hl, hc] at h
    refine aY hg hd h ?_
    rintro a vs w rfl
    simp only [execOp, hop, PrimOp.sem, List.map_cons, List.map_nil]
   | some m =>
    by_cases hu : ∃ e, P.underlying t = some (.slice e)
    ·obtain ⟨e, hu⟩ := hu
     exact fD hop hg hd hl hc hu h
    ·unfold aN at h
     split at h
     ·rename_i e1 e2 hu'
      exact absurd ⟨_, hu'⟩ hu
     ·refine aY hg hd h ?_
      rintro a vs w rfl
      simp only [execOp, hop, PrimOp.sem, List.map_cons, List.map_nil]
 ·rename_i t r hop
  refine aY hg hd h ?_
  rintro a vs w rfl
  cases r <;> simp only [execOp, hop, PrimOp.sem, Option.toList, List.map_cons, List.map_nil, Option.isSome_none, Option.isSome_some, Option.map_none, Option.map_some]
 ·rename_i t x i ok hop
  refine aY hg hd h ?_
  rintro a vs w rfl
  simp only [execOp, hop, PrimOp.sem, List.map_cons, List.map_nil]
 ·rename_i t m k x hop
  split at h
  ·rename_i hdst
   exact cH (by simpa using hdst) (.inl hop) hg hd h
  ·simp at h
 ·rename_i t m k x hop
  split at h
  ·rename_i hdst
   exact cH (by simpa using hdst) (.inr hop) hg hd h
  ·simp at h
 ·rename_i t x hop
  refine aY hg hd h ?_
  rintro a vs w rfl
  simp only [execOp, hop, PrimOp.sem, List.map_cons, List.map_nil]
 ·rename_i x hop
  refine aY hg hd h ?_
  rintro a vs w rfl
  simp only [execOp, hop, PrimOp.sem, List.map_cons, List.map_nil]
 ·rename_i x str hop
  refine aY hg hd h ?_
  rintro a vs w rfl
  simp only [execOp, hop, PrimOp.sem, List.map_cons, List.map_nil]
 ·simp at h
theorem hJ {okf : FuncId → Bool} {rules : FuncId → Option (List Nat)} {sp : Bool} {name : Nat} {y : NF} {fp : FP} (hokf : ∀ f, okf f = true → gm P f)
  (h : nf P okf rules (am ops) sp name o s = some (y, fp)) : Sound P ops o s y := by
 unfold nf at h
 split at h
 ·simp at h
 ·rename_i hdst
  have hd : ∀ d, o.dst = some d → d < s.sz := by
   intro d hd
   simp only [hd, dK, Bool.not_eq_true', decide_eq_false_iff_not, Decidable.not_not] at hdst
   exact hdst
  split at h
  ·simp at h
  ·rename_i hg
   simp only [Option.some.injEq, Prod.mk.injEq] at h
   obtain ⟨rfl, _⟩ := h
   exact j9 hg hd
  ·rename_i gl hg
   exact kh hokf hg hd h
variable {P : Program} {s s' : SS} {gl : List (At × Bool)}
def Ea (s s' : SS) (x : Operand) : Prop := ∀ t, x = .tmp t → s'.tmps t = s.tmps t
theorem aw {x : Operand} (h : Ea s s' x) : b9 s' gl x = b9 s gl x := by
 cases x with
 | tmp t => simp only [b9, h t rfl]
 | _ => rfl
theorem ai {x : Operand} (h : Ea s s' x) : a5 s' gl x = a5 s gl x := by
 simp only [a5, aw h]
theorem an : ∀ {xs : List Operand}, (∀ x ∈ xs, Ea s s' x) → az s' gl xs = az s gl xs
 | [], _ => rfl
 | x :: r, h => by simp only [az, ai (h x (by simp)), an (xs := r) (fun y hy => h y (by simp [hy]))]
theorem bI : ∀ {xs : List Operand}, (∀ x ∈ xs, Ea s s' x) → bV s' gl xs = bV s gl xs
 | [], _ => rfl
 | x :: r, h => by simp only [bV, aw (h x (by simp)), bI (xs := r) (fun y hy => h y (by simp [hy]))]
theorem bL {place : Nat → Option (Nat × Nat)} : ∀ {parts : List (Nat × Operand)} {cells : List At}, (∀ p ∈ parts, Ea s s' p.2) →
  aC s' gl place parts cells = aC s gl place parts cells
 | [], _, _ => rfl
 | (i, x) :: r, cells, h => by
  have h1 := aw (gl := gl) (h (i, x) (by simp))
  simp only [] at h1
  simp only [aC, h1]
  split
  ·split
   ·rw [bL (fun p hp => h p (by simp [hp]))]
   ·rfl
  ·rfl
theorem bH : ∀ (fuel : Nat) (r acc : List Nat), (∀ n ∈ acc, n ∈ aS s fuel r acc)
 | 0, r, acc, n, h => by cases r <;> simp [aS, h]
 | fuel + 1, [], acc, n, h => by simpa [aS] using h
 | fuel + 1, m :: r, acc, n, h => by
  simp only [aS]
  split
  ·exact bH fuel _ _ n h
  ·split
   ·exact bH fuel _ _ n (by simp [h])
   ·exact bH fuel _ _ n (by simp [h])
theorem bA : ∀ (fuel : Nat) (r acc : List Nat), (∀ n ∈ aS s fuel r acc, s'.mem n = s.mem n) → aS s' fuel r acc = aS s fuel r acc
 | 0, r, acc, _ => by cases r <;> simp [aS]
 | fuel + 1, [], acc, _ => by simp [aS]
 | fuel + 1, m :: r, acc, h => by
  simp only [aS] at h ⊢
  split
  ·rename_i hc
   simp only [hc, if_true] at h
   exact bA fuel _ _ h
  ·rename_i hc
   simp only [hc] at h
   have hm : s'.mem m = s.mem m := by
    apply h
    simp only [Bool.false_eq_true, if_false]
    split
    ·exact bH fuel _ _ m (by simp)
    ·exact bH fuel _ _ m (by simp)
   rw [hm]
   cases hs : s.mem m with
   | none => simp only [hs, Bool.false_eq_true, if_false] at h; exact bA fuel _ _ h
   | some b => simp only [hs, Bool.false_eq_true, if_false] at h; exact bA fuel _ _ h
theorem bY : ∀ (fuel : Nat) (r acc : List Nat), (∀ n ∈ acc, n ∈ aT s fuel r acc)
 | 0, r, acc, n, h => by cases r <;> simp [aT, h]
 | fuel + 1, [], acc, n, h => by simpa [aT] using h
 | fuel + 1, m :: r, acc, n, h => by
  simp only [aT]
  split
  ·exact bY fuel _ _ n h
  ·split
   ·exact bY fuel _ _ n (by simp [h])
   ·exact bY fuel _ _ n (by simp [h])
theorem bP : ∀ (fuel : Nat) (r acc : List Nat), (∀ n ∈ aT s fuel r acc, s'.mem n = s.mem n) → aT s' fuel r acc = aT s fuel r acc
 | 0, r, acc, _ => by cases r <;> simp [aT]
 | fuel + 1, [], acc, _ => by simp [aT]
 | fuel + 1, m :: r, acc, h => by
  simp only [aT] at h ⊢
  split
  ·rename_i hc
   simp only [hc, if_true] at h
   exact bP fuel _ _ h
  ·rename_i hc
   simp only [hc] at h
   have hm : s'.mem m = s.mem m := by
    apply h
    simp only [Bool.false_eq_true, if_false]
    split
    ·exact bY fuel _ _ m (by simp)
    ·exact bY fuel _ _ m (by simp)
   rw [hm]
   cases hs : s.mem m with
   | none => simp only [hs, Bool.false_eq_true, if_false] at h; exact bP fuel _ _ h
   | some b => simp only [hs, Bool.false_eq_true, if_false] at h; exact bP fuel _ _ h
theorem cB : ∀ (l acc : List Nat), (∀ n ∈ l, s'.mem n = s.mem n) → bm s' l acc = bm s l acc
 | [], _, _ => rfl
 | n :: r, acc, h => by
  simp only [bm, h n (by simp)]
  exact cB r _ (fun m hm => h m (by simp [hm]))
theorem cI {l : List Nat} (h : ∀ n ∈ l, s'.mem n = s.mem n) : bJ s' l = bJ s l := by
 unfold bJ
 induction l with
 | nil => rfl
 | cons n r ih => simp only [List.filterMap_cons, h n (by simp), ih (fun m hm => h m (by simp [hm]))]
theorem ar {dst : Option Tmp} {shp : Shp} {hk : HK} {atoms : List At} {cs : List Ck} {y : NF} {fp : FP} (h : ax s dst shp hk atoms cs = some (y, fp))
  (hm : ∀ n ∈ fp.reads, s'.mem n = s.mem n) : ax s' dst shp hk atoms cs = some (y, fp) := by
 have hr : fp.reads = aT s 50 (bu atoms []) [] ++ aS s 50 (bm s (aT s 50 (bu atoms []) []) (bp atoms [])) [] := by
  unfold ax at h
  simp only [] at h
  split at h
  ·simp only [Option.some.injEq, Prod.mk.injEq] at h; rw [← h.2]
  ·simp at h
 rw [hr] at hm
 have h1 : aT s' 50 (bu atoms []) [] = aT s 50 (bu atoms []) [] := bP _ _ _ (fun n hn => hm n (by simp [hn]))
 have h2 := cB (s := s) (s' := s') (aT s 50 (bu atoms []) []) (bp atoms []) (fun n hn => hm n (by simp [hn]))
 have h3 := bA (s := s) (s' := s') 50 (bm s (aT s 50 (bu atoms []) []) (bp atoms [])) [] (fun n hn => hm n (by simp [hn]))
 rw [← h]
 unfold ax
 simp only [h1, h2, h3]
 rw [cI (s := s) (s' := s') (l := aS s 50 (bm s (aT s 50 (bu atoms []) []) (bp atoms [])) []) (fun n hn => hm n (by simp [hn]))]
 rw [cI (s := s) (s' := s') (l := List.filter _ _) (fun n hn => hm n (by simp only [List.mem_append]; exact .inl (List.mem_filter.1 hn).1))]
theorem ja {dst : Option Tmp} {t : TypeId} {x : At} {cs : List Ck} {y : NF} {fp : FP} (h : dF P s gl dst t x cs = some (y, fp))
  (hm : ∀ n ∈ fp.reads, s'.mem n = s.mem n) : dF P s' gl dst t x cs = some (y, fp) := by
 cases x with
 | p n r off =>
  have hn : s'.mem n = s.mem n := by
   apply hm
   unfold dF at h
   simp only [Option.bind_eq_some_iff] at h
   obtain ⟨m, _, h⟩ := h
   split at h
   ·split at h
    ·simp only [Option.map_eq_some_iff, Prod.mk.injEq] at h
     obtain ⟨_, _, _, rfl⟩ := h
     simp
    ·simp at h
   ·split at h
    ·simp at h
    ·simp only [Option.some.injEq, Prod.mk.injEq] at h
     obtain ⟨_, rfl⟩ := h
     simp [kV]
  rw [← h]; simp only [dF, hn]
 | _ => rw [← h]; simp only [dF]
theorem gW {t : TypeId} {x : At} {z : S1} {cs : List Ck} {y : NF} {fp : FP} (h : cg P s t x z cs = some (y, fp))
  (hm : ∀ n ∈ fp.reads, s'.mem n = s.mem n) : cg P s' t x z cs = some (y, fp) := by
 cases x with
 | p n r off =>
  have hn : s'.mem n = s.mem n := by
   apply hm
   unfold cg at h
   simp only [Option.bind_eq_some_iff] at h
   obtain ⟨m, _, h⟩ := h
   split at h
   ·simp at h
   ·split at h
    ·split at h
     ·simp only [Option.some.injEq, Prod.mk.injEq] at h
      obtain ⟨_, rfl⟩ := h
      simp
     ·simp at h
    ·simp at h
  rw [← h]; simp only [cg, hn]
 | _ => rw [← h]; simp only [cg]
theorem bE {dst : Option Tmp} {name : Nat} {T : TypeId} {cells : List At} {val : Nat → At} {cs : List Ck} {y : NF} {fp : FP} (h : bq s gl dst name T cells val cs = some (y, fp))
  (hm : ∀ n ∈ fp.reads, s'.mem n = s.mem n) : bq s' gl dst name T cells val cs = some (y, fp) := by
 have hn : s'.mem name = s.mem name := by
  apply hm
  unfold bq at h
  split at h
  ·simp only [Option.some.injEq, Prod.mk.injEq] at h; rw [← h.2]; simp
  ·simp at h
 rw [← h]; simp only [bq, hn]
theorem aE {dst : Option Tmp} {shp : Shp} {op : PrimOp} {xs : List Operand} {y : NF} {fp : FP} (hx : ∀ x ∈ xs, Ea s s' x) (h : aR s gl dst shp op xs = some (y, fp))
  (hm : ∀ n ∈ fp.reads, s'.mem n = s.mem n) : aR s' gl dst shp op xs = some (y, fp) := by
 unfold aR at h ⊢
 split at h
 ·rename_i hg
  rw [if_pos hg, an hx]
  simp only [Option.bind_eq_some_iff] at h ⊢
  obtain ⟨a, ha, h⟩ := h
  exact ⟨a, ha, ar h hm⟩
 ·simp at h
theorem ae {α β : Type} {x x' : Option α} {f f' : α → Option β} {y : β} (h : x.bind f = some y) (hx : x' = x) (hf : ∀ a, x = some a → f a = some y → f' a = some y) : x'.bind f' = some y := by
 subst hx
 simp only [Option.bind_eq_some_iff] at h ⊢
 obtain ⟨a, ha, h⟩ := h
 exact ⟨a, ha, hf a ha h⟩
theorem ei {dst : Option Tmp} {sp : Bool} {x : Operand} (hx : Ea s s' x) : cF s' gl dst sp x = cF s gl dst sp x := by
 unfold cF
 rw [ai hx, aw hx]
 cases x with
 | tmp t => simp only [hx t rfl]
 | _ => rfl
theorem iQ {dst : Option Tmp} {c a b : Operand} (hc : Ea s s' c) (ha : Ea s s' a) (hb : Ea s s' b) : fj s' gl dst c a b = fj s gl dst c a b := by
 unfold fj
 rw [ai hc]
 simp only [ai ha, ai hb, aw ha, aw hb]
theorem fL {dst : Option Tmp} {x : Operand} {i : Nat} (hx : Ea s s' x) : aU s' gl dst x i = aU s gl dst x i := by
 unfold aU
 cases x with
 | tmp t => simp only [hx t rfl]
 | _ => rfl
theorem jB {dst : Option Tmp} {ty t : TypeId} {x : At} {cs : List Ck} {y : NF} {fp : FP} (h : lm P s gl dst ty t x cs = some (y, fp))
    (hm : ∀ n ∈ fp.reads, s'.mem n = s.mem n) : lm P s' gl dst ty t x cs = some (y, fp) := by
  unfold lm at h ⊢
  split at h <;> first
    | exact h
    | (split at h
       · exact h
       · exact h)
    | (split at h
       · rename_i hg; rw [if_pos hg]; exact ar h hm
       · simp at h; done)
    | (simp at h; done)
theorem fY {dst : Option Tmp} {ty : TypeId} {b : Builtin} {ats : Array TypeId} {args : List Operand} {y : NF} {fp : FP} (hx : ∀ x ∈ args, Ea s s' x)
    (h : bM P s gl dst ty b ats args = some (y, fp)) (hm : ∀ n ∈ fp.reads, s'.mem n = s.mem n) : bM P s' gl dst ty b ats args = some (y, fp) := by
  have heavy : ∀ (b : Builtin) (sh : Shp), (if gl.isEmpty then (az s gl args).bind fun (as, cs) => ax s dst sh (.prim (.bi b ats ty) (as.map At.den)) as cs else none) = some (y, fp) →
      (if gl.isEmpty then (az s' gl args).bind fun (as, cs) => ax s' dst sh (.prim (.bi b ats ty) (as.map At.den)) as cs else none) = some (y, fp) := by
    intro b sh h
    split at h
    · rename_i hg
      rw [if_pos hg]
      exact ae h (an hx) fun _ _ h => ar h hm
    · simp at h
  cases b <;> simp only [bM] at h ⊢ <;> first
    | exact heavy _ _ h
    | (simp at h; done)
    | (refine ae h rfl fun t _ h => ae h rfl fun x hx' h => ?_
       have : args = [x] := bZ hx'
       subst this
       refine ae h (ai (hx x (by simp))) fun a _ h => ?_
       first
         | exact jB h hm
         | exact h)
    | (refine ae h rfl fun p hp h => ?_
       obtain ⟨x, y⟩ := p
       have : args = [x, y] := dy hp
       subst this
       exact ae h (an hx) fun a _ h => h)
theorem ji {okf : FuncId → Bool} {rules : FuncId → Option (List Nat)} {dst : Option Tmp} {ty : TypeId} {f : At} {as : List S1} {cs : List Ck} {y : NF} {fp : FP}
  (h : fW P okf rules s dst ty f as cs = some (y, fp)) (hm : ∀ n ∈ fp.reads, s'.mem n = s.mem n) : fW P okf rules s' dst ty f as cs = some (y, fp) := by
 unfold fW at h ⊢
 refine ae h rfl fun shp _ h => ?_
 cases f with
 | clo n caps =>
  simp only [] at h ⊢
  split at h
  ·rename_i hok
   rw [if_pos hok]
   split at h
   ·rename_i hc; rw [if_pos hc]; exact ar h hm
   ·simp at h
  ·rename_i hok
   rw [if_neg hok]
   split at h
   ·exact h
   ·exact ar h hm
 | v x => exact ar h hm
 | k x => exact ar h hm
 | _ => simp at h
theorem iT {dst : Option Tmp} {ty : TypeId} {m : String} {x : At} {as : List S1} {cs : List Ck} {y : NF} {fp : FP}
  (h : fB P s dst ty m x as cs = some (y, fp)) (hm : ∀ n ∈ fp.reads, s'.mem n = s.mem n) : fB P s' dst ty m x as cs = some (y, fp) := by
 unfold fB at h ⊢
 refine ae h rfl fun shp _ h => ?_
 cases x with
 | v x => exact ar h hm
 | k x => exact ar h hm
 | _ => simp at h
theorem jM {dst : Option Tmp} {op : BinOp} {t : TypeId} {x z : Operand} {y : NF} {fp : FP} (hx : ∀ u ∈ [x, z], Ea s s' u) (h : jk P s gl dst op t x z = some (y, fp)) : jk P s' gl dst op t x z = some (y, fp) := by
 rw [← h]
 simp only [jk, an hx, bI hx]
theorem je {dst : Option Tmp} {a b : TypeId} {x : At} {cs : List Ck} {y : NF} {fp : FP} (h : fS P s gl dst a b x cs = some (y, fp))
  (hm : ∀ n ∈ fp.reads, s'.mem n = s.mem n) : fS P s' gl dst a b x cs = some (y, fp) := by
 unfold fS at h ⊢
 split at h
 ·exact h
 ·split at h
  ·rename_i hg; rw [if_pos hg]; exact ar h hm
  ·simp at h
theorem ig {dst : Option Tmp} {t : TypeId} {x : Operand} {y : NF} {fp : FP} (hx : Ea s s' x) (h : dl P s gl dst t x = some (y, fp)) (hm : ∀ n ∈ fp.reads, s'.mem n = s.mem n) : dl P s' gl dst t x = some (y, fp) := by
 unfold dl at h ⊢
 split at h
 ·simp at h
 ·simp at h
 ·refine ae h (aw hx) fun v _ h => ?_
  obtain ⟨v, cs⟩ := v
  simp only at h ⊢
  by_cases hc : (bu v.cells (bp v.cells [])).isEmpty = true
  ·rw [if_pos hc] at h ⊢; exact h
  ·rw [if_neg hc] at h ⊢
   by_cases hg : gl.isEmpty = true
   ·rw [if_pos hg] at h ⊢; exact ar h hm
   ·rw [if_neg hg] at h; cases h
theorem iw {dst : Option Tmp} {T : TypeId} {parts : List (Nat × Operand)} (hx : ∀ p ∈ parts, Ea s s' p.2) : dt P s' gl dst T parts = dt P s gl dst T parts := by
 simp only [dt, bL hx]
theorem dP {dst : Option Tmp} {name len : Nat} {T : TypeId} {parts : List (Nat × Operand)} {y : NF} {fp : FP} (hx : ∀ p ∈ parts, Ea s s' p.2) (h : aO P s gl dst name T len parts = some (y, fp))
  (hm : ∀ n ∈ fp.reads, s'.mem n = s.mem n) : aO P s' gl dst name T len parts = some (y, fp) := by
 unfold aO at h ⊢
 split at h
 ·refine ae h rfl fun size _ h => ae h rfl fun zero _ h => ?_
  split at h
  ·rename_i hc
   rw [if_pos hc]
   exact ae h (bL hx) fun _ _ h => bE h hm
  ·simp at h
 ·simp at h
theorem ki {okf : FuncId → Bool} {rules : FuncId → Option (List Nat)} {sp : Bool} {name : Nat} {o : Oper} {y : NF} {fp : FP} (h : kC P okf rules sp name o gl s = some (y, fp))
  (hx : ∀ x ∈ o.op.operands.toList, Ea s s' x) (hm : ∀ n ∈ fp.reads, s'.mem n = s.mem n) : kC P okf rules sp name o gl s' = some (y, fp) := by
 unfold kC at h ⊢
 cases hop : o.op <;> simp only [hop, Op.operands] at h hx ⊢
 all_goals try (simp at h; done)
 case move x => rw [ei (hx x (by simp))]; exact h
 case assign x => rw [ei (hx x (by simp))]; exact h
 case pick c a b => rw [iQ (hx c (by simp)) (hx a (by simp)) (hx b (by simp))]; exact h
 case alloc T => exact ae h rfl fun _ _ h => bE h hm
 case box T x =>
  refine ae h (aw (hx x (by simp))) fun a _ h => ?_
  obtain ⟨v, cs⟩ := a
  simp only [] at h ⊢
  split at h
  ·rename_i hc; rw [if_pos hc]; exact bE h hm
  ·simp at h
 case build T parts => rw [iw (fun p hp => hx p.2 (List.mem_map_of_mem hp))]; exact h
 case buildSlice T len parts => exact dP (fun p hp => hx p.2 (List.mem_map_of_mem hp)) h hm
 case load t x => exact ae h (ai (hx x (by simp))) fun _ _ h => ja h hm
 case store t x z =>
  split at h
  ·rename_i hc
   rw [if_pos hc]
   exact ae h (ai (hx x (by simp))) fun _ _ h => ae h (aw (hx z (by simp))) fun _ _ h => gW h hm
  ·simp at h
 case nilCheck x => exact ae h (ai (hx x (by simp))) fun _ _ h => h
 case binOp op t x z _ => exact jM (fun u hu => hx u (by simpa using hu)) h
 case unOp op t x => exact ae h (ai (hx x (by simp))) fun _ _ h => h
 case convert a b x => exact ae h (ai (hx x (by simp))) fun _ _ h => je h hm
 case makeInterface t x => exact ig (hx x (by simp)) h hm
 case makeFunc f first caps =>
  cases f with
  | func f =>
   simp only [] at h ⊢
   split at h
   ·rename_i hc
    rw [if_pos hc]
    exact ae h (an (fun x hx' => hx x (by simp at hx' ⊢; exact .inr hx'))) fun _ _ h => h
   ·simp at h
  | _ => simp at h
 case fieldAddr t x f =>
  refine ae h rfl fun _ _ h => ae h rfl fun m _ h => ?_
  split at h
  ·simp at h
  ·rename_i hc
   rw [if_neg hc]
   exact ae h (ai (hx x (by simp))) fun _ _ h => h
 case field t x f => exact ae h rfl fun _ _ h => ae h (aw (hx x (by simp))) fun _ _ h => h
 case indexAddr t x i => exact ae h (an (fun u hu => hx u (by simpa using hu))) fun _ _ h => h
 case index t x i => exact ae h (aw (hx x (by simp))) fun _ _ h => ae h (ai (hx i (by simp))) fun _ _ h => h
 case slice t x lo hi mx =>
  refine ae h (ai (hx x (by simp))) fun _ _ h => ae h (an (fun u hu => hx u (by simp at hu ⊢; simp [hu]))) fun _ _ h =>
   ae h (an (fun u hu => hx u (by simp at hu ⊢; simp [hu]))) fun _ _ h => ae h (an (fun u hu => hx u (by simp at hu ⊢; simp [hu]))) fun _ _ h => h
 case extract x i => rw [fL (hx x (by simp))]; exact h
 case call c =>
  cases hc : c.callee with
  | builtin b =>
   simp only [hc] at h ⊢
   exact fY (fun x hx' => hx x (by simp only [Call.operands, hc]; simp at hx' ⊢; simp [hx'])) h hm
  | value f =>
   simp only [hc] at h ⊢
   split at h
   ·rename_i hg
    rw [if_pos hg]
    exact ae h (ai (hx f (by simp [Call.operands, hc]))) fun _ _ h => ae h (bI (fun x hx' => hx x (by simp only [Call.operands, hc]; simp at hx' ⊢; simp [hx']))) fun _ _ h => ji h hm
   ·simp at h
  | invoke f m =>
   simp only [hc] at h ⊢
   split at h
   ·rename_i hg
    rw [if_pos hg]
    exact ae h (ai (hx f (by simp [Call.operands, hc]))) fun _ _ h => ae h (bI (fun x hx' => hx x (by simp only [Call.operands, hc]; simp at hx' ⊢; simp [hx']))) fun _ _ h => iT h hm
   ·simp at h
 case makeSlice t l c =>
  unfold aN at h ⊢
  split at h
  ·refine ae h rfl fun size _ h => ae h rfl fun zero _ h => ?_
   split at h
   ·rename_i hc
    rw [if_pos hc]
    exact bE h hm
   ·simp at h
  ·exact aE (fun x hx' => hx x (by simpa using hx')) h hm
 case makeMap t r => exact aE (fun x hx' => hx x (by simpa using hx')) h hm
 case lookup t x i ok => exact aE (fun u hu => hx u (by simpa using hu)) h hm
 case mapUpdate t m k x =>
  split at h
  ·rename_i hc; rw [if_pos hc]; exact aE (fun u hu => hx u (by simpa using hu)) h hm
  ·simp at h
 case insert t m k x =>
  split at h
  ·rename_i hc; rw [if_pos hc]; exact aE (fun u hu => hx u (by simpa using hu)) h hm
  ·simp at h
 case range t x => exact aE (fun u hu => hx u (by simpa using hu)) h hm
 case entry x => exact aE (fun u hu => hx u (by simpa using hu)) h hm
 case next x str => exact aE (fun u hu => hx u (by simpa using hu)) h hm
theorem dG {tgt : Nat → Option Tmp} {o : Oper} (h : ∀ j want t, o.guard = some (j, want) → tgt j = some t → s'.tmps t = s.tmps t) : af tgt s' o = af tgt s o := by
 unfold af
 cases hg : o.guard with
 | none => rfl
 | some p =>
  obtain ⟨j, want⟩ := p
  simp only []
  cases ht : tgt j with
  | none => rfl
  | some t => simp only [h j want t hg ht]
theorem hP {ops : Array Oper} {okf : FuncId → Bool} {rules : FuncId → Option (List Nat)} {sp : Bool} {name : Nat} {o : Oper} {y : NF} {fp : FP} (h : nf P okf rules (am ops) sp name o s = some (y, fp))
  (hz : s'.sz = s.sz) (ht : ∀ t ∈ o.looksAt ops, s'.tmps t = s.tmps t) (hm : ∀ n ∈ fp.reads, s'.mem n = s.mem n) : nf P okf rules (am ops) sp name o s' = some (y, fp) := by
 have hg : af (am ops) s' o = af (am ops) s o := by
  refine dG fun j want t h1 h2 => ht t ?_
  simp only [Oper.looksAt, h1, List.mem_append]
  right
  unfold am at h2
  simp [h2]
 have hx : ∀ x ∈ o.op.operands.toList, Ea s s' x := by
  rintro x hx t rfl
  refine ht t ?_
  simp only [Oper.looksAt, List.mem_append]
  left
  exact List.mem_filterMap.2 ⟨_, hx, rfl⟩
 unfold nf at h ⊢
 have hd : dK s' o.dst = dK s o.dst := by unfold dK; rw [hz]
 rw [hd, hg]
 split at h
 ·simp at h
 ·rename_i hc
  rw [if_neg hc]
  split at h
  ·simp at h
  ·exact h
  ·exact ki h hx hm
section
variable {dst : Option Tmp} {frz own : List (Nat × Bx)} {sv : List Value → SV} {s : SS} {vs : List Value} {css : List (List Value)}
end
theorem cQ {a b : List Nat} (h : kE a b = true) {n : Nat} (ha : n ∈ a) : n ∉ b := by
 unfold kE at h
 rw [List.all_eq_true] at h
 simpa using h n ha
theorem kq {a b : List Nat} (h : kE a b = true) {n : Nat} (hb : n ∈ b) : n ∉ a := fun ha => cQ h ha hb
theorem NF.run_mono {P : Program} {d : Bool} {dst : Option Tmp} {x : NF} {s : SS} {K K' : SS → Heap → Own → Prop} {H : Heap} {O : Own} (hk : ∀ s H O, K s H O → K' s H O) (h : x.run P d dst s K H O) :
  x.run P d dst s K' H O := by
 cases x with
 | fl cs k X => obtain ⟨h1, vs, h2, h3⟩ := h; exact ⟨h1, vs, h2, hk _ _ _ h3⟩
 | box cs n T cells val => exact ⟨h.1, fun r => hk _ _ _ (h.2 r)⟩
 | stb cs n b => exact ⟨h.1, hk _ _ _ h.2⟩
 | hv cs k frz own shp post sv => exact ⟨h.1, kA (fun _ _ _ x => x) (fun _ _ _ _ x => ⟨x.1, hk _ _ _ x.2⟩) h.2⟩
 | st cs p vs => obtain ⟨h1, O', h2, h3⟩ := h; exact ⟨h1, O', h2, hk _ _ _ h3⟩
theorem Reads.mono {H H' : Heap} {O O' : Own} {p : Value} {m : Nat} {vs : List Value} (hle : Heap.le H H') (hs : ∀ x, x ∈ O → x ∈ O') (h : Reads H O p m vs) : Reads H' O' p m vs := by
 rcases h with h | ⟨a, cs, T, h1, h2, h3, h4, h5⟩
 ·exact .inl (hle.read h)
 ·exact .inr ⟨a, cs, T, h1, h2, hs _ h3, h4, h5⟩
structure Near (d : Option Tmp) (W : List Nat) (s s' : SS) : Prop where
 sz : s'.sz = s.sz
 tm : ∀ t, (∀ e, d = some e → t ≠ e) → s'.tmps t = s.tmps t
 mm : ∀ n, n ∉ W → s'.mem n = s.mem n
theorem Near.symm {d : Option Tmp} {W : List Nat} {s s' : SS} (h : Near d W s s') : Near d W s' s :=
 ⟨h.sz.symm, fun t ht => (h.tm t ht).symm, fun n hn => (h.mm n hn).symm⟩
def Cong (N : SS → Option (NF × FP)) (l : List Tmp) : Prop :=
 ∀ s s' y fy, N s = some (y, fy) → s'.sz = s.sz → (∀ t ∈ l, s'.tmps t = s.tmps t) → (∀ n ∈ fy.reads, s'.mem n = s.mem n) → N s' = some (y, fy)
theorem Cong.near {N : SS → Option (NF × FP)} {l : List Tmp} (h : Cong N l) {d : Option Tmp} {W : List Nat} {s s' : SS} {y : NF} {fy : FP} (hn : Near d W s s') (hd : ∀ e, d = some e → e ∉ l)
  (hW : ∀ n ∈ fy.reads, n ∉ W) (hs : N s = some (y, fy)) : N s' = some (y, fy) :=
 h s s' y fy hs hn.sz (fun t ht => hn.tm t fun e he het => hd e he (het ▸ ht)) (fun n hr => hn.mm n (hW n hr))
structure RC where
 P : Program
 okf : FuncId → Bool
 rules : FuncId → Option (List Nat)
 ops : Array Oper
 tab : List (Nat × Nat)
 sp : List Nat
 base : Nat
def RC.N (c : RC) (i : Nat) (o : Oper) (s : SS) : Option (NF × FP) := nf c.P c.okf c.rules (am c.ops) (c.sp.contains i) (c.base + i) o s
theorem RC.cong (c : RC) (i : Nat) (o : Oper) : Cong (c.N i o) (o.looksAt c.ops) := fun _ _ _ _ h hz ht hm => hP h hz ht hm
theorem lg {l1 l2 : List Nat} {a : Nat} : (l1 ++ a :: l2).Nodup ↔ (a :: (l1 ++ l2)).Nodup := List.perm_middle.nodup_iff
def TopoP (L : Nat → Prop) : List (Nat × Oper) → Prop
 | [] => True
 | (i, o) :: r => (∀ p ∈ a9 o, L p) ∧ TopoP (fun p => L p ∨ p = i) r
theorem TopoP.mono : ∀ {l : List (Nat × Oper)} {L L' : Nat → Prop}, (∀ p, L p → L' p) → TopoP L l → TopoP L' l
 | [], _, _, _, _ => trivial
 | (_, _) :: _, _, _, h, ⟨h1, h2⟩ => ⟨fun p hp => h p (h1 p hp), TopoP.mono (fun p hp => hp.imp (h p) id) h2⟩
theorem TopoP.drop {i : Nat} {o : Oper} {l2 : List (Nat × Oper)} : ∀ {l1 : List (Nat × Oper)} {L : Nat → Prop}, TopoP L (l1 ++ (i, o) :: l2) → TopoP (fun p => L p ∨ p = i) (l1 ++ l2)
 | [], _, h => h.2
 | (j, oj) :: r, L, ⟨h1, h2⟩ => ⟨fun p hp => .inl (h1 p hp), TopoP.mono (fun p hp => by
   rcases hp with (h | h) | h
   ·exact .inl (.inl h)
   ·exact .inr h
   ·exact .inl (.inr h)) (TopoP.drop (l1 := r) h2)⟩
structure Inv (c : RC) (L : Array Bool) (l : List (Nat × Oper)) : Prop where
 sz : L.size = c.ops.size
 pend : ∀ i, L.getD i true = false ↔ ∃ o, (i, o) ∈ l
 op : ∀ i o, (i, o) ∈ l → c.ops[i]? = some o
 nd : (l.map (·.1)).Nodup
 topo : TopoP (fun i => L.getD i false = true) l
 closed : ∀ i j, L.getD i false = true → k3 c.tab j i = true → L.getD j false = true
def nL (c : RC) : Prop := ∀ i j o, k3 c.tab j i = true → c.ops[i]? = some o → j ∈ a9 o ∨ ∃ p ∈ a9 o, k3 c.tab j p = true
theorem iU {o : Oper} {p : Nat} : p ∈ a9 o ↔ ∃ e ∈ o.after, Region.binds .any e = true ∧ e.on = p := by
 unfold a9
 simp only [List.mem_filterMap, Array.mem_toList_iff]
 constructor
 ·rintro ⟨e, he, h⟩
  split at h
  ·rename_i hb; exact ⟨e, he, hb, by simpa using h⟩
  ·simp at h
 ·rintro ⟨e, he, hb, rfl⟩
  exact ⟨e, he, by simp [hb]⟩
theorem Inv.step {c : RC} {L : Array Bool} {l1 l2 : List (Nat × Oper)} {i : Nat} {o : Oper} (hT : nL c) (h : Inv c L (l1 ++ (i, o) :: l2)) (hr : ∀ p ∈ a9 o, L.getD p false = true) :
  Inv c (L.setIfInBounds i true) (l1 ++ l2) := by
 have hi : c.ops[i]? = some o := h.op i o (by simp)
 have hlt : i < L.size := by rw [h.sz]; exact (Array.getElem?_eq_some_iff.1 hi).1
 have hself : ∀ d, (L.setIfInBounds i true).getD i d = true := by intro d; simp [hlt]
 have hnd := h.nd
 rw [List.map_append, List.map_cons, lg] at hnd
 obtain ⟨hni, hnd⟩ := List.nodup_cons.1 hnd
 refine ⟨by simp [h.sz], fun k => ?_, fun k o' hk => ?_, ?_, ?_, fun k j hk ho => ?_⟩
 ·by_cases e : i = k
  ·subst e
   rw [hself]
   constructor
   ·intro h; cases h
   ·rintro ⟨o', ho'⟩
    exact (hni (by rw [← List.map_append]; exact List.mem_map.2 ⟨_, ho', rfl⟩)).elim
  ·rw [getD_set_ne true e, h.pend]
   constructor
   ·rintro ⟨o', ho'⟩
    refine ⟨o', ?_⟩
    simp only [List.mem_append, List.mem_cons, Prod.mk.injEq] at ho' ⊢
    rcases ho' with h | ⟨rfl, _⟩ | h
    ·exact .inl h
    ·exact (e rfl).elim
    ·exact .inr h
   ·rintro ⟨o', ho'⟩
    refine ⟨o', ?_⟩
    simp only [List.mem_append, List.mem_cons] at ho' ⊢
    exact ho'.imp id .inr
 ·refine h.op k o' ?_
  simp only [List.mem_append, List.mem_cons] at hk ⊢
  exact hk.imp id .inr
 ·rw [List.map_append]; exact hnd
 ·refine TopoP.mono ?_ h.topo.drop
  rintro p (hp | rfl)
  ·exact getD_set_true hp
  ·exact hself _
 ·by_cases e : i = k
  ·subst e
   rcases hT i j o ho hi with h1 | ⟨p, hp, h1⟩
   ·exact getD_set_true (hr j h1)
   ·exact getD_set_true (h.closed p j (hr p hp) h1)
  ·rw [getD_set_ne false e] at hk
   exact getD_set_true (h.closed k j hk ho)
theorem Inv.unlisted {c : RC} {L : Array Bool} {l : List (Nat × Oper)} (h : Inv c L l) {i : Nat} {o : Oper} (hi : (i, o) ∈ l) : L.getD i false = false := by
 have h1 := (h.pend i).2 ⟨o, hi⟩
 have hlt : i < L.size := by rw [h.sz]; exact (Array.getElem?_eq_some_iff.1 (h.op i o hi)).1
 simpa [Array.getD, hlt] using h1
theorem cd (d i k : Nat) : (d ||| 1 <<< i).testBit k = (d.testBit k || decide (i = k)) := by
 rw [Nat.testBit_or, Nat.one_shiftLeft, Nat.testBit_two_pow]
theorem jb {d : Nat} {o : Oper} (h : ic d o = true) : ∀ p ∈ a9 o, d.testBit p = true := by
 unfold ic at h; rw [List.all_eq_true] at h; exact h
theorem iG {n : Nat} : ∀ {l : List (Nat × Oper)} {d : Nat}, topo n d l = true →
  (∀ i, i < n ↔ (d.testBit i = true ∨ ∃ o, (i, o) ∈ l)) ∧ (l.map (·.1)).Nodup ∧ (∀ i o, (i, o) ∈ l → d.testBit i = false) ∧ TopoP (fun p => d.testBit p = true) l
 | [], d, h => by
  simp only [topo, beq_iff_eq] at h
  subst h
  refine ⟨fun i => ?_, by simp, by simp, trivial⟩
  simp [Nat.testBit_two_pow_sub_one]
 | (i, o) :: r, d, h => by
  simp only [topo, Bool.and_eq_true, Bool.not_eq_true'] at h
  obtain ⟨⟨h1, h2⟩, h3⟩ := h
  obtain ⟨a, b, e, f⟩ := iG h3
  refine ⟨fun k => ?_, ?_, fun k o' hk => ?_, fun p hp => jb h2 p hp, f.mono fun p hp => ?_⟩
  ·rw [a k, cd]
   simp only [Bool.or_eq_true, decide_eq_true_eq, List.mem_cons, Prod.mk.injEq]
   constructor
   ·rintro ((h | rfl) | ⟨o', h⟩)
    ·exact .inl h
    ·exact .inr ⟨o, .inl ⟨rfl, rfl⟩⟩
    ·exact .inr ⟨o', .inr h⟩
   ·rintro (h | ⟨o', ⟨rfl, _⟩ | h⟩)
    ·exact .inl (.inl h)
    ·exact .inl (.inr rfl)
    ·exact .inr ⟨o', h⟩
  ·rw [List.map_cons, List.nodup_cons]
   refine ⟨fun hm => ?_, b⟩
   obtain ⟨p, hp, hpi⟩ := List.mem_map.1 hm
   have := e p.1 p.2 hp
   rw [cd] at this
   simp [hpi] at this
  ·rcases List.mem_cons.1 hk with hk | hk
   ·simp only [Prod.mk.injEq] at hk; rw [hk.1]; exact h1
   ·have := e k o' hk
    rw [cd] at this
    simp only [Bool.or_eq_false_iff] at this
    exact this.1
  ·rw [cd] at hp
   rw [Bool.or_eq_true, decide_eq_true_eq] at hp
   exact hp.imp id Eq.symm
theorem fx : ∀ (n : Nat) (l : List Nat), l.Nodup → (∀ i ∈ l, i < n) → l.length ≤ n
 | 0, [], _, _ => by simp
 | 0, a :: _, _, h => by have := h a (by simp); omega
 | n + 1, l, hn, h => by
  by_cases hm : n ∈ l
  ·have h1 := fx n (l.erase n) (hn.erase n) fun i hi => by
    obtain ⟨h2, h3⟩ := (List.Nodup.mem_erase_iff hn).1 hi
    have := h i h3; omega
   rw [List.length_erase_of_mem hm] at h1
   omega
  ·have := fx n l hn fun i hi => by
    have := h i hi
    have : i ≠ n := fun e => hm (e ▸ hi)
    omega
   omega
theorem cr {d k : Nat} : ∀ {l : List (Nat × Oper)} {e : Nat × Oper}, ct d k l = some e → e ∈ l
 | [], _, h => by simp [ct] at h
 | (i, o) :: r, e, h => by
  simp only [ct] at h
  split at h
  ·simp only [Option.some.injEq] at h; simp [h]
  ·exact List.mem_cons_of_mem _ (cr h)
theorem fP {i : Nat} : ∀ {l : List (Nat × Oper)} {e : Nat × Oper}, e ∈ fQ i l → e ∈ l
 | [], _, h => by simp [fQ] at h
 | (j, o) :: r, e, h => by
  simp only [fQ] at h
  split at h
  ·simp [h]
  ·rcases List.mem_cons.1 h with h | h
   ·simp [h]
   ·exact List.mem_cons_of_mem _ (fP h)
theorem eZ : ∀ {fuel d : Nat} {l : List (Nat × Oper)} {e : Nat × Oper}, e ∈ bU fuel d l → e ∈ l
 | 0, _, _, _, h => by simpa [bU] using h
 | fuel + 1, d, l, e, h => by
  simp only [bU] at h
  split at h
  ·exact h
  ·rename_i i o hf
   rcases List.mem_cons.1 h with h | h
   ·subst h
    cases h0 : ct d 0 l with
    | some x => rw [h0] at hf; simp at hf; subst hf; exact cr h0
    | none =>
     cases h1 : ct d 1 l with
     | some x => rw [h0, h1] at hf; simp at hf; subst hf; exact cr h1
     | none => rw [h0, h1] at hf; simp at hf; exact cr hf
   ·exact fP (eZ h)
theorem er {α : Type} : ∀ {l : List α} {n : Nat} {e : Nat × α}, e ∈ aQ n l → n ≤ e.1 ∧ l[e.1 - n]? = some e.2
 | [], _, _, h => by simp [aQ] at h
 | a :: r, n, e, h => by
  rcases List.mem_cons.1 h with h | h
  ·subst h; simp
  ·obtain ⟨h1, h2⟩ := er h
   refine ⟨by omega, ?_⟩
   rw [show e.1 - n = (e.1 - (n + 1)) + 1 by omega]
   simpa using h2
theorem fC {tab : List (Nat × Nat)} {j : Nat} : ∀ {ps : List Nat}, (gv tab ps).testBit j = true → j ∈ ps ∨ ∃ p ∈ ps, (be tab p).testBit j = true
 | [], h => by simp [gv] at h
 | p :: r, h => by
  simp only [gv, Nat.testBit_or, Bool.or_eq_true, Nat.one_shiftLeft, Nat.testBit_two_pow, decide_eq_true_eq] at h
  rcases h with (h | h) | h
  ·exact .inl (by simp [h])
  ·exact .inr ⟨p, by simp, h⟩
  ·rcases fC h with h | ⟨q, hq, h⟩
   ·exact .inl (by simp [h])
   ·exact .inr ⟨q, by simp [hq], h⟩
theorem ej : ∀ {l : List (Nat × Oper)} {tab : List (Nat × Nat)} {L : Nat → Prop}, (l.map (·.1)).Nodup → (∀ i o, (i, o) ∈ l → ¬ L i) → TopoP L l →
  (∀ p, (∀ o, (p, o) ∉ l) → be (ba l tab) p = be tab p) ∧
  ∀ i o j, (i, o) ∈ l → (be (ba l tab) i).testBit j = true → j ∈ a9 o ∨ ∃ p ∈ a9 o, (be (ba l tab) p).testBit j = true
 | [], tab, L, _, _, _ => ⟨fun _ _ => rfl, fun i o j h => by simp at h⟩
 | (i, o) :: r, tab, L, hn, hL, hT => by
  rw [List.map_cons, List.nodup_cons] at hn
  have hir : ∀ o', (i, o') ∉ r := fun o' ho => hn.1 (List.mem_map.2 ⟨_, ho, rfl⟩)
  obtain ⟨h1, h2⟩ := ej (l := r) (tab := (i, gv tab (a9 o)) :: tab) (L := fun p => L p ∨ p = i) hn.2 (fun k o' hk => by
   rintro (h | rfl)
   ·exact hL k o' (by simp [hk]) h
   ·exact hir o' hk) hT.2
  have hnot : ∀ p, L p → ∀ o', (p, o') ∉ (i, o) :: r := fun p hp o' ho => hL p o' ho hp
  have hl : ∀ p, L p → be (ba ((i, o) :: r) tab) p = be tab p := by
   intro p hp
   have hpi : i ≠ p := fun e => hnot p hp o (by simp [e])
   have := h1 p (fun o' ho => hnot p hp o' (by simp [ho]))
   simp only [ba]
   rw [this]
   simp [be, hpi]
  refine ⟨fun p hp => ?_, fun k o' j hk hb => ?_⟩
  ·have hpi : i ≠ p := fun e => hp o (by simp [e])
   have := h1 p (fun o' ho => hp o' (by simp [ho]))
   simp only [ba]
   rw [this]
   simp [be, hpi]
  ·rcases List.mem_cons.1 hk with hk | hk
   ·simp only [Prod.mk.injEq] at hk
    obtain ⟨rfl, rfl⟩ := hk
    have := h1 k hir
    simp only [ba] at hb
    rw [this] at hb
    simp only [be, if_true] at hb
    rcases fC hb with h | ⟨p, hp, h⟩
    ·exact .inl h
    ·exact .inr ⟨p, hp, by rw [hl p (hT.1 p hp)]; exact h⟩
   ·simp only [ba] at hb ⊢
    exact h2 k o' j hk hb
theorem eu {α : Type} : ∀ (l : List α) (n : Nat), (aQ n l).map (·.1) = (List.range' n l.length)
 | [], _ => rfl
 | a :: r, n => by rw [aQ, List.map_cons, eu r (n + 1), List.length_cons, List.range'_succ]
theorem Conc.drew {F : Own} {s : SS} {H : Heap} {O : Own} {a : Act} {w : World} (h : Conc F s H O a w) (n : Nat) : Conc F s H O a { w with drawn := n } :=
 ⟨h.ok, h.df, h.sz, h.tm, let ⟨L, h1, h2⟩ := h.mm; ⟨L, h1, h2.same rfl rfl⟩⟩
theorem Conc.next {F : Own} {s : SS} {H : Heap} {O : Own} {a : Act} {w : World} (h : Conc F s H O a w) (n : Nat) : Conc F { s with next := n } H O a w :=
 ⟨h.ok, h.df, h.sz, h.tm, h.mm⟩
theorem nB {G : Type} (I : G → Prop) (μ : G → Nat) : ∀ (n : Nat) (g : G), I g → μ g ≤ n → ∃ m, (∃ g, I g ∧ μ g = m) ∧ ∀ g, I g → m ≤ μ g
 | 0, g, h, hn => ⟨0, ⟨g, h, by omega⟩, fun _ _ => Nat.zero_le _⟩
 | n + 1, g, h, hn => by
  by_cases hx : ∃ g', I g' ∧ μ g' ≤ n
  ·obtain ⟨g', h1, h2⟩ := hx
   exact nB I μ n g' h1 h2
  ·refine ⟨μ g, ⟨g, h, rfl⟩, fun g' hg' => ?_⟩
   have : ¬ μ g' ≤ n := fun hl => hx ⟨g', hg', hl⟩
   omega
theorem gK {P : Program} {c : Code} {Q : Exit → Act → World → Prop} {G : Type} (I : G → Act → World → Prop) (μ : G → Nat) {g0 : G} {a : Act} {w : World} (h0 : I g0 a w)
  (round : ∀ g a w, I g a w → c.wp P (Exit.then (fun a' w' => ∃ g', I g' a' w' ∧ μ g' < μ g) Q) a w) : (Code.loop c).wp P Q a w := by
 let m : Act → World → Nat := fun a w => Classical.epsilon fun n => (∃ g, I g a w ∧ μ g = n) ∧ ∀ g, I g a w → n ≤ μ g
 have hm : ∀ a w, (∃ g, I g a w) → (∃ g, I g a w ∧ μ g = m a w) ∧ ∀ g, I g a w → m a w ≤ μ g := by
  rintro a w ⟨g, hg⟩
  exact Classical.epsilon_spec (nB (fun g => I g a w) μ (μ g) g hg (Nat.le_refl _))
 refine wp_loop (fun a w => ∃ g, I g a w) m ⟨g0, h0⟩ fun a w hI => ?_
 obtain ⟨⟨g, hg, hgm⟩, _⟩ := hm a w hI
 refine wp_mono (round g a w hg) fun e a' w' hq => ?_
 cases e with
 | normal =>
  obtain ⟨g', hg', hlt⟩ := hq
  refine ⟨⟨g', hg'⟩, ?_⟩
  have := (hm a' w' ⟨g', hg'⟩).2 g' hg'
  show m a' w' < m a w
  omega
 | _ => exact hq
theorem Conc.cons {F : Own} {s : SS} {H : Heap} {O : Own} {a : Act} {w : World} (h : Conc F s H O a w) : Cons H O :=
 let ⟨L, _, hm⟩ := h.mm; ⟨w, L ++ F, hm.perm (List.perm_append_comm_assoc _ _ _)⟩
theorem nW {l : List Value} {i : Nat} {v : Value} (h : l[i]? = some v) : g l i = v := by simp [g, List.getD, h]
theorem Boxes.sub {m m2 : Nat → Option Bx} {L : Own} (h : Boxes m L) (hs : ∀ n b2, m2 n = some b2 → ∃ b, m n = some b ∧ b.r = b2.r ∧ b.T = b2.T ∧ ∀ vs, CellsRel b.cs vs → CellsRel b2.cs vs) :
  ∃ L2 L3, Boxes m2 L2 ∧ L.Perm (L2 ++ L3) := by
 obtain ⟨ns, f, hn, hsm, hc, hp⟩ := h
 refine ⟨(ns.filter fun n => (m2 n).isSome).map fun n => b7 (m2 n) (f n), (ns.filter fun n => !(m2 n).isSome).map fun n => b7 (m n) (f n), ?_, ?_⟩
 ·refine ⟨_, f, hn.filter _, fun n => ?_, fun n b2 hb2 => ?_, List.Perm.refl _⟩
  ·rw [List.mem_filter]
   constructor
   ·intro h
    obtain ⟨b2, hb2⟩ := Option.isSome_iff_exists.1 h
    obtain ⟨b, hb, _⟩ := hs n b2 hb2
    exact ⟨(hsm n).1 (by simp [hb]), h⟩
   ·exact fun h => h.2
  ·obtain ⟨b, hb, _, _, h4⟩ := hs n b2 hb2
   exact h4 _ (hc n b hb)
 ·refine hp.trans ?_
  have e : (ns.filter fun n => (m2 n).isSome).map (fun n => b7 (m2 n) (f n)) = (ns.filter fun n => (m2 n).isSome).map fun n => b7 (m n) (f n) := by
   refine List.map_congr_left fun n hn => ?_
   obtain ⟨b2, hb2⟩ := Option.isSome_iff_exists.1 (List.mem_filter.1 hn).2
   obtain ⟨b, hb, h1, h2, _⟩ := hs n b2 hb2
   simp [hb2, hb, b7, h1, h2]
  rw [e, ← List.map_append]
  exact ((List.filter_append_perm _ ns).map _).symm
theorem mE {s : SS} {t : Nat} (h : (nI s t).fit = true) : ∃ x, s.tmps t = .s (.at x) ∧ x.fit = true ∧ nI s t = x := by
 unfold nI at h ⊢
 split at h
 ·rename_i x hx; exact ⟨x, hx, h, rfl⟩
 ·simp [At.fit] at h
theorem At.fit_known {x : At} (h : x.fit = true) : x.known = true := by cases x <;> simp_all [At.fit, At.known]
theorem Ones.append {a b : List Value} : Ones (a ++ b) ↔ Ones a ∧ Ones b := by
 induction a with
 | nil => simp [Ones]
 | cons x r ih => simp [Ones, ih, and_assoc]
theorem Eqs.mem : ∀ {l : List (List Value × List Value)}, Eqs l → ∀ p ∈ l, p.1 = p.2
 | [], _, _, h => by simp at h
 | _ :: _, h, p, hp => by
  rcases List.mem_cons.1 hp with rfl | hp
  ·exact h.1
  ·exact h.2.mem p hp
theorem bF {x : S1} {v : Value} (h : v = x.den) : (SV.s x).rel v := by
 unfold SV.rel
 split <;> simp_all
theorem j8 {gl' : List (At × Bool)} {cs : List Ck} (h : ee [] gl' = some cs) : cs = [] := by
 unfold ee at h
 simp only [] at h
 split at h
 ·simp only [Option.some.injEq] at h
  subst h; simp
 ·simp at h
theorem g5 {s : SS} {x : Operand} {v : At} {cs : List Ck} (hx : a5 s [] x = some (v, cs)) : cs = [] := by
 have hx := g6 hx
 cases x with
 | tmp t =>
  simp only [b9] at hx
  split at hx
  ·split at hx
   ·simp only [Option.some.injEq, Prod.mk.injEq] at hx; exact hx.2.symm
   ·simp at hx
  ·split at hx
   ·rename_i gl' y hy hk
    cases hs : ee [] gl' with
    | none => simp [hs] at hx
    | some c => simp only [hs, Option.map_some, Option.some.injEq, Prod.mk.injEq] at hx; rw [← hx.2]; exact j8 hs
   ·simp at hx
  ·simp at hx
 | _ => simp only [b9, Option.some.injEq, Prod.mk.injEq] at hx; exact hx.2.symm
structure Kont (P : Program) (QT : Value → Heap → Own → Prop) (F : Own) (k : SS → Tree) (H : Heap) (Q : Act → World → Prop) : Prop where
 go : ∀ s' H' O' a' w', Conc F s' H' O' a' w' → Heap.le H H' → (k s').den P QT H' O' → Q a' w'
theorem Kont.le {P : Program} {QT : Value → Heap → Own → Prop} {F : Own} {k : SS → Tree} {H H' : Heap} {Q : Act → World → Prop} (h : Kont P QT F k H Q) (hl : Heap.le H H') : Kont P QT F k H' Q :=
 ⟨fun s' H2 O' a' w' hc hle hd => h.go s' H2 O' a' w' hc (Heap.le_trans hl hle) hd⟩
def jV (tmps : Array Value) : ResultVar → Sem Value
 | .tmp t => pure (tmps.getD t undef)
 | .cell b t => do loadVar t (← asAddr (tmps.getD b undef))
theorem kc (fn : Func) (tmps : Array Value) : results fn tmps = (do
  let vs ← fn.results.mapM (jV tmps)
  pure (if h : vs.size = 1 then vs[0] else .tuple vs)) := by
 unfold results
 congr 2
theorem m3 {P : Program} {F : Own} {s : SS} {H : Heap} {O : Own} {a : Act} {w : World} (hC : Conc F s H O a w) {x : ResultVar} {v : S1} (hx : jt P s x = some v) (hc : AllCk (jW s x)) :
  (jV a.tmps x).run P w = .ok v.den w := by
 cases x with
 | tmp t =>
  simp only [jt] at hx
  split at hx
  ·rename_i y hy
   split at hx
   ·rename_i hk
    simp only [Option.some.injEq] at hx; subst hx
    have := hC.tm t
    rw [hy] at this
    rw [← ch hk this]; rfl
   ·simp at hx
  ·simp at hx
 | cell b T =>
  simp only [jt] at hx
  split at hx
  ·rename_i n r hat
   simp only [Option.bind_eq_some_iff] at hx
   obtain ⟨bx, hbx, hx⟩ := hx
   split at hx
   ·rename_i hcond
    simp only [Bool.and_eq_true, beq_iff_eq] at hcond
    obtain ⟨hk, hsz⟩ := hcond
    have hr : r = bx.r := by
     simp only [jW, hat, hbx] at hc
     exact hc.1
    obtain ⟨x, hx1, hx2, hx3⟩ := mE (s := s) (t := b) (by rw [hat]; rfl)
    have ht := hC.tm b
    rw [hx1] at ht
    have htv := ch (x := .at x) (by simpa [S1.known, S1.cells] using At.fit_known hx2) ht
    rw [S1.den, ← hx3, hat, At.den] at htv
    obtain ⟨vs, hvs, hrow⟩ := ir hC hbx
    have hvk := hvs.known hk
    have hread := bR hrow 0 (m := vs.length)
    simp only [List.drop_zero, List.take_length] at hread
    have hmk : aG P T = true ∨ bx.cs.length = 1 := by
     unfold kD at hx
     split at hx
     ·rename_i h; exact .inl h
     ·split at hx
      ·rename_i h; right; simp [h]
      ·simp at hx
    have := bN (P := P) (t := T) hsz.symm (a := ⟨r, 0, none⟩) (vs := vs) (by rw [hvk]; simp) (by rw [hr]; exact hread) hmk
    simp only [jV, htv, asAddr]
    rw [Sem.run_bind]
    simp only [Sem.run_pure, Result.andThen_ok]
    rw [this]
    congr 1
    unfold kD at hx
    split at hx
    ·rename_i hA
     simp only [Option.some.injEq] at hx; subst hx
     simp [hA, S1.den, hvk]
    ·rename_i hA
     split at hx
     ·rename_i y hy
      simp only [Option.some.injEq] at hx; subst hx
      simp only [hA, Bool.false_eq_true, if_false]
      rw [hvk, hy]; simp [g, S1.den]
     ·simp at hx
   ·simp at hx
  ·simp at hx
theorem jU {P : Program} {F : Own} {s : SS} {H : Heap} {O : Own} {a : Act} {w : World} (hC : Conc F s H O a w) : ∀ {xs : List ResultVar} {l : List S1}, eg P s xs = some l → AllCk (xs.flatMap (jW s)) →
  (xs.mapM (jV a.tmps)).run P w = .ok (l.map S1.den) w
 | [], l, h, _ => by simp only [eg, Option.some.injEq] at h; subst h; rfl
 | x :: r, l, h, hc => by
  simp only [eg] at h
  split at h
  ·rename_i v vs h1 h2
   simp only [Option.some.injEq] at h; subst h
   rw [List.flatMap_cons, AllCk.append] at hc
   rw [List.mapM_cons, Sem.run_bind, m3 hC h1 hc.1]
   simp only [Result.andThen_ok]
   rw [Sem.run_bind, jU hC h2 hc.2]
   rfl
  ·simp at h
def lX (P : Program) (f : FuncId) : Bool :=
 match P.funcs[f]? with
 | some fn => !(fn.name == "runtime.NumGoroutine") && !fn.body.isNone
 | none => false
def j1 {α : Type} (l : List (Nat × α)) (n : Nat) : Option α :=
 match l with
 | [] => none
 | (k, a) :: r => if k = n then some a else j1 r n
def mK (ok : List Nat) (rules : List (Nat × List Nat)) (loops : List (Nat × na)) (cuts : List (Nat × List Nat × List Nat × List (Nat × List Nat))) : oi :=
 { okf := fun f => ok.contains f, rules := j1 rules, loop := fun n => (j1 loops n).getD (.unroll 20), cut := j1 cuts }
theorem lj {P : Program} {ok : List Nat} (h : ok.all (lX P) = true) (rules : List (Nat × List Nat)) (loops : List (Nat × na)) (cuts : List (Nat × List Nat × List Nat × List (Nat × List Nat))) :
  ∀ f, (mK ok rules loops cuts).okf f = true → gm P f := by
 intro f hf
 have hm : f ∈ ok := by simpa [mK] using hf
 have := List.all_eq_true.1 h f hm
 unfold lX at this
 split at this
 ·rename_i fn hfn
  simp only [Bool.and_eq_true, Bool.not_eq_true'] at this
  exact ⟨fn, hfn, this.1, this.2⟩
 ·cases this
def Arr (H : Heap) (size : Nat) (a : Addr) (rows : List (List Value)) : Prop :=
 ∀ i r, rows[i]? = some r → H.read (.pointer (some (a.add (i * size)))) size = some r ∧ r.length = size ∧ Ones r
theorem Arr.le {H H' : Heap} (hl : Heap.le H H') {size : Nat} {a : Addr} {rows : List (List Value)} (h : Arr H size a rows) : Arr H' size a rows :=
 fun i r hr => ⟨hl.read (h i r hr).1, (h i r hr).2⟩
def Sl (H : Heap) (size : Nat) (s : Value) (rows : List (List Value)) : Prop :=
 ∃ a cap, s = .slice a rows.length cap ∧ rows.length ≤ cap ∧ cap < 2 ^ 63 ∧ (rows ≠ [] → ∃ ad, a = some ad ∧ Arr H size ad rows)
theorem Sl.le {H H' : Heap} (hl : Heap.le H H') {size : Nat} {s : Value} {rows : List (List Value)} (h : Sl H size s rows) : Sl H' size s rows :=
 let ⟨a, cap, h1, h2, h3, h4⟩ := h
 ⟨a, cap, h1, h2, h3, fun hn => let ⟨ad, e, hA⟩ := h4 hn; ⟨ad, e, hA.le hl⟩⟩
theorem Sl.nil (H : Heap) (size : Nat) : Sl H size (.slice none 0 0) [] := ⟨none, 0, rfl, Nat.le_refl _, by omega, fun h => absurd rfl h⟩
theorem Sl.one {H : Heap} {size : Nat} {s : Value} {rows : List (List Value)} (h : Sl H size s rows) : s.oneCell' = true := by
 obtain ⟨a, cap, rfl, _⟩ := h; rfl
theorem Sl.lenB {H : Heap} {size : Nat} {s : Value} {rows : List (List Value)} (h : Sl H size s rows) : rows.length < 2 ^ 63 := by
 obtain ⟨a, cap, rfl, h1, h2, _⟩ := h; omega
theorem Sl.len {H : Heap} {size : Nat} {s : Value} {rows : List (List Value)} (h : Sl H size s rows) : ag .len [s] = some (.int .i64 rows.length) := by
 obtain ⟨a, cap, rfl, _⟩ := h; rfl
theorem Sl.idx {H : Heap} {size : Nat} {s : Value} {rows : List (List Value)} (h : Sl H size s rows) {k : IntKind} {i : Nat} {r : List Value} (hr : rows[i]? = some r) :
  ∃ a, ag (.idx size) [s, .int k i] = some (.pointer (some a)) ∧ H.read (.pointer (some a)) size = some r ∧ r.length = size ∧ Ones r := by
 obtain ⟨a, cap, rfl, _, _, h4⟩ := h
 have hlt : i < rows.length := (List.getElem?_eq_some_iff.1 hr).1
 obtain ⟨ad, rfl, hA⟩ := h4 (by intro e; simp [e] at hlt)
 refine ⟨ad.add (i * size), ?_, hA i r hr⟩
 simp only [ag, cP]
 rw [if_pos ⟨by omega, by omega⟩]
 simp
theorem Arr.pidx {H : Heap} {size : Nat} {a : Addr} {rows : List (List Value)} (h : Arr H size a rows) {k : IntKind} {n i : Nat} (hn : n = rows.length) {r : List Value} (hr : rows[i]? = some r) :
  ∃ b, ag (.pidx n size) [.pointer (some a), .int k i] = some (.pointer (some b)) ∧ H.read (.pointer (some b)) size = some r ∧ r.length = size ∧ Ones r := by
 subst hn
 have hlt : i < rows.length := (List.getElem?_eq_some_iff.1 hr).1
 refine ⟨a.add (i * size), ?_, h i r hr⟩
 simp only [ag, dc]
 rw [if_pos ⟨by omega, by omega⟩]
 simp
theorem gn {H : Heap} {r : Nat} {cs : List Value} {T : TypeId} (h : H r = some (.cells cs.toArray T (0, 0))) {off m : Nat} (hle : off + m ≤ cs.length) :
  H.read (.pointer (some ⟨r, off, none⟩)) m = some ((cs.drop off).take m) := by
 simp only [Heap.read]
 have key : ∀ (n i : Nat), i + n = m → (List.range' i n).mapM (fun i => H.cell? ((⟨r, off, none⟩ : Addr).add i)) = some (((cs.drop off).drop i).take n) := by
  intro n
  induction n with
  | zero => intro i _; simp
  | succ n ih =>
   intro i hi
   have hlt : off + i < cs.length := by omega
   have hc : H.cell? ((⟨r, off, none⟩ : Addr).add i) = some cs[off + i] := by
    rw [aK]
    simp [Heap.cell?, h, hlt]
   rw [List.range'_succ, List.mapM_cons, hc, ih (i + 1) (by omega)]
   simp only [Option.pure_def, Option.bind_eq_bind, Option.bind_some]
   congr 1
   rw [show (cs.drop off).drop i = cs[off + i] :: (cs.drop off).drop (i + 1) by
    rw [List.drop_drop, List.drop_drop, List.drop_eq_getElem_cons hlt]; rfl]
   rfl
 rw [List.range_eq_range']
 simpa using key m 0 (by omega)
theorem Arr.block {H : Heap} {r : Nat} {cs : List Value} {T : TypeId} (h : H r = some (.cells cs.toArray T (0, 0))) (ho : Ones cs) : Arr H 1 ⟨r, 0, none⟩ (cs.map fun v => [v]) := by
 intro i x hx
 rw [List.getElem?_map, Option.map_eq_some_iff] at hx
 obtain ⟨v, hv, rfl⟩ := hx
 have hlt := (List.getElem?_eq_some_iff.1 hv).1
 have hg := ho.get i hlt
 rw [nW hv] at hg
 refine ⟨?_, rfl, hg, trivial⟩
 rw [aK, gn h (by omega), Nat.zero_add, Nat.mul_one, List.drop_eq_getElem_cons hlt]
 rw [List.getElem?_eq_getElem hlt] at hv
 simp only [Option.some.injEq] at hv
 simp [hv]
theorem Sl.block {H : Heap} {r : Nat} {cs : List Value} {T : TypeId} (h : H r = some (.cells cs.toArray T (0, 0))) (ho : Ones cs) {n : Nat} (hn : n = cs.length) (hb : n < 2 ^ 63) :
  Sl H 1 (.slice (some ⟨r, 0, none⟩) n n) (cs.map fun v => [v]) := by
 subst hn
 exact ⟨_, _, by simp, by simp, hb, fun _ => ⟨_, rfl, Arr.block h ho⟩⟩
abbrev Str (l : List UInt8) : Value := .string ⟨l.toArray⟩
def ob (P : Program) (f : FuncId) (args : List Value) (H : Heap) (O : Own) (r : Value) : Prop := Triple P f args H O fun v _ O' => v = r ∧ O' = O
end Go.Sx
namespace Go.Sx
open Go Go.ChangeShapes Go.WideShapes
def mM (W : World) : Heap := ⟨fun b => W.heap[b]?, cA W⟩
theorem hU (W : World) : Models W (mM W) [] := ⟨fun _ _ h => h, by simp, by simp, rfl⟩
def Wf (P : Program) (H : Heap) : Nat → TypeId → List Value → Prop
 | 0, _, _ => False
 | n + 1, t, cs =>
  match P.underlying t with
  | some .bool => ∃ b, cs = [.bool b]
  | some (.int k) => ∃ x, cs = [.int k x] ∧ k.min ≤ x ∧ x ≤ k.max
  | some .string => ∃ l, cs = [Str l] ∧ l.length < 2 ^ 63
  | some (.slice e) => ∃ s rows, cs = [s] ∧ Sl H (P.cellsOf e) s rows ∧ ∀ r ∈ rows, Wf P H n e r
  | some (.struct fs) => cs.length = P.cellsOf t ∧ ∀ f ∈ fs.toList, Wf P H n f.type ((cs.drop f.offset).take (P.cellsOf f.type))
  | some (.array m e) => cs.length = P.cellsOf t ∧ ∀ i, i < m → Wf P H n e ((cs.drop (i * P.cellsOf e)).take (P.cellsOf e))
  | _ => True
variable {H : Type} {enc : TypeId × Value → H} {P : Program} {w : World} {base : Nat} {sp : Nat → Bool} {held : Bool}
theorem fq {cs : List Value} (h : ∀ v ∈ cs, v.oneCell' = true) : Ones cs := by
 induction cs with
 | nil => trivial
 | cons v r ih => exact ⟨h v (by simp), ih fun u hu => h u (by simp [hu])⟩
theorem g7 {cs : List Value} (h : Ones cs) : ∀ v ∈ cs, v.oneCell' = true := by
 induction cs with
 | nil => simp
 | cons v r ih => intro u hu; rcases List.mem_cons.1 hu with rfl | hu; exact h.1; exact ih h.2 u hu
def Kept (W W' : World) : Prop := cA W' = cA W ∧ ∀ (b : Nat) (o : Obj), W.heap[b]? = some o → W'.heap[b]? = some o
theorem Kept.keptBut {W W' : World} (h : Kept W W') (may : MemPlace → Prop) : W.keptBut W' may := by
 obtain ⟨h1, h2⟩ := h
 simp only [cA, Prod.mk.injEq] at h1
 refine ⟨h1.1, h1.2.2, fun i hi => ?_⟩
 have e1 : W.heap[i]? = some W.heap[i] := Array.getElem?_eq_getElem hi
 have e2 := h2 i _ e1
 rw [e1, e2]
 cases W.heap[i] with
 | cells c t fr => exact ⟨rfl, rfl, rfl, fun _ _ => rfl⟩
 | map es clock => exact .inr ⟨rfl, rfl⟩
 | _ => rfl
theorem Kept.same {W W' : World} (h : Kept W W') {p : MemPlace} (hp : p.block < W.heap.size) : W.sameAt W' p := by
 have e2 := h.2 p.block _ (Array.getElem?_eq_getElem hp)
 rw [← Array.getElem?_eq_getElem hp] at e2
 cases p with
 | cell b off => simp only [MemPlace.block] at e2; simp only [World.sameAt, World.cell?, e2]
 | map b => exact e2
theorem Kept.trodAll {W W' : World} (h : Kept W W') (hl : laidOutB P = true) {B : Nat} : ∀ {ts : List TypeId} {vs : List Value} {ds : List (DataW H)} {ps : List MemPlace}, (∀ t ∈ ts, P.readableRec t = true ∧ t < P.types.size) →
  DataW.TrodAll enc P W 0 (fun _ => true) true ts vs ds ps → (∀ p ∈ ps, p.block < W.heap.size) → DataW.TrodAll enc P W' 0 (fun b => decide (b < W.heap.size)) true ts vs ds ps
 | [], [], [], _, _, h', _ => h'
 | _ :: _, _ :: _, _ :: _, _, ht, ⟨p, q, h1, h2, e⟩, hlt => by
  subst e
  refine ⟨p, q, ?_, h.trodAll hl (B := B) (fun t hm => ht t (by simp [hm])) h2 (fun x hx => hlt x (by simp [hx])), rfl⟩
  exact WideElems.Trod_stays hl (ht _ (by simp)).1 (ht _ (by simp)).2 h1 (fun x hx => h.same (hlt x (by simp [hx]))) (fun x hx => by simpa using hlt x (by simp [hx]))
 | [], _ :: _, _, _, _, h', _ => h'.elim
 | [], [], _ :: _, _, _, h', _ => h'.elim
 | _ :: _, [], _, _, _, h', _ => h'.elim
 | _ :: _, _ :: _, [], _, _, h', _ => h'.elim
theorem ln {f : FuncId} {fn : Func} {s : ChangeSpec} {W : World} {args : Array Value} {ds : List (DataW H)} {before : List MemPlace} {tb : TypeId}
  (hT : Triple P f args.toList (mM W) [] fun v _ O' => v = .bool true ∧ O' = [])
  (hW : DataW.Whole enc P fn.params.toList s.vars false W args.toList ds [] before) (hv : s.vars = []) (hs : s.fn H ds = { results := [.lit (.bool true)], args := ds })
  (hrt : fn.resultTypes = #[tb]) (htb : P.underlying tb = some .bool) (hl : laidOutB P = true) (hts : ∀ t ∈ fn.params.toList, P.readableRec t = true ∧ t < P.types.size) :
  Calls P f args W fun e W' => ∃ v, e = .returned v ∧ s.post enc P fn false true false false W args v W' := by
 have hc := hT W [] (by simpa using hU W)
 refine hc.mono ?_
 rintro e W' ⟨v, H', O', rfl, ⟨rfl, rfl⟩, hle, hm⟩
 refine ⟨_, rfl, ?_⟩
 have hk : Kept W W' := ⟨by rw [hm.env, hle.2]; rfl, fun b o hb => hm.pers b o (hle.1 b o hb)⟩
 have hW' := hW
 obtain ⟨p, q, h1, h2, h3, h4, h5⟩ := hW
 rw [hv] at h2
 have hq : q = [] := h2
 subst hq
 subst h3
 have hlt : ∀ x ∈ p, x.block < W.heap.size := fun x hx => hW'.lt x (by simp [hx])
 refine ⟨ds, [], p ++ [], [], p, [], hW', ?_, ?_, ?_, hk.keptBut _, fun h => by cases h⟩
 ·rw [List.append_nil, hs, hrt]
  exact trodAll_mk1 (RowKit.shut_bool htb true)
 ·rw [List.append_nil, hs]
  exact hk.trodAll hl (B := 0) hts h1 hlt
 ·rw [List.append_nil, hs, hv]; rfl
end Go.Sx
namespace Go.Sx
open Go
def Leaf (P : Program) (H : Heap) (t : TypeId) (c : Value) : Prop := ∃ k, Wf P H k t [c]
theorem Leaf.int {P : Program} {H : Heap} {t : TypeId} {k : IntKind} {c : Value} (hu : P.underlying t = some (.int k)) (h : Leaf P H t c) : ∃ x, c = .int k x ∧ k.min ≤ x ∧ x ≤ k.max := by
 obtain ⟨n, h⟩ := h
 cases n with
 | zero => exact h.elim
 | succ n => unfold Wf at h; rw [hu] at h; obtain ⟨x, h1, h2⟩ := h; exact ⟨x, (List.cons.inj h1).1, h2⟩
theorem Leaf.bool {P : Program} {H : Heap} {t : TypeId} {c : Value} (hu : P.underlying t = some .bool) (h : Leaf P H t c) : ∃ x, c = .bool x := by
 obtain ⟨n, h⟩ := h
 cases n with
 | zero => exact h.elim
 | succ n => unfold Wf at h; rw [hu] at h; obtain ⟨x, h1⟩ := h; exact ⟨x, (List.cons.inj h1).1⟩
theorem Leaf.str {P : Program} {H : Heap} {t : TypeId} {c : Value} (hu : P.underlying t = some .string) (h : Leaf P H t c) : ∃ l, c = Str l ∧ l.length < 2 ^ 63 := by
 obtain ⟨n, h⟩ := h
 cases n with
 | zero => exact h.elim
 | succ n => unfold Wf at h; rw [hu] at h; obtain ⟨x, h1, h2⟩ := h; exact ⟨x, (List.cons.inj h1).1, h2⟩
theorem Leaf.slice {P : Program} {H : Heap} {t e : TypeId} {c : Value} (hu : P.underlying t = some (.slice e)) (h : Leaf P H t c) : ∃ rows, Sl H (P.cellsOf e) c rows ∧ ∃ n, ∀ r ∈ rows, Wf P H n e r := by
 obtain ⟨n, h⟩ := h
 cases n with
 | zero => exact h.elim
 | succ n =>
  unfold Wf at h; rw [hu] at h
  obtain ⟨s, rows, h1, h2, h3⟩ := h
  obtain rfl := (List.cons.inj h1).1
  exact ⟨rows, h2, n, h3⟩
end Go.Sx
