/- My framework, part 1: a function's code is reckoned to a tree; what the tree says, the function does. Generic: no program in sight. -/
import Derived.Calls
import Derived.Orders
import Derived.Tactics
import Derived.Laws.Sem
import Derived.Laws.Cells
import Derived.Laws.World
import Derived.Laws.Rows
import Derived.Laws.Slices
import Derived.Laws.Tables
import Derived.Laws.Small
namespace Go.Sx
open Go
abbrev Env := Os × (Nat → Question → Nat) × Array (Nat × ByteArray)
def cI (w : World) : Env := (w.os, w.tape, w.output)
structure Heap where
 get : Nat → Option Obj
 env : Env
instance : CoeFun Heap (fun _ => Nat → Option Obj) := ⟨Heap.get⟩
abbrev Own := List (Nat × Obj)
def Heap.le (H H' : Heap) : Prop := (∀ b o, H b = some o → H' b = some o) ∧ H'.env = H.env
theorem Heap.le_refl (H : Heap) : Heap.le H H := ⟨fun _ _ h => h, rfl⟩
theorem Heap.le_trans {H H' H'' : Heap} (h : Heap.le H H') (h' : Heap.le H' H'') : Heap.le H H'' := ⟨fun b o e => h'.1 b o (h.1 b o e), h'.2.trans h.2⟩
structure Models (w : World) (H : Heap) (O : Own) : Prop where
 pers : ∀ b o, H b = some o → w.heap[b]? = some o
 own : ∀ p, p ∈ O → w.heap[p.1]? = some p.2 ∧ H p.1 = none
 nodup : (O.map (·.1)).Nodup
 env : cI w = H.env
theorem Models.perm {w : World} {H : Heap} {O O' : Own} (h : Models w H O) (hp : O.Perm O') : Models w H O' :=
 ⟨h.pers, fun p hp' => h.own p (hp.mem_iff.2 hp'), (hp.map _).nodup_iff.1 h.nodup, h.env⟩
theorem Models.sub {w : World} {H : Heap} {O O' : Own} (h : Models w H O) (hs : O'.Sublist O) : Models w H O' :=
 ⟨h.pers, fun p hp => h.own p (hs.subset hp), (hs.map _).nodup h.nodup, h.env⟩
theorem Models.update {w w' : World} {H : Heap} {r : Nat} {o o' : Obj} {O : Own} (h : Models w H ((r, o) :: O))
  (hs : ∀ b, b ≠ r → w'.heap[b]? = w.heap[b]?) (hr : w'.heap[r]? = some o') (he : cI w' = cI w) : Models w' H ((r, o') :: O) := by
 have hn := h.nodup
 simp only [List.map_cons, List.nodup_cons] at hn
 refine ⟨fun b x hb => ?_, fun p hp => ?_, ?_, he.trans h.env⟩
 ·have hne : b ≠ r := by
   intro e; subst e
   have := (h.own (b, o) (by simp)).2
   simp [this] at hb
  rw [hs b hne]; exact h.pers b x hb
 ·rcases List.mem_cons.1 hp with rfl | hp
  ·exact ⟨hr, (h.own (r, o) (by simp)).2⟩
  ·have hne : p.1 ≠ r := fun e => hn.1 (e ▸ List.mem_map_of_mem hp)
   rw [hs _ hne]; exact h.own p (List.mem_cons_of_mem _ hp)
 ·simpa [List.nodup_cons] using hn
theorem Models.push {w : World} {H : Heap} {O : Own} (h : Models w H O) (o : Obj) :
  Models { w with heap := w.heap.push o } H ((w.heap.size, o) :: O) := by
 have lt : ∀ b (x : Obj), w.heap[b]? = some x → b < w.heap.size := fun b x hb => by
  rcases Nat.lt_or_ge b w.heap.size with h | h
  ·exact h
  ·simp [Array.getElem?_eq_none h] at hb
 have keep : ∀ b (x : Obj), w.heap[b]? = some x → (w.heap.push o)[b]? = some x := fun b x hb => by
  have := lt b x hb
  rw [Array.getElem?_push, if_neg (by omega)]; exact hb
 refine ⟨fun b x hb => keep b x (h.pers b x hb), fun p hp => ?_, ?_, h.env⟩
 ·rcases List.mem_cons.1 hp with rfl | hp
  ·refine ⟨by simp, ?_⟩
   cases hH : H w.heap.size with
   | none => rfl
   | some x => have := lt _ _ (h.pers _ _ hH); omega
  ·exact ⟨keep _ _ (h.own p hp).1, (h.own p hp).2⟩
 ·simp only [List.map_cons, List.nodup_cons]
  refine ⟨fun hm => ?_, h.nodup⟩
  obtain ⟨p, hp, he⟩ := List.mem_map.1 hm
  have := lt _ _ (h.own p hp).1
  omega
theorem Models.same {w w' : World} {H : Heap} {O : Own} (h : Models w H O) (e : w'.heap = w.heap) (he : cI w' = cI w) : Models w' H O :=
 ⟨fun b o hb => by rw [e]; exact h.pers b o hb, fun p hp => by rw [e]; exact h.own p hp, h.nodup, he.trans h.env⟩
def Heap.ins (H : Heap) (r : Nat) (o : Obj) : Heap := ⟨fun b => match H b with
 | some x => some x
 | none => if b = r then some o else none, H.env⟩
theorem Heap.le_ins (H : Heap) (r : Nat) (o : Obj) : Heap.le H (H.ins r o) := ⟨fun b x h => by simp only [Heap.ins]; rw [h], rfl⟩
theorem Models.freeze {w : World} {H : Heap} {r : Nat} {o : Obj} {O : Own} (h : Models w H ((r, o) :: O)) : Models w (H.ins r o) O := by
 have hn := h.nodup
 simp only [List.map_cons, List.nodup_cons] at hn
 refine ⟨fun b x hb => ?_, fun p hp => ?_, hn.2, h.env⟩
 ·simp only [Heap.ins] at hb
  split at hb
  ·rename_i y hy; cases hb; exact h.pers b _ hy
  ·split at hb
   ·rename_i e; subst e; cases hb; exact (h.own (b, o) (by simp)).1
   ·cases hb
 ·have hne : p.1 ≠ r := fun e => hn.1 (e ▸ List.mem_map_of_mem hp)
  have hp' := h.own p (List.mem_cons_of_mem _ hp)
  refine ⟨hp'.1, ?_⟩
  simp only [Heap.ins, hp'.2, if_neg hne]
def Ghost (H : Heap) (O : Own) (H' : Heap) (O' : Own) : Prop := ∀ w F, Models w H (O ++ F) → Models w H' (O' ++ F) ∧ Heap.le H H'
def Cons (H : Heap) (O : Own) : Prop := ∃ w F, Models w H (O ++ F)
theorem Cons.none {H : Heap} {O : Own} (h : Cons H O) {p : Nat × Obj} (hp : p ∈ O) : H p.1 = none :=
 let ⟨_, _, hm⟩ := h; (hm.own p (List.mem_append_left _ hp)).2
theorem Cons.nodup {H : Heap} {O : Own} (h : Cons H O) : (O.map (·.1)).Nodup := by
 obtain ⟨_, _, hm⟩ := h
 have := hm.nodup
 rw [List.map_append] at this
 exact (List.nodup_append.1 this).1
theorem Ghost.refl (H : Heap) (O : Own) : Ghost H O H O := fun _ _ h => ⟨h, Heap.le_refl H⟩
theorem Ghost.trans {H H' H'' : Heap} {O O' O'' : Own} (h : Ghost H O H' O') (h' : Ghost H' O' H'' O'') : Ghost H O H'' O'' :=
 fun w F hm => ⟨(h' w F (h w F hm).1).1, Heap.le_trans (h w F hm).2 (h' w F (h w F hm).1).2⟩
theorem Ghost.perm {H : Heap} {O O' : Own} (hp : O.Perm O') : Ghost H O H O' := fun _ F h => ⟨h.perm (hp.append_right F), Heap.le_refl H⟩
theorem Ghost.sub {H : Heap} {O O' : Own} (hs : O'.Sublist O) : Ghost H O H O' := fun _ F h => ⟨h.sub (hs.append_right F), Heap.le_refl H⟩
theorem Ghost.drop (H : Heap) (O : Own) : Ghost H O H [] := Ghost.sub (List.nil_sublist O)
theorem Ghost.freeze (H : Heap) (r : Nat) (o : Obj) (O : Own) : Ghost H ((r, o) :: O) (H.ins r o) O := fun _ _ h =>
 ⟨Models.freeze (by simpa using h), Heap.le_ins H r o⟩
theorem Ghost.frame {H H' : Heap} {O O' : Own} (h : Ghost H O H' O') (X : Own) : Ghost H (O ++ X) H' (O' ++ X) := fun w F hm => by
 have := h w (X ++ F) (by simpa using hm)
 exact ⟨by simpa using this.1, this.2⟩
def Triple (P : Program) (f : FuncId) (args : List Value) (H : Heap) (O : Own) (Q : Value → Heap → Own → Prop) : Prop :=
 ∀ w F, Models w H (O ++ F) → Calls P f args.toArray w fun e w' => ∃ v H' O', e = .returned v ∧ Q v H' O' ∧ Heap.le H H' ∧ Models w' H' (O' ++ F)
theorem Triple.mono {P : Program} {f : FuncId} {args : List Value} {H : Heap} {O : Own} {Q Q' : Value → Heap → Own → Prop} (h : Triple P f args H O Q)
  (hq : ∀ v H' O', Heap.le H H' → Q v H' O' → Q' v H' O') : Triple P f args H O Q' :=
 fun w F hm => (h w F hm).mono fun _ _ ⟨v, H', O', he, q, hle, hm'⟩ => ⟨v, H', O', he, hq _ _ _ hle q, hle, hm'⟩
theorem Triple.frame {P : Program} {f : FuncId} {args : List Value} {H : Heap} {O : Own} {Q : Value → Heap → Own → Prop} (h : Triple P f args H O Q) (X : Own) :
  Triple P f args H (O ++ X) fun v H' O' => ∃ O'', O' = O'' ++ X ∧ Q v H' O'' :=
 fun w F hm => (h w (X ++ F) (by simpa using hm)).mono fun _ _ ⟨v, H', O', he, q, hle, hm'⟩ => ⟨v, H', O' ++ X, he, ⟨O', rfl, q⟩, hle, by simpa using hm'⟩
def bJ (P : Program) (s : Sem Next) (H : Heap) (O : Own) (Q : Value → Heap → Own → Prop) : Prop :=
 ∀ w F, Models w H (O ++ F) → ∃ v w' H' O', s.run P w = .ok (.value v) w' ∧ Q v H' O' ∧ Heap.le H H' ∧ Models w' H' (O' ++ F)
def Heap.cell? (H : Heap) (a : Addr) : Option Value :=
 match H a.block with
 | some (.cells c _ _) => if a.spot.isSome then none else c[a.off]?
 | _ => none
theorem Models.cell? {w : World} {H : Heap} {O : Own} (h : Models w H O) {a : Addr} {v : Value} (hc : H.cell? a = some v) : w.cell? a = some v := by
 unfold Heap.cell? at hc
 cases hb : H a.block with
 | none => simp [hb] at hc
 | some o =>
  simp only [hb] at hc
  simp only [World.cell?, h.pers _ _ hb]
  exact hc
theorem Heap.le.cell? {H H' : Heap} (h : Heap.le H H') {a : Addr} {v : Value} (hc : H.cell? a = some v) : H'.cell? a = some v := by
 unfold Heap.cell? at *
 cases hb : H a.block with
 | none => simp [hb] at hc
 | some o =>
  simp only [hb] at hc
  simp only [h.1 _ _ hb]
  exact hc
def Heap.read (H : Heap) (p : Value) (m : Nat) : Option (List Value) :=
 match p with
 | .pointer (some a) => (List.range m).mapM fun i => H.cell? (a.add i)
 | _ => none
theorem nc {α β : Type} {f g : α → Option β} (h : ∀ a b, f a = some b → g a = some b) : ∀ (l : List α) (r : List β), l.mapM f = some r → l.mapM g = some r := by
 intro l
 induction l with
 | nil => intro r h; simpa using h
 | cons a l ih =>
  intro r hr
  simp only [List.mapM_cons, Option.pure_def, Option.bind_eq_bind] at hr ⊢
  cases ha : f a with
  | none => simp [ha] at hr
  | some b =>
   simp only [ha, Option.bind_some] at hr
   cases hl : l.mapM f with
   | none => simp [hl] at hr
   | some bs =>
    simp only [hl, Option.bind_some] at hr
    simp only [h a b ha, ih bs hl, Option.bind_some]
    exact hr
theorem Heap.le.read {H H' : Heap} (h : Heap.le H H') {p : Value} {m : Nat} {vs : List Value} (hr : H.read p m = some vs) : H'.read p m = some vs := by
 cases p with
 | pointer a =>
  cases a with
  | none => simp [Heap.read] at hr
  | some a => exact nc (fun i v hv => h.cell? hv) _ _ hr
 | _ => simp [Heap.read] at hr
def g (vs : List Value) (i : Nat) : Value := vs.getD i undef
def dj (x : Value) (n : Nat) : Value :=
 match x with
 | .pointer (some a) => .pointer (some (a.add n))
 | _ => undef
def qd : Value → Bool
 | .pointer (some _) => true
 | _ => false
inductive Cp where
 | b (n r off : Nat)
 | v (x : Value)
def Cp.den : Cp → Value
 | .b _ r off => .pointer (some ⟨r, off, none⟩)
 | .v x => x
inductive At where
 | any
 | k (v : Value)
 | v (x : Value)
 | px (x : Value) (off : Nat)
 | p (n r off : Nat)
 | sl (n r off len cap : Nat)
 | clo (f : Nat) (caps : List Cp)
 | mp (n r : Nat)
def At.den : At → Value
 | .any => undef
 | .k x => x
 | .v x => x
 | .px x off => dj x off
 | .p _ r off => .pointer (some ⟨r, off, none⟩)
 | .sl _ r off len cap => .slice (some ⟨r, off, none⟩) len cap
 | .clo f caps => .func (.func f) #[] (caps.map Cp.den).toArray
 | .mp _ r => .map (some r)
def At.known : At → Bool
 | .any => false
 | _ => true
def At.fit : At → Bool
 | .any | .px .. => false
 | .k x => x.oneCell'
 | _ => true
def At.ok : At → Prop
 | .v x => x.oneCell' = true
 | _ => True
inductive S1 where
 | at (a : At)
 | agg (l : List At)
def S1.den : S1 → Value
 | .at a => a.den
 | .agg l => .agg (l.map At.den).toArray
def S1.cells : S1 → List At
 | .at a => [a]
 | .agg l => l
def S1.isAgg : S1 → Bool
 | .agg _ => true
 | _ => false
inductive SV where
 | s (x : S1)
 | tup (l : List S1)
 | opt (gl : List (At × Bool)) (x : S1)
abbrev Gd := List (Value × Bool)
def On : Gd → Prop
 | [] => True
 | p :: r => p.1 = .bool p.2 ∧ On r
def eo (gl : List (At × Bool)) : Gd := gl.map fun p => (p.1.den, p.2)
def SV.rel : SV → Value → Prop
 | .s (.at .any), _ => True
 | .s x, v => v = x.den
 | .tup l, v => v = .tuple (l.map S1.den).toArray
 | .opt gl x, v => (On (eo gl) → v = x.den) ∧ (¬ On (eo gl) → v = undef)
structure Bx where
 r : Nat
 T : TypeId
 cs : List At
structure SS where
 sz : Nat
 tmps : Nat → SV
 mem : Nat → Option Bx
 next : Nat
def SS.set (s : SS) (d : Option Nat) (v : SV) : SS :=
 match d with
 | none => s
 | some d => { s with tmps := fun t => if t = d then v else s.tmps t }
def SS.setBox (s : SS) (n : Nat) (b : Option Bx) : SS := { s with mem := fun m => if m = n then b else s.mem m }
inductive BK where
 | int | bool | str | slice | ptr | iface | map | func
def bH (op : BinOp) (k : IntKind) (a b : Int) : Option Value :=
 match op with
 | .add => some (.int k (k.wrap (a + b)))
 | .sub => some (.int k (k.wrap (a - b)))
 | .mul => some (.int k (k.wrap (a * b)))
 | .quo => if b = 0 then none else some (.int k (k.wrap (a.tdiv b)))
 | .rem => if b = 0 then none else some (.int k (a.tmod b))
 | .and => some (.int k (k.wrap (BitVec.ofInt k.bits a &&& BitVec.ofInt k.bits b).toNat))
 | .or => some (.int k (k.wrap (BitVec.ofInt k.bits a ||| BitVec.ofInt k.bits b).toNat))
 | .xor => some (.int k (k.wrap (BitVec.ofInt k.bits a ^^^ BitVec.ofInt k.bits b).toNat))
 | .andNot => some (.int k (k.wrap (BitVec.ofInt k.bits a &&& ~~~ BitVec.ofInt k.bits b).toNat))
 | .eql => some (.bool (a == b))
 | .neq => some (.bool (a != b))
 | .lss => some (.bool (decide (a < b)))
 | .leq => some (.bool (decide (a ≤ b)))
 | .gtr => some (.bool (decide (a > b)))
 | .geq => some (.bool (decide (a ≥ b)))
 | _ => none
def gh (op : BinOp) (k : IntKind) (a b : Int) : Option Value :=
 if b < 0 then none else
 match op with
 | .shl => some (.int k (k.wrap (a * 2 ^ (min b.toNat k.bits))))
 | .shr => some (.int k (a.fdiv (2 ^ (min b.toNat k.bits))))
 | _ => none
def mr (op : BinOp) (a b : ByteArray) : Option Value :=
 match op with
 | .add => if ((a.size + b.size : Nat) : Int) > IntKind.i64.max then none else some (.string (a ++ b))
 | .eql => some (.bool (a.toList == b.toList))
 | .neq => some (.bool (!(a.toList == b.toList)))
 | _ => none
def uV (bk : BK) (x y : Value) : Option Bool :=
 match bk, x, y with
 | .bool, .bool a, .bool b => some (a == b)
 | .slice, .slice none _ _, .slice b _ _ => some b.isNone
 | .slice, .slice _ _ _, .slice none _ _ => some false
 | .ptr, .pointer none, .pointer b => some b.isNone
 | .ptr, .pointer _, .pointer none => some false
 | .map, .map none, .map b => some b.isNone
 | .map, .map _, .map none => some false
 | .func, .nilFunc, .nilFunc => some true
 | .func, .nilFunc, .func _ _ _ => some false
 | .func, .func _ _ _, .nilFunc => some false
 | _, _, _ => none
def oL (op : BinOp) (bk : BK) (x y : Value) : Option Value :=
 match op with
 | .eql => (uV bk x y).map .bool
 | .neq => (uV bk x y).map fun b => .bool (!b)
 | _ => none
def bW (op : BinOp) (bk : BK) (x y : Value) : Option Value :=
 match bk, x, y with
 | .int, .int k a, .int k' b =>
  match op with
  | .shl | .shr => gh op k a b
  | _ => if k = k' then bH op k a b else none
 | .str, .string a, .string b => mr op a b
 | _, _, _ => oL op bk x y
inductive POp where
 | bin (op : BinOp) (bk : BK)
 | not | neg | compl
 | pick
 | len | slen | cap
 | idx (size : Nat)
 | pidx (len size : Nat)
 | sidx
 | aidx
 | conv (k : IntKind)
 | slc (size : Nat) (lo hi mx : Bool)
 | sslc (lo hi : Bool)
 | min2 | max2
def fD (size : Nat) (s i : Value) : Option Value :=
 match s, i with
 | .slice (some a) len _, .int _ i => if 0 ≤ i ∧ i < len then some (.pointer (some (a.add (i.toNat * size)))) else none
 | _, _ => none
def gR (len size : Nat) (p i : Value) : Option Value :=
 match p, i with
 | .pointer (some a), .int _ i => if 0 ≤ i ∧ i < len then some (.pointer (some (a.add (i.toNat * size)))) else none
 | _, _ => none
def kY (s i : Value) : Option Value :=
 match s, i with
 | .string s, .int _ i => (if 0 ≤ i then s[i.toNat]? else none).map fun b => .int .u8 b.toNat
 | _, _ => none
def gU (i : Value) (cs : List Value) : Option Value :=
 match i with
 | .int _ i => if 0 ≤ i ∧ i < cs.length then cs[i.toNat]? else none
 | _ => none
def asI : Value → Option Int
 | .int _ i => some i
 | _ => none
def wl (i : Int) (y : Nat) : Decidable (0 ≤ i ∧ i ≤ (y : Int)) :=
 match i with
 | .ofNat n => match h : Nat.ble n y with
  | true => .isTrue ⟨Int.natCast_nonneg n, Int.ofNat_le.2 (Nat.le_of_ble_eq_true h)⟩
  | false => .isFalse fun c => by
   have h2 := Nat.ble_eq_true_of_le (Int.ofNat_le.1 c.2)
   rw [h2] at h; cases h
 | .negSucc n => .isFalse fun c => by have := c.1; omega
def nN (v : Value) (y : Nat) : Option Nat := (asI v).bind fun i => @ite (Option Nat) (0 ≤ i ∧ i ≤ (y : Int)) (wl i y) (some i.toNat) none
def bq (x : Option Value) (y d : Nat) : Option Nat :=
 match x with
 | some v => nN v y
 | none => some d
def cO (x : Option Value) (full : Bool) (y d : Nat) : Option Nat :=
 match x with
 | some v => nN v y
 | none => if full then none else some d
def bY (len cap : Nat) (lo hi mx : Option Value) : Option (Nat × Nat × Nat) :=
 (bq mx cap cap).bind fun m => (cO hi mx.isSome m len).bind fun h => (bq lo h 0).bind fun l => some (l, h, m)
def d6 : List Bool → List Value → List (Option Value)
 | [], _ => []
 | true :: bs, v :: vs => some v :: d6 bs vs
 | true :: bs, [] => none :: d6 bs []
 | false :: bs, vs => none :: d6 bs vs
def iy (size : Nat) (x : Value) (lo hi mx : Option Value) : Option Value :=
 match x with
 | .slice a len cap => (bY len cap lo hi mx).map fun (l, h, m) => .slice (if m = l then a else a.map (·.add (l * size))) (h - l) (m - l)
 | _ => none
def kX (x : Value) (lo hi : Option Value) : Option Value :=
 match x with
 | .string s => (bY s.size s.size lo hi none).map fun (l, h, _) => .string (s.extract l h)
 | _ => none
def ae (op : POp) (args : List Value) : Option Value :=
 match op, args with
 | .bin op bk, [x, y] => bW op bk x y
 | .not, [.bool b] => some (.bool (!b))
 | .neg, [.int k n] => some (.int k (k.wrap (0 - n)))
 | .compl, [.int k n] => bH .xor k (if k.signed then -1 else k.max) n
 | .pick, [.bool b, x, y] => some (if b then x else y)
 | .len, [.slice _ n _] => some (goInt n)
 | .slen, [.string s] => some (goInt s.size)
 | .cap, [.slice _ _ n] => some (goInt n)
 | .idx size, [s, i] => fD size s i
 | .pidx len size, [p, i] => gR len size p i
 | .sidx, [s, i] => kY s i
 | .aidx, i :: cs => gU i cs
 | .conv k, [.int _ n] => some (.int k (k.wrap n))
 | .slc size lo hi mx, x :: rest => match d6 [lo, hi, mx] rest with | [l, h, m] => iy size x l h m | _ => none
 | .sslc lo hi, x :: rest => match d6 [lo, hi] rest with | [l, h] => kX x l h | _ => none
 | .min2, [.int k x, .int _ y] => some (.int k (if y < x then y else x))
 | .max2, [.int k x, .int _ y] => some (.int k (if y > x then y else x))
 | _, _ => none
inductive PrimOp where
 | bi (b : Builtin) (argTypes : Array TypeId) (type : TypeId)
 | makeSlice (t : TypeId)
 | makeMap (t : TypeId) (has : Bool)
 | lookup (t : TypeId) (ok : Bool)
 | mapUpdate (t : TypeId)
 | range (t : TypeId)
 | next (str : Bool) (type : TypeId)
 | convert (src dst : TypeId)
 | eqv (op : BinOp) (t : TypeId) (const : Bool)
 | typeAssert (x a : TypeId) (ok : Bool)
 | intr (f : FuncId)
 | entry
 | mkIface (t : TypeId) (agg : Bool)
def PrimOp.sem (o : PrimOp) (args : List Value) : Sem Next :=
 let v (s : Sem Value) : Sem Next := do pure (.value (← s))
 match o, args with
 | .bi b at_ ty, args => builtin b at_ ty #[] args.toArray
 | .makeSlice t, [l, c] => v (Instr.makeSlice t l c)
 | .makeMap t false, [] => v (Instr.makeMap t none)
 | .makeMap t true, [r] => v (Instr.makeMap t (some r))
 | .lookup t ok, [m, k] => v (Instr.lookup t m k ok)
 | .mapUpdate t, [m, k, x] => do Instr.mapUpdate t m k x; pure (.value (.bool false))
 | .range t, [x] => v (Instr.range t x)
 | .next str ty, [x] => v (Instr.next x str ty)
 | .convert a b, [x] => v (Go.convert a b x)
 | .eqv op t c, [x, y] => v (do eqGuard op t (if c then .const undef else .global 0) (.global 0) x y; binOp op t x y)
 | .typeAssert t a ok, [x] => v (Instr.typeAssert x t a ok)
 | .intr f, args => callFunc f args.toArray
 | .entry, [x] => v (Instr.entry x)
 | .mkIface t false, [x] => v (Instr.makeInterface t x)
 | .mkIface t true, cs => v (Instr.makeInterface t (.agg cs.toArray))
 | _, _ => stuck "prim"
inductive Shp where
 | one
 | agg (m : Nat)
 | tup (l : List (Option Nat))
def Shp.openList : List (Option Nat) → List Value → Option (List Value)
 | [], [] => some []
 | none :: r, v :: vs => (Shp.openList r vs).map (v :: ·)
 | some m :: r, .agg cs :: vs => if cs.size = m then (Shp.openList r vs).map (cs.toList ++ ·) else none
 | _, _ => none
def Shp.open : Shp → Value → Option (List Value)
 | .one, v => some [v]
 | .agg m, .agg cs => if cs.size = m then some cs.toList else none
 | .tup l, .tuple vs => Shp.openList l vs.toList
 | _, _ => none
def atsFrom (vs : List Value) (i m : Nat) : List At := (List.range m).map fun j => .v (g vs (i + j))
def Shp.svList (vs : List Value) : Nat → List (Option Nat) → List S1
 | _, [] => []
 | i, none :: r => .at (.v (g vs i)) :: Shp.svList vs (i + 1) r
 | i, some m :: r => .agg (atsFrom vs i m) :: Shp.svList vs (i + m) r
def Shp.sv (vs : List Value) : Shp → SV
 | .one => .s (.at (.v (g vs 0)))
 | .agg m => .s (.agg (atsFrom vs 0 m))
 | .tup l => .tup (Shp.svList vs 0 l)
def Shp.count : Shp → Nat
 | .one => 1
 | .agg m => m
 | .tup l => l.foldr (fun o n => o.getD 1 + n) 0
def Shp.isAgg : Shp → Nat → Bool
 | .agg m, n => m == n
 | _, _ => false
structure BV where
 r : Nat
 T : TypeId
 vs : List Value
def BV.obj (b : BV) : Nat × Obj := (b.r, .cells b.vs.toArray b.T (0, 0))
inductive Ck where
 | eqN (a b : Nat)
 | eqV (a b : Value)
 | ptr (g : Gd) (v : Value)
def Ck.holds : Ck → Prop
 | .eqN a b => a = b
 | .eqV a b => a = b
 | .ptr g v => On g → qd v = true
inductive Tree where
 | stuck (why : Nat)
 | ret (v : Value) (own : List BV)
 | pure (g : Gd) (op : POp) (args : List Value) (k : Value → Tree)
 | raw (g : Gd) (op : PrimOp) (args : List Value) (k : Value → Tree)
 | load (g : Gd) (p : Value) (m : Nat) (k : List Value → Tree)
 | chk (c : Ck) (t : Tree)
 | newbox (k : Nat → Tree)
 | br (v : Value) (t e : Tree)
 | sw (v : Value) (i : Nat) (t e : Tree)
 | call (d : Bool) (f : FuncId) (args : List Value) (frz own : List BV) (shp : Shp) (k : List Value → List (List Value) → Tree)
 | callv (d : Bool) (fv : Value) (args : List Value) (frz own : List BV) (shp : Shp) (k : List Value → List (List Value) → Tree)
 | callm (d : Bool) (m : String) (x : Value) (args : List Value) (frz own : List BV) (shp : Shp) (k : List Value → List (List Value) → Tree)
 | prim (op : PrimOp) (args : List Value) (frz own : List BV) (shp : Shp) (k : List Value → List (List Value) → Tree)
 | store (p : Value) (vs : List Value) (t : Tree)
 | loop (lab key : Nat) (init : List Value) (body : (List Value → Heap → Own → Prop) → List Value → Tree)
 | cut (lab key : Nat) (body : (List Value → Heap → Own → Prop) → Tree) (rest : List Value → Tree)
 | cont (lab : Nat) (C : List Value → Heap → Own → Prop) (vals : List Value) (eqs : List (List Value × List Value))
def Heap.insAll (H : Heap) : List BV → Heap
 | [] => H
 | b :: r => Heap.insAll (H.ins b.r b.obj.2) r
theorem Heap.le_insAll : ∀ (l : List BV) (H : Heap), Heap.le H (H.insAll l)
 | [], H => Heap.le_refl H
 | b :: r, H => Heap.le_trans (Heap.le_ins H b.r b.obj.2) (Heap.le_insAll r _)
def xH (O : Own) (p : Value) (m : Nat) (vs : List Value) : Prop :=
 ∃ a cs T, p = .pointer (some a) ∧ a.spot = none ∧ (a.block, Obj.cells cs T (0, 0)) ∈ O ∧ (cs.toList.drop a.off).take m = vs ∧ vs.length = m
def Reads (H : Heap) (O : Own) (p : Value) (m : Nat) (vs : List Value) : Prop := H.read p m = some vs ∨ xH O p m vs
def bK (cs : List Value) (off : Nat) (vs : List Value) : List Value := cs.take off ++ vs ++ cs.drop (off + vs.length)
def lh (O : Own) (p : Value) (vs : List Value) (O' : Own) : Prop :=
 ∃ a cs T L, p = .pointer (some a) ∧ a.spot = none ∧ O.Perm ((a.block, Obj.cells cs T (0, 0)) :: L) ∧ a.off + vs.length ≤ cs.size ∧
  O' = (a.block, Obj.cells (bK cs.toList a.off vs).toArray T (0, 0)) :: L
def gP : List BV → List (List Value) → List BV
 | b :: bs, c :: cs => { b with vs := c } :: gP bs cs
 | _, _ => []
def Ones : List Value → Prop
 | [] => True
 | v :: r => v.oneCell' = true ∧ Ones r
def xO : List BV → List (List Value) → Prop
 | [], [] => True
 | b :: bs, c :: cs => c.length = b.vs.length ∧ Ones c ∧ xO bs cs
 | _, _ => False
def Eqs : List (List Value × List Value) → Prop
 | [] => True
 | p :: r => p.1 = p.2 ∧ Eqs r
def fN (P : Program) (f : FuncId) : Prop := ∃ fn, P.funcs[f]? = some fn ∧ (fn.name == "runtime.NumGoroutine") = false ∧ fn.body.isNone = false
def dZ (T : Heap → Own → (Value → Heap → Own → Prop) → Prop) (d : Bool) (frz own : List BV) (shp : Shp) (K : List Value → List (List Value) → Heap → Own → Prop)
  (H : Heap) (O : Own) : Prop :=
 Cons H (frz.map BV.obj ++ (own.map BV.obj ++ O)) → ∃ H1 O1 O2 Q, (if d then H1 = H.insAll frz ∧ ((O1 = [] ∧ O2 = O) ∨ (own = [] ∧ O1 = O ∧ O2 = [] ∧ ∀ v H' O', Q v H' O' → O' = O)) else Ghost (H.insAll frz) O H1 (O1 ++ O2)) ∧ T H1 (own.map BV.obj ++ O1) Q ∧
  ∀ v H' O', Q v H' O' → Heap.le H1 H' → ∃ vs cs O3, shp.open v = some vs ∧ Ones vs ∧ xO own cs ∧ O' = (gP own cs).map BV.obj ++ O3 ∧ K vs cs H' (O3 ++ O2)
def uT (P : Program) (m : String) (x : Value) (f : FuncId) (r : Value) : Prop :=
 ∃ t v, x = .iface t v ∧ ∀ w, (method (P.types.size + Made.depth) t v m).run P w = .ok (f, r) w
def Tree.den (P : Program) (Q : Value → Heap → Own → Prop) : Tree → Heap → Own → Prop
 | .stuck _, _, _ => False
 | .ret v own, H, O => Cons H (own.map BV.obj ++ O) → ∃ H' O', Ghost H (own.map BV.obj ++ O) H' O' ∧ Q v H' O'
 | .pure gd op args k, H, O => ∃ v, (On gd → ae op args = some v) ∧ (gd = [] ∨ v.oneCell' = true) ∧ (k v).den P Q H O
 | .raw gd op args k, H, O => ∃ v, (On gd → ∀ w, (op.sem args).run P w = .ok (.value v) w) ∧ v.oneCell' = true ∧ (k v).den P Q H O
 | .load gd p m k, H, O => ∃ vs, vs.length = m ∧ Ones vs ∧ (On gd → Reads H O p m vs) ∧ (k vs).den P Q H O
 | .chk c t, H, O => c.holds ∧ t.den P Q H O
 | .newbox k, H, O => ∀ r, (k r).den P Q H O
 | .br v t e, H, O => ∃ b, v = .bool b ∧ (b = true → t.den P Q H O) ∧ (b = false → e.den P Q H O)
 | .sw v i t e, H, O => ∃ kd n, v = .int kd n ∧ (n = i → t.den P Q H O) ∧ (n ≠ i → e.den P Q H O)
 | .call d f args frz own shp k, H, O => dZ (fun H1 O1 R => Triple P f args H1 O1 R) d frz own shp (fun vs cs => (k vs cs).den P Q) H O
 | .callv d fv args frz own shp k, H, O => ∃ f caps, fv = .func (.func f) #[] caps ∧ fN P f ∧
   dZ (fun H1 O1 R => Triple P f (args ++ caps.toList) H1 O1 R) d frz own shp (fun vs cs => (k vs cs).den P Q) H O
 | .callm d m x args frz own shp k, H, O => ∃ f r, uT P m x f r ∧ fN P f ∧
   dZ (fun H1 O1 R => Triple P f (r :: args) H1 O1 R) d frz own shp (fun vs cs => (k vs cs).den P Q) H O
 | .prim op args frz own shp k, H, O => dZ (fun H1 O1 R => bJ P (op.sem args) H1 O1 R) false frz own shp (fun vs cs => (k vs cs).den P Q) H O
 | .store p vs t, H, O => ∃ O', lh O p vs O' ∧ t.den P Q H O'
 | .loop _ _ init body, H, O => ∃ (I : List Value → Heap → Own → Prop) (μ : List Value → Heap → Own → Nat),
   (Cons H O → ∃ H1 O1, Ghost H O H1 O1 ∧ I init H1 O1) ∧
   ∀ vs H' O', vs.length = init.length → Ones vs → Heap.le H H' → I vs H' O' →
    (body (fun vs' H'' O'' => Cons H'' O'' → ∃ H3 O3, Ghost H'' O'' H3 O3 ∧ I vs' H3 O3 ∧ μ vs' H3 O3 < μ vs H' O') vs).den P Q H' O'
 | .cut _ _ body rest, H, O => ∃ R : List Value → Heap → Own → Prop,
   (body (fun vs' H'' O'' => Cons H'' O'' → ∃ H3 O3, Ghost H'' O'' H3 O3 ∧ R vs' H3 O3)).den P Q H O ∧
   ∀ vs H' O', Ones vs → Heap.le H H' → R vs H' O' → (rest vs).den P Q H' O'
 | .cont _ C vals eqs, H, O => Eqs eqs ∧ C vals H O
inductive FK where
 | sil
 | pure (g : Gd) (op : POp) (args : List Value)
 | raw (g : Gd) (op : PrimOp) (args : List Value)
 | load (g : Gd) (p : Value) (m : Nat)
 | split (c : Value)
 | isplit (c : Value) (n : Nat)
inductive HK where
 | call (f : FuncId) (args : List Value)
 | callv (fv : Value) (args : List Value)
 | callm (m : String) (x : Value) (args : List Value)
 | prim (op : PrimOp) (args : List Value)
inductive NF where
 | fl (cs : List Ck) (k : FK) (X : List Value → SV)
 | box (cs : List Ck) (name : Nat) (T : TypeId) (cells : List At) (val : Nat → At)
 | stb (cs : List Ck) (n : Nat) (b : Bx)
 | hv (cs : List Ck) (k : HK) (frz own : List (Nat × Bx)) (shp : Shp) (post : List Value → List Ck) (sv : List Value → SV)
 | st (cs : List Ck) (p : Value) (vs : List Value)
structure FP where
 reads : List Nat := []
def FK.ch : FK → Bool
 | .pure gd _ _ | .raw gd _ _ => !gd.isEmpty
 | .load .. => true
 | _ => false
def NF.ch : NF → Bool
 | .fl _ k _ => k.ch
 | _ => false
def NF.bx : NF → Bool
 | .box .. => true
 | _ => false
def NF.writes : NF → List Nat
 | .box _ n _ _ _ => [n]
 | .stb _ n _ => [n]
 | .hv _ _ frz own _ _ _ => (frz ++ own).map (·.1)
 | _ => []
def dY (P : Program) (t : TypeId) : Option Nat :=
 match P.info? t, P.underlying t with
 | some i, some _ => some i.size
 | _, _ => none
def bm (P : Program) (t : TypeId) : Bool :=
 match P.underlying t with
 | some (.struct _) | some (.array _ _) => true
 | _ => false
def j0 (P : Program) (t : TypeId) : Option (List At) := ((P.info? t).bind (·.zero)).map fun z => z.cells.toList.map .k
def mo (P : Program) (t : TypeId) (f : Nat) : Option Field :=
 match P.underlying t with
 | some (.struct fs) => fs[f]?
 | _ => none
def tl (P : Program) (t : TypeId) (cs : List At) : Option S1 :=
 if bm P t then some (.agg cs) else match cs with | [a] => some (.at a) | _ => none
def S1.known (x : S1) : Bool := x.cells.all At.known
def jW : Value → S1
 | .agg cs => .agg (cs.toList.map .k)
 | v => .at (.k v)
def j1 (gl gl' : List (At × Bool)) : Option (List Ck) :=
 let rear := gl.drop (gl.length - gl'.length)
 if rear.length = gl'.length && (rear.zip gl').all (fun p => p.1.2 == p.2.2) then some ((rear.zip gl').map fun p => .eqV p.1.1.den p.2.1.den) else none
def gJ (s : SS) (gl : List (At × Bool)) (x : Operand) : Option (S1 × List Ck) :=
 match x with
 | .tmp t =>
  match s.tmps t with
  | .s x => if x.known then some (x, []) else none
  | .opt gl' x => if x.known then (j1 gl gl').map fun c => (x, c) else none
  | .tup _ => none
 | .const v => some (jW v, [])
 | .global n => some (.at (.k (.pointer (some ⟨n, 0, none⟩))), [])
 | .func f => some (.at (.clo f []), [])
def dp (s : SS) (gl : List (At × Bool)) (x : Operand) : Option (At × List Ck) :=
 match gJ s gl x with
 | some (.at a, c) => some (a, c)
 | _ => none
def bF (s : SS) (gl : List (At × Bool)) : List Operand → Option (List At × List Ck)
 | [] => some ([], [])
 | x :: r =>
  match dp s gl x, bF s gl r with
  | some (a, c), some (as, cs) => some (a :: as, c ++ cs)
  | _, _ => none
def fM (s : SS) (gl : List (At × Bool)) : List Operand → Option (List S1 × List Ck)
 | [] => some ([], [])
 | x :: r =>
  match gJ s gl x, fM s gl r with
  | some (a, c), some (as, cs) => some (a :: as, c ++ cs)
  | _, _ => none
inductive GR where
 | go (gl : List (At × Bool))
 | skip
 | bad
def am (tgt : Nat → Option Tmp) (s : SS) (o : Oper) : GR :=
 match o.guard with
 | none => .go []
 | some (j, want) =>
  match tgt j with
  | none => .bad
  | some t =>
   match s.tmps t with
   | .s (.at (.k (.bool b))) => if b == want then .go [] else .skip
   | .s (.at (.k (.tuple _))) => .skip
   | .s (.at c) => if c.known then .go [(c, want)] else .bad
   | .opt gl (.at c) => if c.known then .go ((c, want) :: gl) else .bad
   | _ => .bad
def nb (gl : List (At × Bool)) (x : S1) : SV := if gl.isEmpty then .s x else .opt gl x
def lK : At → Option Value
 | .k (.int k n) => some (.int k n)
 | .k (.bool b) => some (.bool b)
 | _ => none
def vM (op : POp) (args : List At) : Option Value :=
 (args.mapM lK).bind (ae op)
def bQ (gl : List (At × Bool)) (total : Bool) (dst : Option Tmp) (op : POp) (args : List At) (cs : List Ck) : NF :=
 match vM op args with
 | some v => .fl cs .sil (fun _ => (nb gl (.at (.k v))))
 | none => .fl cs (.pure (if total then [] else eo gl) op (args.map At.den)) (fun vs => (nb gl (.at (.v (g vs 0)))))
def yv (P : Program) (t : TypeId) : Option BK :=
 match P.underlying t with
 | some (.int _) => some .int
 | some .bool => some .bool
 | some .string => some .str
 | some (.slice _) => some .slice
 | some (.pointer _) => some .ptr
 | some (.map _ _) => some .map
 | some (.func _ _ _) => some .func
 | _ => none
def cw (cells : List At) (off : Nat) (v : List At) : List At := cells.take off ++ v ++ cells.drop (off + v.length)
def bB (s : SS) (gl : List (At × Bool)) (place : Nat → Option (Nat × Nat)) : List (Nat × Operand) → List At → Option (List At × List Ck)
 | [], cells => some (cells, [])
 | (i, x) :: r, cells =>
  match place i, gJ s gl x with
  | some (off, size), some (v, c) =>
   if v.cells.length = size && off + size ≤ cells.length && v.cells.all At.fit then
    (bB s gl place r (cw cells off v.cells)).map fun (cs, c') => (cs, c ++ c')
   else none
  | _, _ => none
def aS (z : List At) : Nat → List At
 | 0 => []
 | n + 1 => z ++ aS z n
def uR (l : List Nat) (n : Nat) : List Nat := if l.contains n then l else l ++ [n]
def cq : List At → List Nat → List Nat
 | [], acc => acc
 | .sl n .. :: r, acc => cq r (uR acc n)
 | _ :: r, acc => cq r acc
def qS : List Cp → List Nat → List Nat
 | [], acc => acc
 | .b n .. :: r, acc => qS r (uR acc n)
 | _ :: r, acc => qS r acc
def cE : List At → List Nat → List Nat
 | [], acc => acc
 | .p n .. :: r, acc => cE r (uR acc n)
 | .clo _ cs :: r, acc => cE r (qS cs acc)
 | _ :: r, acc => cE r acc
def cG (s : SS) (l : List Nat) : List (Nat × Bx) := l.filterMap fun n => (s.mem n).map fun b => (n, b)
def Bx.bv (b : Bx) : BV := ⟨b.r, b.T, b.cs.map At.den⟩
def aI : List Nat → SS → SS
 | [], s => s
 | n :: r, s => aI r (s.setBox n none)
def pa : Nat → List (Nat × Bx) → List (List Value) → SS → SS
 | _, [], _, s => s
 | i, (n, b) :: r, css, s => pa (i + 1) r css (s.setBox n (some { b with cs := atsFrom (css.getD i []) 0 b.cs.length }))
def bj : List (Nat × Bx) → List (List Value) → SS → SS
 | (n, b) :: r, vs :: vss, s => bj r vss (s.setBox n (some { b with cs := atsFrom vs 0 b.cs.length }))
 | _, _, s => s
def bN (s : SS) : Nat → List Nat → List Nat → List Nat
 | 0, r, acc => r ++ acc
 | _, [], acc => acc
 | fuel + 1, n :: r, acc =>
  if acc.contains n then bN s fuel r acc else
  match s.mem n with
  | none => bN s fuel r (acc ++ [n])
  | some b => bN s fuel (cq b.cs (cE b.cs r)) (acc ++ [n])
def bZ (s : SS) : Nat → List Nat → List Nat → List Nat
 | 0, r, acc => r ++ acc
 | _, [], acc => acc
 | fuel + 1, n :: r, acc =>
  if acc.contains n then bZ s fuel r acc else
  match s.mem n with
  | none => bZ s fuel r (acc ++ [n])
  | some b => bZ s fuel (cE b.cs r) (acc ++ [n])
def dh (s : SS) : List Nat → List Nat → List Nat
 | [], acc => acc
 | n :: r, acc => dh s r (match s.mem n with | some b => cq b.cs acc | none => acc)
def xW (P : Program) (t : TypeId) : Option Shp :=
 match P.underlying t with
 | some (.tuple ts) => some (.tup (ts.toList.map fun t => if bm P t then dY P t else none))
 | some (.struct _) | some (.array _ _) => (dY P t).map .agg
 | some _ => some .one
 | none => none
def uh : List Nat → Bool
 | [] => true
 | n :: r => !r.contains n && uh r
def bg (s : SS) (dst : Option Tmp) (shp : Shp) (hk : HK) (atoms : List At) (cs : List Ck) : Option (NF × FP) :=
 let ps := bZ s 50 (cE atoms []) []
 let frzN := bN s 50 (dh s ps (cq atoms [])) []
 let ownN := ps.filter (!frzN.contains ·)
 let frz := cG s frzN
 let own := cG s ownN
 let rds := ps ++ frzN
 if (frz ++ own).all (fun p => p.2.cs.all At.known) && uh ((frz ++ own).map (·.1)) then
  some (.hv cs hk frz own shp (fun _ => []) shp.sv, { reads := rds })
 else none
def tW : At → List Nat
 | .p n .. => [n]
 | .sl n .. => [n]
 | _ => []
def rO (gl : List (At × Bool)) (x : At) (o : Nat) : Option (At × List Ck) :=
 match x with
 | .p n r off => some (.p n r (off + o), [])
 | .v x => some (if o = 0 then .v x else if gl.isEmpty then .v (dj x o) else .px x o, [.ptr (eo gl) x])
 | .px x off => some (.px x (off + o), [.ptr (eo gl) x])
 | .k x => some (if o = 0 then .k x else if gl.isEmpty then .v (dj x o) else .px x o, [.ptr (eo gl) x])
 | _ => none
def j6 (P : Program) (s : SS) (gl : List (At × Bool)) (dst : Option Tmp) (t : TypeId) (x : At) (cs : List Ck) : Option (NF × FP) :=
 (dY P t).bind fun m =>
 let far (y : Value) : Option (NF × FP) := some (.fl cs (.load (eo gl) y m)
   (fun vs => (nb gl (if bm P t then .agg (atsFrom vs 0 m) else .at (.v (g vs 0))))), { reads := tW x })
 match x with
 | .p n r off =>
  match s.mem n with
  | some b =>
   let cells := (b.cs.drop off).take m
   if cells.length = m && cells.all At.known then
    (tl P t cells).map fun v => (.fl (.eqN r b.r :: cs) .sil (fun _ => (nb gl v)), { reads := [n] })
   else none
  | none => if !bm P t && m != 1 then none else far x.den
 | .v _ | .px _ _ | .k _ => if !bm P t && m != 1 then none else far x.den
 | _ => none
def fQ (P : Program) (s : SS) (t : TypeId) (x : At) (y : S1) (cs : List Ck) : Option (NF × FP) :=
 (dY P t).bind fun m =>
 if y.cells.length ≠ m || !y.cells.all At.fit then none else
 match x with
 | .p n r off =>
  match s.mem n with
  | some b =>
   if off + m ≤ b.cs.length then
    some (.stb (.eqN r b.r :: cs) n { b with cs := cw b.cs off y.cells }, { reads := [n] })
   else none
  | none => none
 | .v _ | .px _ _ => if m = 0 then none else some (.st (.ptr [] x.den :: cs) x.den (y.cells.map At.den), {})
 | _ => none
def j4 (P : Program) (t : TypeId) (cs : List At) (off : Nat) : Option S1 :=
 (dY P t).bind fun m =>
 let l := (cs.drop off).take m
 if l.length = m then tl P t l else none
def de : At → Option Nat
 | .k (.int _ n) => if 0 ≤ n then some n.toNat else none
 | _ => none
def ir (P : Program) (gl : List (At × Bool)) (dst : Option Tmp) (t : TypeId) (x i : At) (cs : List Ck) : Option (NF × FP) :=
 match P.underlying t with
 | some (.array len elem) =>
  (dY P elem).bind fun size =>
  match de i with
  | some n => if n < len then (rO gl x (n * size)).map fun (a, c) => (.fl (c ++ cs) .sil (fun _ => (nb gl (.at a))), {}) else none
  | none =>
   match x with
   | .p n r off => if gl.isEmpty && len ≤ 16 then some (.fl cs (.isplit i.den len) (fun vs => (.s (.at (.p n r (off + (match g vs 0 with | .int _ n => n.toNat | _ => 0) * size))))), {}) else none
   | .v _ | .px _ _ | .k _ => if len ≤ 1 then none else some (bQ gl false dst (.pidx len size) [x, i] cs, {})
   | _ => none
 | some (.slice elem) =>
  (dY P elem).bind fun size =>
  match x, de i with
  | .sl n r off len _, some k => if k < len then some (.fl cs .sil (fun _ => (nb gl (.at (.p n r (off + k * size))))), {}) else none
  | _, _ => some (bQ gl false dst (.idx size) [x, i] cs, {})
 | _ => none
def qJ (P : Program) (gl : List (At × Bool)) (dst : Option Tmp) (t : TypeId) (x : At) (lo hi mx : Option At) (cs : List Ck) : Option (NF × FP) :=
 let rest := lo.toList ++ hi.toList ++ mx.toList
 match P.underlying t with
 | some .string => if mx.isSome then none else some (bQ gl false dst (.sslc lo.isSome hi.isSome) (x :: rest) cs, {})
 | some (.slice elem) =>
  (dY P elem).bind fun size =>
  match x, lo.map de, hi.map de, mx with
  | .sl n r off len cap, l, h, none =>
   match l.getD (some 0), h.getD (some len) with
   | some l, some h => if l ≤ h && h ≤ cap then some (.fl cs .sil (fun _ => (nb gl (.at (.sl n r (if cap = l then off else off + l * size) (h - l) (cap - l))))), {}) else none
   | _, _ => some (bQ gl false dst (.slc size lo.isSome hi.isSome mx.isSome) (x :: rest) cs, {})
  | _, _, _, _ => some (bQ gl false dst (.slc size lo.isSome hi.isSome mx.isSome) (x :: rest) cs, {})
 | some (.array len elem) =>
  (dY P elem).bind fun size =>
  match x, lo.map de, hi.map de, mx with
  | .p n r off, l, h, none =>
   match l.getD (some 0), h.getD (some len) with
   | some l, some h => if l ≤ h && h ≤ len then some (.fl cs .sil (fun _ => (nb gl (.at (.sl n r (if len = l then off else off + l * size) (h - l) (len - l))))), {}) else none
   | _, _ => none
  | .k (.pointer (some ⟨r, off, none⟩)), l, h, none =>
   match l.getD (some 0), h.getD (some len) with
   | some l, some h => if l ≤ h && h ≤ len then some (.fl cs .sil (fun _ => (nb gl (.at (.k (.slice (some ⟨r, if len = l then off else off + l * size, none⟩) (h - l) (len - l)))))), {}) else none
   | _, _ => none
  | _, _, _, _ => none
 | _ => none
def kl : List At → Option (List Cp)
 | [] => some []
 | .p n r off :: l => (kl l).map (.b n r off :: ·)
 | .v x :: l => (kl l).map (.v x :: ·)
 | .k x :: l => (kl l).map (.v x :: ·)
 | _ => none
def lA (x : At) : List Nat → Option (List At)
 | [] => some []
 | o :: r => match x, lA x r with
  | .p n r' off, some l => some (.p n r' (off + o) :: l)
  | _, _ => none
def oe (vs : List Value) : List At → Nat → List Ck
 | [], _ => []
 | a :: r, i => .eqV (g vs i) a.den :: oe vs r (i + 1)
def aU (gl : List (At × Bool)) (dst : Option Tmp) (v : S1) (cs : List Ck) : Option (NF × FP) := some (.fl cs .sil (fun _ => (nb gl v)), {})
def eK (s : SS) (gl : List (At × Bool)) (dst : Option Tmp) (name : Nat) (T : TypeId) (cells : List At) (val : Nat → At) (cs : List Ck) : Option (NF × FP) :=
 if gl.isEmpty && (s.mem name).isNone then some (.box cs name T cells val, { reads := [name] }) else none
def jb (s : SS) (gl : List (At × Bool)) (dst : Option Tmp) (sp : Bool) (x : Operand) : Option (NF × FP) :=
 if sp then
  if gl.isEmpty then
   (dp s gl x).bind fun (a, cs) =>
    match a with
    | .k v => aU gl dst (.at (.k v)) cs
    | a => some (.fl cs (.split a.den) (fun vs => (.s (.at (.k (g vs 0))))), {})
  else none
 else
  match x with
  | .tmp t => match s.tmps t with
   | .tup l => if gl.isEmpty then some (.fl [] .sil (fun _ => (.tup l)), {}) else none
   | _ => (gJ s gl x).bind fun (v, cs) => aU gl dst v cs
  | x => (gJ s gl x).bind fun (v, cs) => aU gl dst v cs
def nm (s : SS) (gl : List (At × Bool)) (dst : Option Tmp) (c a b : Operand) : Option (NF × FP) :=
 (dp s gl c).bind fun (c, cs) =>
  match c with
  | .k (.bool true) => (gJ s gl a).bind fun (v, cs') => aU gl dst v (cs ++ cs')
  | .k (.bool false) => (gJ s gl b).bind fun (v, cs') => aU gl dst v (cs ++ cs')
  | c =>
   match dp s ((c, true) :: gl) a, dp s ((c, false) :: gl) b with
   | some (a, ca), some (b, cb) => if a.fit && b.fit then some (bQ gl true dst .pick [c, a, b] (cs ++ ca ++ cb), {}) else none
   | _, _ => none
def jY (P : Program) (s : SS) (gl : List (At × Bool)) (dst : Option Tmp) (T : TypeId) (parts : List (Nat × Operand)) : Option (NF × FP) :=
 (j0 P T).bind fun zero =>
  match P.underlying T with
  | some (.struct fs) =>
   (fs.toList.mapM fun f => (P.info? f.type).map fun i => (f.offset, i.size)).bind fun places =>
    (bB s gl (fun i => places.toArray[i]?) parts zero).bind fun (cells, cs) => aU gl dst (.agg cells) cs
  | some (.array _ elem) =>
   (dY P elem).bind fun size => (bB s gl (fun i => some (i * size, size)) parts zero).bind fun (cells, cs) => aU gl dst (.agg cells) cs
  | _ => none
def cA (P : Program) (s : SS) (gl : List (At × Bool)) (dst : Option Tmp) (name : Nat) (T : TypeId) (len : Nat) (parts : List (Nat × Operand)) : Option (NF × FP) :=
 match P.underlying T with
 | some (.slice elem) =>
  (dY P elem).bind fun size => (j0 P elem).bind fun zero =>
   if zero.length = size && size ≠ 0 && len * size ≤ 65536 then
    (bB s gl (fun i => some (i * size, size)) parts (aS zero len)).bind fun (cells, cs) => eK s gl dst name elem cells (fun r => .sl name r 0 len len) cs
   else none
 | _ => none
def xk (gl : List (At × Bool)) (dst : Option Tmp) (x : At) (cs : List Ck) : Option (NF × FP) :=
 match x with
 | .p .. | .clo .. => aU gl dst (.at x) cs
 | .v y | .k y => aU gl dst (.at x) (.ptr (eo gl) y :: cs)
 | .px y _ => aU gl dst (.at x) (.ptr (eo gl) y :: cs)
 | _ => none
def jP : Operand → Bool
 | .const _ => true
 | _ => false
def u6 : BinOp → Bool
 | .quo | .rem | .shl | .shr => false
 | _ => true
def rn (P : Program) (s : SS) (gl : List (At × Bool)) (dst : Option Tmp) (op : BinOp) (t : TypeId) (x y : Operand) : Option (NF × FP) :=
 match yv P t with
 | some bk => (bF s gl [x, y]).bind fun (as, cs) => some (bQ gl (u6 op) dst (.bin op bk) as cs, {})
 | none =>
  match op with
  | .eql | .neq => (fM s gl [x, y]).bind fun (as, cs) => some (.fl cs (.raw (eo gl) (.eqv op t (jP x || jP y)) (as.map S1.den)) (fun vs => (nb gl (.at (.v (g vs 0))))), {})
  | _ => none
def yD (P : Program) (gl : List (At × Bool)) (dst : Option Tmp) (op : UnOp) (t : TypeId) (x : At) (cs : List Ck) : Option (NF × FP) :=
 match op, P.underlying t with
 | .not, some .bool => some (bQ gl true dst .not [x] cs, {})
 | .neg, some (.int _) => some (bQ gl true dst .neg [x] cs, {})
 | .xor, some (.int _) => some (bQ gl true dst .compl [x] cs, {})
 | _, _ => none
def nJ (P : Program) (s : SS) (gl : List (At × Bool)) (dst : Option Tmp) (a b : TypeId) (x : At) (cs : List Ck) : Option (NF × FP) :=
 match P.underlying a, P.underlying b with
 | some (.int _), some (.int k) => some (bQ gl true dst (.conv k) [x] cs, {})
 | _, _ => if gl.isEmpty then bg s dst .one (.prim (.convert a b) [x.den]) [x] cs else none
def jQ (P : Program) (s : SS) (gl : List (At × Bool)) (dst : Option Tmp) (t : TypeId) (x : Operand) : Option (NF × FP) :=
 match P.underlying t with
 | some (.interface _) | none => none
 | some _ => (gJ s gl x).bind fun (v, cs) => if (cE v.cells (cq v.cells [])).isEmpty then aU gl dst (.at (.v (.iface t v.den))) cs else
  if gl.isEmpty then bg s dst .one (.prim (.mkIface t v.isAgg) (v.cells.map At.den)) v.cells cs else none
def qZ (P : Program) (gl : List (At × Bool)) (dst : Option Tmp) (t : TypeId) (x : S1) (i : At) (cs : List Ck) : Option (NF × FP) :=
 match P.underlying t, x with
 | some (.array len elem), .agg cells =>
  (dY P elem).bind fun size =>
   match de i with
   | some n => if n < len then (j4 P elem cells (n * size)).bind fun v => aU gl dst v cs else none
   | none => if size = 1 && !bm P elem && cells.length = len && cells.all At.fit && (cE cells (cq cells [])).isEmpty then some (bQ gl false dst .aidx (i :: cells) cs, {})
    else if gl.isEmpty && size = 1 && !bm P elem && cells.length = len && cells.all At.known && len ≤ 16 then some (.fl cs (.isplit i.den len) (fun vs => .s (.at (cells.getD (match g vs 0 with | .int _ n => n.toNat | _ => 0) .any))), {}) else none
 | some .string, .at x => some (bQ gl false dst .sidx [x, i] cs, {})
 | _, _ => none
def cH (s : SS) (gl : List (At × Bool)) (dst : Option Tmp) (x : Operand) (i : Nat) : Option (NF × FP) :=
 match x with
 | .tmp t => match s.tmps t with
  | .tup l => (l[i]?).bind fun v => if v.known then aU gl dst v [] else none
  | _ => none
 | _ => none
def un (P : Program) (s : SS) (gl : List (At × Bool)) (dst : Option Tmp) (ty t : TypeId) (x : At) (cs : List Ck) : Option (NF × FP) :=
 match P.underlying t with
 | some (.slice _) =>
  match x with
  | .sl _ _ _ n _ => aU gl dst (.at (.k (goInt n))) cs
  | x => some (bQ gl true dst .len [x] cs, {})
 | some .string => some (bQ gl true dst .slen [x] cs, {})
 | some (.array n _) => aU gl dst (.at (.k (goInt n))) cs
 | some (.map _ _) => if gl.isEmpty then bg s dst .one (.prim (.bi .len #[t] ty) [x.den]) [x] cs else none
 | _ => none
def yq (P : Program) (gl : List (At × Bool)) (dst : Option Tmp) (t : TypeId) (x : At) (cs : List Ck) : Option (NF × FP) :=
 match P.underlying t with
 | some (.slice _) =>
  match x with
  | .sl _ _ _ _ n => aU gl dst (.at (.k (goInt n))) cs
  | x => some (bQ gl true dst .cap [x] cs, {})
 | _ => none
def xh {α : Type} : List α → Option α
 | [x] => some x
 | _ => none
def xQ {α : Type} : List α → Option (α × α)
 | [x, y] => some (x, y)
 | _ => none
def eX (P : Program) (s : SS) (gl : List (At × Bool)) (dst : Option Tmp) (ty : TypeId) (b : Builtin) (argTypes : Array TypeId) (args : List Operand) : Option (NF × FP) :=
 match b with
 | .len => (xh argTypes.toList).bind fun t => (xh args).bind fun x => (dp s gl x).bind fun (x, cs) => un P s gl dst ty t x cs
 | .cap => (xh argTypes.toList).bind fun t => (xh args).bind fun x => (dp s gl x).bind fun (x, cs) => yq P gl dst t x cs
 | .min => (xQ args).bind fun (x, y) => (bF s gl [x, y]).bind fun (as, cs) => some (bQ gl true dst .min2 as cs, {})
 | .max => (xQ args).bind fun (x, y) => (bF s gl [x, y]).bind fun (as, cs) => some (bQ gl true dst .max2 as cs, {})
 | .append | .copy =>
  if gl.isEmpty then (bF s gl args).bind fun (as, cs) => bg s dst .one (.prim (.bi b argTypes ty) (as.map At.den)) as cs else none
 | .delete | .clear =>
  if gl.isEmpty then (bF s gl args).bind fun (as, cs) => bg s dst (.tup []) (.prim (.bi b argTypes ty) (as.map At.den)) as cs else none
 | _ => none
def nL (P : Program) (okf : FuncId → Bool) (rules : FuncId → Option (List Nat)) (s : SS) (dst : Option Tmp) (ty : TypeId) (f : At) (as : List S1) (cs : List Ck) : Option (NF × FP) :=
 (xW P ty).bind fun shp =>
  match f with
  | .clo n caps =>
   if !okf n then (if caps.isEmpty then bg s dst shp (.prim (.intr n) (as.map S1.den)) (as.flatMap S1.cells) cs else none) else
   match caps.isEmpty, rules n, xh as with
   | true, some offs, some (.at x) =>
    (lA x offs).bind fun l => if shp.isAgg l.length then
     some (.hv cs (.call n [x.den]) [] [] shp (fun vs => oe vs l 0) (fun _ => .s (.agg l)), {}) else none
   | _, _, _ => bg s dst shp (.call n (as.map S1.den ++ caps.map Cp.den)) (f :: as.flatMap S1.cells) cs
  | .v x => bg s dst shp (.callv x (as.map S1.den)) (as.flatMap S1.cells) cs
  | .k x => bg s dst shp (.callv x (as.map S1.den)) (as.flatMap S1.cells) cs
  | _ => none
def nr (P : Program) (s : SS) (dst : Option Tmp) (ty : TypeId) (m : String) (x : At) (as : List S1) (cs : List Ck) : Option (NF × FP) :=
 (xW P ty).bind fun shp =>
  match x with
  | .v y => bg s dst shp (.callm m y (as.map S1.den)) (.v y :: as.flatMap S1.cells) cs
  | .k y => bg s dst shp (.callm m y (as.map S1.den)) (.k y :: as.flatMap S1.cells) cs
  | _ => none
def dR (s : SS) (gl : List (At × Bool)) (dst : Option Tmp) (shp : Shp) (op : PrimOp) (xs : List Operand) : Option (NF × FP) :=
 if gl.isEmpty then (bF s gl xs).bind fun (as, cs) => bg s dst shp (.prim op (as.map At.den)) as cs else none
def hE : Operand → Option Nat
 | .const (.int .i64 n) => if 0 ≤ n ∧ n ≤ 65536 then some n.toNat else none
 | _ => none
def ct (P : Program) (s : SS) (gl : List (At × Bool)) (dst : Option Tmp) (name : Nat) (t : TypeId) (l c : Operand) : Option (NF × FP) :=
 match hE l, hE c, P.underlying t with
 | some n, some m, some (.slice elem) =>
  (dY P elem).bind fun size => (j0 P elem).bind fun zero =>
   if zero.length = size && size ≠ 0 && n ≤ m && m * size ≤ 65536 && ((P.info? elem).map fun i => decide (i.bytes * m ≤ 2 ^ 48)).getD false then
    eK s gl dst name elem (aS zero m) (fun r => .sl name r 0 n m) []
   else none
 | _, _, _ => dR s gl dst .one (.makeSlice t) [l, c]
def uW (P : Program) (okf : FuncId → Bool) (rules : FuncId → Option (List Nat)) (sp : Bool) (name : Nat) (o : Oper) (gl : List (At × Bool)) (s : SS) : Option (NF × FP) :=
 match o.op with
 | .move x => jb s gl o.dst sp x
 | .assign x => jb s gl o.dst sp x
 | .pick c a b => nm s gl o.dst c a b
 | .alloc T => (j0 P T).bind fun cells => eK s gl o.dst name T cells (fun r => .p name r 0) []
 | .box T x => (gJ s gl x).bind fun (v, cs) => if v.cells.all At.fit then eK s gl o.dst name T v.cells (fun r => .p name r 0) cs else none
 | .build T parts => jY P s gl o.dst T parts.toList
 | .buildSlice T len parts => cA P s gl o.dst name T len parts.toList
 | .load t x => (dp s gl x).bind fun (x, cs) => j6 P s gl o.dst t x cs
 | .store t x y => if gl.isEmpty && o.dst.isNone then (dp s gl x).bind fun (x, cs) => (gJ s gl y).bind fun (y, cs') => fQ P s t x y (cs ++ cs') else none
 | .nilCheck x => (dp s gl x).bind fun (x, cs) => xk gl o.dst x cs
 | .binOp op t x y _ => rn P s gl o.dst op t x y
 | .unOp op t x => (dp s gl x).bind fun (x, cs) => yD P gl o.dst op t x cs
 | .convert a b x => (dp s gl x).bind fun (x, cs) => nJ P s gl o.dst a b x cs
 | .makeInterface t x => jQ P s gl o.dst t x
 | .makeFunc (.func f) first caps =>
  if first.isEmpty then (bF s gl caps.toList).bind fun (as, cs) => (kl as).bind fun l => aU gl o.dst (.at (.clo f l)) cs else none
 | .fieldAddr t x f =>
  (mo P t f).bind fun fd => (dY P fd.type).bind fun m =>
   if m = 0 then none else (dp s gl x).bind fun (x, cs) => (rO gl x fd.offset).bind fun (a, c) => aU gl o.dst (.at a) (c ++ cs)
 | .field t x f =>
  (mo P t f).bind fun fd => (gJ s gl x).bind fun (x, cs) => (j4 P fd.type x.cells fd.offset).bind fun v => if x.isAgg then aU gl o.dst v cs else none
 | .indexAddr t x i => (bF s gl [x, i]).bind fun (as, cs) => (xQ as).bind fun (x, i) => ir P gl o.dst t x i cs
 | .index t x i => (gJ s gl x).bind fun (x, cs) => (dp s gl i).bind fun (i, cs') => qZ P gl o.dst t x i (cs ++ cs')
 | .slice t x lo hi mx =>
  (dp s gl x).bind fun (x, c0) => (bF s gl lo.toList).bind fun (l, c1) => (bF s gl hi.toList).bind fun (h, c2) => (bF s gl mx.toList).bind fun (m, c3) =>
   qJ P gl o.dst t x l.head? h.head? m.head? (c0 ++ c1 ++ c2 ++ c3)
 | .extract x i => cH s gl o.dst x i
 | .call c =>
  match c.callee with
  | .builtin b => eX P s gl o.dst o.type b c.argTypes c.args.toList
  | .value f =>
   if gl.isEmpty then (dp s gl f).bind fun (f, cs) => (fM s gl c.args.toList).bind fun (as, cs') => nL P okf rules s o.dst o.type f as (cs ++ cs') else none
  | .invoke r m =>
   if gl.isEmpty then (dp s gl r).bind fun (x, cs) => (fM s gl c.args.toList).bind fun (as, cs') => nr P s o.dst o.type m x as (cs ++ cs') else none
 | .makeSlice t l c => ct P s gl o.dst name t l c
 | .makeMap t r => dR s gl o.dst .one (.makeMap t r.isSome) r.toList
 | .lookup t x i ok => dR s gl o.dst (if ok then .tup [none, none] else .one) (.lookup t ok) [x, i]
 | .mapUpdate t m k x => if o.dst.isNone then dR s gl o.dst .one (.mapUpdate t) [m, k, x] else none
 | .insert t m k x => if o.dst.isNone then dR s gl o.dst .one (.mapUpdate t) [m, k, x] else none
 | .range t x => dR s gl o.dst .one (.range t) [x]
 | .entry x => dR s gl o.dst (.tup [none, none]) .entry [x]
 | .next x str => dR s gl o.dst (if str then .tup [none, none, none] else .tup [none, none, none]) (.next str o.type) [x]
 | _ => none
def kK (s : SS) : Option Tmp → Bool
 | some d => decide (d < s.sz)
 | none => true
def nf (P : Program) (okf : FuncId → Bool) (rules : FuncId → Option (List Nat)) (tgt : Nat → Option Tmp) (sp : Bool) (name : Nat) (o : Oper) (s : SS) : Option (NF × FP) :=
 if !kK s o.dst then none else
 match am tgt s o with
 | .bad => none
 | .skip => some (.fl [] .sil (fun _ => (.s (.at (.k undef)))), {})
 | .go gl => uW P okf rules sp name o gl s
def qX (c : Value) (kk : Nat → Tree) : Nat → Nat → Tree
 | _, 0 => .stuck 901
 | i, n + 1 => .sw c i (kk i) (qX c kk (i + 1) n)
def tn : List Ck → Tree → Tree
 | [], t => t
 | p :: r, t => .chk p (tn r t)
def fw (dst : Option Tmp) (frz own : List (Nat × Bx)) (sv : List Value → SV) (s : SS) (vs : List Value) (css : List (List Value)) : SS :=
 (pa 0 own css (aI ((frz ++ own).map (·.1)) s)).set dst (sv vs)
def bvs (l : List (Nat × Bx)) : List BV := l.map (·.2.bv)
def wv (d : Bool) (dst : Option Tmp) (x : NF) (s : SS) (kk : SS → Tree) : Tree :=
 match x with
 | .fl cs k X => tn cs <|
  match k with
  | .sil => kk (s.set dst (X []))
  | .pure gd op args => .pure gd op args fun v => kk (s.set dst (X [v]))
  | .raw gd op args => .raw gd op args fun v => kk (s.set dst (X [v]))
  | .load gd p m => .load gd p m fun vs => kk (s.set dst (X vs))
  | .split c => .br c (kk (s.set dst (X [.bool true]))) (kk (s.set dst (X [.bool false])))
  | .isplit c n => qX c (fun i => kk (s.set dst (X [.int .i64 i]))) 0 n
 | .box cs n T cells val => tn cs (.newbox fun r => kk ((s.setBox n (some ⟨r, T, cells⟩)).set dst (.s (.at (val r)))))
 | .stb cs n b => tn cs (kk (s.setBox n (some b)))
 | .hv cs k frz own shp post sv => tn cs <|
  match k with
  | .call f args => .call d f args (bvs frz) (bvs own) shp fun vs css => tn (post vs) (kk (fw dst frz own sv s vs css))
  | .callv fv args => .callv d fv args (bvs frz) (bvs own) shp fun vs css => tn (post vs) (kk (fw dst frz own sv s vs css))
  | .callm m x args => .callm d m x args (bvs frz) (bvs own) shp fun vs css => tn (post vs) (kk (fw dst frz own sv s vs css))
  | .prim op args => .prim op args (bvs frz) (bvs own) shp fun vs css => tn (post vs) (kk (fw dst frz own sv s vs css))
 | .st cs p vs => tn cs (.store p vs (kk s))
def qj (a b : List Nat) : Bool := a.all (!b.contains ·)
def FK.isLoad : FK → Bool
 | .load .. => true
 | _ => false
def HK.isCall' : HK → Bool
 | .prim .. => false
 | _ => true
def hD : NF → NF → Bool
 | .hv .., .box cs .. => cs.isEmpty
 | .hv .., _ => false
 | .st .., .box .. => true
 | .st .., _ => false
 | .box .., .hv .. => false
 | .box .., .st .. => false
 | .box .., b => !b.ch
 | .fl _ k _, .hv _ hk .. => !k.isLoad || hk.isCall'
 | .fl _ k _, .st .. => !k.isLoad
 | _, _ => true
def iz (a : NF) (fa : FP) (b : NF) (fb : FP) : Bool :=
 qj a.writes fb.reads && qj a.writes b.writes && qj fa.reads b.writes && hD a b
def xn : Op → Bool
 | .alloc _ | .box _ _ | .buildSlice _ _ _ | .makeSlice _ _ _ | .makeMap _ _ | .lookup _ _ _ _ | .mapUpdate _ _ _ _ | .range _ _ | .convert _ _ _ => true
 | .call c => match c.callee with
  | .builtin .len | .builtin .cap | .builtin .min | .builtin .max => false
  | _ => true
 | _ => false
def bP : List (Nat × Oper) → List Nat
 | [] => []
 | (i, o) :: r =>
  let S := bP r
  match o.guard with
  | some (j, _) => if xn o.op || S.contains i then (if S.contains j then S else j :: S) else S
  | none => S
def aA (ops : Array Oper) (j : Nat) : Option Tmp := (ops[j]?).bind (·.dst)
def yN : Op → Nat
 | .alloc _ | .box _ _ | .buildSlice _ _ _ => 2
 | .makeSlice _ l c => if (hE l).isSome && (hE c).isSome then 2 else 1
 | .store _ _ _ | .makeMap _ _ | .lookup _ _ _ _ | .mapUpdate _ _ _ _ | .insert _ _ _ _ | .range _ _ | .next _ _ | .entry _ => 1
 | .call c => match c.callee with
  | .builtin .len | .builtin .cap | .builtin .min | .builtin .max => 0
  | _ => 1
 | _ => 0
def cD (o : Oper) : List Nat := o.after.toList.filterMap fun e => if Region.binds .any e then some e.on else none
def oC (done : Nat) (o : Oper) : Bool := (cD o).all fun p => done.testBit p
def fC (done c : Nat) : List (Nat × Oper) → Option (Nat × Oper)
 | [] => none
 | (i, o) :: r => if yN o.op == c && oC done o then some (i, o) else fC done c r
def mA (i : Nat) : List (Nat × Oper) → List (Nat × Oper)
 | [] => []
 | (j, o) :: r => if j = i then r else (j, o) :: mA i r
def bE : Nat → Nat → List (Nat × Oper) → List (Nat × Oper)
 | 0, _, l => l
 | fuel + 1, done, l =>
  match (fC done 0 l).orElse fun _ => (fC done 1 l).orElse fun _ => fC done 2 l with
  | none => l
  | some (i, o) => (i, o) :: bE fuel (done ||| 1 <<< i) (mA i l)
def cX (tab : List (Nat × Nat)) (p : Nat) : Nat :=
 match tab with
 | [] => 0
 | (q, m) :: r => if q = p then m else cX r p
def nt (tab : List (Nat × Nat)) : List Nat → Nat
 | [] => 0
 | p :: r => (1 <<< p) ||| cX tab p ||| nt tab r
def bO : List (Nat × Oper) → List (Nat × Nat) → List (Nat × Nat)
 | [], tab => tab
 | (i, o) :: r, tab => bO r ((i, nt tab (cD o)) :: tab)
def na (tab : List (Nat × Nat)) (a i : Nat) : Bool := (cX tab i).testBit a
structure Ent where
 i : Nat
 o : Oper
 x : NF
 fp : FP
def kG (ops : Array Oper) (tab : List (Nat × Nat)) (i : Nat) (o : Oper) (x : NF) (fp : FP) (log : List Ent) : Bool :=
 log.all fun e => na tab e.i i || (iz e.x e.fp x fp && Oper.apart ops e.o o)
def wz (nfi : Nat → Oper → Option (NF × FP)) (ops : Array Oper) (tab : List (Nat × Nat)) (a : Nat) (oa : Oper) (x : NF) (fp : FP) (log : List Ent) (r : List (Nat × Oper)) : Bool :=
 match x with
 | .hv .. =>
  let U := r.filter fun k => !na tab a k.1
  U.all fun k =>
   match nfi k.1 k.2 with
   | some (y, fpy) => iz x fp y fpy && Oper.apart ops oa k.2 && kG ops tab k.1 k.2 y fpy log &&
    U.all fun m => m.1 == k.1 || (Oper.apart ops m.2 k.2 && match nfi m.1 m.2 with | some (z, _) => qj z.writes fpy.reads | none => false)
   | none => false
 | _ => true
def NF.isLd : NF → Bool
 | .fl _ k _ => k.isLoad
 | _ => false
def dAt (tab : List (Nat × Nat)) (i : Nat) (log : List Ent) : Bool := log.any fun e => !na tab e.i i && e.x.isLd
def lD (P : Program) (okf : FuncId → Bool) (rules : FuncId → Option (List Nat)) (draw : Bool) (ops : Array Oper) (tab : List (Nat × Nat)) (sp : List Nat) (base : Nat) : List (Nat × Oper) → List Ent → SS → (SS → Tree) → Tree
 | [], _, s, kk => kk s
 | (i, o) :: r, log, s, kk =>
  match nf P okf rules (aA ops) (sp.contains i) (base + i) o s with
  | none => .stuck (1000 + i)
  | some (x, fp) =>
   if draw && !(kG ops tab i o x fp log && wz (fun k ok => nf P okf rules (aA ops) (sp.contains k) (base + k) ok s) ops tab i o x fp log r) then .stuck (2000 + i)
   else wv (draw && dAt tab i log) o.dst x s fun s' => lD P okf rules draw ops tab sp base r (if draw then ⟨i, o, x, fp⟩ :: log else log) s' kk
def ao {α : Type} (n : Nat) : List α → List (Nat × α)
 | [] => []
 | a :: r => (n, a) :: ao (n + 1) r
def topo (n : Nat) : Nat → List (Nat × Oper) → Bool
 | done, [] => done == 2 ^ n - 1
 | done, (i, o) :: r => !done.testBit i && oC done o && topo n (done ||| 1 <<< i) r
def eQ (P : Program) (okf : FuncId → Bool) (rules : FuncId → Option (List Nat)) (ops : Array Oper) (draw : Bool) (s : SS) (kk : SS → Tree) : Tree :=
 let l := ao 0 ops.toList
 if draw then
  let l' := bE ops.size 0 l
  if topo ops.size 0 l' then
   lD P okf rules true ops (bO l' []) (bP l) s.next l' [] s fun s' => kk { s' with next := s.next + ops.size }
  else .stuck 3000
 else lD P okf rules false ops [] (bP l) s.next l [] s fun s' => kk { s' with next := s.next + ops.size }
inductive xI where
 | unroll (n : Nat)
 | inv (carry keep : List Nat) (boxes : List (Nat × List Nat))
structure to where
 okf : FuncId → Bool
 rules : FuncId → Option (List Nat)
 loop : Nat → xI
 cut : Nat → Option (List Nat × List Nat × List (Nat × List Nat))
def bG : Code → Nat
 | .region id _ _ => id
 | .seq a _ => bG a
 | .block _ b => bG b
 | .loop b => bG b
 | .cond _ a b => match a with | .skip => bG b | _ => bG a
 | _ => 99999
def s9 (s : SS) (t : Nat) : At := match s.tmps t with | .s (.at a) => a | _ => .any
def xB (s : SS) (t : Nat) : Option Nat := match s9 s t with | .p n _ _ => some n | .sl n _ _ _ _ => some n | _ => none
def oG (l : List Nat) (t : Nat) : Option Nat :=
 match l with
 | [] => none
 | a :: r => if a = t then some 0 else (oG r t).map (· + 1)
def bA (s : SS) : List (Nat × List Nat) → Nat → List (Nat × Bx × List Nat × Nat)
 | [], _ => []
 | (t, cells) :: r, i =>
  match xB s t with
  | none => bA s r i
  | some n => match s.mem n with
   | none => bA s r i
   | some b =>
    let rest := bA s r (i + cells.length)
    (n, b, cells, i) :: rest.filter (fun x => x.1 != n)
def dO (cs : List At) (vs : List Value) : List Nat → Nat → List At
 | [], _ => cs
 | c :: r, i => dO (cs.set c (.v (g vs i))) vs r (i + 1)
def fJ (s : SS) (carry keep : List Nat) (hb : List (Nat × Bx × List Nat × Nat)) (vs : List Value) : SS :=
  { s with
    tmps := fun t => match oG carry t with | some i => .s (.at (.v (g vs i))) | none => if keep.contains t then s.tmps t else .s (.at .any)
    mem := fun n => match hb.find? (·.1 == n) with | some (_, b, cells, i) => some { b with cs := dO b.cs vs cells i } | none => none }
def bh (s : SS) (carry : List Nat) (hb : List (Nat × Bx × List Nat × Nat)) : List Value :=
 carry.map (fun t => (s9 s t).den) ++ hb.flatMap fun (n, _, cells, _) => match s.mem n with | some b => cells.map fun c => (b.cs.getD c .any).den | none => []
def eV (s : SS) (carry : List Nat) (hb : List (Nat × Bx × List Nat × Nat)) : Bool :=
 carry.all (fun t => (s9 s t).fit) && hb.all fun (n, _, cells, _) => match s.mem n with | some b => cells.all fun c => (b.cs.getD c .any).fit | none => false
def dq : SV → Option (List At)
 | .s x => some x.cells
 | .tup l => some (l.flatMap S1.cells)
 | .opt _ _ => none
def tC : SV → SV → Bool
 | .s (.at _), .s (.at _) => true
 | .s (.agg a), .s (.agg b) => a.length == b.length
 | .tup a, .tup b => a.length == b.length && (a.zip b).all fun p => match p.1, p.2 with | .at _, .at _ => true | .agg a, .agg b => a.length == b.length | _, _ => false
 | _, _ => false
def f7 (cs : List At) (cells : List Nat) : List At := (ao 0 cs).map fun (i, a) => if cells.contains i then .k undef else a
def sE : Nat → List (Nat × Bx × List Nat × Nat) → Bool
 | _, [] => true
 | p, (_, _, cells, i) :: r => i == p && sE (p + cells.length) r
def dJ (lab : Nat) (C : List Value → Heap → Own → Prop) (carry keep : List Nat) (hb : List (Nat × Bx × List Nat × Nat)) (h s : SS) : Tree :=
  if s.sz == h.sz && sE carry.length hb && eV s carry hb &&
    keep.all (fun t => (oG carry t).isSome || (tC (s.tmps t) (h.tmps t) && match dq (s.tmps t) with | some l => l.all At.known | none => false)) &&
    hb.all (fun (n, b, _, _) => match s.mem n with | some b' => b'.T == b.T && b'.cs.length == b.cs.length && b'.cs.all At.known | none => false)
  then .cont lab C (bh s carry hb)
    ((keep.filter fun t => (oG carry t).isNone).map (fun t => (((dq (s.tmps t)).getD []).map At.den, ((dq (h.tmps t)).getD []).map At.den)) ++
     hb.map fun (n, b, cells, _) => match s.mem n with
      | some b' => (.pointer (some ⟨b'.r, 0, none⟩) :: (f7 b'.cs cells).map At.den, .pointer (some ⟨b.r, 0, none⟩) :: (f7 b.cs cells).map At.den)
      | none => ([], []))
  else .stuck 902

def jG (f : SS → (SS → Tree) → Tree) : Nat → SS → Tree
 | 0, _ => .stuck 903
 | n + 1, s => f s fun s' => jG f n s'
def sx (P : Program) (opts : to) : Code → SS → (SS → Tree) → (Nat → Option (SS → Tree)) → (SS → Tree) → Tree
 | .skip, s, k, _, _ => k s
 | .label _, s, k, _, _ => k s
 | .region _ ops draw, s, k, _, _ => eQ P opts.okf opts.rules ops draw s k
 | .seq a b, s, k, X, R => sx P opts a s (fun s' => sx P opts b s' k X R) X R
 | .cond c a b, s, k, X, R =>
  let whole (s : SS) (k : SS → Tree) : Tree :=
   match dp s [] c with
   | some (.k (.bool true), _) => sx P opts a s k X R
   | some (.k (.bool false), _) => sx P opts b s k X R
   | some (v, _) => .br v.den (sx P opts a s k X R) (sx P opts b s k X R)
   | none => .stuck 904
  match opts.cut (bG (.cond c a b)) with
  | none => whole s k
  | some (carry, keep, boxes) =>
   let hb := bA s boxes carry.length
   .cut s.next (bG (.cond c a b)) (fun C => whole { s with next := s.next + 1 } fun s' => dJ s.next C carry keep hb s s') fun vs => k (fJ { s with next := s.next + 1 } carry keep hb vs)
 | .block id b, s, k, X, R => sx P opts b s k (fun j => if j = id then some k else X j) R
 | .exit id, s, _, X, _ => match X id with | some k => k s | none => .stuck 905
 | .ret, s, _, _, R => R s
 | .loop b, s, _, X, R =>
  match opts.loop (bG b) with
  | .unroll n => jG (fun s k => sx P opts b s k X R) n s
  | .inv carry keep boxes =>
   let hb := bA s boxes carry.length
   if sE carry.length hb && eV s carry hb then
    .loop s.next (bG b) (bh s carry hb) fun C vs =>
     sx P opts b (fJ { s with next := s.next + 1 } carry keep hb vs) (fun s' => dJ s.next C carry keep hb s s') X R
   else .stuck 906
 | _, _, _, _, _ => .stuck 907
def dF (P : Program) : List TypeId → Nat → List Value → List SV
 | [], _, _ => []
 | T :: r, i, vs =>
  if bm P T then (let m := (dY P T).getD 0; .s (.agg (atsFrom vs i m)) :: dF P r (i + m) vs)
  else .s (.at (.v (g vs i))) :: dF P r (i + 1) vs
def fE (P : Program) (fn : Func) (vs : List Value) : SS :=
 let svs := dF P (fn.params.toList ++ List.replicate fn.nfree 0) 0 vs
 { sz := fn.ntmps, tmps := fun t => (svs[t]?).getD (.s (.at (.k undef))), mem := fun _ => none, next := 0 }
def qO (P : Program) (s : SS) : ResultVar → Option S1
 | .tmp t => match s.tmps t with
  | .s x => if x.known then some x else none
  | _ => none
 | .cell a T => match s9 s a with
  | .p n r 0 => (s.mem n).bind fun b => if b.cs.all At.known && some b.cs.length == dY P T then tl P T b.cs else none
  | _ => none
def py (s : SS) : ResultVar → List Ck
 | .tmp _ => []
 | .cell a _ => match s9 s a with
  | .p n r _ => (match s.mem n with | some b => [.eqN r b.r] | none => [])
  | _ => []
def iT (P : Program) (s : SS) : List ResultVar → Option (List S1)
 | [] => some []
 | x :: r => match qO P s x, iT P s r with
  | some v, some vs => some (v :: vs)
  | _, _ => none
def il (P : Program) (fn : Func) (s : SS) : Tree :=
 match iT P s fn.results.toList with
 | none => .stuck 908
 | some l =>
  let atoms := l.flatMap S1.cells
  let own := cG s (bN s 50 (cE atoms (cq atoms [])) [])
  if own.all (fun b => b.2.cs.all At.known) && uh (own.map (·.1)) then
   tn (fn.results.toList.flatMap (py s)) (.ret (match l with | [v] => v.den | l => .tuple (l.map S1.den).toArray) (bvs own))
  else .stuck 909
def u9 (P : Program) (fn : Func) (opts : to) (vs : List Value) : Tree :=
 match fn.body with
 | some c => sx P opts c (fE P fn vs) (il P fn) (fun _ => none) (il P fn)
 | none => .stuck 910
def AllCk : List Ck → Prop
 | [] => True
 | c :: r => c.holds ∧ AllCk r
theorem AllCk.append {a b : List Ck} : AllCk (a ++ b) ↔ AllCk a ∧ AllCk b := by
 induction a with
 | nil => simp [AllCk]
 | cons c r ih => simp [AllCk, ih, and_assoc]
def CellsRel : List At → List Value → Prop
 | [], [] => True
 | a :: r, v :: vs => (a.known = true → v = a.den) ∧ CellsRel r vs
 | _, _ => False
theorem CellsRel.length : ∀ {cs : List At} {vs : List Value}, CellsRel cs vs → cs.length = vs.length
 | [], [], _ => rfl
 | _ :: _, _ :: _, h => by simp [CellsRel.length h.2]
theorem CellsRel.known : ∀ {cs : List At} {vs : List Value}, CellsRel cs vs → cs.all At.known = true → vs = cs.map At.den
 | [], [], _, _ => rfl
 | a :: r, v :: vs, h, hk => by
  simp only [List.all_cons, Bool.and_eq_true] at hk
  rw [List.map_cons, h.1 hk.1, CellsRel.known h.2 hk.2]
theorem CellsRel.drop : ∀ {cs : List At} {vs : List Value} (n : Nat), CellsRel cs vs → CellsRel (cs.drop n) (vs.drop n)
 | _, _, 0, h => by simpa using h
 | [], [], _ + 1, _ => by simp [CellsRel]
 | _ :: _, _ :: _, n + 1, h => by simpa using CellsRel.drop n h.2
theorem CellsRel.take : ∀ {cs : List At} {vs : List Value} (n : Nat), CellsRel cs vs → CellsRel (cs.take n) (vs.take n)
 | _, _, 0, _ => by simp [CellsRel]
 | [], [], _ + 1, _ => by simp [CellsRel]
 | _ :: _, _ :: _, n + 1, h => by simpa [CellsRel] using ⟨h.1, CellsRel.take n h.2⟩
theorem CellsRel.append : ∀ {cs ds : List At} {vs us : List Value}, CellsRel cs vs → CellsRel ds us → CellsRel (cs ++ ds) (vs ++ us)
 | [], _, [], _, _, h => by simpa using h
 | _ :: _, _, _ :: _, _, h, h' => by simpa [CellsRel] using ⟨h.1, CellsRel.append h.2 h'⟩
theorem CellsRel.map (cs : List At) : CellsRel cs (cs.map At.den) := by
 induction cs with
 | nil => simp [CellsRel]
 | cons a r ih => exact ⟨fun _ => rfl, ih⟩
theorem CellsRel.fill {cs : List At} {vs : List Value} (h : CellsRel cs vs) (off : Nat) (ys : List At) :
  CellsRel (cw cs off ys) (vs.take off ++ ys.map At.den ++ vs.drop (off + ys.length)) :=
 ((h.take off).append (CellsRel.map ys)).append (h.drop _)
theorem CellsRel.from (vs : List Value) : ∀ (m i : Nat), i + m = vs.length → CellsRel ((List.range' i m).map fun j => At.v (g vs j)) (vs.drop i)
 | 0, i, h => by
  have : vs.drop i = [] := List.drop_eq_nil_of_le (by omega)
  simp [this, CellsRel]
 | m + 1, i, h => by
  have hi : i < vs.length := by omega
  rw [List.drop_eq_getElem_cons hi, List.range'_succ, List.map_cons]
  refine ⟨fun _ => ?_, CellsRel.from vs m (i + 1) (by omega)⟩
  simp [At.den, g, hi]
theorem nO (vs : List Value) (i m : Nat) : atsFrom vs i m = (List.range' i m).map fun j => At.v (g vs j) := by
 unfold atsFrom
 rw [List.range'_eq_map_range, List.map_map]; rfl
theorem CellsRel.atsFrom {vs : List Value} {m : Nat} (h : vs.length = m) : CellsRel (atsFrom vs 0 m) vs := by
 rw [nO]; simpa using CellsRel.from vs m 0 (by omega)
def eY (b : Option Bx) (vs : List Value) : Nat × Obj :=
 match b with
 | some b => (b.r, .cells vs.toArray b.T (0, 0))
 | none => (0, .cells #[] 0 (0, 0))
def Boxes (m : Nat → Option Bx) (L : Own) : Prop :=
 ∃ (ns : List Nat) (f : Nat → List Value), ns.Nodup ∧ (∀ n, (m n).isSome = true ↔ n ∈ ns) ∧ (∀ n b, m n = some b → CellsRel b.cs (f n)) ∧
  L.Perm (ns.map fun n => eY (m n) (f n))
theorem Boxes.perm {m : Nat → Option Bx} {L L' : Own} (h : Boxes m L) (hp : L.Perm L') : Boxes m L' :=
 let ⟨ns, f, a, b, c, d⟩ := h; ⟨ns, f, a, b, c, hp.symm.trans d⟩
theorem Boxes.none : Boxes (fun _ => Option.none) [] := ⟨[], fun _ => [], by simp, by simp, by simp, by simp⟩
theorem Boxes.take {m : Nat → Option Bx} {L : Own} {n : Nat} {b : Bx} (h : Boxes m L) (hb : m n = some b) :
  ∃ vs L', CellsRel b.cs vs ∧ L.Perm ((b.r, .cells vs.toArray b.T (0, 0)) :: L') ∧ Boxes (fun k => if k = n then Option.none else m k) L' := by
 obtain ⟨ns, f, hn, hs, hc, hp⟩ := h
 have hin : n ∈ ns := (hs n).1 (by simp [hb])
 refine ⟨f n, (ns.erase n).map fun k => eY (m k) (f k), hc n b hb, ?_, ns.erase n, f, hn.erase n, fun k => ?_, fun k b' hk => ?_, ?_⟩
 ·refine hp.trans ?_
  have := (List.perm_cons_erase hin).map fun k => eY (m k) (f k)
  simpa [eY, hb] using this
 ·by_cases hk : k = n
  ·subst hk; simpa using fun hm => (List.Nodup.mem_erase_iff hn).1 hm |>.1 rfl
  ·simp only [hk, if_false, hs k, List.Nodup.mem_erase_iff hn]; simp [hk]
 ·by_cases e : k = n
  ·simp [e] at hk
  ·simp only [e, if_false] at hk; exact hc k b' hk
 ·refine List.Perm.of_eq (List.map_congr_left fun k hk => ?_)
  have : k ≠ n := ((List.Nodup.mem_erase_iff hn).1 hk).1
  simp [this]
theorem Boxes.put {m : Nat → Option Bx} {L : Own} {n : Nat} {b : Bx} {vs : List Value} (h : Boxes m L) (hb : m n = Option.none) (hv : CellsRel b.cs vs) :
  Boxes (fun k => if k = n then some b else m k) ((b.r, .cells vs.toArray b.T (0, 0)) :: L) := by
 obtain ⟨ns, f, hn, hs, hc, hp⟩ := h
 have hout : n ∉ ns := fun hin => by have := (hs n).2 hin; simp [hb] at this
 refine ⟨n :: ns, fun k => if k = n then vs else f k, List.nodup_cons.2 ⟨hout, hn⟩, fun k => ?_, fun k b' hk => ?_, ?_⟩
 ·by_cases e : k = n <;> simp [e, hs k]
 ·by_cases e : k = n
  ·subst e; simp at hk; subst hk; simpa using hv
  ·simp only [e, if_false] at hk ⊢; exact hc k b' hk
 ·simp only [List.map_cons, if_true, eY]
  refine List.Perm.cons _ (hp.trans (List.Perm.of_eq (List.map_congr_left fun k hk => ?_)))
  have : k ≠ n := fun e => hout (e ▸ hk)
  simp [this, eY]
theorem o1 (m : Nat → Option Bx) (n : Nat) (b : Option Bx) : (fun k => if k = n then b else if k = n then Option.none else m k) = fun k => if k = n then b else m k := by
 funext k; by_cases e : k = n <;> simp [e]
def S1.ok (x : S1) : Prop := ∀ a, a ∈ x.cells → a.ok
def SV.ok : SV → Prop
 | .s x => x.ok
 | .tup l => ∀ x, x ∈ l → x.ok
 | .opt _ x => x.ok
def SS.Ok (s : SS) : Prop := (∀ t, (s.tmps t).ok) ∧ ∀ n b, s.mem n = some b → ∀ a, a ∈ b.cs → a.ok
theorem SS.Ok.set {s : SS} (h : s.Ok) (d : Option Nat) {sv : SV} (hv : sv.ok) : (s.set d sv).Ok := by
 cases d with
 | none => exact h
 | some d =>
  refine ⟨fun t => ?_, h.2⟩
  simp only [SS.set]
  split
  ·exact hv
  ·exact h.1 t
theorem SS.Ok.setBox {s : SS} (h : s.Ok) (n : Nat) {b : Option Bx} (hv : ∀ b', b = some b' → ∀ a, a ∈ b'.cs → a.ok) : (s.setBox n b).Ok := by
 refine ⟨h.1, fun k b' hb => ?_⟩
 simp only [SS.setBox] at hb
 split at hb
 ·exact hv b' hb
 ·exact h.2 k b' hb
theorem At.fit_one {a : At} (h : a.fit = true) (ho : a.ok) : a.den.oneCell' = true := by
 cases a <;> simp_all [At.fit, At.ok, At.den, Value.oneCell']
theorem ue {gl : List (At × Bool)} {x : S1} (h : x.ok) : (nb gl x).ok := by
 unfold nb; split <;> exact h
structure Conc (F : Own) (s : SS) (H : Heap) (O : Own) (a : Act) (w : World) : Prop where
 ok : s.Ok
 df : a.defers = []
 sz : a.tmps.size = s.sz
 tm : ∀ t, (s.tmps t).rel (a.tmps.getD t undef)
 mm : ∃ L, Boxes s.mem L ∧ Models w H (L ++ (O ++ F))
theorem Conc.put {F : Own} {s : SS} {H : Heap} {O : Own} {a : Act} {w : World} (h : Conc F s H O a w) {dst : Option Nat} {sv : SV} {v : Value}
  (hd : ∀ d, dst = some d → d < s.sz) (hv : sv.rel v) (hok : sv.ok) : Conc F (s.set dst sv) H O (a.put dst v) w := by
 have hok' := h.ok.set dst hok
 cases dst with
 | none => exact h
 | some d =>
  have hlt : d < a.tmps.size := by rw [h.sz]; exact hd d rfl
  refine ⟨hok', h.df, by simp [Act.put, SS.set, h.sz], fun t => ?_, h.mm⟩
  simp only [SS.set, Act.put]
  by_cases e : t = d
  ·subst e; simpa [Array.getD, hlt] using hv
  ·have := h.tm t
   simp only [e, if_false]
   have hg : (a.tmps.setIfInBounds d v).getD t undef = a.tmps.getD t undef := by
    simp only [Array.getD_eq_getD_getElem?]
    rw [Array.getElem?_setIfInBounds_ne (by omega)]
   rw [hg]; exact this
theorem qC (c : At) (p : Bool) (gl : List (At × Bool)) : On (eo ((c, p) :: gl)) ↔ c.den = .bool p ∧ On (eo gl) := Iff.rfl
theorem rG {gl : List (At × Bool)} {x : S1} {v : Value} (h : On (eo gl) → v = x.den) (h' : ¬ On (eo gl) → v = undef) : (nb gl x).rel v := by
 unfold nb
 split
 ·rename_i e
  have : gl = [] := by simpa using e
  subst this
  have hv := h trivial
  unfold SV.rel
  split <;> simp_all
 ·exact ⟨h, h'⟩
theorem cj {x : S1} {v : Value} (hk : x.known = true) (h : (SV.s x).rel v) : v = x.den := by
 rcases x with a | l
 ·cases a <;> first | exact h | simp [S1.known, S1.cells, At.known] at hk
 ·exact h
theorem rc (v : Value) : (jW v).den = v := by
 cases v <;> simp [jW, S1.den, At.den, Function.comp_def]
theorem lk : ∀ (rear gl' : List (At × Bool)), rear.length = gl'.length → ((rear.zip gl').all fun p => p.1.2 == p.2.2) = true →
  AllCk ((rear.zip gl').map fun p => .eqV p.1.1.den p.2.1.den) → On (eo rear) → On (eo gl')
 | [], [], _, _, _, _ => trivial
 | [], _ :: _, h, _, _, _ => by simp at h
 | _ :: _, [], h, _, _, _ => by simp at h
 | p :: r, q :: r', hl, hp, hc, ho => by
  simp only [List.zip_cons_cons, List.all_cons, Bool.and_eq_true, List.map_cons, AllCk, Ck.holds, beq_iff_eq] at hp hc
  refine ⟨?_, lk r r' (by simpa using hl) (by simpa using hp.2) hc.2 ho.2⟩
  have := ho.1
  simp only [] at this ⊢
  rw [← hc.1, ← hp.1]; exact this
theorem uS : ∀ (gl : List (At × Bool)) (k : Nat), On (eo gl) → On (eo (gl.drop k))
 | [], k, _ => by simp [eo, On]
 | _ :: _, 0, h => h
 | _ :: r, k + 1, h => uS r k h.2
theorem tH {gl gl' : List (At × Bool)} {cs : List Ck} (h : j1 gl gl' = some cs) (hc : AllCk cs) (ho : On (eo gl)) : On (eo gl') := by
 unfold j1 at h
 simp only [] at h
 split at h
 ·rename_i hcond
  simp only [Option.some.injEq] at h
  subst h
  simp only [Bool.and_eq_true, decide_eq_true_eq] at hcond
  exact lk _ _ hcond.1 hcond.2 hc (uS _ _ ho)
 ·simp at h
theorem b9 {F : Own} {s : SS} {H : Heap} {O : Own} {a : Act} {w : World} (h : Conc F s H O a w) {gl : List (At × Bool)} {x : Operand} {v : S1} {cs : List Ck}
  (hx : gJ s gl x = some (v, cs)) (hc : AllCk cs) (ho : On (eo gl)) : a.eval x = v.den := by
 cases x with
 | tmp t =>
  have ht := h.tm t
  simp only [gJ] at hx
  simp only [Act.eval]
  split at hx
  ·rename_i y hy
   split at hx
   ·rename_i hk; simp only [Option.some.injEq, Prod.mk.injEq] at hx; rw [← hx.1]; rw [hy] at ht; exact cj hk ht
   ·simp at hx
  ·rename_i gl' y hy
   split at hx
   ·rename_i hk
    cases hs : j1 gl gl' with
    | none => simp [hs] at hx
    | some c =>
     simp only [hs, Option.map_some, Option.some.injEq, Prod.mk.injEq] at hx
     rw [hy] at ht
     rw [← hx.1]; exact ht.1 (tH hs (hx.2 ▸ hc) ho)
   ·simp at hx
  ·simp at hx
 | const v => simp only [gJ, Option.some.injEq, Prod.mk.injEq] at hx; rw [← hx.1, rc]; rfl
 | global n => simp only [gJ, Option.some.injEq, Prod.mk.injEq] at hx; rw [← hx.1]; rfl
 | func f => simp only [gJ, Option.some.injEq, Prod.mk.injEq] at hx; rw [← hx.1]; rfl
theorem s4 (v : Value) : (jW v).ok := by
 intro a ha
 cases v <;> simp [jW, S1.cells] at ha
 case agg cs => obtain ⟨x, _, rfl⟩ := ha; trivial
 all_goals (subst ha; trivial)
theorem cn {s : SS} (h : s.Ok) {gl : List (At × Bool)} {x : Operand} {v : S1} {cs : List Ck} (hx : gJ s gl x = some (v, cs)) : v.ok := by
 cases x with
 | tmp t =>
  have ht := h.1 t
  simp only [gJ] at hx
  split at hx
  ·rename_i y hy
   split at hx
   ·simp only [Option.some.injEq, Prod.mk.injEq] at hx; rw [← hx.1]; rw [hy] at ht; exact ht
   ·simp at hx
  ·split at hx
   ·rename_i gl' y hy hk
    cases hs : j1 gl gl' with
    | none => simp [hs] at hx
    | some c => simp only [hs, Option.map_some, Option.some.injEq, Prod.mk.injEq] at hx; rw [← hx.1]; rw [hy] at ht; exact ht
   ·simp at hx
  ·simp at hx
 | const v => simp only [gJ, Option.some.injEq, Prod.mk.injEq] at hx; rw [← hx.1]; exact s4 v
 | global n =>
  simp only [gJ, Option.some.injEq, Prod.mk.injEq] at hx; rw [← hx.1]; intro a ha; simp [S1.cells] at ha; subst ha; trivial
 | func f =>
  simp only [gJ, Option.some.injEq, Prod.mk.injEq] at hx; rw [← hx.1]; intro a ha; simp [S1.cells] at ha; subst ha; trivial
theorem oi {s : SS} {gl : List (At × Bool)} {x : Operand} {a : At} {cs : List Ck} (hx : dp s gl x = some (a, cs)) : gJ s gl x = some (.at a, cs) := by
 unfold dp at hx
 split at hx
 ·rename_i b c he; simp only [Option.some.injEq, Prod.mk.injEq] at hx; rw [he, hx.1, hx.2]
 ·simp at hx
theorem ap {F : Own} {s : SS} {H : Heap} {O : Own} {a : Act} {w : World} (h : Conc F s H O a w) {gl : List (At × Bool)} {x : Operand} {v : At} {cs : List Ck}
  (hx : dp s gl x = some (v, cs)) (hc : AllCk cs) (ho : On (eo gl)) : a.eval x = v.den := b9 h (oi hx) hc ho
theorem lN {s : SS} (h : s.Ok) {gl : List (At × Bool)} {x : Operand} {v : At} {cs : List Ck} (hx : dp s gl x = some (v, cs)) : v.ok :=
 cn h (oi hx) v (by simp [S1.cells])
theorem kQ {s : SS} (h : s.Ok) {gl : List (At × Bool)} : ∀ {xs : List Operand} {vs : List At} {cs : List Ck}, bF s gl xs = some (vs, cs) → ∀ a, a ∈ vs → a.ok
 | [], _, _, hx => by simp only [bF, Option.some.injEq, Prod.mk.injEq] at hx; rw [← hx.1]; simp
 | x :: r, vs, cs, hx => by
  simp only [bF] at hx
  split at hx
  ·rename_i a' c as cs' h1 h2
   simp only [Option.some.injEq, Prod.mk.injEq] at hx
   rw [← hx.1]
   intro a ha
   rcases List.mem_cons.1 ha with rfl | ha
   ·exact lN h h1
   ·exact kQ h h2 a ha
  ·simp at hx
theorem bz {F : Own} {s : SS} {H : Heap} {O : Own} {a : Act} {w : World} (h : Conc F s H O a w) {gl : List (At × Bool)} : ∀ {xs : List Operand} {vs : List At} {cs : List Ck},
  bF s gl xs = some (vs, cs) → AllCk cs → On (eo gl) → xs.map a.eval = vs.map At.den
 | [], _, _, hx, _, _ => by simp only [bF, Option.some.injEq, Prod.mk.injEq] at hx; rw [← hx.1]; rfl
 | x :: r, vs, cs, hx, hc, ho => by
  simp only [bF] at hx
  split at hx
  ·rename_i a' c as cs' h1 h2
   simp only [Option.some.injEq, Prod.mk.injEq] at hx
   rw [← hx.2, AllCk.append] at hc
   rw [← hx.1, List.map_cons, List.map_cons, ap h h1 hc.1 ho, bz h h2 hc.2 ho]
  ·simp at hx
theorem fY {F : Own} {s : SS} {H : Heap} {O : Own} {a : Act} {w : World} (h : Conc F s H O a w) {gl : List (At × Bool)} : ∀ {xs : List Operand} {vs : List S1} {cs : List Ck},
  fM s gl xs = some (vs, cs) → AllCk cs → On (eo gl) → xs.map a.eval = vs.map S1.den
 | [], _, _, hx, _, _ => by simp only [fM, Option.some.injEq, Prod.mk.injEq] at hx; rw [← hx.1]; rfl
 | x :: r, vs, cs, hx, hc, ho => by
  simp only [fM] at hx
  split at hx
  ·rename_i a' c as cs' h1 h2
   simp only [Option.some.injEq, Prod.mk.injEq] at hx
   rw [← hx.2, AllCk.append] at hc
   rw [← hx.1, List.map_cons, List.map_cons, b9 h h1 hc.1 ho, fY h h2 hc.2 ho]
  ·simp at hx
theorem dc {F : Own} {s : SS} {H : Heap} {O : Own} {a : Act} {w : World} (h : Conc F s H O a w) {ops : Array Oper} {o : Oper} {gl : List (At × Bool)}
  (hg : am (aA ops) s o = .go gl) : Region.wanted o (yielded ops a.tmps) = true ↔ On (eo gl) := by
 unfold am at hg
 split at hg
 ·rename_i e; simp only [GR.go.injEq] at hg; subst hg; simp [Region.wanted, e, eo, On]
 ·rename_i j want e
  have hy : ∀ t, aA ops j = some t → (Region.wanted o (yielded ops a.tmps) = true ↔ a.tmps.getD t undef = .bool want) := by
   intro t ht
   unfold aA at ht
   simp only [Region.wanted, e, yielded, ht, Option.bind_some, Array.getD_eq_getD_getElem?]
   cases hv : a.tmps[t]? with
   | none => simp [undef]
   | some v => cases v <;> simp
  split at hg
  ·simp at hg
  ·rename_i t ht
   have htm := h.tm t
   rw [hy t ht]
   split at hg
   ·rename_i b hb
    rw [hb] at htm
    simp only [SV.rel, S1.den, At.den] at htm
    split at hg
    ·rename_i hbw; simp only [GR.go.injEq] at hg; subst hg; simp at hbw; simp [htm, hbw, eo, On]
    ·simp at hg
   ·simp at hg
   ·rename_i c _ _ hb
    rw [hb] at htm
    split at hg
    ·rename_i hk
     simp only [GR.go.injEq] at hg; subst hg
     have := cj (x := .at c) (by simpa [S1.known, S1.cells] using hk) htm
     rw [this]; simp [eo, On, S1.den]
    ·simp at hg
   ·rename_i gl' c hb
    rw [hb] at htm
    split at hg
    ·simp only [GR.go.injEq] at hg; subst hg
     rw [qC]
     by_cases ho : On (eo gl')
     ·rw [htm.1 ho]; simp [S1.den, ho]
     ·rw [htm.2 ho]; simp [undef, ho]
    ·simp at hg
   ·simp at hg
theorem nC {F : Own} {s : SS} {H : Heap} {O : Own} {a : Act} {w : World} (h : Conc F s H O a w) {ops : Array Oper} {o : Oper}
  (hg : am (aA ops) s o = .skip) : Region.wanted o (yielded ops a.tmps) = false := by
 unfold am at hg
 split at hg
 ·simp at hg
 ·rename_i j want e
  have hy : ∀ t, aA ops j = some t → a.tmps.getD t undef ≠ .bool want → Region.wanted o (yielded ops a.tmps) = false := by
   intro t ht
   unfold aA at ht
   simp only [Region.wanted, e, yielded, ht, Option.bind_some, Array.getD_eq_getD_getElem?]
   cases hv : a.tmps[t]? with
   | none => simp
   | some v => cases v <;> simp
  split at hg
  ·simp at hg
  ·rename_i t ht
   have htm := h.tm t
   refine hy t ht ?_
   split at hg
   ·rename_i b hb
    rw [hb] at htm
    simp only [SV.rel, S1.den, At.den] at htm
    split at hg
    ·simp at hg
    ·rename_i hbw; simp at hbw; simpa [htm] using hbw
   ·rename_i vs hb
    rw [hb] at htm
    simp only [SV.rel, S1.den, At.den] at htm
    simp [htm]
   ·split at hg <;> simp at hg
   ·split at hg <;> simp at hg
   ·simp at hg
def FK.pre (P : Program) (k : FK) (H : Heap) (O : Own) (vs : List Value) : Prop :=
 match k with
 | .sil => vs = []
 | .pure gd op args => ∃ v, vs = [v] ∧ (On gd → ae op args = some v) ∧ (gd = [] ∨ v.oneCell' = true)
 | .raw gd op args => ∃ v, vs = [v] ∧ (On gd → ∀ w, (op.sem args).run P w = .ok (.value v) w) ∧ v.oneCell' = true
 | .load gd p m => vs.length = m ∧ Ones vs ∧ (On gd → Reads H O p m vs)
 | .split c => ∃ b, c = .bool b ∧ vs = [.bool b]
 | .isplit c n => ∃ kd i, c = .int kd i ∧ 0 ≤ i ∧ i < n ∧ vs = [.int .i64 i]
def HK.T (P : Program) : HK → Heap → Own → (Value → Heap → Own → Prop) → Prop
 | .call f args => fun H O R => Triple P f args H O R
 | .callv fv args => fun H O R => ∃ f caps, fv = .func (.func f) #[] caps ∧ fN P f ∧ Triple P f (args ++ caps.toList) H O R
 | .callm m x args => fun H O R => ∃ f r, uT P m x f r ∧ fN P f ∧ Triple P f (r :: args) H O R
 | .prim op args => fun H O R => bJ P (op.sem args) H O R
def NF.run (P : Program) (d : Bool) (dst : Option Tmp) (x : NF) (s : SS) (K : SS → Heap → Own → Prop) (H : Heap) (O : Own) : Prop :=
 match x with
 | .fl cs k X => AllCk cs ∧ ∃ vs, k.pre P H O vs ∧ K (s.set dst (X vs)) H O
 | .box cs n T cells val => AllCk cs ∧ ∀ r, K ((s.setBox n (some ⟨r, T, cells⟩)).set dst (.s (.at (val r)))) H O
 | .stb cs n b => AllCk cs ∧ K (s.setBox n (some b)) H O
 | .hv cs k frz own shp post sv => AllCk cs ∧ dZ (k.T P) (d && k.isCall') (bvs frz) (bvs own) shp (fun vs css H O => AllCk (post vs) ∧ K (fw dst frz own sv s vs css) H O) H O
 | .st cs p vs => AllCk cs ∧ ∃ O', lh O p vs O' ∧ K s H O'
theorem ce {P : Program} {Q : Value → Heap → Own → Prop} {H : Heap} {O : Own} {t : Tree} : ∀ {cs : List Ck},
  (tn cs t).den P Q H O → AllCk cs ∧ t.den P Q H O
 | [], h => ⟨trivial, h⟩
 | _ :: _, h => ⟨⟨h.1, (ce h.2).1⟩, (ce h.2).2⟩
theorem uu {P : Program} {Q : Value → Heap → Own → Prop} {H : Heap} {O : Own} {c : Value} {kk : Nat → Tree} : ∀ {n i : Nat},
  (qX c kk i n).den P Q H O → ∃ (kd : IntKind) (j : Nat), c = .int kd j ∧ i ≤ j ∧ j < i + n ∧ (kk j).den P Q H O
 | 0, i, h => h.elim
 | n + 1, i, h => by
  obtain ⟨kd, m, hc, h1, h2⟩ := h
  by_cases e : m = i
  ·exact ⟨kd, i, by rw [hc, e], Nat.le_refl _, by omega, h1 e⟩
  ·obtain ⟨kd', j, hc', hl, hu, hk⟩ := uu (h2 e)
   exact ⟨kd', j, hc', by omega, by omega, hk⟩
theorem fc {T T' : Heap → Own → (Value → Heap → Own → Prop) → Prop} {d : Bool} {frz own : List BV} {shp : Shp} {K K' : List Value → List (List Value) → Heap → Own → Prop} {H : Heap} {O : Own}
  (hT : ∀ H O R, T H O R → T' H O R) (hK : ∀ vs cs H O, K vs cs H O → K' vs cs H O) (h : dZ T d frz own shp K H O) : dZ T' d frz own shp K' H O := by
 intro hcons
 obtain ⟨H1, O1, O2, Q, hg, ht, hk⟩ := h hcons
 exact ⟨H1, O1, O2, Q, hg, hT _ _ _ ht, fun v H' O' hq hle => let ⟨vs, cs, O3, a, b, c, e, k⟩ := hk v H' O' hq hle; ⟨vs, cs, O3, a, b, c, e, hK _ _ _ _ k⟩⟩
theorem sO {P : Program} {Q : Value → Heap → Own → Prop} {d : Bool} {dst : Option Tmp} {x : NF} {s : SS} {kk : SS → Tree} {H : Heap} {O : Own}
  (h : (wv d dst x s kk).den P Q H O) : x.run P d dst s (fun s' H' O' => (kk s').den P Q H' O') H O := by
 cases x with
 | fl cs k upd =>
  obtain ⟨hc, h⟩ := ce h
  refine ⟨hc, ?_⟩
  cases k with
  | sil => exact ⟨[], rfl, h⟩
  | pure gd op args => obtain ⟨v, h1, h2, h3⟩ := h; exact ⟨[v], ⟨v, rfl, h1, h2⟩, h3⟩
  | raw gd op args => obtain ⟨v, h1, h2, h3⟩ := h; exact ⟨[v], ⟨v, rfl, h1, h2⟩, h3⟩
  | load gd p m => obtain ⟨vs, h1, h2, h3, h4⟩ := h; exact ⟨vs, ⟨h1, h2, h3⟩, h4⟩
  | split c =>
   obtain ⟨b, hb, h1, h2⟩ := h
   refine ⟨[.bool b], ⟨b, hb, rfl⟩, ?_⟩
   cases b
   ·exact h2 rfl
   ·exact h1 rfl
  | isplit c n =>
   obtain ⟨kd, j, hc', _, hu, hk⟩ := uu h
   exact ⟨[.int .i64 j], ⟨kd, j, hc', by omega, by omega, rfl⟩, hk⟩
 | box cs n T cells val => exact ce h
 | stb cs n b => exact ce h
 | hv cs k frz own shp post upd =>
  obtain ⟨hc, h⟩ := ce h
  refine ⟨hc, ?_⟩
  cases k with
  | call f args =>
   show dZ _ (d && true) _ _ _ _ _ _
   rw [Bool.and_true]
   exact fc (fun _ _ _ x => x) (fun _ _ _ _ x => ce x) h
  | callv fv args =>
   obtain ⟨f, caps, hf, hok, h⟩ := h
   show dZ _ (d && true) _ _ _ _ _ _
   rw [Bool.and_true]
   exact fc (fun _ _ _ x => ⟨f, caps, hf, hok, x⟩) (fun _ _ _ _ x => ce x) h
  | callm m x args =>
   obtain ⟨f, r, hf, hok, h⟩ := h
   show dZ _ (d && true) _ _ _ _ _ _
   rw [Bool.and_true]
   exact fc (fun _ _ _ x => ⟨f, r, hf, hok, x⟩) (fun _ _ _ _ x => ce x) h
  | prim op args =>
   show dZ _ (d && false) _ _ _ _ _ _
   rw [Bool.and_false]
   exact fc (fun _ _ _ x => x) (fun _ _ _ _ x => ce x) h
 | st cs p vs => exact ce h
def wp1 (P : Program) (ops : Array Oper) (Q : Exit → Act → World → Prop) (o : Oper) (K : Act → World → Prop) (a : Act) (w : World) : Prop :=
 if Region.wanted o (yielded ops a.tmps) then o.wp P a w K Q ∨ (o.asks P a w ∧ LetsOut Q) else K (a.put o.dst undef) w
def Sound (P : Program) (ops : Array Oper) (o : Oper) (s : SS) (x : NF) : Prop :=
 ∀ (F : Own) (H : Heap) (O : Own) (a : Act) (w : World) (d : Bool) (K : SS → Heap → Own → Prop) (Q : Exit → Act → World → Prop),
  Conc F s H O a w → x.run P d o.dst s K H O →
  wp1 P ops Q o (fun a' w' => ∃ s' H' O', Conc F s' H' O' a' w' ∧ Heap.le H H' ∧ K s' H' O') a w
theorem b6 {a : At} (h : a.ok) : (S1.at a).ok := by intro b hb; simp [S1.cells] at hb; subst hb; exact h
theorem kR (v : Value) : (S1.at (.k v)).ok := b6 trivial
theorem sy {P : Program} {ops : Array Oper} {o : Oper} {s : SS} (hg : am (aA ops) s o = .skip) (hd : ∀ d, o.dst = some d → d < s.sz) :
  Sound P ops o s (.fl [] .sil (fun _ => .s (.at (.k undef)))) := by
 intro F H O a w d K Q hc hr
 obtain ⟨_, vs, _, hk⟩ := hr
 unfold wp1
 rw [if_neg (by simp [nC hc hg])]
 exact ⟨_, H, O, hc.put (sv := .s (.at (.k undef))) hd (show undef = At.den (.k undef) from rfl) (kR undef), Heap.le_refl H, hk⟩
theorem aG {P : Program} {ops : Array Oper} {o : Oper} {s : SS} {gl : List (At × Bool)} {cs : List Ck} {k : FK} {X : List Value → S1}
  (hg : am (aA ops) s o = .go gl) (hd : ∀ d, o.dst = some d → d < s.sz)
  (hok : ∀ H O vs, s.Ok → AllCk cs → k.pre P H O vs → (X vs).ok)
  (hrun : ∀ F H O a w vs, Conc F s H O a w → AllCk cs → k.pre P H O vs → On (eo gl) → (execOp a.eval o).run P w = .ok (.value (X vs).den) w) :
  Sound P ops o s (.fl cs k (fun vs => nb gl (X vs))) := by
 intro F H O a w d K Q hc hr
 obtain ⟨hcs, vs, hp, hk⟩ := hr
 unfold wp1
 by_cases ho : On (eo gl)
 ·rw [if_pos ((dc hc hg).2 ho)]
  refine .inl ?_
  unfold Oper.wp
  rw [hrun F H O a w vs hc hcs hp ho, Oper.upon_value]
  exact ⟨_, H, O, hc.put hd (rG (fun _ => rfl) (fun h => absurd ho h)) (ue (hok H O vs hc.ok hcs hp)), Heap.le_refl H, hk⟩
 ·rw [if_neg (fun h => ho ((dc hc hg).1 h))]
  exact ⟨_, H, O, hc.put hd (rG (fun h => absurd h ho) (fun _ => rfl)) (ue (hok H O vs hc.ok hcs hp)), Heap.le_refl H, hk⟩
theorem qi {op : POp} {args : List Value} {v : Value} (h : ae op args = some v) (ha : op = .pick ∨ op = .aidx → Ones args.tail) : v.oneCell' = true := by
 have hg : ∀ (l : List Value) (i : Nat) (x : Value), Ones l → l[i]? = some x → x.oneCell' = true := by
  intro l
  induction l with
  | nil => intro i x _ hx; simp at hx
  | cons y r ih =>
   intro i x ho hx
   cases i with
   | zero => simp at hx; subst hx; exact ho.1
   | succ i => exact ih i x ho.2 (by simpa using hx)
 have hint : ∀ op k a b v, bH op k a b = some v → v.oneCell' = true := by
  intro op k a b v h
  cases op <;> simp only [bH] at h <;> first
   | (simp at h; done)
   | (simp only [Option.some.injEq] at h; subst h; rfl)
   | (split at h <;> first | (simp at h; done) | (simp only [Option.some.injEq] at h; subst h; rfl))
 have hnil : ∀ op bk x y v, oL op bk x y = some v → v.oneCell' = true := by
  intro op bk x y v h
  cases op <;> simp only [oL] at h <;> first
   | (simp at h; done)
   | (simp only [Option.map_eq_some_iff] at h; obtain ⟨b, _, rfl⟩ := h; rfl)
 cases op with
 | bin op bk =>
  match args, h with
  | [x, y], h =>
   simp only [ae] at h
   unfold bW at h
   split at h
   ·split at h
    ·unfold gh at h; split at h
     ·simp at h
     ·simp only [Option.some.injEq] at h; subst h; rfl
    ·unfold gh at h; split at h
     ·simp at h
     ·simp only [Option.some.injEq] at h; subst h; rfl
    ·split at h
     ·exact hint _ _ _ _ _ h
     ·simp at h
   ·unfold mr at h
    split at h
    ·split at h
     ·simp at h
     ·simp only [Option.some.injEq] at h; subst h; rfl
    ·simp only [Option.some.injEq] at h; subst h; rfl
    ·simp only [Option.some.injEq] at h; subst h; rfl
    ·simp at h
   ·exact hnil _ _ _ _ _ h
  | [], h => simp [ae] at h
  | [_], h => simp [ae] at h
  | _ :: _ :: _ :: _, h => simp [ae] at h
 | pick =>
  have ho := ha (.inl rfl)
  rcases args with _ | ⟨c, _ | ⟨x, _ | ⟨y, _ | ⟨u, r⟩⟩⟩⟩
  ·simp [ae] at h
  ·simp [ae] at h
  ·simp [ae] at h
  ·cases c <;> simp only [ae, reduceCtorEq, Option.some.injEq] at h
   rename_i b
   cases b
   ·simp only [Bool.false_eq_true, if_false] at h; subst h; exact ho.2.1
   ·simp only [if_true] at h; subst h; exact ho.1
  ·simp [ae] at h
 | aidx =>
  have ho := ha (.inr rfl)
  match args, h, ho with
  | [], h, _ => simp [ae] at h
  | i :: cs, h, ho =>
   simp only [ae, gU] at h
   split at h
   ·split at h
    ·exact hg _ _ _ ho h
    ·simp at h
   ·simp at h
 | _ =>
  unfold ae at h
  split at h <;> simp_all
  all_goals try (subst h; rfl)
  all_goals first
   | exact hint _ _ _ _ _ h
   | (unfold fD at h; split at h <;> first | (simp at h; done) | (split at h <;> simp at h; subst h; rfl))
   | (unfold gR at h; split at h <;> first | (simp at h; done) | (split at h <;> simp at h; subst h; rfl))
   | (unfold kY at h; split at h <;> first | (simp at h; done) | (simp only [Option.map_eq_some_iff] at h; obtain ⟨_, _, rfl⟩ := h; rfl))
   | (split at h <;> first | (simp at h; done) | (unfold iy at h; split at h <;> first | (simp at h; done) | (simp only [Option.map_eq_some_iff] at h; obtain ⟨_, _, rfl⟩ := h; rfl)))
   | (split at h <;> first | (simp at h; done) | (unfold kX at h; split at h <;> first | (simp at h; done) | (simp only [Option.map_eq_some_iff] at h; obtain ⟨_, _, rfl⟩ := h; rfl)))
theorem ah {P : Program} {t : TypeId} {d : TypeDesc} (h : P.underlying t = some d) (w : World) : (underlying t).run P w = .ok d w := by
 simp [underlying, h]
theorem pg {P : Program} {t : TypeId} {m : Nat} (h : dY P t = some m) : ∃ i d, P.info? t = some i ∧ i.size = m ∧ P.underlying t = some d := by
 unfold dY at h
 split at h
 ·rename_i i d h1 h2; exact ⟨i, d, h1, by simpa using h, h2⟩
 ·simp at h
theorem ay {P : Program} {t : TypeId} {m : Nat} (h : dY P t = some m) (w : World) : (sizeOf t).run P w = .ok m w := by
 obtain ⟨i, d, hi, hs, _⟩ := pg h
 simp [sizeOf, typeInfo, hi, hs]
theorem gG {P : Program} {t : TypeId} {m : Nat} (h : dY P t = some m) (w : World) : (isAgg t).run P w = .ok (bm P t) w := by
 obtain ⟨i, d, _, _, hu⟩ := pg h
 unfold isAgg bm
 rw [Sem.run_bind, ah hu w, hu]
 cases d <;> rfl
theorem ec {P : Program} {t : TypeId} {m : Nat} (hs : dY P t = some m) {w : World} {a : Addr} {vs : List Value} (hl : vs.length = m)
  (hc : ∀ j v, vs[j]? = some v → w.cell? (a.add j) = some v) (h1 : bm P t = true ∨ m = 1) :
  (loadVar t a).run P w = .ok (if bm P t then .agg vs.toArray else g vs 0) w := by
 unfold loadVar
 rw [Sem.run_bind, gG hs w]
 simp only [Result.andThen_ok]
 cases hA : bm P t with
 | true =>
  have hl' := run_loadCells_list (P := P) w a vs hc
  rw [hl] at hl'
  simp [Sem.run_bind, ay hs w, hl']
 | false =>
  have hm : m = 1 := h1.resolve_left (by simp [hA])
  match vs, hl with
  | [v], _ =>
   have := hc 0 v rfl
   have h0 : a.add 0 = a := by simp [Addr.add]
   rw [h0] at this
   simp [run_load, this, g]
  | [], hl => simp [hm] at hl
  | _ :: _ :: _, hl => simp [hm] at hl
theorem oR {F : Own} {s : SS} {H : Heap} {O : Own} {a : Act} {w : World} (h : Conc F s H O a w) {n : Nat} {b : Bx} (hb : s.mem n = some b) :
  ∃ vs, CellsRel b.cs vs ∧ w.heap[b.r]? = some (.cells vs.toArray b.T (0, 0)) := by
 obtain ⟨L, hL, hm⟩ := h.mm
 obtain ⟨vs, L', hv, hp, _⟩ := hL.take hb
 refine ⟨vs, hv, ?_⟩
 have := (hm.perm (hp.append_right _)).own (b.r, .cells vs.toArray b.T (0, 0)) (by simp)
 exact this.1
theorem aT (r off j : Nat) : (⟨r, off, none⟩ : Addr).add j = ⟨r, off + j, none⟩ := by
 unfold Addr.add; split <;> simp_all
theorem mO (a : Addr) (i j : Nat) : (a.add i).add j = a.add (i + j) := by
 cases a
 by_cases hi : i = 0 <;> by_cases hj : j = 0 <;> simp [Addr.add, hi, hj, Nat.add_assoc]
theorem eA {w : World} {r : Nat} {vs : List Value} {T : TypeId} (h : w.heap[r]? = some (.cells vs.toArray T (0, 0))) (off : Nat) {m : Nat} :
  ∀ j v, ((vs.drop off).take m)[j]? = some v → w.cell? ((⟨r, off, none⟩ : Addr).add j) = some v := by
 intro j v hv
 rw [aT, cell_of_row w r (off + j) _ T _ h]
 rw [List.getElem?_take] at hv
 split at hv
 ·rw [List.getElem?_drop] at hv; simpa using hv
 ·simp at hv
theorem je {α β : Type} {f : α → Option β} : ∀ {l : List α} {r : List β}, l.mapM f = some r → ∀ (j : Nat) (v : β), r[j]? = some v → ∃ a, l[j]? = some a ∧ f a = some v
 | [], r, h, j, v, hv => by simp at h; subst h; simp at hv
 | a :: l, r, h, j, v, hv => by
  simp only [List.mapM_cons, Option.pure_def, Option.bind_eq_bind] at h
  cases ha : f a with
  | none => simp [ha] at h
  | some b =>
   simp only [ha, Option.bind_some] at h
   cases hl : l.mapM f with
   | none => simp [hl] at h
   | some bs =>
    simp only [hl, Option.bind_some, Option.some.injEq] at h
    subst h
    cases j with
    | zero => simp at hv; subst hv; exact ⟨a, rfl, ha⟩
    | succ j => simpa using je hl j v (by simpa using hv)
theorem qP {w : World} {H : Heap} {O L : Own} {p : Value} {m : Nat} {vs : List Value} (h : Reads H O p m vs) (hm : Models w H L) (hs : ∀ x, x ∈ O → x ∈ L) (h0 : 0 < m) :
  ∃ a, p = .pointer (some a) ∧ ∀ j v, vs[j]? = some v → w.cell? (a.add j) = some v := by
 rcases h with h | ⟨a, cs, T, rfl, hsp, hin, hv, _⟩
 ·unfold Heap.read at h
  split at h
  ·rename_i a
   refine ⟨a, rfl, fun j v hv => ?_⟩
   obtain ⟨i, hi, hc⟩ := je h j v hv
   have : i = j := by
    rw [List.getElem?_eq_some_iff] at hi
    obtain ⟨_, hi⟩ := hi
    simpa using hi.symm
   subst this
   exact hm.cell? hc
  ·simp at h
 ·refine ⟨a, rfl, fun j v hj => ?_⟩
  have hrow := (hm.own _ (hs _ hin)).1
  rw [← hv] at hj
  have ha : a = ⟨a.block, a.off, none⟩ := by cases a; simp_all
  rw [ha]
  have := eA (vs := cs.toList) (T := T) (by simpa using hrow) a.off (m := m) j v hj
  exact this
theorem mK {vs : List Value} {m : Nat} (h : vs.length = m) : (atsFrom vs 0 m).map At.den = vs := by
 have := (CellsRel.atsFrom h).known (by simp [atsFrom, At.known])
 exact this.symm
theorem Ones.get : ∀ {vs : List Value}, Ones vs → ∀ i, i < vs.length → (g vs i).oneCell' = true
 | [], _, i, h => by simp at h
 | v :: _, h, 0, _ => h.1
 | _ :: r, h, i + 1, hi => by simpa [g] using Ones.get (vs := r) h.2 i (by simpa using hi)
theorem eT {vs : List Value} {i m : Nat} (h : i + m ≤ vs.length) (ho : Ones vs) : ∀ a, a ∈ atsFrom vs i m → a.ok := by
 intro a ha
 simp only [atsFrom, List.mem_map, List.mem_range] at ha
 obtain ⟨j, hj, rfl⟩ := ha
 exact ho.get _ (by omega)
variable {P : Program} {ops : Array Oper} {o : Oper} {s : SS} {gl : List (At × Bool)}
theorem pY {t : TypeId} {x : Operand} {y : At} {cs : List Ck} {nfp : NF × FP} (ho : o.op = .load t x) (hx : dp s gl x = some (y, cs))
    (hg : am (aA ops) s o = .go gl) (hd : ∀ d, o.dst = some d → d < s.sz) (h : j6 P s gl o.dst t y cs = some nfp) : Sound P ops o s nfp.1 := by
  unfold j6 at h
  cases hm : dY P t with
  | none => simp [hm] at h
  | some m =>
    simp only [hm, Option.bind_some] at h
    have far : (bm P t = true ∨ m = 1) → Sound P ops o s (.fl cs (.load (eo gl) y.den m) (fun vs => nb gl (if bm P t then .agg (atsFrom vs 0 m) else .at (.v (g vs 0))))) := by
      intro h1
      refine aG (X := fun vs => if bm P t then .agg (atsFrom vs 0 m) else .at (.v (g vs 0))) hg hd ?_ ?_
      · intro H O vs _ _ ⟨hl, hone, _⟩
        split
        · exact eT (by omega) hone
        · rename_i hA
          have : m = 1 := h1.resolve_left hA
          exact b6 (hone.get 0 (by omega))
      · intro F H O a w vs hc hcs ⟨hl, hone, hr⟩ hon
        have he := ap hc hx hcs hon
        have hr := hr hon
        by_cases h0 : m = 0
        · have hA : bm P t = true := h1.resolve_right (by omega)
          obtain ⟨b, hb⟩ : ∃ b, y.den = .pointer (some b) := by
            rcases hr with hr | ⟨b, _, _, hb, _⟩
            · unfold Heap.read at hr; split at hr
              · rename_i b hb; exact ⟨b, hb⟩
              · simp at hr
            · exact ⟨b, hb⟩
          have hv : vs = [] := List.eq_nil_of_length_eq_zero (by omega)
          subst hv
          have := ec (P := P) hm (w := w) (a := b) (vs := []) (by simpa using h0.symm) (by simp) (.inl hA)
          simp only [execOp, ho, he, hb, Instr.loadAt, Instr.sureAddr, Sem.run_bind, Sem.run_pure, Result.andThen_ok, this, hA, if_true]
          simp [S1.den, atsFrom, h0]
        · obtain ⟨L, hL, hmod⟩ := hc.mm
          obtain ⟨b, hb, hcell⟩ := qP hr hmod (fun x hx => by simp [hx]) (by omega)
          have := ec (P := P) hm (w := w) (a := b) (vs := vs) hl hcell h1
          simp only [execOp, ho, he, hb, Instr.loadAt, Instr.sureAddr, Sem.run_bind, Sem.run_pure, Result.andThen_ok, this]
          cases hA : bm P t with
          | true => simp [S1.den, mK hl]
          | false => simp [S1.den, At.den]
    have near : ∀ {n r off : Nat} {b : Bx} {v : S1}, y = .p n r off → s.mem n = some b → ((b.cs.drop off).take m).length = m → ((b.cs.drop off).take m).all At.known = true →
        tl P t ((b.cs.drop off).take m) = some v → Sound P ops o s (.fl (.eqN r b.r :: cs) .sil (fun _ => nb gl v)) := by
      intro n r off b v hy hb hlen hk hv
      refine aG (X := fun _ => v) hg hd ?_ ?_
      · intro H O vs hok _ _ a ha
        have : ∀ a, a ∈ v.cells → a ∈ b.cs := by
          intro a ha
          unfold tl at hv
          split at hv
          · simp only [Option.some.injEq] at hv; subst hv; exact List.mem_of_mem_drop (List.mem_of_mem_take ha)
          · split at hv
            · rename_i a' he; simp only [Option.some.injEq] at hv; subst hv
              simp [S1.cells] at ha; subst ha
              have : a ∈ (b.cs.drop off).take m := by rw [he]; simp
              exact List.mem_of_mem_drop (List.mem_of_mem_take this)
            · simp at hv
        exact hok.2 n b hb a (this a ha)
      · intro F H O a w vs hc hcs _ hon
        have he := ap hc hx hcs.2 hon
        have hr : r = b.r := hcs.1
        obtain ⟨us, hus, hrow⟩ := oR hc hb
        have hcells := ((hus.drop off).take m).known hk
        have hlen' : ((us.drop off).take m).length = m := by rw [hcells]; simpa using hlen
        have h1 : bm P t = true ∨ m = 1 := by
          unfold tl at hv
          split at hv
          · rename_i hA; exact .inl hA
          · split at hv
            · rename_i a' he'; rw [he'] at hlen; exact .inr (by simpa using hlen.symm)
            · simp at hv
        have := ec (P := P) hm (w := w) (a := ⟨b.r, off, none⟩) hlen' (eA hrow off) h1
        simp only [execOp, ho, he, hy, At.den, hr, Instr.loadAt, Instr.sureAddr, Sem.run_bind, Sem.run_pure, Result.andThen_ok, this]
        rw [hcells]
        unfold tl at hv
        split at hv
        · rename_i hA; simp only [Option.some.injEq] at hv; subst hv; simp [hA, S1.den]
        · rename_i hA
          split at hv
          · rename_i a' he'; simp only [Option.some.injEq] at hv; subst hv
            have hA' : bm P t = false := by simpa using hA
            rw [he']; simp [hA', S1.den, g]
          · simp at hv
    split at h
    · rename_i n r off
      split at h
      · rename_i b hb
        split at h
        · rename_i hcond
          simp only [Bool.and_eq_true, decide_eq_true_eq] at hcond
          simp only [Option.map_eq_some_iff] at h
          obtain ⟨v, hv, rfl⟩ := h
          exact near rfl hb hcond.1 hcond.2 hv
        · simp at h
      · split at h
        · simp at h
        · rename_i hcond
          simp only [Option.some.injEq] at h; subst h
          refine far ?_
          simp only [Bool.and_eq_true, Bool.not_eq_true', bne_iff_ne, ne_eq, not_and, Decidable.not_not] at hcond
          cases hA : bm P t with
          | true => exact .inl rfl
          | false => exact .inr (hcond hA)
    all_goals first
      | (simp at h; done)
      | (split at h
         · simp at h
         · rename_i hcond
           simp only [Option.some.injEq] at h; subst h
           refine far ?_
           simp only [Bool.and_eq_true, Bool.not_eq_true', bne_iff_ne, ne_eq, not_and, Decidable.not_not] at hcond
           cases hA : bm P t with
           | true => exact .inl rfl
           | false => exact .inr (hcond hA))
theorem pD : ∀ {as : List At} {vs : List Value}, as.mapM lK = some vs → as.map At.den = vs
 | [], vs, h => by simp at h; subst h; rfl
 | a :: r, vs, h => by
  simp only [List.mapM_cons, Option.pure_def, Option.bind_eq_bind] at h
  cases ha : lK a with
  | none => simp [ha] at h
  | some b =>
   simp only [ha, Option.bind_some] at h
   cases hl : r.mapM lK with
   | none => simp [hl] at h
   | some bs =>
    simp only [hl, Option.bind_some, Option.some.injEq] at h
    subst h
    rw [List.map_cons, pD hl]
    unfold lK at ha
    split at ha <;> simp at ha <;> subst ha <;> rfl
theorem rM {as : List At} (hf : ∀ a, a ∈ as → a.fit = true) (ho : ∀ a, a ∈ as → a.ok) : Ones (as.map At.den) := by
 induction as with
 | nil => trivial
 | cons a r ih => exact ⟨At.fit_one (hf a (by simp)) (ho a (by simp)), ih (fun b hb => hf b (by simp [hb])) (fun b hb => ho b (by simp [hb]))⟩
variable {P : Program} {ops : Array Oper} {o : Oper} {s : SS} {gl : List (At × Bool)}
theorem az {total : Bool} {op : POp} {as : List At} {cs : List Ck}
  (hg : am (aA ops) s o = .go gl) (hd : ∀ d, o.dst = some d → d < s.sz)
  (hfit : op = .pick ∨ op = .aidx → Ones (as.map At.den).tail ∨ ¬ s.Ok)
  (hexec : ∀ F H O a w v, Conc F s H O a w → AllCk cs → On (eo gl) → ae op (as.map At.den) = some v → (execOp a.eval o).run P w = .ok (.value v) w) :
  Sound P ops o s (bQ gl total o.dst op as cs) := by
 unfold bQ
 split
 ·rename_i v hv
  unfold vM at hv
  simp only [Option.bind_eq_some_iff] at hv
  obtain ⟨vs, hvs, hev⟩ := hv
  refine aG (X := fun _ => .at (.k v)) hg hd (fun _ _ _ _ _ _ => kR v) ?_
  intro F H O a w _ hc hcs _ hon
  exact hexec F H O a w v hc hcs hon (by rw [pD hvs]; exact hev)
 ·refine aG (X := fun vs => .at (.v (g vs 0))) hg hd ?_ ?_
  ·rintro H O vs hok _ ⟨v, rfl, he, hone⟩
   refine b6 ?_
   show v.oneCell' = true
   rcases hone with h0 | h1
   ·have he := he (by rw [h0]; trivial)
    exact qi he (fun h => (hfit h).resolve_right (fun hn => hn hok))
   ·exact h1
  ·rintro F H O a w vs hc hcs ⟨v, rfl, he, _⟩ hon
   exact hexec F H O a w v hc hcs hon (he (by cases total <;> simp [hon, On]))
theorem fS {op : BinOp} {t : TypeId} {x y : Operand} {X Y : Value} (h : ¬ (X = .nilIface ∧ Y = .nilIface)) (h' : ∀ a b, ¬ (X = .agg a ∧ Y = .agg b)) (w : World) :
    (eqGuard op t x y X Y).run P w = .ok () w := by
  unfold eqGuard
  cases op <;> first
    | rfl
    | (simp only [Bool.not_true, Bool.false_eq_true, if_false]
       split
       · exact absurd ⟨rfl, rfl⟩ h
       · exact absurd ⟨rfl, rfl⟩ (h' _ _)
       · rfl)

theorem wS {op : BinOp} {t : TypeId} {k : IntKind} {a b : Int} {v : Value} (hs : op ≠ .shl) (hs' : op ≠ .shr) (h : bH op k a b = some v) (w : World) :
    (binOp op t (.int k a) (.int k b)).run P w = .ok v w := by
  cases op <;> simp only [bH] at h <;> first
    | (simp at h; done)
    | exact absurd rfl hs
    | exact absurd rfl hs'
    | (simp only [Option.some.injEq] at h; subst h; simp [binOp, Op.intArith, Op.intCmp, Op.intBits]; done)
    | (split at h
       · simp at h
       · rename_i h0; simp only [Option.some.injEq] at h; subst h; simp [binOp, Op.intDiv, h0])

theorem pr {op : BinOp} {t : TypeId} {k k' : IntKind} {a b : Int} {v : Value} (h : gh op k a b = some v) (hs : op = .shl ∨ op = .shr) (w : World) :
  (binOp op t (.int k a) (.int k' b)).run P w = .ok v w := by
 unfold gh at h
 split at h
 ·simp at h
 ·rename_i h0
  rcases hs with rfl | rfl <;> simp only [Option.some.injEq] at h <;> subst h <;> simp [binOp, Op.shift, h0]
theorem wR {op : BinOp} {t : TypeId} {a b : ByteArray} {v : Value} (h : mr op a b = some v) (w : World) :
  (binOp op t (.string a) (.string b)).run P w = .ok v w := by
 unfold mr at h
 split at h
 ·split at h
  ·simp at h
  ·rename_i h0
   simp only [Option.some.injEq] at h; subst h
   simp only [binOp, Op.stringOp, if_neg h0]; rfl
 ·simp only [Option.some.injEq] at h; subst h; simp [binOp, Op.stringOp]
 ·simp only [Option.some.injEq] at h; subst h; simp [binOp, Op.stringOp]
 ·simp at h
def BK.fits : BK → TypeDesc → Prop
 | .int, .int _ | .bool, .bool | .str, .string | .slice, .slice _ | .ptr, .pointer _ | .map, .map _ _ | .func, .func _ _ _ => True
 | _, _ => False
theorem xC {t : TypeId} {bk : BK} (h : yv P t = some bk) : ∃ d, P.underlying t = some d ∧ bk.fits d := by
 unfold yv at h
 split at h <;> first
  | (simp at h; done)
  | (rename_i e; simp only [Option.some.injEq] at h; subst h; exact ⟨_, e, trivial⟩)
theorem lr {t : TypeId} {bk : BK} {d : TypeDesc} (hd : P.underlying t = some d) (hm : bk.fits d) {x y : Value} {r : Bool} (h : uV bk x y = some r) (n : Nat) (w : World) :
  (Op.equalIn (n + 1) t x y).run P w = .ok r w := by
 simp only [Op.equalIn, Sem.run_bind, ah hd w, Result.andThen_ok]
 unfold uV at h
 split at h <;> simp only [Option.some.injEq, reduceCtorEq] at h <;> subst h <;> cases d <;> simp_all [BK.fits]
 all_goals first
  | rfl
  | (rename_i b _ _ _; cases b <;> rfl)
  | (rename_i b _ _; cases b <;> rfl)
  | (rename_i b _; cases b <;> rfl)
  | (rename_i b; cases b <;> rfl)
  | skip
theorem nY {t : TypeId} {bk : BK} {d : TypeDesc} (hd : P.underlying t = some d) (hm : bk.fits d) {x y : Value} {r : Bool} (h : uV bk x y = some r) (w : World) :
  (Op.equal t x y).run P w = .ok r w := lr hd hm h 9999 w
theorem wT {op : BinOp} {t : TypeId} {bk : BK} (hb : yv P t = some bk) {x y : Operand} {X Y : Value} {v : Value} (h : bW op bk X Y = some v) (w : World) :
  (do eqGuard op t x y X Y; binOp op t X Y : Sem Value).run P w = .ok v w := by
 unfold bW at h
 split at h
 ·rename_i k a k' b
  rw [Sem.run_bind, fS (by simp) (by simp) w, Result.andThen_ok]
  split at h
  ·exact pr h (.inl rfl) w
  ·exact pr h (.inr rfl) w
  ·rename_i h1 h2
   split at h
   ·rename_i e; subst e; exact wS h1 h2 h w
   ·simp at h
 ·rw [Sem.run_bind, fS (by simp) (by simp) w, Result.andThen_ok]
  exact wR h w
 ·obtain ⟨d, hd, hm⟩ := xC hb
  have key : ∀ r, uV bk X Y = some r → (eqGuard op t x y X Y).run P w = .ok () w ∧ (Op.equal t X Y).run P w = .ok r w ∧
    (binOp .eql t X Y = do pure (.bool (← Op.equal t X Y))) ∧ (binOp .neq t X Y = do pure (.bool (!(← Op.equal t X Y)))) := by
   intro r hr
   refine ⟨fS ?_ ?_ w, nY hd hm hr w, ?_, ?_⟩
   ·rintro ⟨rfl, rfl⟩; unfold uV at hr; split at hr <;> simp_all
   ·rintro a b ⟨rfl, rfl⟩; unfold uV at hr; split at hr <;> simp_all
   ·unfold uV at hr; split at hr <;> simp_all [binOp]
   ·unfold uV at hr; split at hr <;> simp_all [binOp]
  unfold oL at h
  split at h
  ·simp only [Option.map_eq_some_iff] at h
   obtain ⟨r, hr, rfl⟩ := h
   obtain ⟨h1, h2, h3, _⟩ := key r hr
   rw [Sem.run_bind, h1, Result.andThen_ok, h3, Sem.run_bind, h2]; rfl
  ·simp only [Option.map_eq_some_iff] at h
   obtain ⟨r, hr, rfl⟩ := h
   obtain ⟨h1, h2, _, h4⟩ := key r hr
   rw [Sem.run_bind, h1, Result.andThen_ok, h4, Sem.run_bind, h2]; rfl
  ·simp at h
variable {P : Program} {ops : Array Oper} {o : Oper} {s : SS} {gl : List (At × Bool)}
theorem tR {t elem : TypeId} {size : Nat} (hu : P.underlying t = some (.slice elem)) (hs : dY P elem = some size) {x i v : Value} (h : fD size x i = some v) (w : World) :
  (Instr.indexAt t x i).run P w = .ok v w := by
 unfold fD at h
 split at h
 ·rename_i a len c k n
  split at h
  ·rename_i hb
   simp only [Option.some.injEq] at h; subst h
   simp [Instr.indexAt, asIntOf, ah hu, ay hs, hb]
  ·simp at h
 ·simp at h
theorem rB {t elem : TypeId} {len size : Nat} (hu : P.underlying t = some (.array len elem)) (hs : dY P elem = some size) {x i v : Value} (h : gR len size x i = some v) (w : World) :
  (Instr.indexAt t x i).run P w = .ok v w := by
 unfold gR at h
 split at h
 ·rename_i a k n
  split at h
  ·rename_i hb
   simp only [Option.some.injEq] at h; subst h
   simp [Instr.indexAt, asIntOf, ah hu, ay hs, hb, Instr.sureAddr]
  ·simp at h
 ·simp at h
theorem vp {t : TypeId} (hu : P.underlying t = some .string) {x i v : Value} (h : kY x i = some v) (w : World) : (Instr.index t x i).run P w = .ok v w := by
 unfold kY at h
 split at h
 ·rename_i sb k n
  simp only [Option.map_eq_some_iff] at h
  obtain ⟨b, hb, rfl⟩ := h
  simp only [Instr.index, asIntOf, Sem.run_bind, Sem.run_pure, Result.andThen_ok, ah hu, hb]
 ·simp at h
theorem rD {t elem : TypeId} {len : Nat} {cs : List Value} (hu : P.underlying t = some (.array len elem)) (hs : dY P elem = some 1) (hA : bm P elem = false) (hl : cs.length = len)
  {i v : Value} (h : gU i cs = some v) (w : World) : (Instr.index t (.agg cs.toArray) i).run P w = .ok v w := by
 unfold gU at h
 split at h
 ·rename_i k n
  split at h
  ·rename_i hb
   rw [hl] at hb
   simp only [Instr.index, asIntOf, Sem.run_bind, Sem.run_pure, Result.andThen_ok, ah hu, if_pos hb, ay hs, part, gG hs, hA, Nat.mul_one]
   have : cs.toArray[n.toNat]? = some v := by simpa using h
   simp [this]
  ·simp at h
 ·simp at h
theorem tQ {t ty e : TypeId} {x v : Value} (hu : P.underlying t = some (.slice e)) (h : ae .len [x] = some v) (w : World) :
  (Builtin.len_ #[t] ty #[x]).run P w = .ok v w := by
 cases x <;> simp [ae] at h
 subst h
 simp [Builtin.len_, ah hu]
theorem vo {t ty : TypeId} {x v : Value} (hu : P.underlying t = some .string) (h : ae .slen [x] = some v) (w : World) :
  (Builtin.len_ #[t] ty #[x]).run P w = .ok v w := by
 cases x <;> simp [ae] at h
 subst h
 simp [Builtin.len_, ah hu]
theorem vq {t ty e : TypeId} {n : Nat} {x : Value} (hu : P.underlying t = some (.array n e)) (w : World) :
  (Builtin.len_ #[t] ty #[x]).run P w = .ok (goInt n) w := by
 simp [Builtin.len_, ah hu]
theorem tU {t ty e : TypeId} {x v : Value} (hu : P.underlying t = some (.slice e)) (h : ae .cap [x] = some v) (w : World) :
  (Builtin.cap_ #[t] ty #[x]).run P w = .ok v w := by
 cases x <;> simp [ae] at h
 subst h
 simp [Builtin.cap_, ah hu]
theorem cM {v : Value} {y n : Nat} (h : nN v y = some n) (code : BoundsCode) (w : World) : (Instr.sliceBound v y code).run P w = .ok n w := by
 unfold nN asI at h
 cases v <;> simp at h
 rename_i k i
 obtain ⟨hb, rfl⟩ := h
 simp [Instr.sliceBound, asIntOf, hb]
theorem jZ {isSlice : Bool} {len cap l h m : Nat} {lo hi mx : Option Value} (hb : bY len cap lo hi mx = some (l, h, m)) (w : World) :
  (Instr.sliceBounds isSlice len cap lo hi mx).run P w = .ok (l, h, m) w := by
 unfold bY at hb
 simp only [Option.bind_eq_some_iff, Option.some.injEq, Prod.mk.injEq] at hb
 obtain ⟨m', hm, h', hh, l', hl, rfl, rfl, rfl⟩ := hb
 cases mx with
 | none =>
  simp only [bq, Option.some.injEq] at hm; subst hm
  cases hi with
  | none =>
   simp only [cO, Option.isSome_none, Bool.false_eq_true, if_false, Option.some.injEq] at hh; subst hh
   cases lo with
   | none => simp only [bq, Option.some.injEq] at hl; subst hl; rfl
   | some v => simp only [bq] at hl; simp [Instr.sliceBounds, cM hl]
  | some u =>
   simp only [cO] at hh
   cases lo with
   | none => simp only [bq, Option.some.injEq] at hl; subst hl; simp [Instr.sliceBounds, cM hh]
   | some v => simp only [bq] at hl; simp [Instr.sliceBounds, cM hh, cM hl]
 | some x =>
  simp only [bq] at hm
  cases hi with
  | none => simp [cO] at hh
  | some u =>
   simp only [cO] at hh
   cases lo with
   | none => simp only [bq, Option.some.injEq] at hl; subst hl; simp [Instr.sliceBounds, cM hm, cM hh]
   | some v => simp only [bq] at hl; simp [Instr.sliceBounds, cM hm, cM hh, cM hl]
theorem tP {t elem : TypeId} {size : Nat} (hu : P.underlying t = some (.slice elem)) (hs : dY P elem = some size) {x v : Value} {lo hi mx : Option Value} (h : iy size x lo hi mx = some v) (w : World) :
  (Instr.sliceAt t x lo hi mx).run P w = .ok v w := by
 unfold iy at h
 split at h
 ·rename_i a len c
  simp only [Option.map_eq_some_iff] at h
  obtain ⟨⟨l, hh, m⟩, hb, rfl⟩ := h
  simp only [Instr.sliceAt, Sem.run_bind, ah hu, Result.andThen_ok, Instr.slice, jZ hb, ay hs]
  rfl
 ·simp at h
theorem vn {t : TypeId} (hu : P.underlying t = some .string) {x v : Value} {lo hi : Option Value} (h : kX x lo hi = some v) (w : World) :
  (Instr.sliceAt t x lo hi none).run P w = .ok v w := by
 unfold kX at h
 split at h
 ·rename_i sb
  simp only [Option.map_eq_some_iff] at h
  obtain ⟨⟨l, hh, m⟩, hb, rfl⟩ := h
  simp only [Instr.sliceAt, Sem.run_bind, ah hu, Result.andThen_ok, Instr.slice, Option.isSome_none, Bool.false_eq_true, if_false, jZ hb, Sem.run_pure]
 ·simp at h
theorem pq {t elem : TypeId} {n size l h m : Nat} (hu : P.underlying t = some (.array n elem)) (hs : dY P elem = some size) {r off : Nat} {lo hi mx : Option Value}
  (hb : bY n n lo hi mx = some (l, h, m)) (w : World) :
  (Instr.sliceAt t (.pointer (some ⟨r, off, none⟩)) lo hi mx).run P w = .ok (.slice (some (if m = l then ⟨r, off, none⟩ else ⟨r, off + l * size, none⟩)) (h - l) (m - l)) w := by
 simp only [Instr.sliceAt, Sem.run_bind, ah hu, Result.andThen_ok, Instr.sureAddr, Sem.run_pure, jZ hb, ay hs, aT]
theorem ke {t : TypeId} {f : Nat} {fd : Field} (h : mo P t f = some fd) : ∃ fs, P.underlying t = some (.struct fs) ∧ fs[f]? = some fd := by
 unfold mo at h
 split at h
 ·rename_i fs e; exact ⟨fs, e, h⟩
 ·simp at h
theorem qL {t : TypeId} {f : Nat} {fd : Field} {m : Nat} (hf : mo P t f = some fd) (hs : dY P fd.type = some m) (hm : m ≠ 0) (a : Addr) (w : World) :
  (Instr.fieldAt t (.pointer (some a)) f).run P w = .ok (.pointer (some (a.add fd.offset))) w := by
 obtain ⟨fs, hu, hfd⟩ := ke hf
 simp [Instr.fieldAt, ah hu, hfd, Instr.sureAddr, fieldPlace, ay hs, hm]
theorem rC {t : TypeId} {m : Nat} {cs : List At} {off : Nat} {v : S1} (h : j4 P t cs off = some v) (w : World) (_hm : dY P t = some m) :
  (part t (cs.map At.den).toArray off).run P w = .ok v.den w := by
 unfold j4 at h
 rw [_hm] at h
 simp only [Option.bind_some] at h
 split at h
 ·rename_i hl
  unfold tl at h
  unfold part
  rw [Sem.run_bind, gG _hm, Result.andThen_ok]
  split at h
  ·rename_i hA
   simp only [Option.some.injEq] at h; subst h
   simp [hA, ay _hm, S1.den]
  ·rename_i hA
   have hA' : bm P t = false := by simpa using hA
   split at h
   ·rename_i a he
    simp only [Option.some.injEq] at h; subst h
    have hget : cs[off]? = some a := by
     have : (List.take m (cs.drop off))[0]? = some a := by rw [he]; rfl
     have h0 : 0 < m := by rw [he] at hl; simp at hl; omega
     simpa [List.getElem?_take, h0] using this
    simp [hA', hget, S1.den]
   ·simp at h
 ·simp at h
theorem lL {t : TypeId} {cs : List At} {off : Nat} {v : S1} (h : j4 P t cs off = some v) : ∃ m, dY P t = some m := by
 unfold j4 at h
 cases hm : dY P t with
 | none => simp [hm] at h
 | some m => exact ⟨m, rfl⟩
theorem nn {t : TypeId} {cs : List At} {off : Nat} {v : S1} (h : j4 P t cs off = some v) : ∀ a, a ∈ v.cells → a ∈ cs := by
 unfold j4 at h
 cases hm : dY P t with
 | none => simp [hm] at h
 | some m =>
  simp only [hm, Option.bind_some] at h
  split at h
  ·unfold tl at h
   split at h
   ·simp only [Option.some.injEq] at h; subst h
    intro a ha; exact List.mem_of_mem_drop (List.mem_of_mem_take ha)
   ·split at h
    ·rename_i a he
     simp only [Option.some.injEq] at h; subst h
     intro b hb; simp [S1.cells] at hb; subst hb
     have : b ∈ (cs.drop off).take m := by rw [he]; simp
     exact List.mem_of_mem_drop (List.mem_of_mem_take this)
    ·simp at h
  ·simp at h
theorem mC {v : S1} (hf : v.cells.all At.fit = true) (ho : v.ok) : v.den.cells = (v.cells.map At.den).toArray := by
 rcases v with a | l
 ·have h1 : a.den.oneCell' = true := At.fit_one (by simpa [S1.cells] using hf) (ho a (by simp [S1.cells]))
  simp only [S1.den, S1.cells, List.map_cons, List.map_nil]
  cases hd : a.den <;> simp_all [Value.cells, Value.oneCell']
 ·rfl
theorem uz (vs : List Value) : ∀ (off : Nat) (cells : List Value), off + vs.length ≤ cells.length →
  (vs.zipIdx.foldl (fun (cs : Array Value) (p : Value × Nat) => cs.setIfInBounds (off + p.2) p.1) cells.toArray) = (cells.take off ++ vs ++ cells.drop (off + vs.length)).toArray := by
 have gen : ∀ (vs : List Value) (k off : Nat) (cells : List Value), off + k + vs.length ≤ cells.length →
   ((vs.zipIdx k).foldl (fun (cs : Array Value) (p : Value × Nat) => cs.setIfInBounds (off + p.2) p.1) cells.toArray) = (cells.take (off + k) ++ vs ++ cells.drop (off + k + vs.length)).toArray := by
  intro vs
  induction vs with
  | nil => intro k off cells _; simp
  | cons v r ih =>
   intro k off cells h
   simp only [List.length_cons] at h
   simp only [List.zipIdx_cons, List.foldl_cons, List.setIfInBounds_toArray]
   have hlen : (cells.set (off + k) v).length = cells.length := by simp
   have := ih (k + 1) off (cells.set (off + k) v) (by simp; omega)
   rw [this]
   congr 1
   have e1 : (cells.set (off + k) v).take (off + (k + 1)) = cells.take (off + k) ++ [v] := by
    apply List.ext_getElem?
    intro i
    by_cases hi : i < off + k
    ·rw [List.getElem?_take, if_pos (by omega), List.getElem?_set_ne (by omega), List.getElem?_append_left (by simp; omega), List.getElem?_take, if_pos hi]
    ·by_cases he : i = off + k
     ·subst he
      rw [List.getElem?_take, if_pos (by omega), List.getElem?_set_self (by omega), List.getElem?_append_right (by simp; omega)]
      have : off + k - (cells.take (off + k)).length = 0 := by simp; omega
      rw [this]; rfl
     ·rw [List.getElem?_take, if_neg (by omega), List.getElem?_eq_none (by simp; omega)]
   have e2 : (cells.set (off + k) v).drop (off + (k + 1) + r.length) = cells.drop (off + k + (r.length + 1)) := by
    rw [List.drop_set_of_lt (by omega)]; congr 1; omega
   rw [e1, e2]; simp
 intro off cells h
 simpa using gen vs 0 off cells (by simpa using h)
theorem kT {F : Own} {H : Heap} {O : Own} {a : Act} {w : World} (hc : Conc F s H O a w) {place : Nat → Option (Nat × Nat)} (hon : On (eo gl)) :
  ∀ {parts : List (Nat × Operand)} {cells out : List At} {cs : List Ck}, bB s gl place parts cells = some (out, cs) → AllCk cs →
   Instr.fill place (cells.map At.den).toArray (parts.map fun p => (p.1, a.eval p.2)) = some (out.map At.den).toArray
 | [], cells, out, cs, h, _ => by simp only [bB, Option.some.injEq, Prod.mk.injEq] at h; rw [← h.1]; rfl
 | (i, x) :: r, cells, out, cs, h, hcs => by
  simp only [bB] at h
  split at h
  ·rename_i off size v c hp hx
   split at h
   ·rename_i hcond
    simp only [Bool.and_eq_true, decide_eq_true_eq] at hcond
    obtain ⟨hcond, hfit⟩ := hcond
    simp only [Option.map_eq_some_iff] at h
    obtain ⟨⟨cs', c'⟩, hr, he⟩ := h
    simp only [Prod.mk.injEq] at he
    obtain ⟨rfl, rfl⟩ := he
    rw [AllCk.append] at hcs
    have hv := b9 hc hx hcs.1 hon
    have hcells : v.den.cells = (v.cells.map At.den).toArray := by
     have hok := cn hc.ok hx
     exact mC hfit hok
    simp only [List.map_cons, Instr.fill, hp, hv, hcells]
    have hsz : (v.cells.map At.den).toArray.size = size := by simp [hcond.1]
    have : (decide ((v.cells.map At.den).toArray.size ≠ size) || decide (off + (v.cells.map At.den).toArray.size > (cells.map At.den).toArray.size)) = false := by
     simp only [List.size_toArray, List.length_map, Bool.or_eq_false_iff, decide_eq_false_iff_not]; omega
    rw [this]
    simp only [Bool.false_eq_true, if_false]
    have hf := uz (v.cells.map At.den) off (cells.map At.den) (by simp; omega)
    have hz : ((v.cells.map At.den).toArray.zipIdx).foldl (fun (cs : Array Value) (p : Value × Nat) => cs.setIfInBounds (off + p.2) p.1) (cells.map At.den).toArray = ((cw cells off v.cells).map At.den).toArray := by
     rw [← Array.foldl_toList, Array.toList_zipIdx, List.toList_toArray, hf]
     simp [cw, List.map_take, List.map_drop]
    rw [hz]
    exact kT hc hon hr hcs.2
   ·simp at h
  ·simp at h
variable {P : Program} {ops : Array Oper} {o : Oper} {s : SS} {gl : List (At × Bool)}
theorem qH (vs : List Value) (off : Nat) (v : Value) (r : List Value) (h : off < vs.length) : bK (vs.set off v) (off + 1) r = bK vs off (v :: r) := by
 unfold bK
 have e1 : (vs.set off v).take (off + 1) = vs.take off ++ [v] := by
  rw [List.take_set]
  apply List.ext_getElem?
  intro i
  by_cases hi : i < off
  ·rw [List.getElem?_set_ne (by omega), List.getElem?_take, if_pos (by omega), List.getElem?_append_left (by simp; omega), List.getElem?_take, if_pos hi]
  ·by_cases he : i = off
   ·subst he
    rw [List.getElem?_set_self (by simp; omega), List.getElem?_append_right (by simp; omega)]
    have : i - (vs.take i).length = 0 := by simp; omega
    rw [this]; rfl
   ·rw [List.getElem?_set_ne (by omega), List.getElem?_take, if_neg (by omega), List.getElem?_eq_none (by simp; omega)]
 have e2 : (vs.set off v).drop (off + 1 + r.length) = vs.drop (off + (v :: r).length) := by
  rw [List.drop_set_of_lt (by omega), List.length_cons]; congr 1; omega
 rw [e1, e2]; simp
theorem gZ {r off : Nat} {T : TypeId} : ∀ (ys : List Value) (i : Nat) (vs : List Value) (w : World), w.heap[r]? = some (.cells vs.toArray T (0, 0)) → Ones ys → off + i + ys.length ≤ vs.length →
  ∃ w', (storeCells ⟨r, off, none⟩ ys i).run P w = .ok () w' ∧ (∀ b, b ≠ r → w'.heap[b]? = w.heap[b]?) ∧ w'.heap[r]? = some (.cells (bK vs (off + i) ys).toArray T (0, 0)) ∧ cI w' = cI w
 | [], i, vs, w, h, _, hl => ⟨w, rfl, fun _ _ => rfl, by rw [h]; simp [bK], rfl⟩
 | y :: ys, i, vs, w, h, ho, hl => by
  simp only [List.length_cons] at hl
  have hcell : w.cell? ⟨r, off + i, none⟩ = some (vs[off + i]'(by omega)) := by
   rw [cell_of_row w r (off + i) _ T _ h]; simp
  have hfr : w.frozen? ⟨r, off + i, none⟩ = false := frozen_of_row w r (off + i) _ T h
  have hset : (w.setCell ⟨r, off + i, none⟩ y).heap[r]? = some (.cells (vs.set (off + i) y).toArray T (0, 0)) := by
   rw [heap_setCell_same w r (off + i) vs.toArray T y h]; simp
  have henv : cI (w.setCell ⟨r, off + i, none⟩ y) = cI w := by
   unfold World.setCell; split <;> rfl
  obtain ⟨w', hr, hs, hb, he⟩ := gZ (r := r) (off := off) ys (i + 1) (vs.set (off + i) y) (w.setCell ⟨r, off + i, none⟩ y) hset ho.2 (by simp; omega)
  refine ⟨w', ?_, fun b hne => ?_, ?_, he.trans henv⟩
  ·simp only [storeCells, Sem.run_bind, aT, run_store P w _ y .plain ho.1, hcell, hfr, Bool.false_eq_true, if_false, Result.andThen_ok]
   exact hr
  ·rw [hs b hne, heap_setCell_other w ⟨r, off + i, none⟩ b y hne]
  ·rw [hb, ← qH vs (off + i) y ys (by omega)]; rfl
theorem j2 {t : TypeId} {m : Nat} (hs : dY P t = some m) {r off : Nat} {T : TypeId} {vs : List Value} {w : World} (h : w.heap[r]? = some (.cells vs.toArray T (0, 0))) {y : Value} {ys : List Value}
  (hy : y.cells = ys.toArray) (ho : Ones ys) (hm : ys.length = m) (hl : off + ys.length ≤ vs.length) :
  ∃ w', (storeVar t ⟨r, off, none⟩ y).run P w = .ok () w' ∧ (∀ b, b ≠ r → w'.heap[b]? = w.heap[b]?) ∧ w'.heap[r]? = some (.cells (bK vs off ys).toArray T (0, 0)) ∧ cI w' = cI w := by
 obtain ⟨w', hr, hb, hc, he⟩ := gZ (P := P) (off := off) ys 0 vs w h ho (by omega)
 refine ⟨w', ?_, hb, hc, he⟩
 unfold storeVar
 rw [Sem.run_bind, ay hs, Result.andThen_ok]
 have : ¬ (y.cells.size ≠ m) := by rw [hy]; simp [hm]
 simp only [this, if_false]
 rw [hy]
 simpa using hr
theorem nV {t : TypeId} {x y : Operand} {x' : At} {y' : S1} {cx cy : List Ck} {nfp : NF × FP} (ho : o.op = .store t x y) (hdst : o.dst = none) (hx : dp s [] x = some (x', cx)) (hy : gJ s [] y = some (y', cy))
    (hg : am (aA ops) s o = .go []) (h : fQ P s t x' y' (cx ++ cy) = some nfp) : Sound P ops o s nfp.1 := by
  unfold fQ at h
  cases hm : dY P t with
  | none => simp [hm] at h
  | some m =>
    simp only [hm, Option.bind_some] at h
    split at h
    · simp at h
    · rename_i hcond
      simp only [Bool.or_eq_true, decide_eq_true_eq, Bool.not_eq_true', not_or, Decidable.not_not, Bool.not_eq_false] at hcond
      obtain ⟨hlen, hfit⟩ := hcond
      have common : ∀ {F H O a w}, Conc F s H O a w → AllCk (cx ++ cy) → a.eval x = x'.den ∧ a.eval y = y'.den ∧ y'.den.cells = (y'.cells.map At.den).toArray ∧ Ones (y'.cells.map At.den) := by
        intro F H O a w hc hcs
        rw [AllCk.append] at hcs
        have hok := cn hc.ok hy
        exact ⟨ap hc hx hcs.1 trivial, b9 hc hy hcs.2 trivial, mC hfit hok, rM (by simpa using hfit) hok⟩
      split at h
      · rename_i n r off
        split at h
        · rename_i b hb
          split at h
          · rename_i hl
            simp only [Option.some.injEq] at h; subst h
            intro F H O a w d K Q hc hr
            obtain ⟨hcs, hk⟩ := hr
            obtain ⟨e1, e2, e3, e4⟩ := common hc hcs.2
            have hrb : r = b.r := hcs.1
            unfold wp1
            rw [if_pos ((dc hc hg).2 trivial)]
            refine .inl ?_
            obtain ⟨L, hL, hmod⟩ := hc.mm
            obtain ⟨us, L', hus, hperm, hL'⟩ := hL.take hb
            have hmod' := hmod.perm (hperm.append_right _)
            simp only [List.cons_append] at hmod'
            have hrow := (hmod'.own (b.r, .cells us.toArray b.T (0, 0)) (by simp)).1
            obtain ⟨w', hrun, hoth, hnew, henv⟩ := j2 (P := P) hm hrow e3 e4 (by simpa using hlen) (off := off) (by have := hus.length; simp; omega)
            unfold Oper.wp
            have : (execOp a.eval o).run P w = .ok .skip w' := by
              simp only [execOp, ho, e1, e2, At.den, hrb, Instr.storeAt, Instr.sureAddr, Sem.run_bind, Sem.run_pure, Result.andThen_ok, hrun]
            rw [this, Oper.upon_skip, hdst]
            refine ⟨_, H, O, ?_, Heap.le_refl H, hk⟩
            have hput := hL'.put (n := n) (b := { b with cs := cw b.cs off y'.cells }) (vs := us.take off ++ y'.cells.map At.den ++ us.drop (off + y'.cells.length)) (by simp) (hus.fill off y'.cells)
            rw [o1] at hput
            refine ⟨hc.ok.setBox n ?_, hc.df, hc.sz, hc.tm, _, hput, ?_⟩
            · rintro b' hb' a' ha'
              simp only [Option.some.injEq] at hb'; subst hb'
              simp only [cw, List.mem_append] at ha'
              rcases ha' with (ha' | ha') | ha'
              · exact hc.ok.2 n b hb a' (List.mem_of_mem_take ha')
              · exact cn hc.ok hy a' ha'
              · exact hc.ok.2 n b hb a' (List.mem_of_mem_drop ha')
            · refine hmod'.update hoth ?_ henv
              rw [hnew]; simp [bK]
          · simp at h
        · simp at h
      all_goals first
        | (simp at h; done)
        | (split at h
           · simp at h
           · rename_i hm0
             simp only [Option.some.injEq] at h; subst h
             intro F H O a w d K Q hc hr
             obtain ⟨hcs, O', hst, hk⟩ := hr
             obtain ⟨e1, e2, e3, e4⟩ := common hc hcs.2
             unfold wp1
             rw [if_pos ((dc hc hg).2 trivial)]
             refine .inl ?_
             obtain ⟨ad, cs, T, L', hp, hsp, hperm, hl, hO'⟩ := hst
             have had : ad = ⟨ad.block, ad.off, none⟩ := by cases ad; simp_all
             obtain ⟨L, hL, hmod⟩ := hc.mm
             have hmod' : Models w H ((ad.block, .cells cs T (0, 0)) :: (L ++ (L' ++ F))) := by
               refine hmod.perm ?_
               have := (hperm.append_right F)
               refine (List.Perm.append_left L this).trans ?_
               simp only [List.cons_append]
               exact List.perm_middle
             have hrow : w.heap[ad.block]? = some (.cells cs.toList.toArray T (0, 0)) := by simpa using (hmod'.own (ad.block, .cells cs T (0, 0)) (by simp)).1
             obtain ⟨w', hrun, hoth, hnew, henv⟩ := j2 (P := P) hm hrow e3 e4 (by simpa using hlen) (off := ad.off) (by simpa using hl)
             unfold Oper.wp
             have : (execOp a.eval o).run P w = .ok .skip w' := by
               simp only [execOp, ho, e1, e2, hp, Instr.storeAt, Instr.sureAddr, Sem.run_bind, Sem.run_pure, Result.andThen_ok]
               rw [had, hrun]; rfl
             rw [this, Oper.upon_skip, hdst]
             refine ⟨s, H, O', ⟨hc.ok, hc.df, hc.sz, hc.tm, L, hL, ?_⟩, Heap.le_refl H, hk⟩
             have hu := hmod'.update hoth hnew henv
             subst hO'
             refine hu.perm ?_
             simp only [List.cons_append]
             exact List.perm_middle.symm)
variable {P : Program} {ops : Array Oper} {o : Oper} {s : SS} {gl : List (At × Bool)}
theorem tK {name : Nat} {T : TypeId} {cells : List At} {val : Nat → At} {cs : List Ck} (hg : am (aA ops) s o = .go []) (hd : ∀ d, o.dst = some d → d < s.sz)
  (hn : s.mem name = none) (hv : ∀ r, (val r).ok) (hvk : ∀ r, (val r).known = true) (hcells : s.Ok → ∀ a, a ∈ cells → a.ok)
  (hrun : ∀ F H O a w, Conc F s H O a w → AllCk cs → ∃ vs : List Value, CellsRel cells vs ∧
   (execOp a.eval o).run P w = .ok (.value (val w.heap.size).den) { w with heap := w.heap.push (.cells vs.toArray T (0, 0)) }) :
  Sound P ops o s (.box cs name T cells val) := by
 intro F H O a w d K Q hc hr
 obtain ⟨hcs, hk⟩ := hr
 obtain ⟨vs, hvs, hex⟩ := hrun F H O a w hc hcs
 unfold wp1
 rw [if_pos ((dc hc hg).2 trivial)]
 refine .inl ?_
 unfold Oper.wp
 rw [hex, Oper.upon_value]
 obtain ⟨L, hL, hmod⟩ := hc.mm
 have h1 : Conc F (s.setBox name (some ⟨w.heap.size, T, cells⟩)) H O a { w with heap := w.heap.push (.cells vs.toArray T (0, 0)) } := by
  refine ⟨hc.ok.setBox name ?_, hc.df, hc.sz, hc.tm, _, hL.put (n := name) (b := ⟨w.heap.size, T, cells⟩) hn hvs, ?_⟩
  ·rintro b' hb' a' ha'
   simp only [Option.some.injEq] at hb'; subst hb'; exact hcells hc.ok a' ha'
  ·simpa using hmod.push (.cells vs.toArray T (0, 0))
 refine ⟨_, H, O, h1.put (sv := .s (.at (val w.heap.size))) hd ?_ (b6 (hv _)), Heap.le_refl H, hk _⟩
 cases hval : val w.heap.size <;> first
  | rfl
  | (have := hvk w.heap.size; rw [hval] at this; simp [At.known] at this)
theorem eL {T : TypeId} {cells : List At} (h : j0 P T = some cells) : ∃ z : Value, (∀ w, (zeroValue T).run P w = .ok z w) ∧ z.cells.toList = cells.map At.den ∧ cells.all At.known = true ∧ ∀ a, a ∈ cells → a.ok := by
 unfold j0 at h
 cases hi : P.info? T with
 | none => simp [hi] at h
 | some i =>
  simp only [hi, Option.bind_some, Option.map_eq_some_iff] at h
  obtain ⟨z, hz, rfl⟩ := h
  refine ⟨z, fun w => by simp [zeroValue, typeInfo, hi, hz], by simp [Function.comp_def, At.den], by simp [At.known], ?_⟩
  intro a ha; simp only [List.mem_map] at ha; obtain ⟨x, _, rfl⟩ := ha; trivial
def lC (z : List Value) : Nat → List Value
 | 0 => []
 | n + 1 => z ++ lC z n
theorem dA (z : List Value) (hz : z.length ≠ 0) : ∀ n : Nat, ((Array.range (n * z.length)).map fun i => z.toArray[i % z.toArray.size]!).toList = (lC z n)
 | 0 => by simp [lC]
 | n + 1 => by
  have ih := dA z hz n
  simp only [Array.toList_map, Array.toList_range] at ih ⊢
  rw [show (n + 1) * z.length = z.length + n * z.length by rw [Nat.add_mul]; omega, List.range_add, List.map_append, List.map_map]
  have e1 : (List.range z.length).map (fun i => z.toArray[i % z.toArray.size]!) = z := by
   apply List.ext_getElem
   ·simp
   ·intro i h1 h2
    have hi : i < z.length := by simpa using h1
    simp [Nat.mod_eq_of_lt hi, hi]
  have e2 : (List.range (n * z.length)).map ((fun i => z.toArray[i % z.toArray.size]!) ∘ fun i => z.length + i) = (List.range (n * z.length)).map fun i => z.toArray[i % z.toArray.size]! := by
   apply List.map_congr_left
   intro i _
   simp [Function.comp]
  rw [e1, e2, ih]; rfl
theorem ed (z : List At) : ∀ n, (aS z n).map At.den = lC (z.map At.den) n
 | 0 => rfl
 | n + 1 => by simp [aS, lC, ed z n]
theorem di {z : List At} : ∀ {n : Nat} {a : At}, a ∈ aS z n → a ∈ z
 | 0, a, h => by simp [aS] at h
 | n + 1, a, h => by
  simp only [aS, List.mem_append] at h
  exact h.elim id di
theorem dE (hok : s.Ok) {place : Nat → Option (Nat × Nat)} : ∀ {parts : List (Nat × Operand)} {cells out : List At} {cs : List Ck}, bB s gl place parts cells = some (out, cs) →
  (∀ a, a ∈ cells → a.ok) → ∀ a, a ∈ out → a.ok
 | [], cells, out, cs, h, hc => by simp only [bB, Option.some.injEq, Prod.mk.injEq] at h; rw [← h.1]; exact hc
 | (i, x) :: r, cells, out, cs, h, hc => by
  simp only [bB] at h
  split at h
  ·rename_i off size v c hp hx
   split at h
   ·simp only [Option.map_eq_some_iff] at h
    obtain ⟨⟨cs', c'⟩, hr, he⟩ := h
    simp only [Prod.mk.injEq] at he
    obtain ⟨rfl, rfl⟩ := he
    refine dE hok hr ?_
    intro a ha
    simp only [cw, List.mem_append] at ha
    rcases ha with (ha | ha) | ha
    ·exact hc a (List.mem_of_mem_take ha)
    ·exact cn hok hx a ha
    ·exact hc a (List.mem_of_mem_drop ha)
   ·simp at h
  ·simp at h
theorem io : ∀ {l : List Nat}, uh l = true → l.Nodup
 | [], _ => by simp
 | n :: r, h => by
  simp only [uh, Bool.and_eq_true, Bool.not_eq_true', List.contains_eq_mem, decide_eq_false_iff_not] at h
  exact List.nodup_cons.2 ⟨h.1, io h.2⟩
theorem eu : ∀ {l : List Nat} {s : SS} {n : Nat}, (aI l s).mem n = if n ∈ l then none else s.mem n
 | [], s, n => by simp [aI]
 | m :: r, s, n => by
  rw [aI, eu]
  by_cases h : n ∈ r
  ·simp [h]
  ·by_cases e : n = m <;> simp [h, e, SS.setBox]
theorem bI : ∀ {l : List Nat} {s : SS}, (aI l s).tmps = s.tmps ∧ (aI l s).sz = s.sz
 | [], _ => ⟨rfl, rfl⟩
 | m :: r, s => by rw [aI]; exact bI (l := r) (s := s.setBox m none)
theorem dD : ∀ {l : List (Nat × Bx)} {css : List (List Value)} {s : SS}, (bj l css s).tmps = s.tmps ∧ (bj l css s).sz = s.sz
 | [], _, _ => by simp [bj]
 | _ :: _, [], _ => by simp [bj]
 | (n, b) :: r, vs :: vss, s => by rw [bj]; exact dD (l := r)
theorem sA {s : SS} (h : s.Ok) (l : List Nat) : (aI l s).Ok := by
 refine ⟨by rw [bI.1]; exact h.1, fun n b hb => ?_⟩
 rw [eu] at hb
 split at hb
 ·simp at hb
 ·exact h.2 n b hb
theorem lG : ∀ {l : List (Nat × Bx)} {css : List (List Value)} {s : SS}, s.Ok → xO (l.map (·.2.bv)) css → (bj l css s).Ok
 | [], _, _, h, _ => by simpa [bj] using h
 | _ :: _, [], _, h, _ => by simpa [bj] using h
 | (n, b) :: r, vs :: vss, s, h, hf => by
  rw [bj]
  refine lG (h.setBox n ?_) hf.2.2
  rintro b' hb' a ha
  simp only [Option.some.injEq] at hb'; subst hb'
  have hl : vs.length = b.cs.length := by have := hf.1; simpa [Bx.bv] using this
  exact eT (by omega) hf.2.1 a ha
theorem nU : ∀ {l : List (Nat × Bx)} {s : SS} {L : Own}, Boxes s.mem L → (∀ p, p ∈ l → s.mem p.1 = some p.2) → (l.map (·.1)).Nodup → (∀ p, p ∈ l → p.2.cs.all At.known = true) →
  ∃ L', L.Perm (l.map (fun p => p.2.bv.obj) ++ L') ∧ Boxes (aI (l.map (·.1)) s).mem L'
 | [], s, L, h, _, _, _ => ⟨L, by simp, h⟩
 | (n, b) :: r, s, L, h, hm, hn, hk => by
  obtain ⟨vs, L1, hvs, hp, h1⟩ := h.take (hm (n, b) (by simp))
  simp only [List.map_cons, List.nodup_cons] at hn
  have hr : ∀ p, p ∈ r → (s.setBox n none).mem p.1 = some p.2 := by
   intro p hp'
   have : p.1 ≠ n := fun e => hn.1 (e ▸ List.mem_map_of_mem hp')
   simp only [SS.setBox, this, if_false]
   exact hm p (by simp [hp'])
  obtain ⟨L', hp2, h2⟩ := nU (s := s.setBox n none) (L := L1) h1 hr hn.2 (fun p hp' => hk p (by simp [hp']))
  refine ⟨L', hp.trans ?_, by simpa [aI] using h2⟩
  have : vs = b.cs.map At.den := hvs.known (hk (n, b) (by simp))
  simp only [List.map_cons, List.cons_append]
  rw [this]
  exact List.Perm.cons _ hp2
theorem t6 : ∀ {l : List (Nat × Bx)} {css : List (List Value)} {s : SS} {i : Nat}, xO (l.map (·.2.bv)) (css.drop i) → pa i l css s = bj l (css.drop i) s
 | [], css, s, i, _ => by cases css.drop i <;> rfl
 | (n, b) :: r, css, s, i, h => by
  cases hd : css.drop i with
  | nil => rw [hd] at h; exact h.elim
  | cons v vs =>
   rw [hd] at h
   have hlt : i < css.length := by
    rcases Nat.lt_or_ge i css.length with h' | h'
    ·exact h'
    ·rw [List.drop_of_length_le h'] at hd; cases hd
   rw [List.drop_eq_getElem_cons hlt] at hd
   obtain ⟨rfl, hd2⟩ := List.cons.inj hd
   have hv : css.getD i [] = css[i] := by simp [List.getD, hlt]
   rw [pa, bj, ← hd2, t6 (l := r) (i := i + 1) (by rw [hd2]; exact h.2.2), hv]
theorem lH : ∀ {l : List (Nat × Bx)} {css : List (List Value)} {s : SS} {i : Nat}, (pa i l css s).tmps = s.tmps ∧ (pa i l css s).sz = s.sz
 | [], _, _, _ => ⟨rfl, rfl⟩
 | (n, b) :: r, css, s, i => by rw [pa]; exact lH (l := r)
theorem t5 : ∀ {l : List (Nat × Bx)} {css : List (List Value)} {s : SS} {L : Own}, Boxes s.mem L → (∀ p, p ∈ l → s.mem p.1 = none) → (l.map (·.1)).Nodup → xO (l.map (·.2.bv)) css →
  ∃ L', L'.Perm ((gP (l.map (·.2.bv)) css).map BV.obj ++ L) ∧ Boxes (bj l css s).mem L'
 | [], css, s, L, h, _, _, _ => by cases css <;> exact ⟨L, by simp [gP], by simpa [bj] using h⟩
 | (n, b) :: r, [], s, L, h, _, _, hf => by simp [xO] at hf
 | (n, b) :: r, vs :: vss, s, L, h, hm, hn, hf => by
  simp only [List.map_cons, List.nodup_cons] at hn
  have hl : vs.length = b.cs.length := by have := hf.1; simpa [Bx.bv] using this
  have h1 := h.put (n := n) (b := { b with cs := atsFrom vs 0 b.cs.length }) (vs := vs) (hm (n, b) (by simp)) (CellsRel.atsFrom hl)
  obtain ⟨L', hp, h2⟩ := t5 (l := r) (css := vss) (s := s.setBox n (some { b with cs := atsFrom vs 0 b.cs.length })) h1 (by
   intro p hp'
   have : p.1 ≠ n := fun e => hn.1 (e ▸ List.mem_map_of_mem hp')
   simp only [SS.setBox, this, if_false]
   exact hm p (by simp [hp'])) hn.2 hf.2.2
  refine ⟨L', hp.trans ?_, by simpa [bj] using h2⟩
  simp only [List.map_cons, gP, List.cons_append]
  exact List.perm_middle
theorem eH {s : SS} {l : List Nat} : ∀ p, p ∈ cG s l → s.mem p.1 = some p.2 := by
 intro p hp
 simp only [cG, List.mem_filterMap, Option.map_eq_some_iff] at hp
 obtain ⟨n, _, b, hb, rfl⟩ := hp
 exact hb
theorem jc : ∀ {l : List BV} {w : World} {H : Heap} {O : Own}, Models w H (l.map BV.obj ++ O) → Models w (H.insAll l) O ∧ Heap.le H (H.insAll l)
 | [], w, H, O, h => ⟨by simpa [Heap.insAll] using h, Heap.le_refl H⟩
 | b :: r, w, H, O, h => by
  simp only [List.map_cons, List.cons_append] at h
  have hf : Models w (H.ins b.r b.obj.2) (r.map BV.obj ++ O) := Models.freeze h
  have hle : Heap.le H (H.ins b.r b.obj.2) := (Ghost.freeze H b.r b.obj.2 [] w (r.map BV.obj ++ O) h).2
  obtain ⟨h1, h2⟩ := jc hf
  exact ⟨h1, Heap.le_trans hle h2⟩
theorem lO {vs : List Value} (ho : Ones vs) : ∀ {l : List (Option Nat)} {i : Nat}, i + Shp.count (.tup l) ≤ vs.length → ∀ x, x ∈ Shp.svList vs i l → x.ok
 | [], i, _, x, hx => by simp [Shp.svList] at hx
 | none :: r, i, h, x, hx => by
  simp only [Shp.count, List.foldr_cons, Option.getD_none] at h
  simp only [Shp.svList, List.mem_cons] at hx
  rcases hx with rfl | hx
  ·exact b6 (ho.get i (by omega))
  ·exact lO ho (l := r) (i := i + 1) (by simp only [Shp.count]; omega) x hx
 | some m :: r, i, h, x, hx => by
  simp only [Shp.count, List.foldr_cons, Option.getD_some] at h
  simp only [Shp.svList, List.mem_cons] at hx
  rcases hx with rfl | hx
  ·exact eT (by omega) ho
  ·exact lO ho (l := r) (i := i + m) (by simp only [Shp.count]; omega) x hx
theorem fk : ∀ {l : List (Option Nat)} {xs vs pre : List Value}, Shp.openList l xs = some vs →
  vs.length = Shp.count (.tup l) ∧ (Shp.svList (pre ++ vs) pre.length l).map S1.den = xs
 | [], [], vs, pre, h => by simp only [Shp.openList, Option.some.injEq] at h; subst h; simp [Shp.count, Shp.svList]
 | [], _ :: _, vs, pre, h => by simp [Shp.openList] at h
 | none :: r, [], vs, pre, h => by simp [Shp.openList] at h
 | none :: r, v :: xs, vs, pre, h => by
  simp only [Shp.openList, Option.map_eq_some_iff] at h
  obtain ⟨us, hu, rfl⟩ := h
  obtain ⟨h1, h2⟩ := fk (pre := pre ++ [v]) hu
  refine ⟨?_, ?_⟩
  ·simp only [Shp.count, List.foldr_cons, Option.getD_none, List.length_cons] at h1 ⊢; omega
  ·simp only [Shp.svList, List.map_cons]
   have e : pre ++ v :: us = pre ++ [v] ++ us := by simp
   have : g (pre ++ v :: us) pre.length = v := by simp [g]
   rw [S1.den, At.den, this, e]
   have hl : (pre ++ [v]).length = pre.length + 1 := by simp
   rw [← hl, h2]
 | some m :: r, [], vs, pre, h => by simp [Shp.openList] at h
 | some m :: r, v :: xs, vs, pre, h => by
  cases v with
  | agg cs =>
   simp only [Shp.openList] at h
   split at h
   ·rename_i hsz
    simp only [Option.map_eq_some_iff] at h
    obtain ⟨us, hu, rfl⟩ := h
    obtain ⟨h1, h2⟩ := fk (pre := pre ++ cs.toList) hu
    have hl : (pre ++ cs.toList).length = pre.length + m := by simp [hsz]
    refine ⟨?_, ?_⟩
    ·simp only [Shp.count, List.foldr_cons, Option.getD_some, List.length_append, Array.length_toList] at h1 ⊢
     omega
    ·simp only [Shp.svList, List.map_cons]
     rw [← hl, ← List.append_assoc, h2]
     congr 1
     simp only [S1.den, Value.agg.injEq]
     rw [nO]
     apply Array.ext'
     simp only [List.toList_toArray, List.map_map]
     apply List.ext_getElem
     ·simp [hsz]
     ·intro i hi1 hi2
      have hi : i < cs.size := by simpa using hi2
      have hlt : ¬ (pre.length + i < pre.length) := by omega
      simp [At.den, g, List.getElem?_append, hi, hlt]
   ·simp at h
  | _ => simp [Shp.openList] at h
theorem uc {shp : Shp} {v : Value} {vs : List Value} (h : shp.open v = some vs) (ho : Ones vs) : (shp.sv vs).rel v ∧ (shp.sv vs).ok := by
 cases shp with
 | one =>
  simp only [Shp.open, Option.some.injEq] at h; subst h
  exact ⟨rfl, b6 ho.1⟩
 | agg m =>
  cases v with
  | agg cs =>
   simp only [Shp.open] at h
   split at h
   ·rename_i hsz
    simp only [Option.some.injEq] at h; subst h
    refine ⟨?_, eT (by simp [hsz]) ho⟩
    show _ = Value.agg ((atsFrom cs.toList 0 m).map At.den).toArray
    rw [mK (by simp [hsz])]
   ·simp at h
  | _ => simp [Shp.open] at h
 | tup l =>
  cases v with
  | tuple xs =>
   simp only [Shp.open] at h
   obtain ⟨h1, h2⟩ := fk (pre := []) h
   refine ⟨?_, lO ho (l := l) (i := 0) (by omega)⟩
   show _ = Value.tuple ((Shp.svList vs 0 l).map S1.den).toArray
   have h2' : (Shp.svList vs 0 l).map S1.den = xs.toList := by simpa using h2
   rw [h2']
  | _ => simp [Shp.open] at h
theorem rA {hk : HK} {frz own : List (Nat × Bx)} {shp : Shp} {post : List Value → List Ck} {cs : List Ck} {sv : List Value → SV} (hg : am (aA ops) s o = .go []) (hd : ∀ d, o.dst = some d → d < s.sz)
  (hfrz : ∀ p, p ∈ frz ++ own → s.mem p.1 = some p.2) (hnd : ((frz ++ own).map (·.1)).Nodup) (hkn : ∀ p, p ∈ frz ++ own → p.2.cs.all At.known = true)
  (hsv : ∀ v vs, s.Ok → shp.open v = some vs → Ones vs → AllCk (post vs) → (sv vs).rel v ∧ (sv vs).ok)
  (hex : ∀ F H O a w, Conc F s H O a w → AllCk cs → ∀ H1 O1 R, hk.T P H1 O1 R → ∀ F1, Models w H1 (O1 ++ F1) → ∀ (next : Act → World → Prop) (Q : Exit → Act → World → Prop),
   (∀ v w' H' O', R v H' O' → Heap.le H1 H' → Models w' H' (O' ++ F1) → next (a.put o.dst v) w') → o.wp P a w next Q) :
  Sound P ops o s (.hv cs hk frz own shp post sv) := by
 intro F H O a w d K Q hc hr
 obtain ⟨hcs, hr⟩ := hr
 unfold wp1
 rw [if_pos ((dc hc hg).2 trivial)]
 refine .inl ?_
 obtain ⟨L, hL, hmod⟩ := hc.mm
 obtain ⟨L', hp, hL'⟩ := nU hL hfrz hnd hkn
 have hm0 : Models w H ((frz.map (·.2.bv)).map BV.obj ++ ((own.map (·.2.bv)).map BV.obj ++ (L' ++ (O ++ F)))) := by
  refine hmod.perm ((hp.append_right _).trans (List.Perm.of_eq ?_))
  simp [List.map_map, Function.comp_def]
 obtain ⟨H1, O1, O2, R, hgh, hT, hk'⟩ := hr ⟨w, L' ++ F, hm0.perm (by
  rw [List.append_assoc, List.append_assoc]
  exact List.Perm.append_left _ (List.Perm.append_left _ (List.perm_append_comm_assoc _ _ _))) ⟩
 obtain ⟨hm1, hle1⟩ := jc hm0
 have hgh' : Ghost (H.insAll (frz.map (·.2.bv))) O H1 (O1 ++ O2) := by
  split at hgh
  ·obtain ⟨rfl, ⟨rfl, rfl⟩ | ⟨_, rfl, rfl, _⟩⟩ := hgh
   ·exact Ghost.refl _ _
   ·rw [List.append_nil]; exact Ghost.refl _ _
  ·exact hgh
 have hm2 : Models w (H.insAll (frz.map (·.2.bv))) (O ++ ((own.map (·.2.bv)).map BV.obj ++ (L' ++ F))) := by
  refine hm1.perm ?_
  exact (List.Perm.append_left _ (List.perm_append_comm_assoc _ _ _)).trans (List.perm_append_comm_assoc _ _ _)
 obtain ⟨hm3, hle2⟩ := hgh' w _ hm2
 have hm4 : Models w H1 (((own.map (·.2.bv)).map BV.obj ++ O1) ++ (O2 ++ (L' ++ F))) := by
  refine hm3.perm ?_
  rw [List.append_assoc, List.append_assoc]
  exact (List.Perm.append_left _ (List.perm_append_comm_assoc _ _ _)).trans (List.perm_append_comm_assoc _ _ _)
 refine hex F H O a w hc hcs H1 _ R hT _ hm4 _ Q ?_
 intro v w' H' O' hR hle3 hm5
 obtain ⟨vs, css, O3, hop, hones, hfits, rfl, hpost, hK⟩ := hk' v H' O' hR hle3
 obtain ⟨hrel, hok⟩ := hsv v vs hc.ok hop hones hpost
 have hmemNone : ∀ p, p ∈ own → (aI ((frz ++ own).map (·.1)) s).mem p.1 = none := by
  intro p hp'
  rw [eu, if_pos (List.mem_map_of_mem (by simp [hp']))]
 have hndo : (own.map (·.1)).Nodup := by
  rw [List.map_append] at hnd; exact (List.nodup_append.1 hnd).2.1
 obtain ⟨L'', hp'', hL''⟩ := t5 (css := css) hL' hmemNone hndo hfits
 have hconc : Conc F (bj own css (aI ((frz ++ own).map (·.1)) s)) H' (O3 ++ O2) a w' := by
  refine ⟨lG (sA hc.ok _) hfits, hc.df, ?_, ?_, L'', hL'', ?_⟩
  ·rw [dD.2, bI.2]; exact hc.sz
  ·rw [dD.1, bI.1]; exact hc.tm
  ·refine hm5.perm (List.Perm.trans ?_ (hp''.symm.append_right _))
   rw [List.append_assoc, List.append_assoc, ← List.append_assoc O3]
   exact List.Perm.append_left _ (List.perm_append_comm_assoc _ _ _)
 have hpb : pa 0 own css (aI ((frz ++ own).map (·.1)) s) = bj own css (aI ((frz ++ own).map (·.1)) s) := t6 (i := 0) hfits
 rw [fw, hpb] at hK
 refine ⟨_, H', O3 ++ O2, hconc.put ?_ hrel hok, Heap.le_trans hle1 (Heap.le_trans hle2 hle3), hK⟩
 intro d' hd'
 rw [dD.2, bI.2]; exact hd d' hd'
variable {P : Program} {ops : Array Oper} {o : Oper} {s : SS} {gl : List (At × Bool)}
theorem au {v : S1} {cs : List Ck} {x : NF} {fp : FP} (hg : am (aA ops) s o = .go gl) (hd : ∀ d, o.dst = some d → d < s.sz) (h : aU gl o.dst v cs = some (x, fp))
  (hok : s.Ok → AllCk cs → v.ok) (hrun : ∀ F H O a w, Conc F s H O a w → AllCk cs → On (eo gl) → (execOp a.eval o).run P w = .ok (.value v.den) w) : Sound P ops o s x := by
 simp only [aU, Option.some.injEq, Prod.mk.injEq] at h
 rw [← h.1]
 exact aG (X := fun _ => v) hg hd (fun _ _ _ h1 h2 _ => hok h1 h2) (fun F H O a w _ hc hcs _ hon => hrun F H O a w hc hcs hon)
theorem fG {name : Nat} {T : TypeId} {cells : List At} {val : Nat → At} {cs : List Ck} {x : NF} {fp : FP} (hg : am (aA ops) s o = .go gl) (hd : ∀ d, o.dst = some d → d < s.sz)
  (h : eK s gl o.dst name T cells val cs = some (x, fp)) (hv : ∀ r, (val r).ok) (hvk : ∀ r, (val r).known = true) (hcells : s.Ok → ∀ a, a ∈ cells → a.ok)
  (hrun : ∀ F H O a w, Conc F s H O a w → AllCk cs → gl = [] → ∃ vs : List Value, CellsRel cells vs ∧
   (execOp a.eval o).run P w = .ok (.value (val w.heap.size).den) { w with heap := w.heap.push (.cells vs.toArray T (0, 0)) }) : Sound P ops o s x := by
 unfold eK at h
 split at h
 ·rename_i hcond
  simp only [Bool.and_eq_true, Option.isNone_iff_eq_none, List.isEmpty_iff] at hcond
  simp only [Option.some.injEq, Prod.mk.injEq] at h
  rw [← h.1]
  obtain ⟨rfl, hn⟩ := hcond
  exact tK hg hd hn hv hvk hcells (fun F H O a w hc hcs => hrun F H O a w hc hcs rfl)
 ·simp at h
theorem bp {dst : Option Tmp} {shp : Shp} {hk : HK} {atoms : List At} {cs : List Ck} {x : NF} {fp : FP} (hdst : dst = o.dst) (hg : am (aA ops) s o = .go []) (hd : ∀ d, o.dst = some d → d < s.sz)
  (h : bg s dst shp hk atoms cs = some (x, fp))
  (hex : ∀ F H O a w, Conc F s H O a w → AllCk cs → ∀ H1 O1 R, hk.T P H1 O1 R → ∀ F1, Models w H1 (O1 ++ F1) → ∀ (next : Act → World → Prop) (Q : Exit → Act → World → Prop),
   (∀ v w' H' O', R v H' O' → Heap.le H1 H' → Models w' H' (O' ++ F1) → next (a.put o.dst v) w') → o.wp P a w next Q) : Sound P ops o s x := by
 subst hdst
 unfold bg at h
 simp only [] at h
 split at h
 ·rename_i hcond
  simp only [Bool.and_eq_true] at hcond
  simp only [Option.some.injEq, Prod.mk.injEq] at h
  rw [← h.1]
  refine rA (sv := shp.sv) hg hd ?_ (io hcond.2) ?_ (fun v vs _ ho hn _ => uc ho hn) hex
  ·intro p hp
   rcases List.mem_append.1 hp with hp | hp
   ·exact eH p hp
   ·exact eH p hp
  ·intro p hp
   have := hcond.1
   rw [List.all_eq_true] at this
   exact this p hp
 ·simp at h
theorem kO {a : Act} {w : World} {f : FuncId} {args : List Value} {H1 : Heap} {O1 F1 : Own} {R : Value → Heap → Own → Prop} {next : Act → World → Prop} {Q : Exit → Act → World → Prop}
  (hT : Triple P f args H1 O1 R) (hm : Models w H1 (O1 ++ F1)) (hrun : (execOp a.eval o).run P w = .ok (.enter f args.toArray) w)
  (hn : ∀ v w' H' O', R v H' O' → Heap.le H1 H' → Models w' H' (O' ++ F1) → next (a.put o.dst v) w') : o.wp P a w next Q := by
 unfold Oper.wp
 rw [hrun, Oper.upon_enter]
 exact (hT w F1 hm).mono fun e w' ⟨v, H', O', he, hR, hle, hm'⟩ => by subst he; exact hn v w' H' O' hR hle hm'
theorem jE {a : Act} {w : World} {sem : Sem Next} {H1 : Heap} {O1 F1 : Own} {R : Value → Heap → Own → Prop} {next : Act → World → Prop} {Q : Exit → Act → World → Prop}
  (hT : bJ P sem H1 O1 R) (hm : Models w H1 (O1 ++ F1)) (hrun : (execOp a.eval o).run P w = sem.run P w)
  (hn : ∀ v w' H' O', R v H' O' → Heap.le H1 H' → Models w' H' (O' ++ F1) → next (a.put o.dst v) w') : o.wp P a w next Q := by
 unfold Oper.wp
 obtain ⟨v, w', H', O', hr, hR, hle, hm'⟩ := hT w F1 hm
 rw [hrun, hr, Oper.upon_value]
 exact hn v w' H' O' hR hle hm'
theorem kn {f : FuncId} (h : fN P f) (args : Array Value) (w : World) : (callFunc f args).run P w = .ok (.enter f args) w := by
 obtain ⟨fn, h1, h2, h3⟩ := h
 simp only [callFunc, Sem.run_bind, run_program, Result.andThen_ok, h1, h2, h3, Bool.false_eq_true, if_false]
 rfl
theorem lc {c : Call} {f : Operand} {n : FuncId} {caps : Array Value} {a : Act} (hop : o.op = .call c) (hcal : c.callee = .value f) (hf : a.eval f = .func (.func n) #[] caps) (hok : fN P n) (w : World) :
  (execOp a.eval o).run P w = .ok (.enter n (c.args.map a.eval ++ caps)) w := by
 simp only [execOp, hop, resolve, hcal, hf, Deferred.ofValue, Sem.run_bind, Sem.run_pure, Result.andThen_ok, invoke, Array.empty_append, kn hok]
theorem vD {c : Call} {x : Operand} {m : String} {f : FuncId} {v r : Value} {a : Act} (hop : o.op = .call c) (hcal : c.callee = .invoke x m) (hx : a.eval x = v) (hm : uT P m v f r) (hok : fN P f) (w : World) :
  (execOp a.eval o).run P w = .ok (.enter f (#[r] ++ c.args.map a.eval)) w := by
 obtain ⟨t, y, rfl, hr⟩ := hm
 have e0 : (#[Value.iface t y] ++ c.args.map a.eval)[0]? = some (.iface t y) := by
  rw [Array.getElem?_append_left (by simp)]; rfl
 have e1 : (#[Value.iface t y] ++ c.args.map a.eval).extract 1 (#[Value.iface t y] ++ c.args.map a.eval).size = c.args.map a.eval := by
  apply Array.ext'
  rw [Array.toList_extract, Array.toList_append, List.extract, List.take_of_length_le (by simp)]
  rfl
 simp only [execOp, hop, resolve, hcal, hx, Sem.run_bind, Sem.run_pure, Result.andThen_ok, invoke, e0, e1, callMethod, run_program, hr, kn hok]
theorem lM {s : SS} {gl : List (At × Bool)} {x y : Operand} {as : List At} {cs : List Ck} (h : bF s gl [x, y] = some (as, cs)) : ∃ a b, as = [a, b] := by
 simp only [bF] at h
 split at h
 ·rename_i a c as' cs' h1 h2
  simp only [Option.some.injEq, Prod.mk.injEq] at h
  split at h2
  ·rename_i b c2 as2 cs2 h3 h4
   simp only [Option.some.injEq, Prod.mk.injEq] at h2 h4
   exact ⟨a, b, by rw [← h.1, ← h2.1, ← h4.1]⟩
  ·simp at h2
 ·simp at h
theorem kU {F : Own} {H : Heap} {O : Own} {a : Act} {w : World} (h : Conc F s H O a w) {x y : Operand} {x' y' : At} {cs : List Ck}
  (hx : bF s gl [x, y] = some ([x', y'], cs)) (hc : AllCk cs) (ho : On (eo gl)) : a.eval x = x'.den ∧ a.eval y = y'.den := by
 have := bz h hx hc ho
 simpa using this
theorem lU {x : At} {n : Nat} {a : At} {c : List Ck} (h : rO gl x n = some (a, c)) : (AllCk c → x.ok → a.ok) ∧
  (AllCk c → On (eo gl) → ∃ ad, x.den = .pointer (some ad) ∧ a.den = .pointer (some (ad.add n))) := by
 have hp : ∀ y : Value, qd y = true → ∃ ad, y = .pointer (some ad) := by
  intro y hy
  unfold qd at hy; split at hy
  ·exact ⟨_, rfl⟩
  ·simp at hy
 have hadd0 : ∀ ad : Addr, ad.add 0 = ad := fun ad => by simp [Addr.add]
 cases x <;> simp only [rO] at h
 case p n' r off =>
  simp only [Option.some.injEq, Prod.mk.injEq] at h
  obtain ⟨rfl, rfl⟩ := h
  exact ⟨fun _ _ => trivial, fun _ _ => ⟨⟨r, off, none⟩, rfl, by rw [aT]; rfl⟩⟩
 case px y off =>
  simp only [Option.some.injEq, Prod.mk.injEq] at h
  obtain ⟨rfl, rfl⟩ := h
  refine ⟨fun _ _ => trivial, fun hc ho => ?_⟩
  obtain ⟨ad, rfl⟩ := hp y (hc.1 ho)
  exact ⟨ad.add off, rfl, by simp [At.den, dj, mO]⟩
 case v y =>
  simp only [Option.some.injEq, Prod.mk.injEq] at h
  obtain ⟨rfl, rfl⟩ := h
  refine ⟨fun hc ho => ?_, fun hc ho => ?_⟩
  ·split
   ·exact ho
   ·split
    ·rename_i he
     have : gl = [] := by simpa using he
     subst this
     obtain ⟨ad, rfl⟩ := hp y (hc.1 trivial)
     rfl
    ·trivial
  ·obtain ⟨ad, rfl⟩ := hp y (hc.1 ho)
   refine ⟨ad, rfl, ?_⟩
   split
   ·rename_i h0; subst h0; rw [hadd0]; rfl
   ·split <;> rfl
 case k y =>
  simp only [Option.some.injEq, Prod.mk.injEq] at h
  obtain ⟨rfl, rfl⟩ := h
  refine ⟨fun hc ho => ?_, fun hc ho => ?_⟩
  ·split
   ·exact ho
   ·split
    ·rename_i he
     have : gl = [] := by simpa using he
     subst this
     obtain ⟨ad, rfl⟩ := hp y (hc.1 trivial)
     rfl
    ·trivial
  ·obtain ⟨ad, rfl⟩ := hp y (hc.1 ho)
   refine ⟨ad, rfl, ?_⟩
   split
   ·rename_i h0; subst h0; rw [hadd0]; rfl
   ·split <;> rfl
 all_goals simp at h
theorem dG {i : At} {n : Nat} (h : de i = some n) : ∃ k, i.den = .int k n := by
 unfold de at h
 split at h
 ·rename_i k m
  split at h
  ·rename_i h0
   simp only [Option.some.injEq] at h
   exact ⟨k, by simp [At.den]; omega⟩
  ·simp at h
 ·simp at h
theorem mi {t : TypeId} {x i : Operand} {x' i' : At} {cs : List Ck} {y : NF} {fp : FP} (hop : o.op = .indexAddr t x i) (hx : bF s gl [x, i] = some ([x', i'], cs))
    (hg : am (aA ops) s o = .go gl) (hd : ∀ d, o.dst = some d → d < s.sz) (h : ir P gl o.dst t x' i' cs = some (y, fp)) : Sound P ops o s y := by
  have hok := fun hs : s.Ok => kQ hs hx
  have ev := fun {F H O a w} (hc : Conc F s H O a w) (hcs : AllCk cs) (hon : On (eo gl)) => kU hc hx hcs hon
  unfold ir at h
  split at h
  · rename_i len elem hu
    cases hs : dY P elem with
    | none => simp [hs] at h
    | some size =>
      simp only [hs, Option.bind_some] at h
      have harr : ∀ {ad : Addr} {k : IntKind} {n : Int}, 0 ≤ n ∧ n < len → ∀ w, (Instr.indexAt t (.pointer (some ad)) (.int k n)).run P w = .ok (.pointer (some (ad.add (n.toNat * size)))) w :=
        fun hb w => rB hu hs (by simp [gR, hb]) w
      split at h
      · rename_i n hn
        split at h
        · rename_i hlt
          simp only [Option.map_eq_some_iff, Prod.mk.injEq] at h
          obtain ⟨⟨a', c⟩, hm, rfl, _⟩ := h
          obtain ⟨h1, h2⟩ := lU hm
          refine aG (X := fun _ => .at a') hg hd ?_ ?_
          · intro H O vs hs' hc _
            rw [AllCk.append] at hc
            exact b6 (h1 hc.1 (hok hs' x' (by simp)))
          · intro F H O a w vs hc hcs _ hon
            rw [AllCk.append] at hcs
            obtain ⟨e1, e2⟩ := ev hc hcs.2 hon
            obtain ⟨ad, hx', ha'⟩ := h2 hcs.1 hon
            obtain ⟨k, hk⟩ := dG hn
            simp only [execOp, hop, e1, e2, hx', hk, Sem.run_bind, harr (ad := ad) (k := k) (n := n) (by omega), Result.andThen_ok, Sem.run_pure, S1.den, ha', Int.toNat_natCast]
        · simp at h
      · split at h
        · rename_i n r off
          split at h
          · rename_i hcond
            simp only [Bool.and_eq_true, List.isEmpty_iff, decide_eq_true_eq] at hcond
            obtain ⟨rfl, _⟩ := hcond
            simp only [Option.some.injEq, Prod.mk.injEq] at h
            obtain ⟨rfl, _⟩ := h
            refine aG (gl := []) (X := fun vs => .at (.p n r (off + (match g vs 0 with | .int _ n => n.toNat | _ => 0) * size))) hg hd (fun _ _ _ _ _ _ => b6 trivial) ?_
            rintro F H O a w vs hc hcs ⟨kd, j, hj, h0, h1, rfl⟩ hon
            obtain ⟨e1, e2⟩ := ev hc hcs hon
            have e1' : a.eval x = .pointer (some ⟨r, off, none⟩) := e1
            simp only [execOp, hop, e1', e2, hj, Sem.run_bind, harr (ad := ⟨r, off, none⟩) (k := kd) (n := j) ⟨h0, h1⟩, Result.andThen_ok, Sem.run_pure, S1.den, aT]
            rfl
          · simp at h
        all_goals first
          | (simp at h; done)
          | (split at h
             · simp at h
             · simp only [Option.some.injEq, Prod.mk.injEq] at h
               obtain ⟨rfl, _⟩ := h
               refine az hg hd (by simp) ?_
               intro F H O a w v hc hcs hon he
               obtain ⟨e1, e2⟩ := ev hc hcs hon
               simp only [List.map_cons, List.map_nil, ae] at he
               simp only [execOp, hop, e1, e2, Sem.run_bind, rB hu hs he, Result.andThen_ok, Sem.run_pure])
  · rename_i elem hu
    cases hs : dY P elem with
    | none => simp [hs] at h
    | some size =>
      simp only [hs, Option.bind_some] at h
      have gen : ∀ {y fp}, some (bQ gl false o.dst (.idx size) [x', i'] cs, ({} : FP)) = some (y, fp) → Sound P ops o s y := by
        intro y fp h
        simp only [Option.some.injEq, Prod.mk.injEq] at h
        obtain ⟨rfl, _⟩ := h
        refine az hg hd (by simp) ?_
        intro F H O a w v hc hcs hon he
        obtain ⟨e1, e2⟩ := ev hc hcs hon
        simp only [List.map_cons, List.map_nil, ae] at he
        simp only [execOp, hop, e1, e2, Sem.run_bind, tR hu hs he, Result.andThen_ok, Sem.run_pure]
      split at h
      · rename_i n r off len c k hk
        split at h
        · rename_i hlt
          simp only [Option.some.injEq, Prod.mk.injEq] at h
          obtain ⟨rfl, _⟩ := h
          refine aG (X := fun _ => .at (.p n r (off + k * size))) hg hd (fun _ _ _ _ _ _ => b6 trivial) ?_
          intro F H O a w vs hc hcs _ hon
          obtain ⟨e1, e2⟩ := ev hc hcs hon
          obtain ⟨kd, hkd⟩ := dG hk
          have : (Instr.indexAt t (.slice (some ⟨r, off, none⟩) len c) (.int kd k)).run P w = .ok (.pointer (some ⟨r, off + k * size, none⟩)) w :=
            tR hu hs (by simp [fD, hlt, aT]) w
          have e1' : a.eval x = .slice (some ⟨r, off, none⟩) len c := e1
          simp only [execOp, hop, e1', e2, hkd, Sem.run_bind, this, Result.andThen_ok, Sem.run_pure]
          rfl
        · simp at h
      · exact gen h
  · simp at h

theorem og {F : Own} {H : Heap} {O : Own} {a : Act} {w : World} (h : Conc F s H O a w) {x : Option Operand} {l : List At} {cs : List Ck}
  (hx : bF s gl x.toList = some (l, cs)) (hc : AllCk cs) (ho : On (eo gl)) : x.map a.eval = l.head?.map At.den ∧ (l.head?.isSome = x.isSome) ∧ l = l.head?.toList := by
 have hd := bz h hx hc ho
 cases x with
 | none =>
  simp only [Option.toList, bF, Option.some.injEq, Prod.mk.injEq] at hx
  rw [← hx.1]; simp
 | some y =>
  simp only [Option.toList, List.map_cons, List.map_nil] at hd
  match l, hd with
  | [b], hd => simp at hd; simp [hd]
  | [], hd => simp at hd
  | _ :: _ :: _, hd => simp at hd
theorem tA (lo hi mx : Option Value) : d6 [lo.isSome, hi.isSome, mx.isSome] (lo.toList ++ hi.toList ++ mx.toList) = [lo, hi, mx] := by
 cases lo <;> cases hi <;> cases mx <;> rfl
theorem tB (lo hi : Option Value) : d6 [lo.isSome, hi.isSome] (lo.toList ++ hi.toList ++ []) = [lo, hi] := by
 cases lo <;> cases hi <;> rfl
theorem nu (x : Option At) : x.toList.map At.den = (x.map At.den).toList := by cases x <;> rfl
theorem dM {x : Option At} {d n y : Nat} (h : (x.map de).getD (some d) = some n) (hy : n ≤ y) : bq (x.map At.den) y d = some n ∧ cO (x.map At.den) false y d = some n := by
 cases x with
 | none => simpa [bq, cO] using h
 | some a =>
  simp only [Option.map_some, Option.getD_some] at h
  obtain ⟨k, hk⟩ := dG h
  simp [hk, bq, cO, nN, asI, hy]
theorem qI {t : TypeId} {x : Operand} {lo hi mx : Option Operand} {x' : At} {l h' m : List At} {c0 c1 c2 c3 : List Ck} {y : NF} {fp : FP} (hop : o.op = .slice t x lo hi mx)
  (h0 : dp s gl x = some (x', c0)) (h1 : bF s gl lo.toList = some (l, c1)) (h2 : bF s gl hi.toList = some (h', c2)) (h3 : bF s gl mx.toList = some (m, c3))
  (hg : am (aA ops) s o = .go gl) (hd : ∀ d, o.dst = some d → d < s.sz) (h : qJ P gl o.dst t x' l.head? h'.head? m.head? (c0 ++ c1 ++ c2 ++ c3) = some (y, fp)) : Sound P ops o s y := by
 have ev : ∀ {F H O a w}, Conc F s H O a w → AllCk (c0 ++ c1 ++ c2 ++ c3) → On (eo gl) → a.eval x = x'.den ∧ lo.map a.eval = l.head?.map At.den ∧ hi.map a.eval = h'.head?.map At.den ∧ mx.map a.eval = m.head?.map At.den := by
  intro F H O a w hc hcs hon
  simp only [AllCk.append] at hcs
  exact ⟨ap hc h0 hcs.1.1.1 hon, (og hc h1 hcs.1.1.2 hon).1, (og hc h2 hcs.1.2 hon).1, (og hc h3 hcs.2 hon).1⟩
 generalize l.head? = lo' at h ev
 generalize h'.head? = hi' at h ev
 generalize m.head? = mx' at h ev
 unfold qJ at h
 simp only [] at h
 split at h
 ·rename_i hu
  split at h
  ·simp at h
  ·rename_i hmx
   simp only [Option.some.injEq, Prod.mk.injEq] at h
   obtain ⟨rfl, _⟩ := h
   have hmx' : mx' = none := by cases mx' <;> simp_all
   subst hmx'
   refine az hg hd (by simp) ?_
   intro F H O a w v hc hcs hon he
   obtain ⟨e0, e1, e2, e3⟩ := ev hc hcs hon
   simp only [List.map_cons, List.map_append, ae, nu, Option.toList_none, List.map_nil, List.append_nil] at he
   have hta := tB (lo'.map At.den) (hi'.map At.den)
   simp only [List.append_nil, Option.isSome_map] at hta
   rw [hta] at he
   simp only [Option.map_none] at e3
   simp only [execOp, hop, e0, e1, e2, e3, Sem.run_bind, vn hu he, Result.andThen_ok, Sem.run_pure]
 ·rename_i elem hu
  cases hs : dY P elem with
  | none => simp [hs] at h
  | some size =>
   simp only [hs, Option.bind_some] at h
   have gen : ∀ {y fp}, some (bQ gl false o.dst (.slc size lo'.isSome hi'.isSome mx'.isSome) (x' :: (lo'.toList ++ hi'.toList ++ mx'.toList)) (c0 ++ c1 ++ c2 ++ c3), ({} : FP)) = some (y, fp) → Sound P ops o s y := by
    intro y fp h
    simp only [Option.some.injEq, Prod.mk.injEq] at h
    obtain ⟨rfl, _⟩ := h
    refine az hg hd (by simp) ?_
    intro F H O a w v hc hcs hon he
    obtain ⟨e0, e1, e2, e3⟩ := ev hc hcs hon
    simp only [List.map_cons, List.map_append, ae, nu] at he
    have hta := tA (lo'.map At.den) (hi'.map At.den) (mx'.map At.den)
    simp only [Option.isSome_map] at hta
    rw [hta] at he
    simp only [execOp, hop, e0, e1, e2, e3, Sem.run_bind, tP hu hs he, Result.andThen_ok, Sem.run_pure]
   split at h
   ·rename_i l'' h'' n r off len cap
    split at h
    ·rename_i l3 h3' hl hh
     split at h
     ·rename_i hcond
      simp only [Bool.and_eq_true, decide_eq_true_eq] at hcond
      simp only [Option.some.injEq, Prod.mk.injEq] at h
      obtain ⟨rfl, _⟩ := h
      refine aG (X := fun _ => .at (.sl n r (if cap = l3 then off else off + l3 * size) (h3' - l3) (cap - l3))) hg hd (fun _ _ _ _ _ _ => b6 trivial) ?_
      intro F H O a w vs hc hcs _ hon
      obtain ⟨e0, e1, e2, e3⟩ := ev hc hcs hon
      have hb : iy size (.slice (some ⟨r, off, none⟩) len cap) (lo'.map At.den) (hi'.map At.den) none =
        some (.slice (if cap = l3 then some ⟨r, off, none⟩ else some ⟨r, off + l3 * size, none⟩) (h3' - l3) (cap - l3)) := by
       have b1 := (dM (x := hi') (d := len) (n := h3') (y := cap) hh hcond.2).2
       have b2 := (dM (x := lo') (d := 0) (n := l3) (y := h3') hl hcond.1).1
       have b3 : bY len cap (lo'.map At.den) (hi'.map At.den) none = some (l3, h3', cap) := by
        show ((cO (hi'.map At.den) false cap len).bind fun h => (bq (lo'.map At.den) h 0).bind fun l => some (l, h, cap)) = _
        rw [b1]; simp only [Option.bind_some]
        rw [b2]; rfl
       simp only [iy, b3, Option.map_some, aT]
      have e0' : a.eval x = .slice (some ⟨r, off, none⟩) len cap := e0
      simp only [Option.map_none] at e3
      simp only [execOp, hop, e0', e1, e2, e3, Sem.run_bind, tP hu hs hb, Result.andThen_ok, Sem.run_pure, S1.den, At.den]
      split <;> rfl
     ·simp at h
    ·exact gen h
   ·exact gen h
 ·rename_i len elem hu
  cases hs : dY P elem with
  | none => simp [hs] at h
  | some size =>
   simp only [hs, Option.bind_some] at h
   split at h
   ·rename_i l'' h'' n r off
    split at h
    ·rename_i l3 h3' hl hh
     split at h
     ·rename_i hcond
      simp only [Bool.and_eq_true, decide_eq_true_eq] at hcond
      simp only [Option.some.injEq, Prod.mk.injEq] at h
      obtain ⟨rfl, _⟩ := h
      refine aG (X := fun _ => .at (.sl n r (if len = l3 then off else off + l3 * size) (h3' - l3) (len - l3))) hg hd (fun _ _ _ _ _ _ => b6 trivial) ?_
      intro F H O a w vs hc hcs _ hon
      obtain ⟨e0, e1, e2, e3⟩ := ev hc hcs hon
      have hb : bY len len (lo'.map At.den) (hi'.map At.den) none = some (l3, h3', len) := by
       have b1 := (dM (x := hi') (d := len) (n := h3') (y := len) hh hcond.2).2
       have b2 := (dM (x := lo') (d := 0) (n := l3) (y := h3') hl hcond.1).1
       show ((bq none len len).bind fun m => (cO (hi'.map At.den) false m len).bind fun h => (bq (lo'.map At.den) h 0).bind fun l => some (l, h, m)) = _
       show ((cO (hi'.map At.den) false len len).bind fun h => (bq (lo'.map At.den) h 0).bind fun l => some (l, h, len)) = _
       rw [b1]; simp only [Option.bind_some]
       rw [b2]; rfl
      have e0' : a.eval x = .pointer (some ⟨r, off, none⟩) := e0
      simp only [Option.map_none] at e3
      simp only [execOp, hop, e0', e1, e2, e3, Sem.run_bind, pq hu hs hb, Result.andThen_ok, Sem.run_pure, S1.den, At.den]
      split <;> rfl
     ·simp at h
    ·simp at h
   ·rename_i l'' h'' r off
    split at h
    ·rename_i l3 h3' hl hh
     split at h
     ·rename_i hcond
      simp only [Bool.and_eq_true, decide_eq_true_eq] at hcond
      simp only [Option.some.injEq, Prod.mk.injEq] at h
      obtain ⟨rfl, _⟩ := h
      refine aG (X := fun _ => .at (.k (.slice (some ⟨r, if len = l3 then off else off + l3 * size, none⟩) (h3' - l3) (len - l3)))) hg hd (fun _ _ _ _ _ _ => b6 trivial) ?_
      intro F H O a w vs hc hcs _ hon
      obtain ⟨e0, e1, e2, e3⟩ := ev hc hcs hon
      have hb : bY len len (lo'.map At.den) (hi'.map At.den) none = some (l3, h3', len) := by
       have b1 := (dM (x := hi') (d := len) (n := h3') (y := len) hh hcond.2).2
       have b2 := (dM (x := lo') (d := 0) (n := l3) (y := h3') hl hcond.1).1
       show ((bq none len len).bind fun m => (cO (hi'.map At.den) false m len).bind fun h => (bq (lo'.map At.den) h 0).bind fun l => some (l, h, m)) = _
       show ((cO (hi'.map At.den) false len len).bind fun h => (bq (lo'.map At.den) h 0).bind fun l => some (l, h, len)) = _
       rw [b1]; simp only [Option.bind_some]
       rw [b2]; rfl
      have e0' : a.eval x = .pointer (some ⟨r, off, none⟩) := e0
      simp only [Option.map_none] at e3
      simp only [execOp, hop, e0', e1, e2, e3, Sem.run_bind, pq hu hs hb, Result.andThen_ok, Sem.run_pure, S1.den, At.den]
      split <;> rfl
     ·simp at h
    ·simp at h
   ·simp at h
 ·simp at h
variable {P : Program} {ops : Array Oper} {o : Oper} {s : SS} {gl : List (At × Bool)}
theorem nq {sp : Bool} {x : Operand} {y : NF} {fp : FP} (hrun : ∀ a : Act, ∀ w, (execOp a.eval o).run P w = .ok (.value (a.eval x)) w)
  (hg : am (aA ops) s o = .go gl) (hd : ∀ d, o.dst = some d → d < s.sz) (h : jb s gl o.dst sp x = some (y, fp)) : Sound P ops o s y := by
 have gen : ∀ {v : S1} {cs : List Ck}, gJ s gl x = some (v, cs) → aU gl o.dst v cs = some (y, fp) → Sound P ops o s y := by
  intro v cs hx h
  exact au hg hd h (fun hs _ => cn hs hx) (fun F H O a w hc hcs hon => by rw [hrun, b9 hc hx hcs hon])
 have gen' : ((gJ s gl x).bind fun (v, cs) => aU gl o.dst v cs) = some (y, fp) → Sound P ops o s y := by
  intro h
  simp only [Option.bind_eq_some_iff] at h
  obtain ⟨⟨v, cs⟩, hx, h⟩ := h
  exact gen hx h
 unfold jb at h
 split at h
 ·split at h
  ·rename_i hgl
   have : gl = [] := by simpa using hgl
   subst this
   simp only [Option.bind_eq_some_iff] at h
   obtain ⟨⟨a', cs⟩, hx, h⟩ := h
   simp only [] at h
   split at h
   ·exact gen (oi hx) h
   ·simp only [Option.some.injEq, Prod.mk.injEq] at h
    obtain ⟨rfl, _⟩ := h
    refine aG (gl := []) (X := fun vs => .at (.k (g vs 0))) hg hd (fun _ _ _ _ _ _ => kR _) ?_
    rintro F H O a w vs hc hcs ⟨b, hb, rfl⟩ hon
    rw [hrun, ap hc hx hcs hon, hb]; rfl
  ·simp at h
 ·cases x with
  | tmp t =>
   simp only [] at h
   split at h
   ·rename_i l hl
    split at h
    ·rename_i hgl
     have : gl = [] := by simpa using hgl
     subst this
     simp only [Option.some.injEq, Prod.mk.injEq] at h
     obtain ⟨rfl, _⟩ := h
     intro F H O a w d K Q hc hr
     obtain ⟨_, vs, _, hk⟩ := hr
     unfold wp1
     rw [if_pos ((dc hc hg).2 trivial)]
     refine .inl ?_
     unfold Oper.wp
     rw [hrun, Oper.upon_value]
     have ht := hc.tm t
     rw [hl] at ht
     have hok := hc.ok.1 t
     rw [hl] at hok
     exact ⟨_, H, O, hc.put (sv := .tup l) hd ht hok, Heap.le_refl H, hk⟩
    ·simp at h
   ·exact gen' h
  | const v => exact gen' h
  | global n => exact gen' h
  | func f => exact gen' h
theorem sH {c a b : Operand} {y : NF} {fp : FP} (hop : o.op = .pick c a b)
  (hg : am (aA ops) s o = .go gl) (hd : ∀ d, o.dst = some d → d < s.sz) (h : nm s gl o.dst c a b = some (y, fp)) : Sound P ops o s y := by
 unfold nm at h
 simp only [Option.bind_eq_some_iff] at h
 obtain ⟨⟨c', cs⟩, hc', h⟩ := h
 simp only [] at h
 split at h
 ·simp only [Option.bind_eq_some_iff] at h
  obtain ⟨⟨v, cs'⟩, hv, h⟩ := h
  refine au hg hd h (fun hs _ => cn hs hv) ?_
  intro F H O a' w hc hcs hon
  rw [AllCk.append] at hcs
  have e1 : a'.eval c = .bool true := ap hc hc' hcs.1 hon
  have e2 := b9 hc hv hcs.2 hon
  simp [execOp, hop, e1, asBool, e2]
 ·simp only [Option.bind_eq_some_iff] at h
  obtain ⟨⟨v, cs'⟩, hv, h⟩ := h
  refine au hg hd h (fun hs _ => cn hs hv) ?_
  intro F H O a' w hc hcs hon
  rw [AllCk.append] at hcs
  have e1 : a'.eval c = .bool false := ap hc hc' hcs.1 hon
  have e2 := b9 hc hv hcs.2 hon
  simp [execOp, hop, e1, asBool, e2]
 ·split at h
  ·rename_i a1 ca b1 cb ha hb
   split at h
   ·rename_i hfit
    simp only [Bool.and_eq_true] at hfit
    simp only [Option.some.injEq, Prod.mk.injEq] at h
    obtain ⟨rfl, _⟩ := h
    refine az hg hd ?_ ?_
    ·intro _
     by_cases hs : s.Ok
     ·exact .inl ⟨At.fit_one hfit.1 (lN hs ha), At.fit_one hfit.2 (lN hs hb), trivial⟩
     ·exact .inr hs
    ·intro F H O a' w v hc hcs hon he
     simp only [AllCk.append] at hcs
     have e1 := ap hc hc' hcs.1.1 hon
     simp only [List.map_cons, List.map_nil] at he
     cases hcd : c'.den <;> simp only [hcd, ae] at he <;> try (simp at he; done)
     rename_i bv
     simp only [Option.some.injEq] at he
     cases bv with
     | true =>
      have e2 := ap hc ha hcs.1.2 (gl := (c', true) :: gl) ⟨hcd, hon⟩
      simp only [if_true] at he
      simp [execOp, hop, e1, hcd, asBool, e2, he]
     | false =>
      have e2 := ap hc hb hcs.2 (gl := (c', false) :: gl) ⟨hcd, hon⟩
      simp only [Bool.false_eq_true, if_false] at he
      simp [execOp, hop, e1, hcd, asBool, e2, he]
   ·simp at h
  ·simp at h
theorem rk {T : TypeId} {parts : Array (Nat × Operand)} {y : NF} {fp : FP} (hop : o.op = .build T parts)
  (hg : am (aA ops) s o = .go gl) (hd : ∀ d, o.dst = some d → d < s.sz) (h : jY P s gl o.dst T parts.toList = some (y, fp)) : Sound P ops o s y := by
 unfold jY at h
 simp only [Option.bind_eq_some_iff] at h
 obtain ⟨zero, hz, h⟩ := h
 obtain ⟨z, hzr, hzc, hzk, hzo⟩ := eL hz
 have hzc' : z.cells = (zero.map At.den).toArray := by rw [← hzc]
 have hparts : ∀ a : Act, (parts.map fun p => (p.1, a.eval p.2)).toList = parts.toList.map fun p => (p.1, a.eval p.2) := fun a => by simp
 split at h
 ·rename_i fs hu
  simp only [Option.bind_eq_some_iff] at h
  obtain ⟨places, hp, ⟨cells, cs⟩, hf, h⟩ := h
  refine au hg hd h (fun hs _ => dE hs hf hzo) ?_
  intro F H O a w hc hcs hon
  have hfill := kT hc hon hf hcs
  have hb : P.built T (parts.map fun p => (p.1, a.eval p.2)).toList = some (cells.map At.den).toArray := by
   unfold j0 at hz
   cases hi : P.info? T with
   | none => simp [hi] at hz
   | some i =>
    simp only [hi, Option.bind_some, Option.map_eq_some_iff] at hz
    obtain ⟨z0, hz0, hz1⟩ := hz
    have : z0.cells = (zero.map At.den).toArray := by rw [← hz1]; simp [Function.comp_def, At.den]
    unfold Program.built
    simp only [hi, hu, hz0, hp, this, hparts]
    exact hfill
  simp only [execOp, hop, Sem.run_bind, run_build w T _ _ hb, Result.andThen_ok, Sem.run_pure]
  rfl
 ·rename_i n elem hu
  simp only [Option.bind_eq_some_iff] at h
  obtain ⟨size, hs, ⟨cells, cs⟩, hf, h⟩ := h
  refine au hg hd h (fun hs' _ => dE hs' hf hzo) ?_
  intro F H O a w hc hcs hon
  have hfill := kT hc hon hf hcs
  simp only [execOp, hop, Instr.build, Sem.run_bind, hzr, Result.andThen_ok, ah hu, ay hs, hparts, hzc', hfill, Sem.run_pure]
  rfl
 ·simp at h
theorem kM {name : Nat} {T : TypeId} {len : Nat} {parts : Array (Nat × Operand)} {y : NF} {fp : FP} (hop : o.op = .buildSlice T len parts)
  (hg : am (aA ops) s o = .go gl) (hd : ∀ d, o.dst = some d → d < s.sz) (h : cA P s gl o.dst name T len parts.toList = some (y, fp)) : Sound P ops o s y := by
 unfold cA at h
 split at h
 ·rename_i elem hu
  simp only [Option.bind_eq_some_iff] at h
  obtain ⟨size, hs, zero, hz, h⟩ := h
  split at h
  ·rename_i hcond
   simp only [Bool.and_eq_true, decide_eq_true_eq] at hcond
   obtain ⟨⟨hzl, hs0⟩, hlim⟩ := hcond
   simp only [Option.bind_eq_some_iff] at h
   obtain ⟨⟨cells, cs⟩, hf, h⟩ := h
   obtain ⟨z, hzr, hzc, hzk, hzo⟩ := eL hz
   refine fG hg hd h (fun _ => trivial) (fun _ => rfl) (fun hs' => dE hs' hf (fun a ha => hzo a (di ha))) ?_
   intro F H O a w hc hcs hgl
   subst hgl
   refine ⟨cells.map At.den, CellsRel.map cells, ?_⟩
   have hfill := kT (gl := []) hc trivial hf hcs
   have hzc' : z.cells = (zero.map At.den).toArray := by rw [← hzc]
   have hparts : (parts.map fun p => (p.1, a.eval p.2)).toList = parts.toList.map fun p => (p.1, a.eval p.2) := by simp
   have hlim' : ¬ (len * size > 2 ^ 24) := by have : (2:Nat) ^ 24 = 16777216 := rfl; omega
   have hrep : ((Array.range (len * size)).map fun i => (zero.map At.den).toArray[i % (zero.map At.den).toArray.size]!) = ((aS zero len).map At.den).toArray := by
    have := dA (zero.map At.den) (by rw [List.length_map, hzl]; exact hs0) len
    apply Array.ext'
    rw [ed, ← this]
    simp [hzl]
   by_cases h0 : len * size = 0
   ·have hl0 : len = 0 := by
     rcases Nat.mul_eq_zero.1 h0 with h | h
     ·exact h
     ·exact absurd h hs0
    subst hl0
    simp only [aS, List.map_nil] at hfill
    simp only [execOp, hop, Instr.buildSlice, Sem.run_bind, ah hu, Result.andThen_ok, ay hs, Nat.zero_mul, hparts]
    simp only [Nat.not_lt_zero, gt_iff_lt, if_false, if_true, Sem.run_bind, Sem.run_pure, Result.andThen_ok, show Array.range 0 = #[] from rfl, Array.map_empty, hfill, newRow, run_newObj]
    rfl
   ·simp only [execOp, hop, Instr.buildSlice, Sem.run_bind, ah hu, Result.andThen_ok, ay hs, hlim', if_false, h0, hzr, Sem.run_pure, hzc', hrep, hparts, hfill, newRow, run_newObj]
    rfl
  ·simp at h
 ·simp at h
theorem lX {name : Nat} {t : TypeId} {l c : Operand} {y : NF} {fp : FP} {n m : Nat} {elem : TypeId} (hop : o.op = .makeSlice t l c)
  (hg : am (aA ops) s o = .go gl) (hd : ∀ d, o.dst = some d → d < s.sz) (hl : hE l = some n) (hc0 : hE c = some m) (hu : P.underlying t = some (.slice elem))
  (h : ct P s gl o.dst name t l c = some (y, fp)) : Sound P ops o s y := by
 unfold ct at h
 rw [hl, hc0, hu] at h
 simp only [Option.bind_eq_some_iff] at h
 obtain ⟨size, hs, zero, hz, h⟩ := h
 split at h
 ·rename_i hcond
  simp only [Bool.and_eq_true, decide_eq_true_eq] at hcond
  obtain ⟨⟨⟨⟨hzl, hs0⟩, hnm⟩, hlim⟩, hby⟩ := hcond
  obtain ⟨z, hzr, hzc, hzk, hzo⟩ := eL hz
  have hk : ∀ {x : Operand} {k : Nat}, hE x = some k → x = .const (.int .i64 k) ∧ k ≤ 65536 := by
   intro x k hx
   unfold hE at hx
   split at hx
   ·split at hx
    ·rename_i v hv
     simp only [Option.some.injEq] at hx
     subst hx
     exact ⟨by congr 2; omega, by omega⟩
    ·simp at hx
   ·simp at hx
  obtain ⟨rfl, hn6⟩ := hk hl
  obtain ⟨rfl, hm6⟩ := hk hc0
  refine fG hg hd h (fun _ => trivial) (fun _ => rfl) (fun _ => fun a ha => hzo a (di ha)) ?_
  intro F H O a w hc hcs hgl
  subst hgl
  refine ⟨(aS zero m).map At.den, CellsRel.map _, ?_⟩
  have hzc' : z.cells = (zero.map At.den).toArray := by rw [← hzc]
  have hrep : ((Array.range (m * size)).map fun i => (zero.map At.den).toArray[i % (zero.map At.den).toArray.size]!) = ((aS zero m).map At.den).toArray := by
   have := dA (zero.map At.den) (by rw [List.length_map, hzl]; exact hs0) m
   apply Array.ext'
   rw [ed, ← this]
   simp [hzl]
  cases hi : P.info? elem with
  | none => rw [hi] at hby; simp at hby
  | some i =>
   rw [hi] at hby
   simp only [Option.map_some, Option.getD_some, decide_eq_true_eq] at hby
   have w1 : IntKind.i64.wrap (n : Int) = n := by simp only [IntKind.wrap, IntKind.bits, IntKind.signed]; simp; omega
   have w2 : IntKind.i64.wrap (m : Int) = m := by simp only [IntKind.wrap, IntKind.bits, IntKind.signed]; simp; omega
   have hby' : ¬ ((i.bytes : Int) * (m : Int) > 2 ^ 48) := by
    have : ((i.bytes * m : Nat) : Int) ≤ ((2 ^ 48 : Nat) : Int) := Int.ofNat_le.2 hby
    have e : ((i.bytes * m : Nat) : Int) = (i.bytes : Int) * (m : Int) := Int.natCast_mul _ _
    have e2 : ((2 ^ 48 : Nat) : Int) = 2 ^ 48 := by rfl
    omega
   have hcnd : ¬ (((decide ((m : Int) < 0) || decide ((i.bytes : Int) * (m : Int) > 2 ^ 48)) || decide ((n : Int) < 0) || decide ((n : Int) > (m : Int))) = true) := by
    simp only [Bool.or_eq_true, decide_eq_true_eq]
    omega
   have hti : (typeInfo elem).run P w = .ok i w := by simp [typeInfo, hi]
   have hA : ∀ k : Nat, (asInt (.int .i64 (k : Int))).run P w = .ok (k : Int) w := fun k => rfl
   have hms : (Instr.makeSlice t (.int .i64 (n : Int)) (.int .i64 (m : Int))).run P w = .ok (.slice (some ⟨w.heap.size, 0, none⟩) n m) { w with heap := w.heap.push (.cells ((aS zero m).map At.den).toArray elem (0, 0)) } := by
    unfold Instr.makeSlice
    rw [Sem.run_bind, ah hu]
    simp only [Result.andThen_ok]
    rw [Sem.run_bind, hA, Result.andThen_ok, Sem.run_bind, hA, Result.andThen_ok, Sem.run_bind, hti, Result.andThen_ok]
    simp only [w1, w2]
    rw [if_neg hcnd]
    by_cases h0 : m * size = 0
    ·have hm0 : m = 0 := (Nat.mul_eq_zero.1 h0).resolve_right hs0
     subst hm0
     simp only [Sem.run_bind, run_askRoom, ay hs, Result.andThen_ok, Int.toNat_natCast, Nat.zero_mul, if_true, Sem.run_pure, show Array.range 0 = #[] from rfl, Array.map_empty, newRow, run_newObj, aS, List.map_nil]
    ·simp only [Sem.run_bind, run_askRoom, ay hs, Result.andThen_ok, Int.toNat_natCast, h0, if_false, hzr, Sem.run_pure, hzc', hrep, newRow, run_newObj]
   simp only [execOp, hop, Act.eval, Sem.run_bind, hms, Result.andThen_ok, Sem.run_pure]
   rfl
 ·simp at h
variable {P : Program} {ops : Array Oper} {o : Oper} {s : SS} {gl : List (At × Bool)}
theorem jO {y : Value} (h : qd y = true) : ∃ ad, y = .pointer (some ad) := by
 unfold qd at h; split at h
 ·exact ⟨_, rfl⟩
 ·simp at h
theorem ui {x : Operand} {x' : At} {cs : List Ck} {y : NF} {fp : FP} (hop : o.op = .nilCheck x) (hx : dp s gl x = some (x', cs))
  (hg : am (aA ops) s o = .go gl) (hd : ∀ d, o.dst = some d → d < s.sz) (h : xk gl o.dst x' cs = some (y, fp)) : Sound P ops o s y := by
 have hok := fun hs : s.Ok => lN hs hx
 unfold xk at h
 split at h
 ·refine au hg hd h (fun hs _ => b6 (hok hs)) ?_
  intro F H O a w hc hcs hon
  have e := ap hc hx hcs hon
  simp only [execOp, hop, e]; rfl
 ·refine au hg hd h (fun hs _ => b6 (hok hs)) ?_
  intro F H O a w hc hcs hon
  have e := ap hc hx hcs hon
  simp only [execOp, hop, e]; rfl
 ·refine au hg hd h (fun hs _ => b6 (hok hs)) ?_
  intro F H O a w hc hcs hon
  have e := ap hc hx hcs.2 hon
  obtain ⟨ad, had⟩ := jO (hcs.1 hon)
  subst had
  simp only [execOp, hop, e]; rfl
 ·refine au hg hd h (fun hs _ => b6 (hok hs)) ?_
  intro F H O a w hc hcs hon
  have e := ap hc hx hcs.2 hon
  obtain ⟨ad, had⟩ := jO (hcs.1 hon)
  subst had
  simp only [execOp, hop, e]; rfl
 ·refine au hg hd h (fun hs _ => b6 (hok hs)) ?_
  intro F H O a w hc hcs hon
  have e := ap hc hx hcs.2 hon
  obtain ⟨ad, had⟩ := jO (hcs.1 hon)
  subst had
  simp only [execOp, hop, e]; rfl
 ·simp at h
theorem ud {s : SS} {gl : List (At × Bool)} {x y : Operand} {as : List S1} {cs : List Ck} (h : fM s gl [x, y] = some (as, cs)) : ∃ a b, as = [a, b] := by
 simp only [fM] at h
 split at h
 ·rename_i a c as' cs' h1 h2
  simp only [Option.some.injEq, Prod.mk.injEq] at h
  split at h2
  ·rename_i b c2 as2 cs2 h3 h4
   simp only [Option.some.injEq, Prod.mk.injEq] at h2 h4
   exact ⟨a, b, by rw [← h.1, ← h2.1, ← h4.1]⟩
  ·simp at h2
 ·simp at h
theorem xr {op : BinOp} {t yt : TypeId} {x y : Operand} {X Y v : Value} (hop : o.op = .binOp op t x y yt) {a : Act} (ex : a.eval x = X) (ey : a.eval y = Y)
  (h : ∀ w, ((PrimOp.eqv op t (jP x || jP y)).sem [X, Y]).run P w = .ok (.value v) w) (w : World) : (execOp a.eval o).run P w = .ok (.value v) w := by
 have hw := h w
 simp only [PrimOp.sem] at hw
 simp only [execOp, hop, ex, ey]
 have : (eqGuard op t x y X Y) = (eqGuard op t (if (jP x || jP y) = true then .const undef else .global 0) (.global 0) X Y) := by
  unfold eqGuard
  cases x <;> cases y <;> rfl
 rw [this]; exact hw
theorem uM {op : BinOp} {t yt : TypeId} {x y : Operand} {z : NF} {fp : FP} (hop : o.op = .binOp op t x y yt)
    (hg : am (aA ops) s o = .go gl) (hd : ∀ d, o.dst = some d → d < s.sz) (h : rn P s gl o.dst op t x y = some (z, fp)) : Sound P ops o s z := by
  unfold rn at h
  split at h
  · rename_i bk hbk
    simp only [Option.bind_eq_some_iff] at h
    obtain ⟨⟨as, cs⟩, hx, h⟩ := h
    obtain ⟨x', y', rfl⟩ := lM hx
    simp only [Option.some.injEq, Prod.mk.injEq] at h
    obtain ⟨rfl, _⟩ := h
    refine az hg hd (by simp) ?_
    intro F H O a w v hc hcs hon he
    obtain ⟨e1, e2⟩ := kU hc hx hcs hon
    simp only [List.map_cons, List.map_nil, ae] at he
    simp only [execOp, hop, e1, e2]
    rw [Sem.run_bind, wT hbk he]; rfl
  · split at h
    all_goals first
      | (simp at h; done)
      | (simp only [Option.bind_eq_some_iff] at h
         obtain ⟨⟨as, cs⟩, hx, h⟩ := h
         obtain ⟨x', y', rfl⟩ := ud hx
         simp only [Option.some.injEq, Prod.mk.injEq] at h
         obtain ⟨rfl, _⟩ := h
         refine aG (X := fun vs => .at (.v (g vs 0))) hg hd ?_ ?_
         · rintro H O vs _ _ ⟨v, rfl, _, hone⟩; exact b6 hone
         · rintro F H O a w vs hc hcs ⟨v, rfl, he, _⟩ hon
           have e := fY hc hx hcs hon
           simp only [List.map_cons, List.map_nil, List.cons.injEq, and_true] at e
           exact xr hop e.1 e.2 (he hon) w)

theorem u4 {op : UnOp} {t : TypeId} {x : Operand} {x' : At} {cs : List Ck} {z : NF} {fp : FP} (hop : o.op = .unOp op t x) (hx : dp s gl x = some (x', cs))
    (hg : am (aA ops) s o = .go gl) (hd : ∀ d, o.dst = some d → d < s.sz) (h : yD P gl o.dst op t x' cs = some (z, fp)) : Sound P ops o s z := by
  unfold yD at h
  split at h
  all_goals first
    | (simp at h; done)
    | (simp only [Option.some.injEq, Prod.mk.injEq] at h
       obtain ⟨rfl, _⟩ := h
       refine az hg hd (by simp) ?_
       intro F H O a w v hc hcs hon he
       have e := ap hc hx hcs hon
       simp only [List.map_cons, List.map_nil] at he
       simp only [execOp, hop, e]
       cases hv : x'.den <;> simp only [hv, ae, reduceCtorEq, bH, Option.some.injEq] at he
       subst he
       rfl)

theorem s3 {ta tb : TypeId} {x : Operand} {x' : At} {cs : List Ck} {z : NF} {fp : FP} (hop : o.op = .convert ta tb x) (hx : dp s gl x = some (x', cs))
  (hg : am (aA ops) s o = .go gl) (hd : ∀ d, o.dst = some d → d < s.sz) (h : nJ P s gl o.dst ta tb x' cs = some (z, fp)) : Sound P ops o s z := by
 unfold nJ at h
 split at h
 ·rename_i k0 k hu1 hu2
  simp only [Option.some.injEq, Prod.mk.injEq] at h
  obtain ⟨rfl, _⟩ := h
  refine az hg hd (by simp) ?_
  intro F H O a w v hc hcs hon he
  have e := ap hc hx hcs hon
  simp only [List.map_cons, List.map_nil] at he
  cases hv : x'.den <;> simp only [hv, ae, reduceCtorEq, Option.some.injEq] at he
  subst he
  simp only [execOp, hop, e, hv, convert, Sem.run_bind, ah hu1, ah hu2, Result.andThen_ok, Conv.intToInt, Sem.run_pure]
 ·split at h
  ·rename_i hgl
   have : gl = [] := by simpa using hgl
   subst this
   refine bp rfl hg hd h ?_
   intro F H O a w hc hcs H1 O1 R hT F1 hm next Q hn
   have e := ap hc hx hcs trivial
   exact jE hT hm (by simp only [execOp, hop, e, PrimOp.sem]) hn
  ·simp at h
theorem q0 {t : TypeId} {x : Operand} {z : NF} {fp : FP} (hop : o.op = .makeInterface t x)
  (hg : am (aA ops) s o = .go gl) (hd : ∀ d, o.dst = some d → d < s.sz) (h : jQ P s gl o.dst t x = some (z, fp)) : Sound P ops o s z := by
 unfold jQ at h
 split at h
 ·simp at h
 ·simp at h
 ·rename_i d hni hu
  simp only [Option.bind_eq_some_iff] at h
  obtain ⟨⟨v, cs⟩, hx, h⟩ := h
  simp only [] at h
  split at h
  ·refine au hg hd h (fun _ _ => b6 rfl) ?_
   intro F H O a w hc hcs hon
   have e := b9 hc hx hcs hon
   simp only [execOp, hop, e, Instr.makeInterface, Sem.run_bind, ah hu, Result.andThen_ok]
   cases d <;> first | rfl | exact absurd hu (hni _)
  ·split at h
   ·rename_i hgl
    have : gl = [] := by simpa using hgl
    subst this
    refine bp rfl hg hd h ?_
    intro F H O a w hc hcs H1 O1 R hT F1 hm next Q hn
    have e := b9 hc hx hcs trivial
    refine jE hT hm ?_ hn
    rcases v with c | l
    ·simp only [execOp, hop, e, S1.isAgg, S1.cells, S1.den, PrimOp.sem, List.map_cons, List.map_nil]
    ·simp only [execOp, hop, e, S1.isAgg, S1.cells, S1.den, PrimOp.sem]
   ·simp at h
theorem qq : ∀ {as : List At} {l : List Cp}, kl as = some l → l.map Cp.den = as.map At.den
 | [], l, h => by simp only [kl, Option.some.injEq] at h; subst h; rfl
 | a :: r, l, h => by
  cases a <;> simp only [kl, Option.map_eq_some_iff, reduceCtorEq] at h
  all_goals
   obtain ⟨l', hl, rfl⟩ := h
   simp only [List.map_cons, qq hl]
   rfl
theorem sX {f : FuncId} {first caps : Array Operand} {as : List At} {cs : List Ck} {l : List Cp} {z : NF} {fp : FP} (hop : o.op = .makeFunc (.func f) first caps) (hf : first.isEmpty = true)
  (hx : bF s gl caps.toList = some (as, cs)) (hl : kl as = some l)
  (hg : am (aA ops) s o = .go gl) (hd : ∀ d, o.dst = some d → d < s.sz) (h : aU gl o.dst (.at (.clo f l)) cs = some (z, fp)) : Sound P ops o s z := by
 refine au hg hd h (fun _ _ => b6 trivial) ?_
 intro F H O a w hc hcs hon
 have e := bz hc hx hcs hon
 have : first = #[] := by simpa using hf
 subst this
 have hcaps : caps.map a.eval = (l.map Cp.den).toArray := by
  rw [qq hl, ← e]; apply Array.ext'; simp
 simp only [execOp, hop, Instr.makeFunc, hcaps, Sem.run_bind, Sem.run_pure, Result.andThen_ok, Array.map_empty]
 rfl
theorem qY {t : TypeId} {x i : Operand} {x' : S1} {i' : At} {cx ci : List Ck} {z : NF} {fp : FP} (hop : o.op = .index t x i) (hx : gJ s gl x = some (x', cx)) (hi : dp s gl i = some (i', ci))
  (hg : am (aA ops) s o = .go gl) (hd : ∀ d, o.dst = some d → d < s.sz) (h : qZ P gl o.dst t x' i' (cx ++ ci) = some (z, fp)) : Sound P ops o s z := by
 have ev : ∀ {F H O a w}, Conc F s H O a w → AllCk (cx ++ ci) → On (eo gl) → a.eval x = x'.den ∧ a.eval i = i'.den := by
  intro F H O a w hc hcs hon
  rw [AllCk.append] at hcs
  exact ⟨b9 hc hx hcs.1 hon, ap hc hi hcs.2 hon⟩
 unfold qZ at h
 split at h
 ·rename_i len elem cells hu
  simp only [Option.bind_eq_some_iff] at h
  obtain ⟨size, hs, h⟩ := h
  split at h
  ·rename_i n hn
   split at h
   ·rename_i hlt
    simp only [Option.bind_eq_some_iff] at h
    obtain ⟨v, hv, h⟩ := h
    refine au hg hd h (fun hs' _ a ha => cn hs' hx a (nn hv a ha)) ?_
    intro F H O a w hc hcs hon
    obtain ⟨e1, e2⟩ := ev hc hcs hon
    obtain ⟨k, hk⟩ := dG hn
    obtain ⟨m, hm⟩ := lL hv
    have hb : (0 : Int) ≤ n ∧ (n : Int) < len := by omega
    have e1' : a.eval x = .agg (cells.map At.den).toArray := e1
    simp only [execOp, hop, e1', e2, hk, Instr.index, asIntOf, Sem.run_bind, Sem.run_pure, Result.andThen_ok, ah hu, if_pos hb, ay hs, Int.toNat_natCast, rC hv w hm]
   ·simp at h
  ·split at h
   ·rename_i hcond
    simp only [Bool.and_eq_true, decide_eq_true_eq, Bool.not_eq_true'] at hcond
    obtain ⟨⟨⟨⟨h1, hA⟩, hl⟩, hfit⟩, _⟩ := hcond
    subst h1
    simp only [Option.some.injEq, Prod.mk.injEq] at h
    obtain ⟨rfl, _⟩ := h
    refine az hg hd ?_ ?_
    ·intro _
     by_cases hs' : s.Ok
     ·exact .inl (rM (by simpa using hfit) (cn hs' hx))
     ·exact .inr hs'
    ·intro F H O a w v hc hcs hon he
     obtain ⟨e1, e2⟩ := ev hc hcs hon
     simp only [List.map_cons, ae] at he
     have e1' : a.eval x = .agg (cells.map At.den).toArray := e1
     have hrun := rD hu hs hA (by simpa using hl) he w
     simp only [execOp, hop, e1', e2, Sem.run_bind, hrun, Result.andThen_ok, Sem.run_pure]
   ·split at h
    ·rename_i hcond
     simp only [Bool.and_eq_true, decide_eq_true_eq, Bool.not_eq_true', List.isEmpty_iff] at hcond
     obtain ⟨⟨⟨⟨⟨hgl, h1⟩, hA⟩, hl⟩, hkn⟩, _⟩ := hcond
     subst hgl
     subst h1
     simp only [Option.some.injEq, Prod.mk.injEq] at h
     obtain ⟨rfl, _⟩ := h
     have hmem : ∀ n : Nat, n < cells.length → cells.getD n .any ∈ cells := fun n hn => by simp [List.getD, hn]
     refine aG (gl := []) (X := fun vs => .at (cells.getD (match g vs 0 with | .int _ n => n.toNat | _ => 0) .any)) hg hd ?_ ?_
     ·rintro H O vs hs' _ ⟨kd, j, hj, h0, h2, rfl⟩
      refine b6 (cn hs' hx _ ?_)
      show cells.getD j.toNat .any ∈ cells
      exact hmem _ (by omega)
     ·rintro F H O a w vs hc hcs ⟨kd, j, hj, h0, h2, rfl⟩ hon
      obtain ⟨e1, e2⟩ := ev hc hcs hon
      have e1' : a.eval x = .agg (cells.map At.den).toArray := e1
      have he : ae .aidx (i'.den :: cells.map At.den) = some ((cells.getD j.toNat .any).den) := by
       rw [hj]
       simp only [ae, gU, List.length_map]
       rw [if_pos ⟨h0, by omega⟩, List.getElem?_map]
       have : j.toNat < cells.length := by omega
       simp [List.getD, this]
      have hrun := rD hu hs hA (by simpa using hl) he w
      simp only [execOp, hop, e1', e2, Sem.run_bind, hrun, Result.andThen_ok, Sem.run_pure]
      rfl
    ·simp at h
 ·rename_i x1 hu
  simp only [Option.some.injEq, Prod.mk.injEq] at h
  obtain ⟨rfl, _⟩ := h
  refine az hg hd (by simp) ?_
  intro F H O a w v hc hcs hon he
  obtain ⟨e1, e2⟩ := ev hc hcs hon
  simp only [List.map_cons, List.map_nil, ae] at he
  have e1' : a.eval x = x1.den := e1
  simp only [execOp, hop, e1', e2, Sem.run_bind, vp hu he w, Result.andThen_ok, Sem.run_pure]
 ·simp at h
theorem oK {x : Operand} {i : Nat} {z : NF} {fp : FP} (hop : o.op = .extract x i)
  (hg : am (aA ops) s o = .go gl) (hd : ∀ d, o.dst = some d → d < s.sz) (h : cH s gl o.dst x i = some (z, fp)) : Sound P ops o s z := by
 cases x with
 | tmp t =>
  simp only [cH] at h
  split at h
  ·rename_i l hl
   simp only [Option.bind_eq_some_iff] at h
   obtain ⟨v, hv, h⟩ := h
   split at h
   ·refine au hg hd h (fun hs _ => ?_) ?_
    ·have := hs.1 t; rw [hl] at this; exact this v (List.mem_of_getElem? hv)
    ·intro F H O a w hc hcs hon
     have ht := hc.tm t
     rw [hl] at ht
     have e : a.eval (.tmp t) = .tuple (l.map S1.den).toArray := ht
     have hget : ((l.map S1.den).toArray)[i]? = some v.den := by simp [hv]
     simp only [execOp, hop, e, Instr.extract, hget, Sem.run_bind, Sem.run_pure, Result.andThen_ok]
   ·simp at h
  ·simp at h
 | const v => simp [cH] at h
 | global n => simp [cH] at h
 | func f => simp [cH] at h
theorem eS {α : Type} {l : List α} {x : α} (h : xh l = some x) : l = [x] := by
 unfold xh at h; split at h
 ·simp only [Option.some.injEq] at h; rw [h]
 ·simp at h
theorem iM {α : Type} {l : List α} {x : α × α} (h : xQ l = some x) : l = [x.1, x.2] := by
 unfold xQ at h; split at h
 ·simp only [Option.some.injEq] at h; rw [← h]
 ·simp at h
theorem cz {c : Call} {b : Builtin} {a : Act} (hop : o.op = .call c) (hcal : c.callee = .builtin b) (hb : b ≠ .print) (hb' : b ≠ .println) (w : World) :
  (execOp a.eval o).run P w = (builtin b c.argTypes o.type #[] (c.args.map a.eval)).run P w := by
 simp only [execOp, hop, resolve, hcal, Sem.run_bind, Sem.run_pure, Result.andThen_ok, invoke]
 cases b <;> first | rfl | exact absurd rfl hb | exact absurd rfl hb'
theorem oW {c : Call} {b : Builtin} {z : NF} {fp : FP} (hop : o.op = .call c) (hcal : c.callee = .builtin b)
    (hg : am (aA ops) s o = .go gl) (hd : ∀ d, o.dst = some d → d < s.sz) (h : eX P s gl o.dst o.type b c.argTypes c.args.toList = some (z, fp)) : Sound P ops o s z := by
  unfold eX at h
  split at h
  · -- len
    simp only [Option.bind_eq_some_iff] at h
    obtain ⟨t, ht, x, hx, ⟨x', cs⟩, hx', h⟩ := h
    have ht' : c.argTypes = #[t] := by apply Array.ext'; simpa using eS ht
    have hargs : c.args = #[x] := by apply Array.ext'; simpa using eS hx
    have ex : ∀ {F H O a w}, Conc F s H O a w → AllCk cs → On (eo gl) → (execOp a.eval o).run P w = (Functor.map (fun v => Next.value v) (Builtin.len_ #[t] o.type #[x'.den])).run P w := by
      intro F H O a w hc hcs hon
      rw [cz hop hcal (by simp) (by simp), ht', hargs]
      have e := ap hc hx' hcs hon
      simp only [builtin, List.map_toArray, List.map_cons, List.map_nil, e]
      rfl
    unfold un at h
    split at h
    · rename_i e hu
      split at h
      · rename_i n r off m cp hxe
        simp only [] at hxe
        subst hxe
        refine au hg hd h (fun _ _ => kR _) ?_
        intro F H O a w hc hcs hon
        rw [ex hc hcs hon, Sem.run_map, tQ hu (x := (At.sl n r off m cp).den) (v := goInt m) rfl]; rfl
      · simp only [Option.some.injEq, Prod.mk.injEq] at h
        obtain ⟨rfl, _⟩ := h
        refine az hg hd (by simp) ?_
        intro F H O a w v hc hcs hon he
        rw [ex hc hcs hon, Sem.run_map, tQ hu he]; rfl
    · rename_i hu
      simp only [Option.some.injEq, Prod.mk.injEq] at h
      obtain ⟨rfl, _⟩ := h
      refine az hg hd (by simp) ?_
      intro F H O a w v hc hcs hon he
      rw [ex hc hcs hon, Sem.run_map, vo hu he]; rfl
    · rename_i n e hu
      refine au hg hd h (fun _ _ => kR _) ?_
      intro F H O a w hc hcs hon
      rw [ex hc hcs hon, Sem.run_map, vq hu]; rfl
    · rename_i k e hu
      split at h
      · rename_i hgl
        have : gl = [] := by simpa using hgl
        subst this
        refine bp rfl hg hd h ?_
        intro F H O a w hc hcs H1 O1 R hT F1 hm next Q hn
        exact jE hT hm (by rw [ex hc hcs trivial]; rfl) hn
      · simp at h
    · simp at h
  · -- cap
    simp only [Option.bind_eq_some_iff] at h
    obtain ⟨t, ht, x, hx, ⟨x', cs⟩, hx', h⟩ := h
    have ht' : c.argTypes = #[t] := by apply Array.ext'; simpa using eS ht
    have hargs : c.args = #[x] := by apply Array.ext'; simpa using eS hx
    have ex : ∀ {F H O a w}, Conc F s H O a w → AllCk cs → On (eo gl) → (execOp a.eval o).run P w = (Functor.map (fun v => Next.value v) (Builtin.cap_ #[t] o.type #[x'.den])).run P w := by
      intro F H O a w hc hcs hon
      rw [cz hop hcal (by simp) (by simp), ht', hargs]
      have e := ap hc hx' hcs hon
      simp only [builtin, List.map_toArray, List.map_cons, List.map_nil, e]
      rfl
    unfold yq at h
    split at h
    · rename_i e hu
      split at h
      · rename_i n r off m cp hxe
        simp only [] at hxe
        subst hxe
        refine au hg hd h (fun _ _ => kR _) ?_
        intro F H O a w hc hcs hon
        rw [ex hc hcs hon, Sem.run_map, tU hu (x := (At.sl n r off m cp).den) (v := goInt cp) rfl]; rfl
      · simp only [Option.some.injEq, Prod.mk.injEq] at h
        obtain ⟨rfl, _⟩ := h
        refine az hg hd (by simp) ?_
        intro F H O a w v hc hcs hon he
        rw [ex hc hcs hon, Sem.run_map, tU hu he]; rfl
    · simp at h
  · -- min
    simp only [Option.bind_eq_some_iff] at h
    obtain ⟨⟨x, y⟩, hxy, ⟨as, cs⟩, hx, h⟩ := h
    have hargs : c.args = #[x, y] := by apply Array.ext'; simpa using iM hxy
    obtain ⟨x', y', rfl⟩ := lM hx
    simp only [Option.some.injEq, Prod.mk.injEq] at h
    obtain ⟨rfl, _⟩ := h
    refine az hg hd (by simp) ?_
    intro F H O a w v hc hcs hon he
    obtain ⟨e1, e2⟩ := kU hc hx hcs hon
    rw [cz hop hcal (by simp) (by simp), hargs]
    simp only [List.map_cons, List.map_nil] at he
    simp only [builtin, List.map_toArray, List.map_cons, List.map_nil, e1, e2]
    cases hv1 : x'.den <;> cases hv2 : y'.den <;> simp only [hv1, hv2, ae, reduceCtorEq, Option.some.injEq] at he
    subst he
    rw [Sem.run_bind, run_min_int2]; rfl
  · -- max
    simp only [Option.bind_eq_some_iff] at h
    obtain ⟨⟨x, y⟩, hxy, ⟨as, cs⟩, hx, h⟩ := h
    have hargs : c.args = #[x, y] := by apply Array.ext'; simpa using iM hxy
    obtain ⟨x', y', rfl⟩ := lM hx
    simp only [Option.some.injEq, Prod.mk.injEq] at h
    obtain ⟨rfl, _⟩ := h
    refine az hg hd (by simp) ?_
    intro F H O a w v hc hcs hon he
    obtain ⟨e1, e2⟩ := kU hc hx hcs hon
    rw [cz hop hcal (by simp) (by simp), hargs]
    simp only [List.map_cons, List.map_nil] at he
    simp only [builtin, List.map_toArray, List.map_cons, List.map_nil, e1, e2]
    cases hv1 : x'.den <;> cases hv2 : y'.den <;> simp only [hv1, hv2, ae, reduceCtorEq, Option.some.injEq] at he
    subst he
    rw [Sem.run_bind, run_max_int2]; rfl
  all_goals first
    | (simp at h; done)
    | (split at h
       · rename_i hgl
         have : gl = [] := by simpa using hgl
         subst this
         simp only [Option.bind_eq_some_iff] at h
         obtain ⟨⟨as, cs⟩, hx, h⟩ := h
         refine bp rfl hg hd h ?_
         intro F H O a w hc hcs H1 O1 R hT F1 hm next Q hn
         refine jE hT hm ?_ hn
         rw [cz hop hcal (by simp) (by simp)]
         have e := bz hc hx hcs trivial
         have : c.args.map a.eval = (as.map At.den).toArray := by rw [← e]; apply Array.ext'; simp
         rw [this]; rfl
       · simp at h)

theorem cu {shp : Shp} {op : PrimOp} {xs : List Operand} {z : NF} {fp : FP}
  (hg : am (aA ops) s o = .go gl) (hd : ∀ d, o.dst = some d → d < s.sz) (h : dR s gl o.dst shp op xs = some (z, fp))
  (hex : ∀ (a : Act) (vs : List Value) (w : World), xs.map a.eval = vs → (execOp a.eval o).run P w = (op.sem vs).run P w) : Sound P ops o s z := by
 unfold dR at h
 split at h
 ·rename_i hgl
  have : gl = [] := by simpa using hgl
  subst this
  simp only [Option.bind_eq_some_iff] at h
  obtain ⟨⟨as, cs⟩, hx, h⟩ := h
  refine bp rfl hg hd h ?_
  intro F H O a w hc hcs H1 O1 R hT F1 hm next Q hn
  exact jE hT hm (hex a _ w (bz hc hx hcs trivial)) hn
 ·simp at h
theorem f8 {t : TypeId} {m k x : Operand} {z : NF} {fp : FP} (hdst : o.dst = none) (hop : o.op = .mapUpdate t m k x ∨ o.op = .insert t m k x)
  (hg : am (aA ops) s o = .go gl) (hd : ∀ d, o.dst = some d → d < s.sz) (h : dR s gl o.dst .one (.mapUpdate t) [m, k, x] = some (z, fp)) : Sound P ops o s z := by
 unfold dR at h
 split at h
 ·rename_i hgl
  have : gl = [] := by simpa using hgl
  subst this
  simp only [Option.bind_eq_some_iff] at h
  obtain ⟨⟨as, cs⟩, hx, h⟩ := h
  refine bp rfl hg hd h ?_
  intro F H O a w hc hcs H1 O1 R hT F1 hm next Q hn
  have e := bz hc hx hcs trivial
  obtain ⟨v, w', H', O', hr, hR, hle, hm'⟩ := hT w F1 hm
  have hn' := hn v w' H' O' hR hle hm'
  rw [hdst] at hn'
  unfold Oper.wp
  have hs : (PrimOp.mapUpdate t).sem (as.map At.den) = (do Instr.mapUpdate t (a.eval m) (a.eval k) (a.eval x); pure (.value (.bool false)) : Sem Next) := by
   rw [← e]; rfl
  rw [hs, Sem.run_bind] at hr
  have hex : (execOp a.eval o).run P w = ((Instr.mapUpdate t (a.eval m) (a.eval k) (a.eval x)).run P w).andThen fun _ w' => .ok .skip w' := by
   rcases hop with hop | hop
   ·simp only [execOp, hop, Sem.run_bind, Sem.run_pure]
   ·simp only [execOp, hop, Sem.run_bind, Sem.run_pure]
  rw [hex]
  cases hmu : (Instr.mapUpdate t (a.eval m) (a.eval k) (a.eval x)).run P w with
  | ok u w1 =>
   rw [hmu] at hr
   simp only [Result.andThen_ok, Sem.run_pure, Result.ok.injEq] at hr
   obtain ⟨_, rfl⟩ := hr
   rw [Result.andThen_ok, Oper.upon_skip, hdst]
   exact hn'
  | halt u w1 => rw [hmu] at hr; simp at hr
 ·simp at h
theorem j3 (vs : List Value) : ∀ (l : List At) (i : Nat), AllCk (oe vs l i) → ∀ j a, l[j]? = some a → g vs (i + j) = a.den
 | [], _, _, j, a, h => by simp at h
 | b :: r, i, hc, 0, a, h => by simp at h; subst h; exact hc.1
 | b :: r, i, hc, j + 1, a, h => by
  have := j3 vs r (i + 1) hc.2 j a (by simpa using h)
  rwa [show i + 1 + j = i + (j + 1) by omega] at this
theorem lz {x : At} : ∀ {offs : List Nat} {l : List At}, lA x offs = some l → l.all (fun a => match a with | .p .. => true | _ => false) = true
 | [], l, h => by simp only [lA, Option.some.injEq] at h; subst h; rfl
 | o :: r, l, h => by
  simp only [lA] at h
  split at h
  ·rename_i hl
   simp only [Option.some.injEq] at h; subst h
   simp [lz hl]
  ·simp at h
theorem sS {c : Call} {x : Operand} {m : String} {x' : At} {as : List S1} {cx ca : List Ck} {z : NF} {fp : FP}
  (hop : o.op = .call c) (hcal : c.callee = .invoke x m) (hx : dp s [] x = some (x', cx)) (ha : fM s [] c.args.toList = some (as, ca))
  (hg : am (aA ops) s o = .go []) (hd : ∀ d, o.dst = some d → d < s.sz) (h : nr P s o.dst o.type m x' as (cx ++ ca) = some (z, fp)) : Sound P ops o s z := by
 have ev : ∀ {F H O a w}, Conc F s H O a w → AllCk (cx ++ ca) → a.eval x = x'.den ∧ c.args.map a.eval = (as.map S1.den).toArray := by
  intro F H O a w hc hcs
  rw [AllCk.append] at hcs
  have e := fY hc ha hcs.2 trivial
  exact ⟨ap hc hx hcs.1 trivial, by rw [← e]; apply Array.ext'; simp⟩
 unfold nr at h
 simp only [Option.bind_eq_some_iff] at h
 obtain ⟨shp, hshp, h⟩ := h
 have hv : ∀ {y : Value} {atoms : List At} {z : NF} {fp : FP}, x'.den = y → bg s o.dst shp (.callm m y (as.map S1.den)) atoms (cx ++ ca) = some (z, fp) → Sound P ops o s z := by
  intro y atoms z fp hy h
  refine bp rfl hg hd h ?_
  rintro F H O a w hc hcs H1 O1 R ⟨f, r, hfm, hokn, hT⟩ F1 hm next Q hn
  obtain ⟨e1, e2⟩ := ev hc hcs
  refine kO hT hm ?_ hn
  rw [vD hop hcal (by rw [e1, hy]) hfm hokn w, e2]
  congr 2
  apply Array.ext'; simp
 split at h
 ·exact hv rfl h
 ·exact hv rfl h
 ·simp at h
theorem s6 {okf : FuncId → Bool} {rules : FuncId → Option (List Nat)} {c : Call} {f : Operand} {f' : At} {as : List S1} {cf ca : List Ck} {z : NF} {fp : FP} (hokf : ∀ f, okf f = true → fN P f)
  (hop : o.op = .call c) (hcal : c.callee = .value f) (hf : dp s [] f = some (f', cf)) (ha : fM s [] c.args.toList = some (as, ca))
  (hg : am (aA ops) s o = .go []) (hd : ∀ d, o.dst = some d → d < s.sz) (h : nL P okf rules s o.dst o.type f' as (cf ++ ca) = some (z, fp)) : Sound P ops o s z := by
 have ev : ∀ {F H O a w}, Conc F s H O a w → AllCk (cf ++ ca) → a.eval f = f'.den ∧ c.args.map a.eval = (as.map S1.den).toArray := by
  intro F H O a w hc hcs
  rw [AllCk.append] at hcs
  have e := fY hc ha hcs.2 trivial
  exact ⟨ap hc hf hcs.1 trivial, by rw [← e]; apply Array.ext'; simp⟩
 unfold nL at h
 simp only [Option.bind_eq_some_iff] at h
 obtain ⟨shp, hshp, h⟩ := h
 have hv : ∀ {x : Value} {atoms : List At} {z : NF} {fp : FP}, f'.den = x → bg s o.dst shp (.callv x (as.map S1.den)) atoms (cf ++ ca) = some (z, fp) → Sound P ops o s z := by
  intro x atoms z fp hx h
  refine bp rfl hg hd h ?_
  rintro F H O a w hc hcs H1 O1 R ⟨n, caps, hfv, hokn, hT⟩ F1 hm next Q hn
  obtain ⟨e1, e2⟩ := ev hc hcs
  have e1' : a.eval f = .func (.func n) #[] caps := by rw [e1, hx, hfv]
  refine kO hT hm ?_ hn
  rw [lc hop hcal e1' hokn w, e2]
  congr 2
  apply Array.ext'; simp
 split at h
 ·rename_i n caps
  split at h
  ·split at h
   ·rename_i hce
    have hcaps : caps = [] := by simpa using hce
    subst hcaps
    refine bp rfl hg hd h ?_
    intro F H O a w hc hcs H1 O1 R hT F1 hm next Q hn
    obtain ⟨e1, e2⟩ := ev hc hcs
    have e1' : a.eval f = .func (.func n) #[] #[] := e1
    refine jE hT hm ?_ hn
    simp only [execOp, hop, resolve, hcal, e1', Deferred.ofValue, Sem.run_bind, Sem.run_pure, Result.andThen_ok, invoke, Array.empty_append, Array.append_empty, PrimOp.sem, e2]
   ·simp at h
  ·rename_i hok
   have hokn : fN P n := hokf n (by simpa using hok)
   have hh : ∀ {atoms : List At} {z : NF} {fp : FP}, bg s o.dst shp (.call n (as.map S1.den ++ caps.map Cp.den)) atoms (cf ++ ca) = some (z, fp) → Sound P ops o s z := by
    intro atoms z fp h
    refine bp rfl hg hd h ?_
    intro F H O a w hc hcs H1 O1 R hT F1 hm next Q hn
    obtain ⟨e1, e2⟩ := ev hc hcs
    refine kO hT hm ?_ hn
    rw [lc hop hcal e1 hokn w, e2]
    congr 2
    apply Array.ext'; simp
   split at h
   ·rename_i offs x hce hru hone
    have hcaps : caps = [] := by simpa using hce
    subst hcaps
    have has := eS hone
    subst has
    simp only [Option.bind_eq_some_iff] at h
    obtain ⟨l, hl, h⟩ := h
    split at h
    ·rename_i hagg
     simp only [Option.some.injEq, Prod.mk.injEq] at h
     obtain ⟨rfl, _⟩ := h
     have hshape : shp = .agg l.length := by
      cases shp <;> simp [Shp.isAgg] at hagg
      rw [hagg]
     subst hshape
     refine rA (hk := .call n [x.den]) (frz := []) (own := []) (shp := .agg l.length) (post := fun vs => oe vs l 0) (cs := cf ++ ca) (sv := fun _ => .s (.agg l)) hg hd (by simp) (by simp) (by simp) ?_ ?_
     ·intro v vs _ hopn hones hpost
      have hallp := lz hl
      refine ⟨?_, ?_⟩
      ·show v = .agg (l.map At.den).toArray
       cases v with
       | agg cells =>
        simp only [Shp.open] at hopn
        split at hopn
        ·rename_i hsz
         simp only [Option.some.injEq] at hopn; subst hopn
         congr 1
         apply Array.ext'
         apply List.ext_getElem?
         intro j
         simp only [List.toList_toArray, List.getElem?_map]
         by_cases hj : j < l.length
         ·have hp := j3 cells.toList l 0 hpost j l[j] (by simp [hj])
          simp only [Nat.zero_add, g] at hp
          rw [List.getElem?_eq_getElem (by simp; omega), List.getElem?_eq_getElem hj]
          simp only [Option.map_some]
          rw [← hp]
          have hjc : j < cells.size := by omega
          simp [List.getD, hjc]
         ·rw [List.getElem?_eq_none (by simp; omega), List.getElem?_eq_none (by omega)]; rfl
        ·simp at hopn
       | _ => simp [Shp.open] at hopn
      ·intro a ha'
       rw [List.all_eq_true] at hallp
       have := hallp a ha'
       cases a <;> simp at this
       trivial
     ·intro F H O a w hc hcs H1 O1 R hT F1 hm next Q hn
      obtain ⟨e1, e2⟩ := ev hc hcs
      refine kO hT hm ?_ hn
      rw [lc hop hcal e1 hokn w, e2]
      rfl
    ·simp at h
   ·exact hh h
 ·exact hv rfl h
 ·exact hv rfl h
 ·simp at h
theorem sP {okf : FuncId → Bool} {rules : FuncId → Option (List Nat)} {sp : Bool} {name : Nat} {y : NF} {fp : FP} (hokf : ∀ f, okf f = true → fN P f)
  (hg : am (aA ops) s o = .go gl) (hd : ∀ d, o.dst = some d → d < s.sz) (h : uW P okf rules sp name o gl s = some (y, fp)) : Sound P ops o s y := by
 unfold uW at h
 split at h
 ·rename_i x hop; exact nq (fun a w => by simp [execOp, hop]) hg hd h
 ·rename_i x hop; exact nq (fun a w => by simp [execOp, hop]) hg hd h
 ·rename_i c a b hop; exact sH hop hg hd h
 ·rename_i T hop
  simp only [Option.bind_eq_some_iff] at h
  obtain ⟨cells, hz, h⟩ := h
  obtain ⟨z, hzr, hzc, hzk, hzo⟩ := eL hz
  refine fG hg hd h (fun _ => trivial) (fun _ => rfl) (fun _ => hzo) ?_
  intro F H O a w hc hcs hgl
  refine ⟨cells.map At.den, CellsRel.map cells, ?_⟩
  have hzc' : z.cells = (cells.map At.den).toArray := by rw [← hzc]
  simp only [execOp, hop, Instr.alloc, Sem.run_bind, hzr, Result.andThen_ok, newVar, newRow, hzc', run_newObj, Sem.run_pure]
  rfl
 ·rename_i T x hop
  simp only [Option.bind_eq_some_iff] at h
  obtain ⟨⟨v, cs⟩, hx, h⟩ := h
  simp only [] at h
  split at h
  ·rename_i hfit
   refine fG hg hd h (fun _ => trivial) (fun _ => rfl) (fun hs => cn hs hx) ?_
   intro F H O a w hc hcs hgl
   subst hgl
   refine ⟨v.cells.map At.den, CellsRel.map v.cells, ?_⟩
   have e := b9 hc hx hcs trivial
   simp only [execOp, hop, e, Instr.box, Sem.run_bind, Result.andThen_ok, newVar, newRow, mC hfit (cn hc.ok hx), run_newObj, Sem.run_pure]
   rfl
  ·simp at h
 ·rename_i T parts hop; exact rk hop hg hd h
 ·rename_i T len parts hop; exact kM hop hg hd h
 ·rename_i t x hop
  simp only [Option.bind_eq_some_iff] at h
  obtain ⟨⟨x', cs⟩, hx, h⟩ := h
  exact pY hop hx hg hd h
 ·rename_i t x y' hop
  split at h
  ·rename_i hcond
   simp only [Bool.and_eq_true, List.isEmpty_iff, Option.isNone_iff_eq_none] at hcond
   obtain ⟨rfl, hdst⟩ := hcond
   simp only [Option.bind_eq_some_iff] at h
   obtain ⟨⟨x', cs⟩, hx, ⟨y1, cs'⟩, hy, h⟩ := h
   exact nV hop hdst hx hy hg h
  ·simp at h
 ·rename_i x hop
  simp only [Option.bind_eq_some_iff] at h
  obtain ⟨⟨x', cs⟩, hx, h⟩ := h
  exact ui hop hx hg hd h
 ·rename_i op t x y' yt hop; exact uM hop hg hd h
 ·rename_i op t x hop
  simp only [Option.bind_eq_some_iff] at h
  obtain ⟨⟨x', cs⟩, hx, h⟩ := h
  exact u4 hop hx hg hd h
 ·rename_i a b x hop
  simp only [Option.bind_eq_some_iff] at h
  obtain ⟨⟨x', cs⟩, hx, h⟩ := h
  exact s3 hop hx hg hd h
 ·rename_i t x hop; exact q0 hop hg hd h
 ·rename_i f first caps hop
  split at h
  ·rename_i hf
   simp only [Option.bind_eq_some_iff] at h
   obtain ⟨⟨as, cs⟩, hx, l, hl, h⟩ := h
   exact sX hop hf hx hl hg hd h
  ·simp at h
 ·rename_i t x f hop
  simp only [Option.bind_eq_some_iff] at h
  obtain ⟨fd, hfd, m, hm, h⟩ := h
  split at h
  ·simp at h
  ·rename_i hm0
   simp only [Option.bind_eq_some_iff] at h
   obtain ⟨⟨x', cs⟩, hx, ⟨a', c⟩, hmv, h⟩ := h
   obtain ⟨h1, h2⟩ := lU hmv
   refine au hg hd h (fun hs hcs => b6 (h1 (AllCk.append.1 hcs).1 (lN hs hx))) ?_
   intro F H O a w hc hcs hon
   rw [AllCk.append] at hcs
   have e := ap hc hx hcs.2 hon
   obtain ⟨ad, hxd, had⟩ := h2 hcs.1 hon
   simp only [execOp, hop, e, hxd, Sem.run_bind, qL hfd hm hm0, Result.andThen_ok, Sem.run_pure, S1.den, had]
 ·rename_i t x f hop
  simp only [Option.bind_eq_some_iff] at h
  obtain ⟨fd, hfd, ⟨x', cs⟩, hx, v, hv, h⟩ := h
  split at h
  ·rename_i hagg
   obtain ⟨m, hm⟩ := lL hv
   refine au hg hd h (fun hs _ a ha => cn hs hx a (nn hv a ha)) ?_
   intro F H O a w hc hcs hon
   have e := b9 hc hx hcs hon
   obtain ⟨fs, hu, hfs⟩ := ke hfd
   rcases x' with a' | l
   ·simp [S1.isAgg] at hagg
   ·have e' : a.eval x = .agg (l.map At.den).toArray := e
    have hp := rC hv w hm
    simp only [execOp, hop, e', Instr.field, Sem.run_bind, ah hu, Result.andThen_ok, hfs, asAgg, Sem.run_pure]
    simp only [S1.cells] at hp
    rw [hp]; rfl
  ·simp at h
 ·rename_i t x i hop
  simp only [Option.bind_eq_some_iff] at h
  obtain ⟨⟨as, cs⟩, hx, ⟨x', i'⟩, h2, h⟩ := h
  have := iM h2
  subst this
  exact mi hop hx hg hd h
 ·rename_i t x i hop
  simp only [Option.bind_eq_some_iff] at h
  obtain ⟨⟨x', cs⟩, hx, ⟨i', cs'⟩, hi, h⟩ := h
  exact qY hop hx hi hg hd h
 ·rename_i t x lo hi mx hop
  simp only [Option.bind_eq_some_iff] at h
  obtain ⟨⟨x', c0⟩, h0, ⟨l, c1⟩, h1, ⟨h', c2⟩, h2, ⟨m, c3⟩, h3, h⟩ := h
  exact qI hop h0 h1 h2 h3 hg hd h
 ·rename_i x i hop; exact oK hop hg hd h
 ·rename_i c hop
  split at h
  ·rename_i b hcal; exact oW hop hcal hg hd h
  ·rename_i f hcal
   split at h
   ·rename_i hgl
    have : gl = [] := by simpa using hgl
    subst this
    simp only [Option.bind_eq_some_iff] at h
    obtain ⟨⟨f', cf⟩, hf, ⟨as, ca⟩, ha, h⟩ := h
    exact s6 hokf hop hcal hf ha hg hd h
   ·simp at h
  ·rename_i x m hcal
   split at h
   ·rename_i hgl
    have : gl = [] := by simpa using hgl
    subst this
    simp only [Option.bind_eq_some_iff] at h
    obtain ⟨⟨x', cx⟩, hx, ⟨as, ca⟩, ha, h⟩ := h
    exact sS hop hcal hx ha hg hd h
   ·simp at h
 ·rename_i t l c hop
  cases hl : hE l with
  | none =>
   unfold ct at h
   simp only [hl] at h
   refine cu hg hd h ?_
   rintro a vs w rfl
   simp only [execOp, hop, PrimOp.sem, List.map_cons, List.map_nil]
  | some n =>
   cases hc : hE c with
   | none =>
    unfold ct at h
    simp only [hl, hc] at h
    refine cu hg hd h ?_
    rintro a vs w rfl
    simp only [execOp, hop, PrimOp.sem, List.map_cons, List.map_nil]
   | some m =>
    by_cases hu : ∃ e, P.underlying t = some (.slice e)
    ·obtain ⟨e, hu⟩ := hu
     exact lX hop hg hd hl hc hu h
    ·unfold ct at h
     split at h
     ·rename_i e1 e2 hu'
      exact absurd ⟨_, hu'⟩ hu
     ·refine cu hg hd h ?_
      rintro a vs w rfl
      simp only [execOp, hop, PrimOp.sem, List.map_cons, List.map_nil]
 ·rename_i t r hop
  refine cu hg hd h ?_
  rintro a vs w rfl
  cases r <;> simp only [execOp, hop, PrimOp.sem, Option.toList, List.map_cons, List.map_nil, Option.isSome_none, Option.isSome_some, Option.map_none, Option.map_some]
 ·rename_i t x i ok hop
  refine cu hg hd h ?_
  rintro a vs w rfl
  simp only [execOp, hop, PrimOp.sem, List.map_cons, List.map_nil]
 ·rename_i t m k x hop
  split at h
  ·rename_i hdst
   exact f8 (by simpa using hdst) (.inl hop) hg hd h
  ·simp at h
 ·rename_i t m k x hop
  split at h
  ·rename_i hdst
   exact f8 (by simpa using hdst) (.inr hop) hg hd h
  ·simp at h
 ·rename_i t x hop
  refine cu hg hd h ?_
  rintro a vs w rfl
  simp only [execOp, hop, PrimOp.sem, List.map_cons, List.map_nil]
 ·rename_i x hop
  refine cu hg hd h ?_
  rintro a vs w rfl
  simp only [execOp, hop, PrimOp.sem, List.map_cons, List.map_nil]
 ·rename_i x str hop
  refine cu hg hd h ?_
  rintro a vs w rfl
  simp only [execOp, hop, PrimOp.sem, List.map_cons, List.map_nil]
 ·simp at h
theorem ja {okf : FuncId → Bool} {rules : FuncId → Option (List Nat)} {sp : Bool} {name : Nat} {y : NF} {fp : FP} (hokf : ∀ f, okf f = true → fN P f)
  (h : nf P okf rules (aA ops) sp name o s = some (y, fp)) : Sound P ops o s y := by
 unfold nf at h
 split at h
 ·simp at h
 ·rename_i hdst
  have hd : ∀ d, o.dst = some d → d < s.sz := by
   intro d hd
   simp only [hd, kK, Bool.not_eq_true', decide_eq_false_iff_not, Decidable.not_not] at hdst
   exact hdst
  split at h
  ·simp at h
  ·rename_i hg
   simp only [Option.some.injEq, Prod.mk.injEq] at h
   obtain ⟨rfl, _⟩ := h
   exact sy hg hd
  ·rename_i gl hg
   exact sP hokf hg hd h
variable {P : Program} {s s' : SS} {gl : List (At × Bool)}
def Ea (s s' : SS) (x : Operand) : Prop := ∀ t, x = .tmp t → s'.tmps t = s.tmps t
theorem bw {x : Operand} (h : Ea s s' x) : gJ s' gl x = gJ s gl x := by
 cases x with
 | tmp t => simp only [gJ, h t rfl]
 | _ => rfl
theorem ar {x : Operand} (h : Ea s s' x) : dp s' gl x = dp s gl x := by
 simp only [dp, bw h]
theorem aB : ∀ {xs : List Operand}, (∀ x ∈ xs, Ea s s' x) → bF s' gl xs = bF s gl xs
 | [], _ => rfl
 | x :: r, h => by simp only [bF, ar (h x (by simp)), aB (xs := r) (fun y hy => h y (by simp [hy]))]
theorem dS : ∀ {xs : List Operand}, (∀ x ∈ xs, Ea s s' x) → fM s' gl xs = fM s gl xs
 | [], _ => rfl
 | x :: r, h => by simp only [fM, bw (h x (by simp)), dS (xs := r) (fun y hy => h y (by simp [hy]))]
theorem dT {place : Nat → Option (Nat × Nat)} : ∀ {parts : List (Nat × Operand)} {cells : List At}, (∀ p ∈ parts, Ea s s' p.2) →
  bB s' gl place parts cells = bB s gl place parts cells
 | [], _, _ => rfl
 | (i, x) :: r, cells, h => by
  have h1 := bw (gl := gl) (h (i, x) (by simp))
  simp only [] at h1
  simp only [bB, h1]
  split
  ·split
   ·rw [dT (fun p hp => h p (by simp [hp]))]
   ·rfl
  ·rfl
theorem dQ : ∀ (fuel : Nat) (r acc : List Nat), (∀ n ∈ acc, n ∈ bN s fuel r acc)
 | 0, r, acc, n, h => by cases r <;> simp [bN, h]
 | fuel + 1, [], acc, n, h => by simpa [bN] using h
 | fuel + 1, m :: r, acc, n, h => by
  simp only [bN]
  split
  ·exact dQ fuel _ _ n h
  ·split
   ·exact dQ fuel _ _ n (by simp [h])
   ·exact dQ fuel _ _ n (by simp [h])
theorem dC : ∀ (fuel : Nat) (r acc : List Nat), (∀ n ∈ bN s fuel r acc, s'.mem n = s.mem n) → bN s' fuel r acc = bN s fuel r acc
 | 0, r, acc, _ => by cases r <;> simp [bN]
 | fuel + 1, [], acc, _ => by simp [bN]
 | fuel + 1, m :: r, acc, h => by
  simp only [bN] at h ⊢
  split
  ·rename_i hc
   simp only [hc, if_true] at h
   exact dC fuel _ _ h
  ·rename_i hc
   simp only [hc] at h
   have hm : s'.mem m = s.mem m := by
    apply h
    simp only [Bool.false_eq_true, if_false]
    split
    ·exact dQ fuel _ _ m (by simp)
    ·exact dQ fuel _ _ m (by simp)
   rw [hm]
   cases hs : s.mem m with
   | none => simp only [hs, Bool.false_eq_true, if_false] at h; exact dC fuel _ _ h
   | some b => simp only [hs, Bool.false_eq_true, if_false] at h; exact dC fuel _ _ h
theorem eR : ∀ (fuel : Nat) (r acc : List Nat), (∀ n ∈ acc, n ∈ bZ s fuel r acc)
 | 0, r, acc, n, h => by cases r <;> simp [bZ, h]
 | fuel + 1, [], acc, n, h => by simpa [bZ] using h
 | fuel + 1, m :: r, acc, n, h => by
  simp only [bZ]
  split
  ·exact eR fuel _ _ n h
  ·split
   ·exact eR fuel _ _ n (by simp [h])
   ·exact eR fuel _ _ n (by simp [h])
theorem ee : ∀ (fuel : Nat) (r acc : List Nat), (∀ n ∈ bZ s fuel r acc, s'.mem n = s.mem n) → bZ s' fuel r acc = bZ s fuel r acc
 | 0, r, acc, _ => by cases r <;> simp [bZ]
 | fuel + 1, [], acc, _ => by simp [bZ]
 | fuel + 1, m :: r, acc, h => by
  simp only [bZ] at h ⊢
  split
  ·rename_i hc
   simp only [hc, if_true] at h
   exact ee fuel _ _ h
  ·rename_i hc
   simp only [hc] at h
   have hm : s'.mem m = s.mem m := by
    apply h
    simp only [Bool.false_eq_true, if_false]
    split
    ·exact eR fuel _ _ m (by simp)
    ·exact eR fuel _ _ m (by simp)
   rw [hm]
   cases hs : s.mem m with
   | none => simp only [hs, Bool.false_eq_true, if_false] at h; exact ee fuel _ _ h
   | some b => simp only [hs, Bool.false_eq_true, if_false] at h; exact ee fuel _ _ h
theorem fR : ∀ (l acc : List Nat), (∀ n ∈ l, s'.mem n = s.mem n) → dh s' l acc = dh s l acc
 | [], _, _ => rfl
 | n :: r, acc, h => by
  simp only [dh, h n (by simp)]
  exact fR r _ (fun m hm => h m (by simp [hm]))
theorem f9 {l : List Nat} (h : ∀ n ∈ l, s'.mem n = s.mem n) : cG s' l = cG s l := by
 unfold cG
 induction l with
 | nil => rfl
 | cons n r ih => simp only [List.filterMap_cons, h n (by simp), ih (fun m hm => h m (by simp [hm]))]
theorem aH {dst : Option Tmp} {shp : Shp} {hk : HK} {atoms : List At} {cs : List Ck} {y : NF} {fp : FP} (h : bg s dst shp hk atoms cs = some (y, fp))
  (hm : ∀ n ∈ fp.reads, s'.mem n = s.mem n) : bg s' dst shp hk atoms cs = some (y, fp) := by
 have hr : fp.reads = bZ s 50 (cE atoms []) [] ++ bN s 50 (dh s (bZ s 50 (cE atoms []) []) (cq atoms [])) [] := by
  unfold bg at h
  simp only [] at h
  split at h
  ·simp only [Option.some.injEq, Prod.mk.injEq] at h; rw [← h.2]
  ·simp at h
 rw [hr] at hm
 have h1 : bZ s' 50 (cE atoms []) [] = bZ s 50 (cE atoms []) [] := ee _ _ _ (fun n hn => hm n (by simp [hn]))
 have h2 := fR (s := s) (s' := s') (bZ s 50 (cE atoms []) []) (cq atoms []) (fun n hn => hm n (by simp [hn]))
 have h3 := dC (s := s) (s' := s') 50 (dh s (bZ s 50 (cE atoms []) []) (cq atoms [])) [] (fun n hn => hm n (by simp [hn]))
 rw [← h]
 unfold bg
 simp only [h1, h2, h3]
 rw [f9 (s := s) (s' := s') (l := bN s 50 (dh s (bZ s 50 (cE atoms []) []) (cq atoms [])) []) (fun n hn => hm n (by simp [hn]))]
 rw [f9 (s := s) (s' := s') (l := List.filter _ _) (fun n hn => hm n (by simp only [List.mem_append]; exact .inl (List.mem_filter.1 hn).1))]
theorem qa {dst : Option Tmp} {t : TypeId} {x : At} {cs : List Ck} {y : NF} {fp : FP} (h : j6 P s gl dst t x cs = some (y, fp))
  (hm : ∀ n ∈ fp.reads, s'.mem n = s.mem n) : j6 P s' gl dst t x cs = some (y, fp) := by
 cases x with
 | p n r off =>
  have hn : s'.mem n = s.mem n := by
   apply hm
   unfold j6 at h
   simp only [Option.bind_eq_some_iff] at h
   obtain ⟨m, _, h⟩ := h
   split at h
   ·split at h
    ·simp only [Option.map_eq_some_iff, Prod.mk.injEq] at h
     obtain ⟨_, _, _, rfl⟩ := h
     simp
    ·simp at h
   ·split at h
    ·simp at h
    ·simp only [Option.some.injEq, Prod.mk.injEq] at h
     obtain ⟨_, rfl⟩ := h
     simp [tW]
  rw [← h]; simp only [j6, hn]
 | _ => rw [← h]; simp only [j6]
theorem nW {t : TypeId} {x : At} {z : S1} {cs : List Ck} {y : NF} {fp : FP} (h : fQ P s t x z cs = some (y, fp))
  (hm : ∀ n ∈ fp.reads, s'.mem n = s.mem n) : fQ P s' t x z cs = some (y, fp) := by
 cases x with
 | p n r off =>
  have hn : s'.mem n = s.mem n := by
   apply hm
   unfold fQ at h
   simp only [Option.bind_eq_some_iff] at h
   obtain ⟨m, _, h⟩ := h
   split at h
   ·simp at h
   ·split at h
    ·split at h
     ·simp only [Option.some.injEq, Prod.mk.injEq] at h
      obtain ⟨_, rfl⟩ := h
      simp
     ·simp at h
    ·simp at h
  rw [← h]; simp only [fQ, hn]
 | _ => rw [← h]; simp only [fQ]
theorem dH {dst : Option Tmp} {name : Nat} {T : TypeId} {cells : List At} {val : Nat → At} {cs : List Ck} {y : NF} {fp : FP} (h : eK s gl dst name T cells val cs = some (y, fp))
  (hm : ∀ n ∈ fp.reads, s'.mem n = s.mem n) : eK s' gl dst name T cells val cs = some (y, fp) := by
 have hn : s'.mem name = s.mem name := by
  apply hm
  unfold eK at h
  split at h
  ·simp only [Option.some.injEq, Prod.mk.injEq] at h; rw [← h.2]; simp
  ·simp at h
 rw [← h]; simp only [eK, hn]
theorem bC {dst : Option Tmp} {shp : Shp} {op : PrimOp} {xs : List Operand} {y : NF} {fp : FP} (hx : ∀ x ∈ xs, Ea s s' x) (h : dR s gl dst shp op xs = some (y, fp))
  (hm : ∀ n ∈ fp.reads, s'.mem n = s.mem n) : dR s' gl dst shp op xs = some (y, fp) := by
 unfold dR at h ⊢
 split at h
 ·rename_i hg
  rw [if_pos hg, aB hx]
  simp only [Option.bind_eq_some_iff] at h ⊢
  obtain ⟨a, ha, h⟩ := h
  exact ⟨a, ha, aH h hm⟩
 ·simp at h
theorem ai {α β : Type} {x x' : Option α} {f f' : α → Option β} {y : β} (h : x.bind f = some y) (hx : x' = x) (hf : ∀ a, x = some a → f a = some y → f' a = some y) : x'.bind f' = some y := by
 subst hx
 simp only [Option.bind_eq_some_iff] at h ⊢
 obtain ⟨a, ha, h⟩ := h
 exact ⟨a, ha, hf a ha h⟩
theorem j5 {dst : Option Tmp} {sp : Bool} {x : Operand} (hx : Ea s s' x) : jb s' gl dst sp x = jb s gl dst sp x := by
 unfold jb
 rw [ar hx, bw hx]
 cases x with
 | tmp t => simp only [hx t rfl]
 | _ => rfl
theorem pF {dst : Option Tmp} {c a b : Operand} (hc : Ea s s' c) (ha : Ea s s' a) (hb : Ea s s' b) : nm s' gl dst c a b = nm s gl dst c a b := by
 unfold nm
 rw [ar hc]
 simp only [ar ha, ar hb, bw ha, bw hb]
theorem mq {dst : Option Tmp} {x : Operand} {i : Nat} (hx : Ea s s' x) : cH s' gl dst x i = cH s gl dst x i := by
 unfold cH
 cases x with
 | tmp t => simp only [hx t rfl]
 | _ => rfl
theorem qW {dst : Option Tmp} {ty t : TypeId} {x : At} {cs : List Ck} {y : NF} {fp : FP} (h : un P s gl dst ty t x cs = some (y, fp))
    (hm : ∀ n ∈ fp.reads, s'.mem n = s.mem n) : un P s' gl dst ty t x cs = some (y, fp) := by
  unfold un at h ⊢
  split at h <;> first
    | exact h
    | (split at h
       · exact h
       · exact h)
    | (split at h
       · rename_i hg; rw [if_pos hg]; exact aH h hm
       · simp at h; done)
    | (simp at h; done)
theorem mI {dst : Option Tmp} {ty : TypeId} {b : Builtin} {ats : Array TypeId} {args : List Operand} {y : NF} {fp : FP} (hx : ∀ x ∈ args, Ea s s' x)
    (h : eX P s gl dst ty b ats args = some (y, fp)) (hm : ∀ n ∈ fp.reads, s'.mem n = s.mem n) : eX P s' gl dst ty b ats args = some (y, fp) := by
  have heavy : ∀ (b : Builtin) (sh : Shp), (if gl.isEmpty then (bF s gl args).bind fun (as, cs) => bg s dst sh (.prim (.bi b ats ty) (as.map At.den)) as cs else none) = some (y, fp) →
      (if gl.isEmpty then (bF s' gl args).bind fun (as, cs) => bg s' dst sh (.prim (.bi b ats ty) (as.map At.den)) as cs else none) = some (y, fp) := by
    intro b sh h
    split at h
    · rename_i hg
      rw [if_pos hg]
      exact ai h (aB hx) fun _ _ h => aH h hm
    · simp at h
  cases b <;> simp only [eX] at h ⊢ <;> first
    | exact heavy _ _ h
    | (simp at h; done)
    | (refine ai h rfl fun t _ h => ai h rfl fun x hx' h => ?_
       have : args = [x] := eS hx'
       subst this
       refine ai h (ar (hx x (by simp))) fun a _ h => ?_
       first
         | exact qW h hm
         | exact h)
    | (refine ai h rfl fun p hp h => ?_
       obtain ⟨x, y⟩ := p
       have : args = [x, y] := iM hp
       subst this
       exact ai h (aB hx) fun a _ h => h)
theorem qw {okf : FuncId → Bool} {rules : FuncId → Option (List Nat)} {dst : Option Tmp} {ty : TypeId} {f : At} {as : List S1} {cs : List Ck} {y : NF} {fp : FP}
  (h : nL P okf rules s dst ty f as cs = some (y, fp)) (hm : ∀ n ∈ fp.reads, s'.mem n = s.mem n) : nL P okf rules s' dst ty f as cs = some (y, fp) := by
 unfold nL at h ⊢
 refine ai h rfl fun shp _ h => ?_
 cases f with
 | clo n caps =>
  simp only [] at h ⊢
  split at h
  ·rename_i hok
   rw [if_pos hok]
   split at h
   ·rename_i hc; rw [if_pos hc]; exact aH h hm
   ·simp at h
  ·rename_i hok
   rw [if_neg hok]
   split at h
   ·exact h
   ·exact aH h hm
 | v x => exact aH h hm
 | k x => exact aH h hm
 | _ => simp at h
theorem pV {dst : Option Tmp} {ty : TypeId} {m : String} {x : At} {as : List S1} {cs : List Ck} {y : NF} {fp : FP}
  (h : nr P s dst ty m x as cs = some (y, fp)) (hm : ∀ n ∈ fp.reads, s'.mem n = s.mem n) : nr P s' dst ty m x as cs = some (y, fp) := by
 unfold nr at h ⊢
 refine ai h rfl fun shp _ h => ?_
 cases x with
 | v x => exact aH h hm
 | k x => exact aH h hm
 | _ => simp at h
theorem rm {dst : Option Tmp} {op : BinOp} {t : TypeId} {x z : Operand} {y : NF} {fp : FP} (hx : ∀ u ∈ [x, z], Ea s s' u) (h : rn P s gl dst op t x z = some (y, fp)) : rn P s' gl dst op t x z = some (y, fp) := by
 rw [← h]
 simp only [rn, aB hx, dS hx]
theorem qm {dst : Option Tmp} {a b : TypeId} {x : At} {cs : List Ck} {y : NF} {fp : FP} (h : nJ P s gl dst a b x cs = some (y, fp))
  (hm : ∀ n ∈ fp.reads, s'.mem n = s.mem n) : nJ P s' gl dst a b x cs = some (y, fp) := by
 unfold nJ at h ⊢
 split at h
 ·exact h
 ·split at h
  ·rename_i hg; rw [if_pos hg]; exact aH h hm
  ·simp at h
theorem oD {dst : Option Tmp} {t : TypeId} {x : Operand} {y : NF} {fp : FP} (hx : Ea s s' x) (h : jQ P s gl dst t x = some (y, fp)) (hm : ∀ n ∈ fp.reads, s'.mem n = s.mem n) : jQ P s' gl dst t x = some (y, fp) := by
 unfold jQ at h ⊢
 split at h
 ·simp at h
 ·simp at h
 ·refine ai h (bw hx) fun v _ h => ?_
  obtain ⟨v, cs⟩ := v
  simp only at h ⊢
  by_cases hc : (cE v.cells (cq v.cells [])).isEmpty = true
  ·rw [if_pos hc] at h ⊢; exact h
  ·rw [if_neg hc] at h ⊢
   by_cases hg : gl.isEmpty = true
   ·rw [if_pos hg] at h ⊢; exact aH h hm
   ·rw [if_neg hg] at h; cases h
theorem oY {dst : Option Tmp} {T : TypeId} {parts : List (Nat × Operand)} (hx : ∀ p ∈ parts, Ea s s' p.2) : jY P s' gl dst T parts = jY P s gl dst T parts := by
 simp only [jY, dT hx]
theorem ju {dst : Option Tmp} {name len : Nat} {T : TypeId} {parts : List (Nat × Operand)} {y : NF} {fp : FP} (hx : ∀ p ∈ parts, Ea s s' p.2) (h : cA P s gl dst name T len parts = some (y, fp))
  (hm : ∀ n ∈ fp.reads, s'.mem n = s.mem n) : cA P s' gl dst name T len parts = some (y, fp) := by
 unfold cA at h ⊢
 split at h
 ·refine ai h rfl fun size _ h => ai h rfl fun zero _ h => ?_
  split at h
  ·rename_i hc
   rw [if_pos hc]
   exact ai h (dT hx) fun _ _ h => dH h hm
  ·simp at h
 ·simp at h
theorem sQ {okf : FuncId → Bool} {rules : FuncId → Option (List Nat)} {sp : Bool} {name : Nat} {o : Oper} {y : NF} {fp : FP} (h : uW P okf rules sp name o gl s = some (y, fp))
  (hx : ∀ x ∈ o.op.operands.toList, Ea s s' x) (hm : ∀ n ∈ fp.reads, s'.mem n = s.mem n) : uW P okf rules sp name o gl s' = some (y, fp) := by
 unfold uW at h ⊢
 cases hop : o.op <;> simp only [hop, Op.operands] at h hx ⊢
 all_goals try (simp at h; done)
 case move x => rw [j5 (hx x (by simp))]; exact h
 case assign x => rw [j5 (hx x (by simp))]; exact h
 case pick c a b => rw [pF (hx c (by simp)) (hx a (by simp)) (hx b (by simp))]; exact h
 case alloc T => exact ai h rfl fun _ _ h => dH h hm
 case box T x =>
  refine ai h (bw (hx x (by simp))) fun a _ h => ?_
  obtain ⟨v, cs⟩ := a
  simp only [] at h ⊢
  split at h
  ·rename_i hc; rw [if_pos hc]; exact dH h hm
  ·simp at h
 case build T parts => rw [oY (fun p hp => hx p.2 (List.mem_map_of_mem hp))]; exact h
 case buildSlice T len parts => exact ju (fun p hp => hx p.2 (List.mem_map_of_mem hp)) h hm
 case load t x => exact ai h (ar (hx x (by simp))) fun _ _ h => qa h hm
 case store t x z =>
  split at h
  ·rename_i hc
   rw [if_pos hc]
   exact ai h (ar (hx x (by simp))) fun _ _ h => ai h (bw (hx z (by simp))) fun _ _ h => nW h hm
  ·simp at h
 case nilCheck x => exact ai h (ar (hx x (by simp))) fun _ _ h => h
 case binOp op t x z _ => exact rm (fun u hu => hx u (by simpa using hu)) h
 case unOp op t x => exact ai h (ar (hx x (by simp))) fun _ _ h => h
 case convert a b x => exact ai h (ar (hx x (by simp))) fun _ _ h => qm h hm
 case makeInterface t x => exact oD (hx x (by simp)) h hm
 case makeFunc f first caps =>
  cases f with
  | func f =>
   simp only [] at h ⊢
   split at h
   ·rename_i hc
    rw [if_pos hc]
    exact ai h (aB (fun x hx' => hx x (by simp at hx' ⊢; exact .inr hx'))) fun _ _ h => h
   ·simp at h
  | _ => simp at h
 case fieldAddr t x f =>
  refine ai h rfl fun _ _ h => ai h rfl fun m _ h => ?_
  split at h
  ·simp at h
  ·rename_i hc
   rw [if_neg hc]
   exact ai h (ar (hx x (by simp))) fun _ _ h => h
 case field t x f => exact ai h rfl fun _ _ h => ai h (bw (hx x (by simp))) fun _ _ h => h
 case indexAddr t x i => exact ai h (aB (fun u hu => hx u (by simpa using hu))) fun _ _ h => h
 case index t x i => exact ai h (bw (hx x (by simp))) fun _ _ h => ai h (ar (hx i (by simp))) fun _ _ h => h
 case slice t x lo hi mx =>
  refine ai h (ar (hx x (by simp))) fun _ _ h => ai h (aB (fun u hu => hx u (by simp at hu ⊢; simp [hu]))) fun _ _ h =>
   ai h (aB (fun u hu => hx u (by simp at hu ⊢; simp [hu]))) fun _ _ h => ai h (aB (fun u hu => hx u (by simp at hu ⊢; simp [hu]))) fun _ _ h => h
 case extract x i => rw [mq (hx x (by simp))]; exact h
 case call c =>
  cases hc : c.callee with
  | builtin b =>
   simp only [hc] at h ⊢
   exact mI (fun x hx' => hx x (by simp only [Call.operands, hc]; simp at hx' ⊢; simp [hx'])) h hm
  | value f =>
   simp only [hc] at h ⊢
   split at h
   ·rename_i hg
    rw [if_pos hg]
    exact ai h (ar (hx f (by simp [Call.operands, hc]))) fun _ _ h => ai h (dS (fun x hx' => hx x (by simp only [Call.operands, hc]; simp at hx' ⊢; simp [hx']))) fun _ _ h => qw h hm
   ·simp at h
  | invoke f m =>
   simp only [hc] at h ⊢
   split at h
   ·rename_i hg
    rw [if_pos hg]
    exact ai h (ar (hx f (by simp [Call.operands, hc]))) fun _ _ h => ai h (dS (fun x hx' => hx x (by simp only [Call.operands, hc]; simp at hx' ⊢; simp [hx']))) fun _ _ h => pV h hm
   ·simp at h
 case makeSlice t l c =>
  unfold ct at h ⊢
  split at h
  ·refine ai h rfl fun size _ h => ai h rfl fun zero _ h => ?_
   split at h
   ·rename_i hc
    rw [if_pos hc]
    exact dH h hm
   ·simp at h
  ·exact bC (fun x hx' => hx x (by simpa using hx')) h hm
 case makeMap t r => exact bC (fun x hx' => hx x (by simpa using hx')) h hm
 case lookup t x i ok => exact bC (fun u hu => hx u (by simpa using hu)) h hm
 case mapUpdate t m k x =>
  split at h
  ·rename_i hc; rw [if_pos hc]; exact bC (fun u hu => hx u (by simpa using hu)) h hm
  ·simp at h
 case insert t m k x =>
  split at h
  ·rename_i hc; rw [if_pos hc]; exact bC (fun u hu => hx u (by simpa using hu)) h hm
  ·simp at h
 case range t x => exact bC (fun u hu => hx u (by simpa using hu)) h hm
 case entry x => exact bC (fun u hu => hx u (by simpa using hu)) h hm
 case next x str => exact bC (fun u hu => hx u (by simpa using hu)) h hm
theorem ji {tgt : Nat → Option Tmp} {o : Oper} (h : ∀ j want t, o.guard = some (j, want) → tgt j = some t → s'.tmps t = s.tmps t) : am tgt s' o = am tgt s o := by
 unfold am
 cases hg : o.guard with
 | none => rfl
 | some p =>
  obtain ⟨j, want⟩ := p
  simp only []
  cases ht : tgt j with
  | none => rfl
  | some t => simp only [h j want t hg ht]
theorem ou {ops : Array Oper} {okf : FuncId → Bool} {rules : FuncId → Option (List Nat)} {sp : Bool} {name : Nat} {o : Oper} {y : NF} {fp : FP} (h : nf P okf rules (aA ops) sp name o s = some (y, fp))
  (hz : s'.sz = s.sz) (ht : ∀ t ∈ o.looksAt ops, s'.tmps t = s.tmps t) (hm : ∀ n ∈ fp.reads, s'.mem n = s.mem n) : nf P okf rules (aA ops) sp name o s' = some (y, fp) := by
 have hg : am (aA ops) s' o = am (aA ops) s o := by
  refine ji fun j want t h1 h2 => ht t ?_
  simp only [Oper.looksAt, h1, List.mem_append]
  right
  unfold aA at h2
  simp [h2]
 have hx : ∀ x ∈ o.op.operands.toList, Ea s s' x := by
  rintro x hx t rfl
  refine ht t ?_
  simp only [Oper.looksAt, List.mem_append]
  left
  exact List.mem_filterMap.2 ⟨_, hx, rfl⟩
 unfold nf at h ⊢
 have hd : kK s' o.dst = kK s o.dst := by unfold kK; rw [hz]
 rw [hd, hg]
 split at h
 ·simp at h
 ·rename_i hc
  rw [if_neg hc]
  split at h
  ·simp at h
  ·exact h
  ·exact sQ h hx hm
theorem SS.set_comm {s : SS} {a b : Option Nat} (h : ∀ d, a = some d → b ≠ some d) (x y : SV) : (s.set a x).set b y = (s.set b y).set a x := by
 cases a with
 | none => rfl
 | some i =>
  cases b with
  | none => rfl
  | some j =>
   have hij : i ≠ j := fun e => h i rfl (by rw [e])
   simp only [SS.set, SS.mk.injEq, true_and, and_true]
   funext t
   by_cases e : t = i
   ·subst e; simp [hij]
   ·simp [e]
theorem SS.set_setBox {s : SS} {a : Option Nat} {n : Nat} {b : Option Bx} {x : SV} : (s.set a x).setBox n b = (s.setBox n b).set a x := by
 cases a <;> rfl
theorem SS.setBox_comm {s : SS} {n m : Nat} (h : n ≠ m) (b c : Option Bx) : (s.setBox n b).setBox m c = (s.setBox m c).setBox n b := by
 simp only [SS.setBox, SS.mk.injEq, true_and, and_true]
 funext k
 by_cases e : k = n
 ·subst e; simp [h]
 ·simp [e]
theorem SS.set_tmps {s : SS} {a : Option Nat} {x : SV} {t : Nat} (h : ∀ d, a = some d → t ≠ d) : (s.set a x).tmps t = s.tmps t := by
 cases a with
 | none => rfl
 | some d => simp [SS.set, h d rfl]
theorem SS.set_mem {s : SS} {a : Option Nat} {x : SV} : (s.set a x).mem = s.mem := by cases a <;> rfl
theorem SS.set_sz {s : SS} {a : Option Nat} {x : SV} : (s.set a x).sz = s.sz := by cases a <;> rfl
theorem SS.setBox_mem {s : SS} {n m : Nat} {b : Option Bx} (h : m ≠ n) : (s.setBox n b).mem m = s.mem m := by simp [SS.setBox, h]
theorem kh : ∀ {l : List Nat} {s : SS} {a : Option Nat} {x : SV}, aI l (s.set a x) = (aI l s).set a x
 | [], _, _, _ => rfl
 | n :: r, s, a, x => by rw [aI, aI, SS.set_setBox, kh]
theorem rI : ∀ {l : List (Nat × Bx)} {css : List (List Value)} {s : SS} {a : Option Nat} {x : SV} {i : Nat}, pa i l css (s.set a x) = (pa i l css s).set a x
 | [], _, _, _, _, _ => rfl
 | (n, b) :: r, css, s, a, x, i => by rw [pa, pa, SS.set_setBox, rI]
theorem gj : ∀ {l : List Nat} {s : SS} {n : Nat} {b : Option Bx}, n ∉ l → aI l (s.setBox n b) = (aI l s).setBox n b
 | [], _, _, _, _ => rfl
 | m :: r, s, n, b, h => by
  simp only [List.mem_cons, not_or] at h
  rw [aI, aI, SS.setBox_comm h.1, gj h.2]
theorem lI : ∀ {l : List (Nat × Bx)} {css : List (List Value)} {s : SS} {n : Nat} {b : Option Bx} {i : Nat}, n ∉ l.map (·.1) → pa i l css (s.setBox n b) = (pa i l css s).setBox n b
 | [], _, _, _, _, _, _ => rfl
 | (m, b') :: r, css, s, n, b, i, h => by
  simp only [List.map_cons, List.mem_cons, not_or] at h
  rw [pa, pa, SS.setBox_comm h.1, lI h.2]
theorem rJ : ∀ {l : List (Nat × Bx)} {css : List (List Value)} {s : SS} {n i : Nat}, n ∉ l.map (·.1) → (pa i l css s).mem n = s.mem n
 | [], _, _, _, _, _ => rfl
 | (m, b') :: r, css, s, n, i, h => by
  simp only [List.map_cons, List.mem_cons, not_or] at h
  rw [pa, rJ h.2, SS.setBox_mem h.1]
section
variable {dst : Option Tmp} {frz own : List (Nat × Bx)} {sv : List Value → SV} {s : SS} {vs : List Value} {css : List (List Value)}
theorem qf {a : Option Nat} {x : SV} (h : ∀ d, a = some d → dst ≠ some d) : fw dst frz own sv (s.set a x) vs css = (fw dst frz own sv s vs css).set a x := by
 unfold fw
 rw [kh, rI, SS.set_comm h]
theorem j8 {n : Nat} {b : Option Bx} (h : n ∉ (frz ++ own).map (·.1)) : fw dst frz own sv (s.setBox n b) vs css = (fw dst frz own sv s vs css).setBox n b := by
 unfold fw
 have h' : n ∉ own.map (·.1) := fun hn => h (by rw [List.map_append]; exact List.mem_append.2 (.inr hn))
 rw [gj h, lI h', SS.set_setBox]
theorem ux {n : Nat} (h : n ∉ (frz ++ own).map (·.1)) : (fw dst frz own sv s vs css).mem n = s.mem n := by
 unfold fw
 have h' : n ∉ own.map (·.1) := fun hn => h (by rw [List.map_append]; exact List.mem_append.2 (.inr hn))
 rw [SS.set_mem, rJ h', eu, if_neg h]
theorem sV {t : Nat} (h : ∀ d, dst = some d → t ≠ d) : (fw dst frz own sv s vs css).tmps t = s.tmps t := by
 unfold fw
 rw [SS.set_tmps h, lH.1, bI.1]
theorem vH : (fw dst frz own sv s vs css).sz = s.sz := by
 unfold fw
 rw [SS.set_sz, lH.2, bI.2]
end
theorem dU {a b : List Nat} (h : qj a b = true) {n : Nat} (ha : n ∈ a) : n ∉ b := by
 unfold qj at h
 rw [List.all_eq_true] at h
 simpa using h n ha
theorem jV {a b : List Nat} (h : qj a b = true) {n : Nat} (hb : n ∈ b) : n ∉ a := fun ha => dU h ha hb
theorem NF.run_mono {P : Program} {d : Bool} {dst : Option Tmp} {x : NF} {s : SS} {K K' : SS → Heap → Own → Prop} {H : Heap} {O : Own} (hk : ∀ s H O, K s H O → K' s H O) (h : x.run P d dst s K H O) :
  x.run P d dst s K' H O := by
 cases x with
 | fl cs k X => obtain ⟨h1, vs, h2, h3⟩ := h; exact ⟨h1, vs, h2, hk _ _ _ h3⟩
 | box cs n T cells val => exact ⟨h.1, fun r => hk _ _ _ (h.2 r)⟩
 | stb cs n b => exact ⟨h.1, hk _ _ _ h.2⟩
 | hv cs k frz own shp post sv => exact ⟨h.1, fc (fun _ _ _ x => x) (fun _ _ _ _ x => ⟨x.1, hk _ _ _ x.2⟩) h.2⟩
 | st cs p vs => obtain ⟨h1, O', h2, h3⟩ := h; exact ⟨h1, O', h2, hk _ _ _ h3⟩
theorem wn {T : Heap → Own → (Value → Heap → Own → Prop) → Prop} {d d' : Bool} (hd : d' = true → d = true) {frz own : List BV} {shp : Shp} {K : List Value → List (List Value) → Heap → Own → Prop} {H : Heap} {O : Own}
  (h : dZ T d frz own shp K H O) : dZ T d' frz own shp K H O := by
 cases d' with
 | true => rw [hd rfl] at h; exact h
 | false =>
  cases d with
  | false => exact h
  | true =>
   intro hcons
   obtain ⟨H1, O1, O2, Q, hg, ht, hk⟩ := h hcons
   refine ⟨H1, O1, O2, Q, ?_, ht, hk⟩
   obtain ⟨rfl, hg⟩ := hg
   show Ghost _ O _ (O1 ++ O2)
   rcases hg with ⟨rfl, rfl⟩ | ⟨_, rfl, rfl, _⟩
   ·exact Ghost.refl _ _
   ·rw [List.append_nil]; exact Ghost.refl _ _
theorem NF.run_le {P : Program} {d d' : Bool} (hd : d' = true → d = true) {dst : Option Tmp} {x : NF} {s : SS} {K : SS → Heap → Own → Prop} {H : Heap} {O : Own} (h : x.run P d dst s K H O) : x.run P d' dst s K H O := by
 cases x with
 | hv cs k frz own shp post sv => exact ⟨h.1, wn (fun e => by simp only [Bool.and_eq_true] at e ⊢; exact ⟨hd e.1, e.2⟩) h.2⟩
 | _ => exact h
theorem FK.pre_unique {P : Program} {k : FK} {H : Heap} {O : Own} {vs us : List Value} (hc : k.ch = false) (h : k.pre P H O vs) (h' : k.pre P H O us) : vs = us := by
 cases k with
 | sil => rw [h, h']
 | pure gd op args =>
  have hg : gd = [] := by simpa [FK.ch] using hc
  subst hg
  obtain ⟨v, rfl, h1, _⟩ := h
  obtain ⟨u, rfl, h2, _⟩ := h'
  have := (h1 trivial).symm.trans (h2 trivial)
  simp only [Option.some.injEq] at this; rw [this]
 | raw gd op args =>
  have hg : gd = [] := by simpa [FK.ch] using hc
  subst hg
  obtain ⟨v, rfl, h1, _⟩ := h
  obtain ⟨u, rfl, h2, _⟩ := h'
  have := (h1 trivial default).symm.trans (h2 trivial default)
  simp only [Result.ok.injEq, Next.value.injEq, and_true] at this; rw [this]
 | load gd p m => simp [FK.ch] at hc
 | split c =>
  obtain ⟨b, h1, rfl⟩ := h
  obtain ⟨b', h2, rfl⟩ := h'
  rw [h1] at h2; simp only [Value.bool.injEq] at h2; rw [h2]
 | isplit c n =>
  obtain ⟨kd, i, h1, _, _, rfl⟩ := h
  obtain ⟨kd', i', h2, _, _, rfl⟩ := h'
  rw [h1] at h2; simp only [Value.int.injEq] at h2; rw [h2.2]
theorem FK.pre_any {P : Program} {k : FK} {H H' : Heap} {O O' : Own} {vs : List Value} (hl : k.isLoad = false) (h : k.pre P H O vs) : k.pre P H' O' vs := by
 cases k <;> first | exact h | simp [FK.isLoad] at hl
theorem Reads.mono {H H' : Heap} {O O' : Own} {p : Value} {m : Nat} {vs : List Value} (hle : Heap.le H H') (hs : ∀ x, x ∈ O → x ∈ O') (h : Reads H O p m vs) : Reads H' O' p m vs := by
 rcases h with h | ⟨a, cs, T, h1, h2, h3, h4, h5⟩
 ·exact .inl (hle.read h)
 ·exact .inr ⟨a, cs, T, h1, h2, hs _ h3, h4, h5⟩
theorem FK.pre_mono {P : Program} {k : FK} {H H' : Heap} {O O' : Own} {vs : List Value} (hle : Heap.le H H') (hs : ∀ x, x ∈ O → x ∈ O') (h : k.pre P H O vs) : k.pre P H' O' vs := by
 cases k with
 | load gd p m => exact ⟨h.1, h.2.1, fun hg => (h.2.2 hg).mono hle hs⟩
 | _ => exact h
structure Near (d : Option Tmp) (W : List Nat) (s s' : SS) : Prop where
 sz : s'.sz = s.sz
 tm : ∀ t, (∀ e, d = some e → t ≠ e) → s'.tmps t = s.tmps t
 mm : ∀ n, n ∉ W → s'.mem n = s.mem n
theorem Near.symm {d : Option Tmp} {W : List Nat} {s s' : SS} (h : Near d W s s') : Near d W s' s :=
 ⟨h.sz.symm, fun t ht => (h.tm t ht).symm, fun n hn => (h.mm n hn).symm⟩
theorem fu (d : Option Tmp) (W : List Nat) (s : SS) (x : SV) : Near d W s (s.set d x) :=
 ⟨SS.set_sz, fun _ ht => SS.set_tmps ht, fun _ _ => by rw [SS.set_mem]⟩
theorem cd (d : Option Tmp) (s : SS) (n : Nat) (b : Option Bx) (x : SV) : Near d [n] s ((s.setBox n b).set d x) :=
 ⟨SS.set_sz, fun _ ht => SS.set_tmps ht, fun m hm => by rw [SS.set_mem, SS.setBox_mem (by simpa using hm)]⟩
theorem fq (d : Option Tmp) (s : SS) (n : Nat) (b : Option Bx) : Near d [n] s (s.setBox n b) :=
 ⟨rfl, fun _ _ => rfl, fun m hm => by rw [SS.setBox_mem (by simpa using hm)]⟩
theorem lT (d : Option Tmp) (frz own : List (Nat × Bx)) (sv : List Value → SV) (s : SS) (vs : List Value) (css : List (List Value)) : Near d ((frz ++ own).map (·.1)) s (fw d frz own sv s vs css) :=
 ⟨vH, fun _ ht => sV ht, fun _ hn => ux hn⟩
theorem f5 (d : Option Tmp) (W : List Nat) (s : SS) : Near d W s s := ⟨rfl, fun _ _ => rfl, fun _ _ => rfl⟩
def Cong (N : SS → Option (NF × FP)) (l : List Tmp) : Prop :=
 ∀ s s' y fy, N s = some (y, fy) → s'.sz = s.sz → (∀ t ∈ l, s'.tmps t = s.tmps t) → (∀ n ∈ fy.reads, s'.mem n = s.mem n) → N s' = some (y, fy)
theorem Cong.near {N : SS → Option (NF × FP)} {l : List Tmp} (h : Cong N l) {d : Option Tmp} {W : List Nat} {s s' : SS} {y : NF} {fy : FP} (hn : Near d W s s') (hd : ∀ e, d = some e → e ∉ l)
  (hW : ∀ n ∈ fy.reads, n ∉ W) (hs : N s = some (y, fy)) : N s' = some (y, fy) :=
 h s s' y fy hs hn.sz (fun t ht => hn.tm t fun e he het => hd e he (het ▸ ht)) (fun n hr => hn.mm n (hW n hr))
def NF.isHv : NF → Bool
 | .hv .. => true
 | _ => false
theorem swap {P : Program} {da db : Option Tmp} {la lb : List Tmp} {Na Nb : SS → Option (NF × FP)} (Ca : Cong Na la) (Cb : Cong Nb lb)
  (h1 : ∀ d, da = some d → d ∉ lb) (h2 : ∀ d, da = some d → db ≠ some d) (h3 : ∀ d, db = some d → d ∉ la)
  {s : SS} {xa : NF} {fa : FP} (ha : Na s = some (xa, fa)) {dx dy : NF → Bool} (hdl : xa.isLd = true → ∀ y, dy y = true) {C : NF → FP → Prop} {K : SS → Heap → Own → Prop} {H : Heap} {O : Own}
  (hst : xa.isHv = true → ∃ y fy, Nb s = some (y, fy) ∧ iz xa fa y fy = true ∧ C y fy)
  (hb : xa.run P (dx xa) da s (fun s' H' O' => ∃ y fy, Nb s' = some (y, fy) ∧ iz xa fa y fy = true ∧ C y fy ∧ y.run P (dy y) db s' K H' O') H O) :
  ∃ y fy, Nb s = some (y, fy) ∧ iz xa fa y fy = true ∧ C y fy ∧
   y.run P (dy y) db s (fun s' H' O' => Na s' = some (xa, fa) ∧ Near db y.writes s s' ∧ xa.run P (dx xa) da s' K H' O') H O := by
 have back : ∀ {s' : SS} {y : NF} {fy : FP}, Near da xa.writes s s' → Nb s' = some (y, fy) → iz xa fa y fy = true → Nb s = some (y, fy) := by
  intro s' y fy hn hy he
  simp only [iz, Bool.and_eq_true] at he
  exact Cb.near hn.symm h1 (fun n hr => jV he.1.1.1 hr) hy
 have fwd : ∀ {s' : SS} {y : NF} {fy : FP}, iz xa fa y fy = true → Near db y.writes s s' → Na s' = some (xa, fa) := by
  intro s' y fy he hn
  simp only [iz, Bool.and_eq_true] at he
  exact Ca.near hn h3 (fun n hr => dU he.1.2 hr) ha
 have hww : ∀ {y : NF} {fy : FP}, iz xa fa y fy = true → ∀ n, n ∈ xa.writes → n ∉ y.writes := by
  intro y fy he n hn
  simp only [iz, Bool.and_eq_true] at he
  exact dU he.1.1.2 hn
 have kok : ∀ {y : NF} {fy : FP}, iz xa fa y fy = true → hD xa y = true := by
  intro y fy he
  simp only [iz, Bool.and_eq_true] at he
  exact he.2
 cases xa with
 | fl cs k X =>
  obtain ⟨hcs, vs, hp, y, fy, hy, he, hC, hr⟩ := hb
  refine ⟨y, fy, back (fu da _ s (X vs)) hy he, he, hC, ?_⟩
  have ko := kok he
  cases y with
  | fl cs' k' Y =>
   obtain ⟨hcs', us, hp', hk⟩ := hr
   refine ⟨hcs', us, hp', fwd he (fu db _ s (Y us)), fu db _ s _, hcs, vs, hp, ?_⟩
   rw [SS.set_comm h2] at hk; exact hk
  | box cs' n T cells val =>
   obtain ⟨hcs', hk⟩ := hr
   refine ⟨hcs', fun r => ⟨fwd he (cd db s n _ _), cd db s n _ _, hcs, vs, hp, ?_⟩⟩
   have := hk r
   rw [SS.set_setBox, SS.set_comm h2] at this; exact this
  | stb cs' n b =>
   obtain ⟨hcs', hk⟩ := hr
   refine ⟨hcs', fwd he (fq db s n _), fq db s n _, hcs, vs, hp, ?_⟩
   rw [SS.set_setBox] at hk; exact hk
  | hv cs' hk' frz own shp post sv =>
   obtain ⟨hcs', hr⟩ := hr
   refine ⟨hcs', fun hcons => ?_⟩
   obtain ⟨H1, O1, O2, R, hgh, hT, hk⟩ := hr hcons
   refine ⟨H1, O1, O2, R, hgh, hT, fun v H' O' hR hle => ?_⟩
   obtain ⟨us, css, O3, e1, e2, e3, e4, e5, e6⟩ := hk v H' O' hR hle
   refine ⟨us, css, O3, e1, e2, e3, e4, e5, fwd he (lT db frz own sv s us css), lT db frz own sv s us css, hcs, vs, ?_, ?_⟩
   ·cases hl : k.isLoad with
    | false => exact FK.pre_any hl hp
    | true =>
     have hcall : hk'.isCall' = true := by simpa [hD, hl] using ko
     simp only [hcall, hdl (by simpa [NF.isLd] using hl), Bool.and_true, if_true] at hgh
     obtain ⟨rfl, hgh⟩ := hgh
     rcases hgh with ⟨rfl, rfl⟩ | ⟨hown, rfl, rfl, hq⟩
     ·exact FK.pre_mono (Heap.le_trans (Heap.le_insAll _ _) hle) (fun x hx => by simp [hx]) hp
     ·have hO' := hq v H' O' hR
      rw [e4, hown] at hO'
      simp only [gP, List.map_nil, List.nil_append] at hO'
      exact FK.pre_mono (Heap.le_trans (Heap.le_insAll _ _) hle) (fun x hx => by simp [hO', hx]) hp
   ·rw [qf h2] at e6; exact e6
  | st cs' p ws =>
   obtain ⟨hcs', O', hst', hk⟩ := hr
   have hl : k.isLoad = false := by simpa [hD] using ko
   exact ⟨hcs', O', hst', fwd he (f5 db _ s), f5 db _ s, hcs, vs, FK.pre_any hl hp, hk⟩
 | box cs n T cells val =>
  obtain ⟨hcs, hk0⟩ := hb
  obtain ⟨y, fy, hy, he, hC, hr0⟩ := hk0 0
  have hys := back (cd da s n _ _) hy he
  have hall : ∀ r, y.run P (dy y) db ((s.setBox n (some ⟨r, T, cells⟩)).set da (.s (.at (val r)))) K H O := by
   intro r
   obtain ⟨y', fy', hy', he', _, hr'⟩ := hk0 r
   have := (back (cd da s n _ _) hy' he').symm.trans hys
   simp only [Option.some.injEq, Prod.mk.injEq] at this
   rw [← this.1]; exact hr'
  refine ⟨y, fy, hys, he, hC, ?_⟩
  have ko := kok he
  have hn : ∀ m, m ∈ y.writes → n ≠ m := fun m hm e => hww he n (by simp [NF.writes]) (e ▸ hm)
  cases y with
  | fl cs' k' Y =>
   have hch : k'.ch = false := by simpa [hD, NF.ch] using ko
   obtain ⟨hcs', us, hp', _⟩ := hr0
   refine ⟨hcs', us, hp', fwd he (fu db _ s (Y us)), fu db _ s _, hcs, fun r => ?_⟩
   obtain ⟨_, us', hp'', hk⟩ := hall r
   rw [← FK.pre_unique hch hp' hp'', SS.set_comm h2] at hk
   rw [SS.set_setBox]; exact hk
  | box cs' m T' cells' val' =>
   obtain ⟨hcs', _⟩ := hr0
   refine ⟨hcs', fun r' => ⟨fwd he (cd db s m _ _), cd db s m _ _, hcs, fun r => ?_⟩⟩
   have := (hall r).2 r'
   rw [SS.set_setBox, SS.set_comm h2, SS.setBox_comm (hn m (by simp [NF.writes]))] at this
   rw [SS.set_setBox]; exact this
  | stb cs' m b =>
   obtain ⟨hcs', _⟩ := hr0
   refine ⟨hcs', fwd he (fq db s m _), fq db s m _, hcs, fun r => ?_⟩
   have := (hall r).2
   rw [SS.set_setBox, SS.setBox_comm (hn m (by simp [NF.writes]))] at this
   exact this
  | hv _ _ _ _ _ _ _ => simp [hD] at ko
  | st _ _ _ => simp [hD] at ko
 | stb cs n b =>
  obtain ⟨hcs, y, fy, hy, he, hC, hr⟩ := hb
  refine ⟨y, fy, back (fq da s n _) hy he, he, hC, ?_⟩
  have hn : ∀ m, m ∈ y.writes → n ≠ m := fun m hm e => hww he n (by simp [NF.writes]) (e ▸ hm)
  cases y with
  | fl cs' k' Y =>
   obtain ⟨hcs', us, hp', hk⟩ := hr
   refine ⟨hcs', us, hp', fwd he (fu db _ s (Y us)), fu db _ s _, hcs, ?_⟩
   rw [SS.set_setBox]; exact hk
  | box cs' m T cells val =>
   obtain ⟨hcs', hk⟩ := hr
   refine ⟨hcs', fun r => ⟨fwd he (cd db s m _ _), cd db s m _ _, hcs, ?_⟩⟩
   have := hk r
   rw [SS.setBox_comm (hn m (by simp [NF.writes]))] at this
   rw [SS.set_setBox]; exact this
  | stb cs' m b' =>
   obtain ⟨hcs', hk⟩ := hr
   refine ⟨hcs', fwd he (fq db s m _), fq db s m _, hcs, ?_⟩
   rw [SS.setBox_comm (hn m (by simp [NF.writes]))] at hk; exact hk
  | hv cs' hk' frz own shp post sv =>
   obtain ⟨hcs', hr⟩ := hr
   refine ⟨hcs', fun hcons => ?_⟩
   obtain ⟨H1, O1, O2, R, hgh, hT, hk⟩ := hr hcons
   refine ⟨H1, O1, O2, R, hgh, hT, fun v H' O' hR hle => ?_⟩
   obtain ⟨us, css, O3, e1, e2, e3, e4, e5, e6⟩ := hk v H' O' hR hle
   refine ⟨us, css, O3, e1, e2, e3, e4, e5, fwd he (lT db frz own sv s us css), lT db frz own sv s us css, hcs, ?_⟩
   rw [j8 (fun hm => hn n hm rfl)] at e6; exact e6
  | st cs' p ws =>
   obtain ⟨hcs', O', hst', hk⟩ := hr
   exact ⟨hcs', O', hst', fwd he (f5 db _ s), f5 db _ s, hcs, hk⟩
 | hv cs hk frz own shp post sv =>
  obtain ⟨y, fy, hys, he, hC⟩ := hst rfl
  refine ⟨y, fy, hys, he, hC, ?_⟩
  have ko := kok he
  cases y with
  | box cs' n T cells val =>
   have hcs' : cs' = [] := by simpa [hD] using ko
   subst hcs'
   obtain ⟨hcs, hb⟩ := hb
   refine ⟨trivial, fun r => ⟨fwd he (cd db s n _ _), cd db s n _ _, hcs, fun hcons => ?_⟩⟩
   obtain ⟨H1, O1, O2, R, hgh, hT, hk'⟩ := hb hcons
   refine ⟨H1, O1, O2, R, hgh, hT, fun v H' O' hR hle => ?_⟩
   obtain ⟨us, css, O3, e1, e2, e3, e4, e5, y', fy', hy', he', _, hr'⟩ := hk' v H' O' hR hle
   have := (back (lT da frz own sv s us css) hy' he').symm.trans hys
   simp only [Option.some.injEq, Prod.mk.injEq] at this
   obtain ⟨rfl, rfl⟩ := this
   refine ⟨us, css, O3, e1, e2, e3, e4, e5, ?_⟩
   have hn : n ∉ (frz ++ own).map (·.1) := fun hm => hww he n hm (by simp [NF.writes])
   rw [qf (fun d hd hd' => h2 d hd' hd), j8 hn]
   exact hr'.2 r
  | _ => simp [hD] at ko
 | st cs p ws =>
  obtain ⟨hcs, O', hst', y, fy, hy, he, hC, hr⟩ := hb
  refine ⟨y, fy, back (f5 da _ s) hy he, he, hC, ?_⟩
  have ko := kok he
  cases y with
  | box cs' n T cells val =>
   obtain ⟨hcs', hk⟩ := hr
   exact ⟨hcs', fun r => ⟨fwd he (cd db s n _ _), cd db s n _ _, hcs, O', hst', hk r⟩⟩
  | _ => simp [hD] at ko
end Go.Sx
