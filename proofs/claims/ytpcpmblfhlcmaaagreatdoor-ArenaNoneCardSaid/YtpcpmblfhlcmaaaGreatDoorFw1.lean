/- My framework, part 1: a function's code is reckoned to a tree; what the tree says, the function does. Generic: no program in sight. -/
import Derived.Calls
import Derived.Orders
import Derived.Tactics
import Derived.Laws.Sem
import Derived.Laws.Cells
import Derived.Laws.World
import Derived.Laws.Rows
import Derived.Laws.Slices
import Derived.Laws.Tables
import Derived.Laws.Small
namespace Go.Sx
open Go
abbrev Env := Os × (Nat → Question → Nat) × Array (Nat × ByteArray)
def dA (w : World) : Env := (w.os, w.tape, w.output)
structure Heap where
 get : Nat → Option Obj
 env : Env
instance : CoeFun Heap (fun _ => Nat → Option Obj) := ⟨Heap.get⟩
abbrev Own := List (Nat × Obj)
def Heap.le (H H' : Heap) : Prop := (∀ b o, H b = some o → H' b = some o) ∧ H'.env = H.env
theorem Heap.le_refl (H : Heap) : Heap.le H H := ⟨fun _ _ h => h, rfl⟩
theorem Heap.le_trans {H H' H'' : Heap} (h : Heap.le H H') (h' : Heap.le H' H'') : Heap.le H H'' := ⟨fun b o e => h'.1 b o (h.1 b o e), h'.2.trans h.2⟩
structure Models (w : World) (H : Heap) (O : Own) : Prop where
 pers : ∀ b o, H b = some o → w.heap[b]? = some o
 own : ∀ p, p ∈ O → w.heap[p.1]? = some p.2 ∧ H p.1 = none
 nodup : (O.map (·.1)).Nodup
 env : dA w = H.env
theorem Models.perm {w : World} {H : Heap} {O O' : Own} (h : Models w H O) (hp : O.Perm O') : Models w H O' :=
 ⟨h.pers, fun p hp' => h.own p (hp.mem_iff.2 hp'), (hp.map _).nodup_iff.1 h.nodup, h.env⟩
theorem Models.sub {w : World} {H : Heap} {O O' : Own} (h : Models w H O) (hs : O'.Sublist O) : Models w H O' :=
 ⟨h.pers, fun p hp => h.own p (hs.subset hp), (hs.map _).nodup h.nodup, h.env⟩
theorem Models.update {w w' : World} {H : Heap} {r : Nat} {o o' : Obj} {O : Own} (h : Models w H ((r, o) :: O))
  (hs : ∀ b, b ≠ r → w'.heap[b]? = w.heap[b]?) (hr : w'.heap[r]? = some o') (he : dA w' = dA w) : Models w' H ((r, o') :: O) := by
 have hn := h.nodup
 simp only [List.map_cons, List.nodup_cons] at hn
 refine ⟨fun b x hb => ?_, fun p hp => ?_, ?_, he.trans h.env⟩
 ·have hne : b ≠ r := by
   intro e; subst e
   have := (h.own (b, o) (by simp)).2
   simp [this] at hb
  rw [hs b hne]; exact h.pers b x hb
 ·rcases List.mem_cons.1 hp with rfl | hp
  ·exact ⟨hr, (h.own (r, o) (by simp)).2⟩
  ·have hne : p.1 ≠ r := fun e => hn.1 (e ▸ List.mem_map_of_mem hp)
   rw [hs _ hne]; exact h.own p (List.mem_cons_of_mem _ hp)
 ·simpa [List.nodup_cons] using hn
theorem Models.push {w : World} {H : Heap} {O : Own} (h : Models w H O) (o : Obj) :
  Models { w with heap := w.heap.push o } H ((w.heap.size, o) :: O) := by
 have lt : ∀ b (x : Obj), w.heap[b]? = some x → b < w.heap.size := fun b x hb => by
  rcases Nat.lt_or_ge b w.heap.size with h | h
  ·exact h
  ·simp [Array.getElem?_eq_none h] at hb
 have keep : ∀ b (x : Obj), w.heap[b]? = some x → (w.heap.push o)[b]? = some x := fun b x hb => by
  have := lt b x hb
  rw [Array.getElem?_push, if_neg (by omega)]; exact hb
 refine ⟨fun b x hb => keep b x (h.pers b x hb), fun p hp => ?_, ?_, h.env⟩
 ·rcases List.mem_cons.1 hp with rfl | hp
  ·refine ⟨by simp, ?_⟩
   cases hH : H w.heap.size with
   | none => rfl
   | some x => have := lt _ _ (h.pers _ _ hH); omega
  ·exact ⟨keep _ _ (h.own p hp).1, (h.own p hp).2⟩
 ·simp only [List.map_cons, List.nodup_cons]
  refine ⟨fun hm => ?_, h.nodup⟩
  obtain ⟨p, hp, he⟩ := List.mem_map.1 hm
  have := lt _ _ (h.own p hp).1
  omega
theorem Models.same {w w' : World} {H : Heap} {O : Own} (h : Models w H O) (e : w'.heap = w.heap) (he : dA w' = dA w) : Models w' H O :=
 ⟨fun b o hb => by rw [e]; exact h.pers b o hb, fun p hp => by rw [e]; exact h.own p hp, h.nodup, he.trans h.env⟩
def Heap.ins (H : Heap) (r : Nat) (o : Obj) : Heap := ⟨fun b => match H b with
 | some x => some x
 | none => if b = r then some o else none, H.env⟩
theorem Heap.le_ins (H : Heap) (r : Nat) (o : Obj) : Heap.le H (H.ins r o) := ⟨fun b x h => by simp only [Heap.ins]; rw [h], rfl⟩
theorem Models.freeze {w : World} {H : Heap} {r : Nat} {o : Obj} {O : Own} (h : Models w H ((r, o) :: O)) : Models w (H.ins r o) O := by
 have hn := h.nodup
 simp only [List.map_cons, List.nodup_cons] at hn
 refine ⟨fun b x hb => ?_, fun p hp => ?_, hn.2, h.env⟩
 ·simp only [Heap.ins] at hb
  split at hb
  ·rename_i y hy; cases hb; exact h.pers b _ hy
  ·split at hb
   ·rename_i e; subst e; cases hb; exact (h.own (b, o) (by simp)).1
   ·cases hb
 ·have hne : p.1 ≠ r := fun e => hn.1 (e ▸ List.mem_map_of_mem hp)
  have hp' := h.own p (List.mem_cons_of_mem _ hp)
  refine ⟨hp'.1, ?_⟩
  simp only [Heap.ins, hp'.2, if_neg hne]
def Ghost (H : Heap) (O : Own) (H' : Heap) (O' : Own) : Prop := ∀ w F, Models w H (O ++ F) → Models w H' (O' ++ F) ∧ Heap.le H H'
def Cons (H : Heap) (O : Own) : Prop := ∃ w F, Models w H (O ++ F)
theorem Cons.none {H : Heap} {O : Own} (h : Cons H O) {p : Nat × Obj} (hp : p ∈ O) : H p.1 = none :=
 let ⟨_, _, hm⟩ := h; (hm.own p (List.mem_append_left _ hp)).2
theorem Cons.nodup {H : Heap} {O : Own} (h : Cons H O) : (O.map (·.1)).Nodup := by
 obtain ⟨_, _, hm⟩ := h
 have := hm.nodup
 rw [List.map_append] at this
 exact (List.nodup_append.1 this).1
theorem Ghost.refl (H : Heap) (O : Own) : Ghost H O H O := fun _ _ h => ⟨h, Heap.le_refl H⟩
theorem Ghost.trans {H H' H'' : Heap} {O O' O'' : Own} (h : Ghost H O H' O') (h' : Ghost H' O' H'' O'') : Ghost H O H'' O'' :=
 fun w F hm => ⟨(h' w F (h w F hm).1).1, Heap.le_trans (h w F hm).2 (h' w F (h w F hm).1).2⟩
theorem Ghost.perm {H : Heap} {O O' : Own} (hp : O.Perm O') : Ghost H O H O' := fun _ F h => ⟨h.perm (hp.append_right F), Heap.le_refl H⟩
theorem Ghost.sub {H : Heap} {O O' : Own} (hs : O'.Sublist O) : Ghost H O H O' := fun _ F h => ⟨h.sub (hs.append_right F), Heap.le_refl H⟩
theorem Ghost.drop (H : Heap) (O : Own) : Ghost H O H [] := Ghost.sub (List.nil_sublist O)
theorem Ghost.freeze (H : Heap) (r : Nat) (o : Obj) (O : Own) : Ghost H ((r, o) :: O) (H.ins r o) O := fun _ _ h =>
 ⟨Models.freeze (by simpa using h), Heap.le_ins H r o⟩
theorem Ghost.frame {H H' : Heap} {O O' : Own} (h : Ghost H O H' O') (X : Own) : Ghost H (O ++ X) H' (O' ++ X) := fun w F hm => by
 have := h w (X ++ F) (by simpa using hm)
 exact ⟨by simpa using this.1, this.2⟩
def Triple (P : Program) (f : FuncId) (args : List Value) (H : Heap) (O : Own) (Q : Value → Heap → Own → Prop) : Prop :=
 ∀ w F, Models w H (O ++ F) → Calls P f args.toArray w fun e w' => ∃ v H' O', e = .returned v ∧ Q v H' O' ∧ Heap.le H H' ∧ Models w' H' (O' ++ F)
theorem Triple.mono {P : Program} {f : FuncId} {args : List Value} {H : Heap} {O : Own} {Q Q' : Value → Heap → Own → Prop} (h : Triple P f args H O Q)
  (hq : ∀ v H' O', Heap.le H H' → Q v H' O' → Q' v H' O') : Triple P f args H O Q' :=
 fun w F hm => (h w F hm).mono fun _ _ ⟨v, H', O', he, q, hle, hm'⟩ => ⟨v, H', O', he, hq _ _ _ hle q, hle, hm'⟩
theorem Triple.frame {P : Program} {f : FuncId} {args : List Value} {H : Heap} {O : Own} {Q : Value → Heap → Own → Prop} (h : Triple P f args H O Q) (X : Own) :
  Triple P f args H (O ++ X) fun v H' O' => ∃ O'', O' = O'' ++ X ∧ Q v H' O'' :=
 fun w F hm => (h w (X ++ F) (by simpa using hm)).mono fun _ _ ⟨v, H', O', he, q, hle, hm'⟩ => ⟨v, H', O' ++ X, he, ⟨O', rfl, q⟩, hle, by simpa using hm'⟩
def b9 (P : Program) (s : Sem Next) (H : Heap) (O : Own) (Q : Value → Heap → Own → Prop) : Prop :=
 ∀ w F, Models w H (O ++ F) → ∃ v w' H' O', s.run P w = .ok (.value v) w' ∧ Q v H' O' ∧ Heap.le H H' ∧ Models w' H' (O' ++ F)
def Heap.cell? (H : Heap) (a : Addr) : Option Value :=
 match H a.block with
 | some (.cells c _ _) => if a.spot.isSome then none else c[a.off]?
 | _ => none
theorem Models.cell? {w : World} {H : Heap} {O : Own} (h : Models w H O) {a : Addr} {v : Value} (hc : H.cell? a = some v) : w.cell? a = some v := by
 unfold Heap.cell? at hc
 cases hb : H a.block with
 | none => simp [hb] at hc
 | some o =>
  simp only [hb] at hc
  simp only [World.cell?, h.pers _ _ hb]
  exact hc
theorem Heap.le.cell? {H H' : Heap} (h : Heap.le H H') {a : Addr} {v : Value} (hc : H.cell? a = some v) : H'.cell? a = some v := by
 unfold Heap.cell? at *
 cases hb : H a.block with
 | none => simp [hb] at hc
 | some o =>
  simp only [hb] at hc
  simp only [h.1 _ _ hb]
  exact hc
def Heap.read (H : Heap) (p : Value) (m : Nat) : Option (List Value) :=
 match p with
 | .pointer (some a) => (List.range m).mapM fun i => H.cell? (a.add i)
 | _ => none
theorem o9 {α β : Type} {f g : α → Option β} (h : ∀ a b, f a = some b → g a = some b) : ∀ (l : List α) (r : List β), l.mapM f = some r → l.mapM g = some r := by
 intro l
 induction l with
 | nil => intro r h; simpa using h
 | cons a l ih =>
  intro r hr
  simp only [List.mapM_cons, Option.pure_def, Option.bind_eq_bind] at hr ⊢
  cases ha : f a with
  | none => simp [ha] at hr
  | some b =>
   simp only [ha, Option.bind_some] at hr
   cases hl : l.mapM f with
   | none => simp [hl] at hr
   | some bs =>
    simp only [hl, Option.bind_some] at hr
    simp only [h a b ha, ih bs hl, Option.bind_some]
    exact hr
theorem Heap.le.read {H H' : Heap} (h : Heap.le H H') {p : Value} {m : Nat} {vs : List Value} (hr : H.read p m = some vs) : H'.read p m = some vs := by
 cases p with
 | pointer a =>
  cases a with
  | none => simp [Heap.read] at hr
  | some a => exact o9 (fun i v hv => h.cell? hv) _ _ hr
 | _ => simp [Heap.read] at hr
def g (vs : List Value) (i : Nat) : Value := vs.getD i undef
def dq (x : Value) (n : Nat) : Value :=
 match x with
 | .pointer (some a) => .pointer (some (a.add n))
 | _ => undef
def sD : Value → Bool
 | .pointer (some _) => true
 | _ => false
inductive Cp where
 | b (n r off : Nat)
 | v (x : Value)
def Cp.den : Cp → Value
 | .b _ r off => .pointer (some ⟨r, off, none⟩)
 | .v x => x
inductive At where
 | any
 | k (v : Value)
 | v (x : Value)
 | px (x : Value) (off : Nat)
 | p (n r off : Nat)
 | sl (n r off len cap : Nat)
 | clo (f : Nat) (caps : List Cp)
 | mp (n r : Nat)
def At.den : At → Value
 | .any => undef
 | .k x => x
 | .v x => x
 | .px x off => dq x off
 | .p _ r off => .pointer (some ⟨r, off, none⟩)
 | .sl _ r off len cap => .slice (some ⟨r, off, none⟩) len cap
 | .clo f caps => .func (.func f) #[] (caps.map Cp.den).toArray
 | .mp _ r => .map (some r)
def At.known : At → Bool
 | .any => false
 | _ => true
def At.fit : At → Bool
 | .any | .px .. => false
 | .k x => x.oneCell'
 | _ => true
def At.ok : At → Prop
 | .v x => x.oneCell' = true
 | _ => True
inductive S1 where
 | at (a : At)
 | agg (l : List At)
def S1.den : S1 → Value
 | .at a => a.den
 | .agg l => .agg (l.map At.den).toArray
def S1.cells : S1 → List At
 | .at a => [a]
 | .agg l => l
def S1.isAgg : S1 → Bool
 | .agg _ => true
 | _ => false
inductive SV where
 | s (x : S1)
 | tup (l : List S1)
 | opt (gl : List (At × Bool)) (x : S1)
abbrev Gd := List (Value × Bool)
def On : Gd → Prop
 | [] => True
 | p :: r => p.1 = .bool p.2 ∧ On r
def fc (gl : List (At × Bool)) : Gd := gl.map fun p => (p.1.den, p.2)
def SV.rel : SV → Value → Prop
 | .s (.at .any), _ => True
 | .s x, v => v = x.den
 | .tup l, v => v = .tuple (l.map S1.den).toArray
 | .opt gl x, v => (On (fc gl) → v = x.den) ∧ (¬ On (fc gl) → v = undef)
structure Bx where
 r : Nat
 T : TypeId
 cs : List At
structure SS where
 sz : Nat
 tmps : Nat → SV
 mem : Nat → Option Bx
 next : Nat
def SS.set (s : SS) (d : Option Nat) (v : SV) : SS :=
 match d with
 | none => s
 | some d => { s with tmps := fun t => if t = d then v else s.tmps t }
def SS.setBox (s : SS) (n : Nat) (b : Option Bx) : SS := { s with mem := fun m => if m = n then b else s.mem m }
inductive BK where
 | int | bool | str | slice | ptr | iface | map | func
def bW (op : BinOp) (k : IntKind) (a b : Int) : Option Value :=
 match op with
 | .add => some (.int k (k.wrap (a + b)))
 | .sub => some (.int k (k.wrap (a - b)))
 | .mul => some (.int k (k.wrap (a * b)))
 | .quo => if b = 0 then none else some (.int k (k.wrap (a.tdiv b)))
 | .rem => if b = 0 then none else some (.int k (a.tmod b))
 | .and => some (.int k (k.wrap (BitVec.ofInt k.bits a &&& BitVec.ofInt k.bits b).toNat))
 | .or => some (.int k (k.wrap (BitVec.ofInt k.bits a ||| BitVec.ofInt k.bits b).toNat))
 | .xor => some (.int k (k.wrap (BitVec.ofInt k.bits a ^^^ BitVec.ofInt k.bits b).toNat))
 | .andNot => some (.int k (k.wrap (BitVec.ofInt k.bits a &&& ~~~ BitVec.ofInt k.bits b).toNat))
 | .eql => some (.bool (a == b))
 | .neq => some (.bool (a != b))
 | .lss => some (.bool (decide (a < b)))
 | .leq => some (.bool (decide (a ≤ b)))
 | .gtr => some (.bool (decide (a > b)))
 | .geq => some (.bool (decide (a ≥ b)))
 | _ => none
def fS (op : BinOp) (k : IntKind) (a b : Int) : Option Value :=
 if b < 0 then none else
 match op with
 | .shl => some (.int k (k.wrap (a * 2 ^ (min b.toNat k.bits))))
 | .shr => some (.int k (a.fdiv (2 ^ (min b.toNat k.bits))))
 | _ => none
def oe (op : BinOp) (a b : ByteArray) : Option Value :=
 match op with
 | .add => if ((a.size + b.size : Nat) : Int) > IntKind.i64.max then none else some (.string (a ++ b))
 | .eql => some (.bool (a.toList == b.toList))
 | .neq => some (.bool (!(a.toList == b.toList)))
 | _ => none
def yx (bk : BK) (x y : Value) : Option Bool :=
 match bk, x, y with
 | .bool, .bool a, .bool b => some (a == b)
 | .slice, .slice none _ _, .slice b _ _ => some b.isNone
 | .slice, .slice _ _ _, .slice none _ _ => some false
 | .ptr, .pointer none, .pointer b => some b.isNone
 | .ptr, .pointer _, .pointer none => some false
 | .map, .map none, .map b => some b.isNone
 | .map, .map _, .map none => some false
 | .func, .nilFunc, .nilFunc => some true
 | .func, .nilFunc, .func _ _ _ => some false
 | .func, .func _ _ _, .nilFunc => some false
 | _, _, _ => none
def q6 (op : BinOp) (bk : BK) (x y : Value) : Option Value :=
 match op with
 | .eql => (yx bk x y).map .bool
 | .neq => (yx bk x y).map fun b => .bool (!b)
 | _ => none
def ct (op : BinOp) (bk : BK) (x y : Value) : Option Value :=
 match bk, x, y with
 | .int, .int k a, .int k' b =>
  match op with
  | .shl | .shr => fS op k a b
  | _ => if k = k' then bW op k a b else none
 | .str, .string a, .string b => oe op a b
 | _, _, _ => q6 op bk x y
inductive POp where
 | bin (op : BinOp) (bk : BK)
 | not | neg | compl
 | pick
 | len | slen | cap
 | idx (size : Nat)
 | pidx (len size : Nat)
 | sidx
 | aidx
 | conv (k : IntKind)
 | slc (size : Nat) (lo hi mx : Bool)
 | sslc (lo hi : Bool)
 | min2 | max2
def gx (size : Nat) (s i : Value) : Option Value :=
 match s, i with
 | .slice (some a) len _, .int _ i => if 0 ≤ i ∧ i < len then some (.pointer (some (a.add (i.toNat * size)))) else none
 | _, _ => none
def iQ (len size : Nat) (p i : Value) : Option Value :=
 match p, i with
 | .pointer (some a), .int _ i => if 0 ≤ i ∧ i < len then some (.pointer (some (a.add (i.toNat * size)))) else none
 | _, _ => none
def mE (s i : Value) : Option Value :=
 match s, i with
 | .string s, .int _ i => (if 0 ≤ i then s[i.toNat]? else none).map fun b => .int .u8 b.toNat
 | _, _ => none
def iR (i : Value) (cs : List Value) : Option Value :=
 match i with
 | .int _ i => if 0 ≤ i ∧ i < cs.length then cs[i.toNat]? else none
 | _ => none
def asI : Value → Option Int
 | .int _ i => some i
 | _ => none
def AW (i : Int) (y : Nat) : Decidable (0 ≤ i ∧ i ≤ (y : Int)) :=
 match i with
 | .ofNat n => match h : Nat.ble n y with
  | true => .isTrue ⟨Int.natCast_nonneg n, Int.ofNat_le.2 (Nat.le_of_ble_eq_true h)⟩
  | false => .isFalse fun c => by
   have h2 := Nat.ble_eq_true_of_le (Int.ofNat_le.1 c.2)
   rw [h2] at h; cases h
 | .negSucc n => .isFalse fun c => by have := c.1; omega
def qe (v : Value) (y : Nat) : Option Nat := (asI v).bind fun i => @ite (Option Nat) (0 ≤ i ∧ i ≤ (y : Int)) (AW i y) (some i.toNat) none
def bO (x : Option Value) (y d : Nat) : Option Nat :=
 match x with
 | some v => qe v y
 | none => some d
def dF (x : Option Value) (full : Bool) (y d : Nat) : Option Nat :=
 match x with
 | some v => qe v y
 | none => if full then none else some d
def cO (len cap : Nat) (lo hi mx : Option Value) : Option (Nat × Nat × Nat) :=
 (bO mx cap cap).bind fun m => (dF hi mx.isSome m len).bind fun h => (bO lo h 0).bind fun l => some (l, h, m)
def eR : List Bool → List Value → List (Option Value)
 | [], _ => []
 | true :: bs, v :: vs => some v :: eR bs vs
 | true :: bs, [] => none :: eR bs []
 | false :: bs, vs => none :: eR bs vs
def jA (size : Nat) (x : Value) (lo hi mx : Option Value) : Option Value :=
 match x with
 | .slice a len cap => (cO len cap lo hi mx).map fun (l, h, m) => .slice (if m = l then a else a.map (·.add (l * size))) (h - l) (m - l)
 | _ => none
def mD (x : Value) (lo hi : Option Value) : Option Value :=
 match x with
 | .string s => (cO s.size s.size lo hi none).map fun (l, h, _) => .string (s.extract l h)
 | _ => none
def af (op : POp) (args : List Value) : Option Value :=
 match op, args with
 | .bin op bk, [x, y] => ct op bk x y
 | .not, [.bool b] => some (.bool (!b))
 | .neg, [.int k n] => some (.int k (k.wrap (0 - n)))
 | .compl, [.int k n] => bW .xor k (if k.signed then -1 else k.max) n
 | .pick, [.bool b, x, y] => some (if b then x else y)
 | .len, [.slice _ n _] => some (goInt n)
 | .slen, [.string s] => some (goInt s.size)
 | .cap, [.slice _ _ n] => some (goInt n)
 | .idx size, [s, i] => gx size s i
 | .pidx len size, [p, i] => iQ len size p i
 | .sidx, [s, i] => mE s i
 | .aidx, i :: cs => iR i cs
 | .conv k, [.int _ n] => some (.int k (k.wrap n))
 | .slc size lo hi mx, x :: rest => match eR [lo, hi, mx] rest with | [l, h, m] => jA size x l h m | _ => none
 | .sslc lo hi, x :: rest => match eR [lo, hi] rest with | [l, h] => mD x l h | _ => none
 | .min2, [.int k x, .int _ y] => some (.int k (if y < x then y else x))
 | .max2, [.int k x, .int _ y] => some (.int k (if y > x then y else x))
 | _, _ => none
inductive PrimOp where
 | bi (b : Builtin) (argTypes : Array TypeId) (type : TypeId)
 | makeSlice (t : TypeId)
 | makeMap (t : TypeId) (has : Bool)
 | lookup (t : TypeId) (ok : Bool)
 | mapUpdate (t : TypeId)
 | range (t : TypeId)
 | next (str : Bool) (type : TypeId)
 | convert (src dst : TypeId)
 | eqv (op : BinOp) (t : TypeId) (const : Bool)
 | typeAssert (x a : TypeId) (ok : Bool)
 | intr (f : FuncId)
 | entry
 | mkIface (t : TypeId) (agg : Bool)
def PrimOp.sem (o : PrimOp) (args : List Value) : Sem Next :=
 let v (s : Sem Value) : Sem Next := do pure (.value (← s))
 match o, args with
 | .bi b at_ ty, args => builtin b at_ ty #[] args.toArray
 | .makeSlice t, [l, c] => v (Instr.makeSlice t l c)
 | .makeMap t false, [] => v (Instr.makeMap t none)
 | .makeMap t true, [r] => v (Instr.makeMap t (some r))
 | .lookup t ok, [m, k] => v (Instr.lookup t m k ok)
 | .mapUpdate t, [m, k, x] => do Instr.mapUpdate t m k x; pure (.value (.bool false))
 | .range t, [x] => v (Instr.range t x)
 | .next str ty, [x] => v (Instr.next x str ty)
 | .convert a b, [x] => v (Go.convert a b x)
 | .eqv op t c, [x, y] => v (do eqGuard op t (if c then .const undef else .global 0) (.global 0) x y; binOp op t x y)
 | .typeAssert t a ok, [x] => v (Instr.typeAssert x t a ok)
 | .intr f, args => callFunc f args.toArray
 | .entry, [x] => v (Instr.entry x)
 | .mkIface t false, [x] => v (Instr.makeInterface t x)
 | .mkIface t true, cs => v (Instr.makeInterface t (.agg cs.toArray))
 | _, _ => stuck "prim"
inductive Shp where
 | one
 | agg (m : Nat)
 | tup (l : List (Option Nat))
def Shp.openList : List (Option Nat) → List Value → Option (List Value)
 | [], [] => some []
 | none :: r, v :: vs => (Shp.openList r vs).map (v :: ·)
 | some m :: r, .agg cs :: vs => if cs.size = m then (Shp.openList r vs).map (cs.toList ++ ·) else none
 | _, _ => none
def Shp.open : Shp → Value → Option (List Value)
 | .one, v => some [v]
 | .agg m, .agg cs => if cs.size = m then some cs.toList else none
 | .tup l, .tuple vs => Shp.openList l vs.toList
 | _, _ => none
def atsFrom (vs : List Value) (i m : Nat) : List At := (List.range m).map fun j => .v (g vs (i + j))
def Shp.svList (vs : List Value) : Nat → List (Option Nat) → List S1
 | _, [] => []
 | i, none :: r => .at (.v (g vs i)) :: Shp.svList vs (i + 1) r
 | i, some m :: r => .agg (atsFrom vs i m) :: Shp.svList vs (i + m) r
def Shp.sv (vs : List Value) : Shp → SV
 | .one => .s (.at (.v (g vs 0)))
 | .agg m => .s (.agg (atsFrom vs 0 m))
 | .tup l => .tup (Shp.svList vs 0 l)
def Shp.count : Shp → Nat
 | .one => 1
 | .agg m => m
 | .tup l => l.foldr (fun o n => o.getD 1 + n) 0
def Shp.isAgg : Shp → Nat → Bool
 | .agg m, n => m == n
 | _, _ => false
structure BV where
 r : Nat
 T : TypeId
 vs : List Value
def BV.obj (b : BV) : Nat × Obj := (b.r, .cells b.vs.toArray b.T (0, 0))
inductive Ck where
 | eqN (a b : Nat)
 | eqV (a b : Value)
 | ptr (g : Gd) (v : Value)
def Ck.holds : Ck → Prop
 | .eqN a b => a = b
 | .eqV a b => a = b
 | .ptr g v => On g → sD v = true
inductive Tree where
 | stuck (why : Nat)
 | ret (v : Value) (own : List BV)
 | pure (g : Gd) (op : POp) (args : List Value) (k : Value → Tree)
 | raw (g : Gd) (op : PrimOp) (args : List Value) (k : Value → Tree)
 | load (g : Gd) (p : Value) (m : Nat) (k : List Value → Tree)
 | chk (c : Ck) (t : Tree)
 | newbox (k : Nat → Tree)
 | br (v : Value) (t e : Tree)
 | sw (v : Value) (i : Nat) (t e : Tree)
 | call (d : Bool) (f : FuncId) (args : List Value) (frz own : List BV) (shp : Shp) (k : List Value → List (List Value) → Tree)
 | callv (d : Bool) (fv : Value) (args : List Value) (frz own : List BV) (shp : Shp) (k : List Value → List (List Value) → Tree)
 | callm (d : Bool) (m : String) (x : Value) (args : List Value) (frz own : List BV) (shp : Shp) (k : List Value → List (List Value) → Tree)
 | prim (op : PrimOp) (args : List Value) (frz own : List BV) (shp : Shp) (k : List Value → List (List Value) → Tree)
 | store (p : Value) (vs : List Value) (t : Tree)
 | loop (lab key : Nat) (init : List Value) (body : (List Value → Heap → Own → Prop) → List Value → Tree)
 | cut (lab key : Nat) (body : (List Value → Heap → Own → Prop) → Tree) (rest : List Value → Tree)
 | cont (lab : Nat) (C : List Value → Heap → Own → Prop) (vals : List Value) (eqs : List (List Value × List Value))
def Heap.insAll (H : Heap) : List BV → Heap
 | [] => H
 | b :: r => Heap.insAll (H.ins b.r b.obj.2) r
theorem Heap.le_insAll : ∀ (l : List BV) (H : Heap), Heap.le H (H.insAll l)
 | [], H => Heap.le_refl H
 | b :: r, H => Heap.le_trans (Heap.le_ins H b.r b.obj.2) (Heap.le_insAll r _)
def EV (O : Own) (p : Value) (m : Nat) (vs : List Value) : Prop :=
 ∃ a cs T, p = .pointer (some a) ∧ a.spot = none ∧ (a.block, Obj.cells cs T (0, 0)) ∈ O ∧ (cs.toList.drop a.off).take m = vs ∧ vs.length = m
def Reads (H : Heap) (O : Own) (p : Value) (m : Nat) (vs : List Value) : Prop := H.read p m = some vs ∨ EV O p m vs
def cd (cs : List Value) (off : Nat) (vs : List Value) : List Value := cs.take off ++ vs ++ cs.drop (off + vs.length)
def mJ (O : Own) (p : Value) (vs : List Value) (O' : Own) : Prop :=
 ∃ a cs T L, p = .pointer (some a) ∧ a.spot = none ∧ O.Perm ((a.block, Obj.cells cs T (0, 0)) :: L) ∧ a.off + vs.length ≤ cs.size ∧
  O' = (a.block, Obj.cells (cd cs.toList a.off vs).toArray T (0, 0)) :: L
def eW : List BV → List (List Value) → List BV
 | b :: bs, c :: cs => { b with vs := c } :: eW bs cs
 | _, _ => []
def Ones : List Value → Prop
 | [] => True
 | v :: r => v.oneCell' = true ∧ Ones r
def EX : List BV → List (List Value) → Prop
 | [], [] => True
 | b :: bs, c :: cs => c.length = b.vs.length ∧ Ones c ∧ EX bs cs
 | _, _ => False
def Eqs : List (List Value × List Value) → Prop
 | [] => True
 | p :: r => p.1 = p.2 ∧ Eqs r
def gU (P : Program) (f : FuncId) : Prop := ∃ fn, P.funcs[f]? = some fn ∧ (fn.name == "runtime.NumGoroutine") = false ∧ fn.body.isNone = false
def er (T : Heap → Own → (Value → Heap → Own → Prop) → Prop) (d : Bool) (frz own : List BV) (shp : Shp) (K : List Value → List (List Value) → Heap → Own → Prop)
  (H : Heap) (O : Own) : Prop :=
 Cons H (frz.map BV.obj ++ (own.map BV.obj ++ O)) → ∃ H1 O1 O2 Q, (if d then H1 = H.insAll frz ∧ ((O1 = [] ∧ O2 = O) ∨ (own = [] ∧ O1 = O ∧ O2 = [] ∧ ∀ v H' O', Q v H' O' → O' = O)) else Ghost (H.insAll frz) O H1 (O1 ++ O2)) ∧ T H1 (own.map BV.obj ++ O1) Q ∧
  ∀ v H' O', Q v H' O' → Heap.le H1 H' → ∃ vs cs O3, shp.open v = some vs ∧ Ones vs ∧ EX own cs ∧ O' = (eW own cs).map BV.obj ++ O3 ∧ K vs cs H' (O3 ++ O2)
def yu (P : Program) (m : String) (x : Value) (f : FuncId) (r : Value) : Prop :=
 ∃ t v, x = .iface t v ∧ ∀ w, (method (P.types.size + Made.depth) t v m).run P w = .ok (f, r) w
def Tree.den (P : Program) (Q : Value → Heap → Own → Prop) : Tree → Heap → Own → Prop
 | .stuck _, _, _ => False
 | .ret v own, H, O => Cons H (own.map BV.obj ++ O) → ∃ H' O', Ghost H (own.map BV.obj ++ O) H' O' ∧ Q v H' O'
 | .pure gd op args k, H, O => ∃ v, (On gd → af op args = some v) ∧ (gd = [] ∨ v.oneCell' = true) ∧ (k v).den P Q H O
 | .raw gd op args k, H, O => ∃ v, (On gd → ∀ w, (op.sem args).run P w = .ok (.value v) w) ∧ v.oneCell' = true ∧ (k v).den P Q H O
 | .load gd p m k, H, O => ∃ vs, vs.length = m ∧ Ones vs ∧ (On gd → Reads H O p m vs) ∧ (k vs).den P Q H O
 | .chk c t, H, O => c.holds ∧ t.den P Q H O
 | .newbox k, H, O => ∀ r, (k r).den P Q H O
 | .br v t e, H, O => ∃ b, v = .bool b ∧ (b = true → t.den P Q H O) ∧ (b = false → e.den P Q H O)
 | .sw v i t e, H, O => ∃ kd n, v = .int kd n ∧ (n = i → t.den P Q H O) ∧ (n ≠ i → e.den P Q H O)
 | .call d f args frz own shp k, H, O => er (fun H1 O1 R => Triple P f args H1 O1 R) d frz own shp (fun vs cs => (k vs cs).den P Q) H O
 | .callv d fv args frz own shp k, H, O => ∃ f caps, fv = .func (.func f) #[] caps ∧ gU P f ∧
   er (fun H1 O1 R => Triple P f (args ++ caps.toList) H1 O1 R) d frz own shp (fun vs cs => (k vs cs).den P Q) H O
 | .callm d m x args frz own shp k, H, O => ∃ f r, yu P m x f r ∧ gU P f ∧
   er (fun H1 O1 R => Triple P f (r :: args) H1 O1 R) d frz own shp (fun vs cs => (k vs cs).den P Q) H O
 | .prim op args frz own shp k, H, O => er (fun H1 O1 R => b9 P (op.sem args) H1 O1 R) false frz own shp (fun vs cs => (k vs cs).den P Q) H O
 | .store p vs t, H, O => ∃ O', mJ O p vs O' ∧ t.den P Q H O'
 | .loop _ _ init body, H, O => ∃ (I : List Value → Heap → Own → Prop) (μ : List Value → Heap → Own → Nat),
   (Cons H O → ∃ H1 O1, Ghost H O H1 O1 ∧ I init H1 O1) ∧
   ∀ vs H' O', vs.length = init.length → Ones vs → Heap.le H H' → I vs H' O' →
    (body (fun vs' H'' O'' => Cons H'' O'' → ∃ H3 O3, Ghost H'' O'' H3 O3 ∧ I vs' H3 O3 ∧ μ vs' H3 O3 < μ vs H' O') vs).den P Q H' O'
 | .cut _ _ body rest, H, O => ∃ R : List Value → Heap → Own → Prop,
   (body (fun vs' H'' O'' => Cons H'' O'' → ∃ H3 O3, Ghost H'' O'' H3 O3 ∧ R vs' H3 O3)).den P Q H O ∧
   ∀ vs H' O', Ones vs → Heap.le H H' → R vs H' O' → (rest vs).den P Q H' O'
 | .cont _ C vals eqs, H, O => Eqs eqs ∧ C vals H O
inductive FK where
 | sil
 | pure (g : Gd) (op : POp) (args : List Value)
 | raw (g : Gd) (op : PrimOp) (args : List Value)
 | load (g : Gd) (p : Value) (m : Nat)
 | split (c : Value)
 | isplit (c : Value) (n : Nat)
inductive HK where
 | call (f : FuncId) (args : List Value)
 | callv (fv : Value) (args : List Value)
 | callm (m : String) (x : Value) (args : List Value)
 | prim (op : PrimOp) (args : List Value)
inductive NF where
 | fl (cs : List Ck) (k : FK) (X : List Value → SV)
 | box (cs : List Ck) (name : Nat) (T : TypeId) (cells : List At) (val : Nat → At)
 | stb (cs : List Ck) (n : Nat) (b : Bx)
 | hv (cs : List Ck) (k : HK) (frz own : List (Nat × Bx)) (shp : Shp) (post : List Value → List Ck) (sv : List Value → SV)
 | st (cs : List Ck) (p : Value) (vs : List Value)
structure FP where
 reads : List Nat := []
def FK.ch : FK → Bool
 | .pure gd _ _ | .raw gd _ _ => !gd.isEmpty
 | .load .. => true
 | _ => false
def NF.ch : NF → Bool
 | .fl _ k _ => k.ch
 | _ => false
def NF.bx : NF → Bool
 | .box .. => true
 | _ => false
def NF.writes : NF → List Nat
 | .box _ n _ _ _ => [n]
 | .stb _ n _ => [n]
 | .hv _ _ frz own _ _ _ => (frz ++ own).map (·.1)
 | _ => []
def eP (P : Program) (t : TypeId) : Option Nat :=
 match P.info? t, P.underlying t with
 | some i, some _ => some i.size
 | _, _ => none
def bT (P : Program) (t : TypeId) : Bool :=
 match P.underlying t with
 | some (.struct _) | some (.array _ _) => true
 | _ => false
def jL (P : Program) (t : TypeId) : Option (List At) := ((P.info? t).bind (·.zero)).map fun z => z.cells.toList.map .k
def jz (P : Program) (t : TypeId) (f : Nat) : Option Field :=
 match P.underlying t with
 | some (.struct fs) => fs[f]?
 | _ => none
def vX (P : Program) (t : TypeId) (cs : List At) : Option S1 :=
 if bT P t then some (.agg cs) else match cs with | [a] => some (.at a) | _ => none
def S1.known (x : S1) : Bool := x.cells.all At.known
def ly : Value → S1
 | .agg cs => .agg (cs.toList.map .k)
 | v => .at (.k v)
def lC (gl gl' : List (At × Bool)) : Option (List Ck) :=
 let rear := gl.drop (gl.length - gl'.length)
 if rear.length = gl'.length && (rear.zip gl').all (fun p => p.1.2 == p.2.2) then some ((rear.zip gl').map fun p => .eqV p.1.1.den p.2.1.den) else none
def gP (s : SS) (gl : List (At × Bool)) (x : Operand) : Option (S1 × List Ck) :=
 match x with
 | .tmp t =>
  match s.tmps t with
  | .s x => if x.known then some (x, []) else none
  | .opt gl' x => if x.known then (lC gl gl').map fun c => (x, c) else none
  | .tup _ => none
 | .const v => some (ly v, [])
 | .global n => some (.at (.k (.pointer (some ⟨n, 0, none⟩))), [])
 | .func f => some (.at (.clo f []), [])
def dh (s : SS) (gl : List (At × Bool)) (x : Operand) : Option (At × List Ck) :=
 match gP s gl x with
 | some (.at a, c) => some (a, c)
 | _ => none
def bI (s : SS) (gl : List (At × Bool)) : List Operand → Option (List At × List Ck)
 | [] => some ([], [])
 | x :: r =>
  match dh s gl x, bI s gl r with
  | some (a, c), some (as, cs) => some (a :: as, c ++ cs)
  | _, _ => none
def fA (s : SS) (gl : List (At × Bool)) : List Operand → Option (List S1 × List Ck)
 | [] => some ([], [])
 | x :: r =>
  match gP s gl x, fA s gl r with
  | some (a, c), some (as, cs) => some (a :: as, c ++ cs)
  | _, _ => none
inductive GR where
 | go (gl : List (At × Bool))
 | skip
 | bad
def ar (tgt : Nat → Option Tmp) (s : SS) (o : Oper) : GR :=
 match o.guard with
 | none => .go []
 | some (j, want) =>
  match tgt j with
  | none => .bad
  | some t =>
   match s.tmps t with
   | .s (.at (.k (.bool b))) => if b == want then .go [] else .skip
   | .s (.at (.k (.tuple _))) => .skip
   | .s (.at c) => if c.known then .go [(c, want)] else .bad
   | .opt gl (.at c) => if c.known then .go ((c, want) :: gl) else .bad
   | _ => .bad
def o8 (gl : List (At × Bool)) (x : S1) : SV := if gl.isEmpty then .s x else .opt gl x
def nv : At → Option Value
 | .k (.int k n) => some (.int k n)
 | .k (.bool b) => some (.bool b)
 | _ => none
def Ao (op : POp) (args : List At) : Option Value :=
 (args.mapM nv).bind (af op)
def cA (gl : List (At × Bool)) (total : Bool) (dst : Option Tmp) (op : POp) (args : List At) (cs : List Ck) : NF :=
 match Ao op args with
 | some v => .fl cs .sil (fun _ => (o8 gl (.at (.k v))))
 | none => .fl cs (.pure (if total then [] else fc gl) op (args.map At.den)) (fun vs => (o8 gl (.at (.v (g vs 0)))))
def FX (P : Program) (t : TypeId) : Option BK :=
 match P.underlying t with
 | some (.int _) => some .int
 | some .bool => some .bool
 | some .string => some .str
 | some (.slice _) => some .slice
 | some (.pointer _) => some .ptr
 | some (.map _ _) => some .map
 | some (.func _ _ _) => some .func
 | _ => none
def dl (cells : List At) (off : Nat) (v : List At) : List At := cells.take off ++ v ++ cells.drop (off + v.length)
def bV (s : SS) (gl : List (At × Bool)) (place : Nat → Option (Nat × Nat)) : List (Nat × Operand) → List At → Option (List At × List Ck)
 | [], cells => some (cells, [])
 | (i, x) :: r, cells =>
  match place i, gP s gl x with
  | some (off, size), some (v, c) =>
   if v.cells.length = size && off + size ≤ cells.length && v.cells.all At.fit then
    (bV s gl place r (dl cells off v.cells)).map fun (cs, c') => (cs, c ++ c')
   else none
  | _, _ => none
def bg (z : List At) : Nat → List At
 | 0 => []
 | n + 1 => z ++ bg z n
def yq (l : List Nat) (n : Nat) : List Nat := if l.contains n then l else l ++ [n]
def dw : List At → List Nat → List Nat
 | [], acc => acc
 | .sl n .. :: r, acc => dw r (yq acc n)
 | _ :: r, acc => dw r acc
def tK : List Cp → List Nat → List Nat
 | [], acc => acc
 | .b n .. :: r, acc => tK r (yq acc n)
 | _ :: r, acc => tK r acc
def dH : List At → List Nat → List Nat
 | [], acc => acc
 | .p n .. :: r, acc => dH r (yq acc n)
 | .clo _ cs :: r, acc => dH r (tK cs acc)
 | _ :: r, acc => dH r acc
def dz (s : SS) (l : List Nat) : List (Nat × Bx) := l.filterMap fun n => (s.mem n).map fun b => (n, b)
def Bx.bv (b : Bx) : BV := ⟨b.r, b.T, b.cs.map At.den⟩
def aU : List Nat → SS → SS
 | [], s => s
 | n :: r, s => aU r (s.setBox n none)
def rz : Nat → List (Nat × Bx) → List (List Value) → SS → SS
 | _, [], _, s => s
 | i, (n, b) :: r, css, s => rz (i + 1) r css (s.setBox n (some { b with cs := atsFrom (css.getD i []) 0 b.cs.length }))
def bH : List (Nat × Bx) → List (List Value) → SS → SS
 | (n, b) :: r, vs :: vss, s => bH r vss (s.setBox n (some { b with cs := atsFrom vs 0 b.cs.length }))
 | _, _, s => s
def cn (s : SS) : Nat → List Nat → List Nat → List Nat
 | 0, r, acc => r ++ acc
 | _, [], acc => acc
 | fuel + 1, n :: r, acc =>
  if acc.contains n then cn s fuel r acc else
  match s.mem n with
  | none => cn s fuel r (acc ++ [n])
  | some b => cn s fuel (dw b.cs (dH b.cs r)) (acc ++ [n])
def cP (s : SS) : Nat → List Nat → List Nat → List Nat
 | 0, r, acc => r ++ acc
 | _, [], acc => acc
 | fuel + 1, n :: r, acc =>
  if acc.contains n then cP s fuel r acc else
  match s.mem n with
  | none => cP s fuel r (acc ++ [n])
  | some b => cP s fuel (dH b.cs r) (acc ++ [n])
def dU (s : SS) : List Nat → List Nat → List Nat
 | [], acc => acc
 | n :: r, acc => dU s r (match s.mem n with | some b => dw b.cs acc | none => acc)
def E7 (P : Program) (t : TypeId) : Option Shp :=
 match P.underlying t with
 | some (.tuple ts) => some (.tup (ts.toList.map fun t => if bT P t then eP P t else none))
 | some (.struct _) | some (.array _ _) => (eP P t).map .agg
 | some _ => some .one
 | none => none
def xd : List Nat → Bool
 | [] => true
 | n :: r => !r.contains n && xd r
def bD (s : SS) (dst : Option Tmp) (shp : Shp) (hk : HK) (atoms : List At) (cs : List Ck) : Option (NF × FP) :=
 let ps := cP s 50 (dH atoms []) []
 let frzN := cn s 50 (dU s ps (dw atoms [])) []
 let ownN := ps.filter (!frzN.contains ·)
 let frz := dz s frzN
 let own := dz s ownN
 let rds := ps ++ frzN
 if (frz ++ own).all (fun p => p.2.cs.all At.known) && xd ((frz ++ own).map (·.1)) then
  some (.hv cs hk frz own shp (fun _ => []) shp.sv, { reads := rds })
 else none
def wO : At → List Nat
 | .p n .. => [n]
 | .sl n .. => [n]
 | _ => []
def so (gl : List (At × Bool)) (x : At) (o : Nat) : Option (At × List Ck) :=
 match x with
 | .p n r off => some (.p n r (off + o), [])
 | .v x => some (if o = 0 then .v x else if gl.isEmpty then .v (dq x o) else .px x o, [.ptr (fc gl) x])
 | .px x off => some (.px x (off + o), [.ptr (fc gl) x])
 | .k x => some (if o = 0 then .k x else if gl.isEmpty then .v (dq x o) else .px x o, [.ptr (fc gl) x])
 | _ => none
def j7 (P : Program) (s : SS) (gl : List (At × Bool)) (dst : Option Tmp) (t : TypeId) (x : At) (cs : List Ck) : Option (NF × FP) :=
 (eP P t).bind fun m =>
 let far (y : Value) : Option (NF × FP) := some (.fl cs (.load (fc gl) y m)
   (fun vs => (o8 gl (if bT P t then .agg (atsFrom vs 0 m) else .at (.v (g vs 0))))), { reads := wO x })
 match x with
 | .p n r off =>
  match s.mem n with
  | some b =>
   let cells := (b.cs.drop off).take m
   if cells.length = m && cells.all At.known then
    (vX P t cells).map fun v => (.fl (.eqN r b.r :: cs) .sil (fun _ => (o8 gl v)), { reads := [n] })
   else none
  | none => if !bT P t && m != 1 then none else far x.den
 | .v _ | .px _ _ | .k _ => if !bT P t && m != 1 then none else far x.den
 | _ => none
def ga (P : Program) (s : SS) (t : TypeId) (x : At) (y : S1) (cs : List Ck) : Option (NF × FP) :=
 (eP P t).bind fun m =>
 if y.cells.length ≠ m || !y.cells.all At.fit then none else
 match x with
 | .p n r off =>
  match s.mem n with
  | some b =>
   if off + m ≤ b.cs.length then
    some (.stb (.eqN r b.r :: cs) n { b with cs := dl b.cs off y.cells }, { reads := [n] })
   else none
  | none => none
 | .v _ | .px _ _ => if m = 0 then none else some (.st (.ptr [] x.den :: cs) x.den (y.cells.map At.den), {})
 | _ => none
def jW (P : Program) (t : TypeId) (cs : List At) (off : Nat) : Option S1 :=
 (eP P t).bind fun m =>
 let l := (cs.drop off).take m
 if l.length = m then vX P t l else none
def dT : At → Option Nat
 | .k (.int _ n) => if 0 ≤ n then some n.toNat else none
 | _ => none
def gn (P : Program) (gl : List (At × Bool)) (dst : Option Tmp) (t : TypeId) (x i : At) (cs : List Ck) : Option (NF × FP) :=
 match P.underlying t with
 | some (.array len elem) =>
  (eP P elem).bind fun size =>
  match dT i with
  | some n => if n < len then (so gl x (n * size)).map fun (a, c) => (.fl (c ++ cs) .sil (fun _ => (o8 gl (.at a))), {}) else none
  | none =>
   match x with
   | .p n r off => if gl.isEmpty && len ≤ 16 then some (.fl cs (.isplit i.den len) (fun vs => (.s (.at (.p n r (off + (match g vs 0 with | .int _ n => n.toNat | _ => 0) * size))))), {}) else none
   | .v _ | .px _ _ | .k _ => if len ≤ 1 then none else some (cA gl false dst (.pidx len size) [x, i] cs, {})
   | _ => none
 | some (.slice elem) =>
  (eP P elem).bind fun size =>
  match x, dT i with
  | .sl n r off len _, some k => if k < len then some (.fl cs .sil (fun _ => (o8 gl (.at (.p n r (off + k * size))))), {}) else none
  | _, _ => some (cA gl false dst (.idx size) [x, i] cs, {})
 | _ => none
def qw (P : Program) (gl : List (At × Bool)) (dst : Option Tmp) (t : TypeId) (x : At) (lo hi mx : Option At) (cs : List Ck) : Option (NF × FP) :=
 let rest := lo.toList ++ hi.toList ++ mx.toList
 match P.underlying t with
 | some .string => if mx.isSome then none else some (cA gl false dst (.sslc lo.isSome hi.isSome) (x :: rest) cs, {})
 | some (.slice elem) =>
  (eP P elem).bind fun size =>
  match x, lo.map dT, hi.map dT, mx with
  | .sl n r off len cap, l, h, none =>
   match l.getD (some 0), h.getD (some len) with
   | some l, some h => if l ≤ h && h ≤ cap then some (.fl cs .sil (fun _ => (o8 gl (.at (.sl n r (if cap = l then off else off + l * size) (h - l) (cap - l))))), {}) else none
   | _, _ => some (cA gl false dst (.slc size lo.isSome hi.isSome mx.isSome) (x :: rest) cs, {})
  | _, _, _, _ => some (cA gl false dst (.slc size lo.isSome hi.isSome mx.isSome) (x :: rest) cs, {})
 | some (.array len elem) =>
  (eP P elem).bind fun size =>
  match x, lo.map dT, hi.map dT, mx with
  | .p n r off, l, h, none =>
   match l.getD (some 0), h.getD (some len) with
   | some l, some h => if l ≤ h && h ≤ len then some (.fl cs .sil (fun _ => (o8 gl (.at (.sl n r (if len = l then off else off + l * size) (h - l) (len - l))))), {}) else none
   | _, _ => none
  | .k (.pointer (some ⟨r, off, none⟩)), l, h, none =>
   match l.getD (some 0), h.getD (some len) with
   | some l, some h => if l ≤ h && h ≤ len then some (.fl cs .sil (fun _ => (o8 gl (.at (.k (.slice (some ⟨r, if len = l then off else off + l * size, none⟩) (h - l) (len - l)))))), {}) else none
   | _, _ => none
  | _, _, _, _ => none
 | _ => none
def kn : List At → Option (List Cp)
 | [] => some []
 | .p n r off :: l => (kn l).map (.b n r off :: ·)
 | .v x :: l => (kn l).map (.v x :: ·)
 | .k x :: l => (kn l).map (.v x :: ·)
 | _ => none
def ni (x : At) : List Nat → Option (List At)
 | [] => some []
 | o :: r => match x, ni x r with
  | .p n r' off, some l => some (.p n r' (off + o) :: l)
  | _, _ => none
def qF (vs : List Value) : List At → Nat → List Ck
 | [], _ => []
 | a :: r, i => .eqV (g vs i) a.den :: qF vs r (i + 1)
def aS (gl : List (At × Bool)) (dst : Option Tmp) (v : S1) (cs : List Ck) : Option (NF × FP) := some (.fl cs .sil (fun _ => (o8 gl v)), {})
def d5 (s : SS) (gl : List (At × Bool)) (dst : Option Tmp) (name : Nat) (T : TypeId) (cells : List At) (val : Nat → At) (cs : List Ck) : Option (NF × FP) :=
 if gl.isEmpty && (s.mem name).isNone then some (.box cs name T cells val, { reads := [name] }) else none
def ia (s : SS) (gl : List (At × Bool)) (dst : Option Tmp) (sp : Bool) (x : Operand) : Option (NF × FP) :=
 if sp then
  if gl.isEmpty then
   (dh s gl x).bind fun (a, cs) =>
    match a with
    | .k v => aS gl dst (.at (.k v)) cs
    | a => some (.fl cs (.split a.den) (fun vs => (.s (.at (.k (g vs 0))))), {})
  else none
 else
  match x with
  | .tmp t => match s.tmps t with
   | .tup l => if gl.isEmpty then some (.fl [] .sil (fun _ => (.tup l)), {}) else none
   | _ => (gP s gl x).bind fun (v, cs) => aS gl dst v cs
  | x => (gP s gl x).bind fun (v, cs) => aS gl dst v cs
def ny (s : SS) (gl : List (At × Bool)) (dst : Option Tmp) (c a b : Operand) : Option (NF × FP) :=
 (dh s gl c).bind fun (c, cs) =>
  match c with
  | .k (.bool true) => (gP s gl a).bind fun (v, cs') => aS gl dst v (cs ++ cs')
  | .k (.bool false) => (gP s gl b).bind fun (v, cs') => aS gl dst v (cs ++ cs')
  | c =>
   match dh s ((c, true) :: gl) a, dh s ((c, false) :: gl) b with
   | some (a, ca), some (b, cb) => if a.fit && b.fit then some (cA gl true dst .pick [c, a, b] (cs ++ ca ++ cb), {}) else none
   | _, _ => none
def jI (P : Program) (s : SS) (gl : List (At × Bool)) (dst : Option Tmp) (T : TypeId) (parts : List (Nat × Operand)) : Option (NF × FP) :=
 (jL P T).bind fun zero =>
  match P.underlying T with
  | some (.struct fs) =>
   (fs.toList.mapM fun f => (P.info? f.type).map fun i => (f.offset, i.size)).bind fun places =>
    (bV s gl (fun i => places.toArray[i]?) parts zero).bind fun (cells, cs) => aS gl dst (.agg cells) cs
  | some (.array _ elem) =>
   (eP P elem).bind fun size => (bV s gl (fun i => some (i * size, size)) parts zero).bind fun (cells, cs) => aS gl dst (.agg cells) cs
  | _ => none
def cF (P : Program) (s : SS) (gl : List (At × Bool)) (dst : Option Tmp) (name : Nat) (T : TypeId) (len : Nat) (parts : List (Nat × Operand)) : Option (NF × FP) :=
 match P.underlying T with
 | some (.slice elem) =>
  (eP P elem).bind fun size => (jL P elem).bind fun zero =>
   if zero.length = size && size ≠ 0 && len * size ≤ 65536 then
    (bV s gl (fun i => some (i * size, size)) parts (bg zero len)).bind fun (cells, cs) => d5 s gl dst name elem cells (fun r => .sl name r 0 len len) cs
   else none
 | _ => none
def Ac (gl : List (At × Bool)) (dst : Option Tmp) (x : At) (cs : List Ck) : Option (NF × FP) :=
 match x with
 | .p .. | .clo .. => aS gl dst (.at x) cs
 | .v y | .k y => aS gl dst (.at x) (.ptr (fc gl) y :: cs)
 | .px y _ => aS gl dst (.at x) (.ptr (fc gl) y :: cs)
 | _ => none
def ln : Operand → Bool
 | .const _ => true
 | _ => false
def yG : BinOp → Bool
 | .quo | .rem | .shl | .shr => false
 | _ => true
def s4 (P : Program) (s : SS) (gl : List (At × Bool)) (dst : Option Tmp) (op : BinOp) (t : TypeId) (x y : Operand) : Option (NF × FP) :=
 match FX P t with
 | some bk => (bI s gl [x, y]).bind fun (as, cs) => some (cA gl (yG op) dst (.bin op bk) as cs, {})
 | none =>
  match op with
  | .eql | .neq => (fA s gl [x, y]).bind fun (as, cs) => some (.fl cs (.raw (fc gl) (.eqv op t (ln x || ln y)) (as.map S1.den)) (fun vs => (o8 gl (.at (.v (g vs 0))))), {})
  | _ => none
def F3 (P : Program) (gl : List (At × Bool)) (dst : Option Tmp) (op : UnOp) (t : TypeId) (x : At) (cs : List Ck) : Option (NF × FP) :=
 match op, P.underlying t with
 | .not, some .bool => some (cA gl true dst .not [x] cs, {})
 | .neg, some (.int _) => some (cA gl true dst .neg [x] cs, {})
 | .xor, some (.int _) => some (cA gl true dst .compl [x] cs, {})
 | _, _ => none
def oq (P : Program) (s : SS) (gl : List (At × Bool)) (dst : Option Tmp) (a b : TypeId) (x : At) (cs : List Ck) : Option (NF × FP) :=
 match P.underlying a, P.underlying b with
 | some (.int _), some (.int k) => some (cA gl true dst (.conv k) [x] cs, {})
 | _, _ => if gl.isEmpty then bD s dst .one (.prim (.convert a b) [x.den]) [x] cs else none
def jw (P : Program) (s : SS) (gl : List (At × Bool)) (dst : Option Tmp) (t : TypeId) (x : Operand) : Option (NF × FP) :=
 match P.underlying t with
 | some (.interface _) | none => none
 | some _ => (gP s gl x).bind fun (v, cs) => if (dH v.cells (dw v.cells [])).isEmpty then aS gl dst (.at (.v (.iface t v.den))) cs else
  if gl.isEmpty then bD s dst .one (.prim (.mkIface t v.isAgg) (v.cells.map At.den)) v.cells cs else none
def qV (P : Program) (gl : List (At × Bool)) (dst : Option Tmp) (t : TypeId) (x : S1) (i : At) (cs : List Ck) : Option (NF × FP) :=
 match P.underlying t, x with
 | some (.array len elem), .agg cells =>
  (eP P elem).bind fun size =>
   match dT i with
   | some n => if n < len then (jW P elem cells (n * size)).bind fun v => aS gl dst v cs else none
   | none => if size = 1 && !bT P elem && cells.length = len && cells.all At.fit && (dH cells (dw cells [])).isEmpty then some (cA gl false dst .aidx (i :: cells) cs, {})
    else if gl.isEmpty && size = 1 && !bT P elem && cells.length = len && cells.all At.known && len ≤ 16 then some (.fl cs (.isplit i.den len) (fun vs => .s (.at (cells.getD (match g vs 0 with | .int _ n => n.toNat | _ => 0) .any))), {}) else none
 | some .string, .at x => some (cA gl false dst .sidx [x, i] cs, {})
 | _, _ => none
def cQ (s : SS) (gl : List (At × Bool)) (dst : Option Tmp) (x : Operand) (i : Nat) : Option (NF × FP) :=
 match x with
 | .tmp t => match s.tmps t with
  | .tup l => (l[i]?).bind fun v => if v.known then aS gl dst v [] else none
  | _ => none
 | _ => none
def xp (P : Program) (s : SS) (gl : List (At × Bool)) (dst : Option Tmp) (ty t : TypeId) (x : At) (cs : List Ck) : Option (NF × FP) :=
 match P.underlying t with
 | some (.slice _) =>
  match x with
  | .sl _ _ _ n _ => aS gl dst (.at (.k (goInt n))) cs
  | x => some (cA gl true dst .len [x] cs, {})
 | some .string => some (cA gl true dst .slen [x] cs, {})
 | some (.array n _) => aS gl dst (.at (.k (goInt n))) cs
 | some (.map _ _) => if gl.isEmpty then bD s dst .one (.prim (.bi .len #[t] ty) [x.den]) [x] cs else none
 | _ => none
def FT (P : Program) (gl : List (At × Bool)) (dst : Option Tmp) (t : TypeId) (x : At) (cs : List Ck) : Option (NF × FP) :=
 match P.underlying t with
 | some (.slice _) =>
  match x with
  | .sl _ _ _ _ n => aS gl dst (.at (.k (goInt n))) cs
  | x => some (cA gl true dst .cap [x] cs, {})
 | _ => none
def Em {α : Type} : List α → Option α
 | [x] => some x
 | _ => none
def EY {α : Type} : List α → Option (α × α)
 | [x, y] => some (x, y)
 | _ => none
def eN (P : Program) (s : SS) (gl : List (At × Bool)) (dst : Option Tmp) (ty : TypeId) (b : Builtin) (argTypes : Array TypeId) (args : List Operand) : Option (NF × FP) :=
 match b with
 | .len => (Em argTypes.toList).bind fun t => (Em args).bind fun x => (dh s gl x).bind fun (x, cs) => xp P s gl dst ty t x cs
 | .cap => (Em argTypes.toList).bind fun t => (Em args).bind fun x => (dh s gl x).bind fun (x, cs) => FT P gl dst t x cs
 | .min => (EY args).bind fun (x, y) => (bI s gl [x, y]).bind fun (as, cs) => some (cA gl true dst .min2 as cs, {})
 | .max => (EY args).bind fun (x, y) => (bI s gl [x, y]).bind fun (as, cs) => some (cA gl true dst .max2 as cs, {})
 | .append | .copy =>
  if gl.isEmpty then (bI s gl args).bind fun (as, cs) => bD s dst .one (.prim (.bi b argTypes ty) (as.map At.den)) as cs else none
 | .delete | .clear =>
  if gl.isEmpty then (bI s gl args).bind fun (as, cs) => bD s dst (.tup []) (.prim (.bi b argTypes ty) (as.map At.den)) as cs else none
 | _ => none
def ox (P : Program) (okf : FuncId → Bool) (rules : FuncId → Option (List Nat)) (s : SS) (dst : Option Tmp) (ty : TypeId) (f : At) (as : List S1) (cs : List Ck) : Option (NF × FP) :=
 (E7 P ty).bind fun shp =>
  match f with
  | .clo n caps =>
   if !okf n then (if caps.isEmpty then bD s dst shp (.prim (.intr n) (as.map S1.den)) (as.flatMap S1.cells) cs else none) else
   match caps.isEmpty, rules n, Em as with
   | true, some offs, some (.at x) =>
    (ni x offs).bind fun l => if shp.isAgg l.length then
     some (.hv cs (.call n [x.den]) [] [] shp (fun vs => qF vs l 0) (fun _ => .s (.agg l)), {}) else none
   | _, _, _ => bD s dst shp (.call n (as.map S1.den ++ caps.map Cp.den)) (f :: as.flatMap S1.cells) cs
  | .v x => bD s dst shp (.callv x (as.map S1.den)) (as.flatMap S1.cells) cs
  | .k x => bD s dst shp (.callv x (as.map S1.den)) (as.flatMap S1.cells) cs
  | _ => none
def nL (P : Program) (s : SS) (dst : Option Tmp) (ty : TypeId) (m : String) (x : At) (as : List S1) (cs : List Ck) : Option (NF × FP) :=
 (E7 P ty).bind fun shp =>
  match x with
  | .v y => bD s dst shp (.callm m y (as.map S1.den)) (.v y :: as.flatMap S1.cells) cs
  | .k y => bD s dst shp (.callm m y (as.map S1.den)) (.k y :: as.flatMap S1.cells) cs
  | _ => none
def cL (s : SS) (gl : List (At × Bool)) (dst : Option Tmp) (shp : Shp) (op : PrimOp) (xs : List Operand) : Option (NF × FP) :=
 if gl.isEmpty then (bI s gl xs).bind fun (as, cs) => bD s dst shp (.prim op (as.map At.den)) as cs else none
def jc : Operand → Option Nat
 | .const (.int .i64 n) => if 0 ≤ n ∧ n ≤ 65536 then some n.toNat else none
 | _ => none
def cD (P : Program) (s : SS) (gl : List (At × Bool)) (dst : Option Tmp) (name : Nat) (t : TypeId) (l c : Operand) : Option (NF × FP) :=
 match jc l, jc c, P.underlying t with
 | some n, some m, some (.slice elem) =>
  (eP P elem).bind fun size => (jL P elem).bind fun zero =>
   if zero.length = size && size ≠ 0 && n ≤ m && m * size ≤ 65536 && ((P.info? elem).map fun i => decide (i.bytes * m ≤ 2 ^ 48)).getD false then
    d5 s gl dst name elem (bg zero m) (fun r => .sl name r 0 n m) []
   else none
 | _, _, _ => cL s gl dst .one (.makeSlice t) [l, c]
def vW (P : Program) (okf : FuncId → Bool) (rules : FuncId → Option (List Nat)) (sp : Bool) (name : Nat) (o : Oper) (gl : List (At × Bool)) (s : SS) : Option (NF × FP) :=
 match o.op with
 | .move x => ia s gl o.dst sp x
 | .assign x => ia s gl o.dst sp x
 | .pick c a b => ny s gl o.dst c a b
 | .alloc T => (jL P T).bind fun cells => d5 s gl o.dst name T cells (fun r => .p name r 0) []
 | .box T x => (gP s gl x).bind fun (v, cs) => if v.cells.all At.fit then d5 s gl o.dst name T v.cells (fun r => .p name r 0) cs else none
 | .build T parts => jI P s gl o.dst T parts.toList
 | .buildSlice T len parts => cF P s gl o.dst name T len parts.toList
 | .load t x => (dh s gl x).bind fun (x, cs) => j7 P s gl o.dst t x cs
 | .store t x y => if gl.isEmpty && o.dst.isNone then (dh s gl x).bind fun (x, cs) => (gP s gl y).bind fun (y, cs') => ga P s t x y (cs ++ cs') else none
 | .nilCheck x => (dh s gl x).bind fun (x, cs) => Ac gl o.dst x cs
 | .binOp op t x y _ => s4 P s gl o.dst op t x y
 | .unOp op t x => (dh s gl x).bind fun (x, cs) => F3 P gl o.dst op t x cs
 | .convert a b x => (dh s gl x).bind fun (x, cs) => oq P s gl o.dst a b x cs
 | .makeInterface t x => jw P s gl o.dst t x
 | .makeFunc (.func f) first caps =>
  if first.isEmpty then (bI s gl caps.toList).bind fun (as, cs) => (kn as).bind fun l => aS gl o.dst (.at (.clo f l)) cs else none
 | .fieldAddr t x f =>
  (jz P t f).bind fun fd => (eP P fd.type).bind fun m =>
   if m = 0 then none else (dh s gl x).bind fun (x, cs) => (so gl x fd.offset).bind fun (a, c) => aS gl o.dst (.at a) (c ++ cs)
 | .field t x f =>
  (jz P t f).bind fun fd => (gP s gl x).bind fun (x, cs) => (jW P fd.type x.cells fd.offset).bind fun v => if x.isAgg then aS gl o.dst v cs else none
 | .indexAddr t x i => (bI s gl [x, i]).bind fun (as, cs) => (EY as).bind fun (x, i) => gn P gl o.dst t x i cs
 | .index t x i => (gP s gl x).bind fun (x, cs) => (dh s gl i).bind fun (i, cs') => qV P gl o.dst t x i (cs ++ cs')
 | .slice t x lo hi mx =>
  (dh s gl x).bind fun (x, c0) => (bI s gl lo.toList).bind fun (l, c1) => (bI s gl hi.toList).bind fun (h, c2) => (bI s gl mx.toList).bind fun (m, c3) =>
   qw P gl o.dst t x l.head? h.head? m.head? (c0 ++ c1 ++ c2 ++ c3)
 | .extract x i => cQ s gl o.dst x i
 | .call c =>
  match c.callee with
  | .builtin b => eN P s gl o.dst o.type b c.argTypes c.args.toList
  | .value f =>
   if gl.isEmpty then (dh s gl f).bind fun (f, cs) => (fA s gl c.args.toList).bind fun (as, cs') => ox P okf rules s o.dst o.type f as (cs ++ cs') else none
  | .invoke r m =>
   if gl.isEmpty then (dh s gl r).bind fun (x, cs) => (fA s gl c.args.toList).bind fun (as, cs') => nL P s o.dst o.type m x as (cs ++ cs') else none
 | .makeSlice t l c => cD P s gl o.dst name t l c
 | .makeMap t r => cL s gl o.dst .one (.makeMap t r.isSome) r.toList
 | .lookup t x i ok => cL s gl o.dst (if ok then .tup [none, none] else .one) (.lookup t ok) [x, i]
 | .mapUpdate t m k x => if o.dst.isNone then cL s gl o.dst .one (.mapUpdate t) [m, k, x] else none
 | .insert t m k x => if o.dst.isNone then cL s gl o.dst .one (.mapUpdate t) [m, k, x] else none
 | .range t x => cL s gl o.dst .one (.range t) [x]
 | .entry x => cL s gl o.dst (.tup [none, none]) .entry [x]
 | .next x str => cL s gl o.dst (if str then .tup [none, none, none] else .tup [none, none, none]) (.next str o.type) [x]
 | _ => none
def kh (s : SS) : Option Tmp → Bool
 | some d => decide (d < s.sz)
 | none => true
def nf (P : Program) (okf : FuncId → Bool) (rules : FuncId → Option (List Nat)) (tgt : Nat → Option Tmp) (sp : Bool) (name : Nat) (o : Oper) (s : SS) : Option (NF × FP) :=
 if !kh s o.dst then none else
 match ar tgt s o with
 | .bad => none
 | .skip => some (.fl [] .sil (fun _ => (.s (.at (.k undef)))), {})
 | .go gl => vW P okf rules sp name o gl s
def tQ (c : Value) (kk : Nat → Tree) : Nat → Nat → Tree
 | _, 0 => .stuck 901
 | i, n + 1 => .sw c i (kk i) (tQ c kk (i + 1) n)
def vY : List Ck → Tree → Tree
 | [], t => t
 | p :: r, t => .chk p (vY r t)
def gp (dst : Option Tmp) (frz own : List (Nat × Bx)) (sv : List Value → SV) (s : SS) (vs : List Value) (css : List (List Value)) : SS :=
 (rz 0 own css (aU ((frz ++ own).map (·.1)) s)).set dst (sv vs)
def bvs (l : List (Nat × Bx)) : List BV := l.map (·.2.bv)
def Bf (d : Bool) (dst : Option Tmp) (x : NF) (s : SS) (kk : SS → Tree) : Tree :=
 match x with
 | .fl cs k X => vY cs <|
  match k with
  | .sil => kk (s.set dst (X []))
  | .pure gd op args => .pure gd op args fun v => kk (s.set dst (X [v]))
  | .raw gd op args => .raw gd op args fun v => kk (s.set dst (X [v]))
  | .load gd p m => .load gd p m fun vs => kk (s.set dst (X vs))
  | .split c => .br c (kk (s.set dst (X [.bool true]))) (kk (s.set dst (X [.bool false])))
  | .isplit c n => tQ c (fun i => kk (s.set dst (X [.int .i64 i]))) 0 n
 | .box cs n T cells val => vY cs (.newbox fun r => kk ((s.setBox n (some ⟨r, T, cells⟩)).set dst (.s (.at (val r)))))
 | .stb cs n b => vY cs (kk (s.setBox n (some b)))
 | .hv cs k frz own shp post sv => vY cs <|
  match k with
  | .call f args => .call d f args (bvs frz) (bvs own) shp fun vs css => vY (post vs) (kk (gp dst frz own sv s vs css))
  | .callv fv args => .callv d fv args (bvs frz) (bvs own) shp fun vs css => vY (post vs) (kk (gp dst frz own sv s vs css))
  | .callm m x args => .callm d m x args (bvs frz) (bvs own) shp fun vs css => vY (post vs) (kk (gp dst frz own sv s vs css))
  | .prim op args => .prim op args (bvs frz) (bvs own) shp fun vs css => vY (post vs) (kk (gp dst frz own sv s vs css))
 | .st cs p vs => vY cs (.store p vs (kk s))
def sN (a b : List Nat) : Bool := a.all (!b.contains ·)
def FK.isLoad : FK → Bool
 | .load .. => true
 | _ => false
def HK.isCall' : HK → Bool
 | .prim .. => false
 | _ => true
def jb : NF → NF → Bool
 | .hv .., .box cs .. => cs.isEmpty
 | .hv .., _ => false
 | .st .., .box .. => true
 | .st .., _ => false
 | .box .., .hv .. => false
 | .box .., .st .. => false
 | .box .., b => !b.ch
 | .fl _ k _, .hv _ hk .. => !k.isLoad || hk.isCall'
 | .fl _ k _, .st .. => !k.isLoad
 | _, _ => true
def jB (a : NF) (fa : FP) (b : NF) (fb : FP) : Bool :=
 sN a.writes fb.reads && sN a.writes b.writes && sN fa.reads b.writes && jb a b
def Ey : Op → Bool
 | .alloc _ | .box _ _ | .buildSlice _ _ _ | .makeSlice _ _ _ | .makeMap _ _ | .lookup _ _ _ _ | .mapUpdate _ _ _ _ | .range _ _ | .convert _ _ _ => true
 | .call c => match c.callee with
  | .builtin .len | .builtin .cap | .builtin .min | .builtin .max => false
  | _ => true
 | _ => false
def cw : List (Nat × Oper) → List Nat
 | [] => []
 | (i, o) :: r =>
  let S := cw r
  match o.guard with
  | some (j, _) => if Ey o.op || S.contains i then (if S.contains j then S else j :: S) else S
  | none => S
def aJ (ops : Array Oper) (j : Nat) : Option Tmp := (ops[j]?).bind (·.dst)
def Gy : Op → Nat
 | .alloc _ | .box _ _ | .buildSlice _ _ _ => 2
 | .makeSlice _ l c => if (jc l).isSome && (jc c).isSome then 2 else 1
 | .store _ _ _ | .makeMap _ _ | .lookup _ _ _ _ | .mapUpdate _ _ _ _ | .insert _ _ _ _ | .range _ _ | .next _ _ | .entry _ => 1
 | .call c => match c.callee with
  | .builtin .len | .builtin .cap | .builtin .min | .builtin .max => 0
  | _ => 1
 | _ => 0
def dr (o : Oper) : List Nat := o.after.toList.filterMap fun e => if Region.binds .any e then some e.on else none
def qU (done : Nat) (o : Oper) : Bool := (dr o).all fun p => done.testBit p
def gw (done c : Nat) : List (Nat × Oper) → Option (Nat × Oper)
 | [] => none
 | (i, o) :: r => if Gy o.op == c && qU done o then some (i, o) else gw done c r
def om (i : Nat) : List (Nat × Oper) → List (Nat × Oper)
 | [] => []
 | (j, o) :: r => if j = i then r else (j, o) :: om i r
def b6 : Nat → Nat → List (Nat × Oper) → List (Nat × Oper)
 | 0, _, l => l
 | fuel + 1, done, l =>
  match (gw done 0 l).orElse fun _ => (gw done 1 l).orElse fun _ => gw done 2 l with
  | none => l
  | some (i, o) => (i, o) :: b6 fuel (done ||| 1 <<< i) (om i l)
def dN (tab : List (Nat × Nat)) (p : Nat) : Nat :=
 match tab with
 | [] => 0
 | (q, m) :: r => if q = p then m else dN r p
def pB (tab : List (Nat × Nat)) : List Nat → Nat
 | [] => 0
 | p :: r => (1 <<< p) ||| dN tab p ||| pB tab r
def cq : List (Nat × Oper) → List (Nat × Nat) → List (Nat × Nat)
 | [], tab => tab
 | (i, o) :: r, tab => cq r ((i, pB tab (dr o)) :: tab)
def o7 (tab : List (Nat × Nat)) (a i : Nat) : Bool := (dN tab i).testBit a
structure Ent where
 i : Nat
 o : Oper
 x : NF
 fp : FP
def mn (ops : Array Oper) (tab : List (Nat × Nat)) (i : Nat) (o : Oper) (x : NF) (fp : FP) (log : List Ent) : Bool :=
 log.all fun e => o7 tab e.i i || (jB e.x e.fp x fp && Oper.apart ops e.o o)
def Bj (nfi : Nat → Oper → Option (NF × FP)) (ops : Array Oper) (tab : List (Nat × Nat)) (a : Nat) (oa : Oper) (x : NF) (fp : FP) (log : List Ent) (r : List (Nat × Oper)) : Bool :=
 match x with
 | .hv .. =>
  let U := r.filter fun k => !o7 tab a k.1
  U.all fun k =>
   match nfi k.1 k.2 with
   | some (y, fpy) => jB x fp y fpy && Oper.apart ops oa k.2 && mn ops tab k.1 k.2 y fpy log &&
    U.all fun m => m.1 == k.1 || (Oper.apart ops m.2 k.2 && match nfi m.1 m.2 with | some (z, _) => sN z.writes fpy.reads | none => false)
   | none => false
 | _ => true
def NF.isLd : NF → Bool
 | .fl _ k _ => k.isLoad
 | _ => false
def dAt (tab : List (Nat × Nat)) (i : Nat) (log : List Ent) : Bool := log.any fun e => !o7 tab e.i i && e.x.isLd
def nl (P : Program) (okf : FuncId → Bool) (rules : FuncId → Option (List Nat)) (draw : Bool) (ops : Array Oper) (tab : List (Nat × Nat)) (sp : List Nat) (base : Nat) : List (Nat × Oper) → List Ent → SS → (SS → Tree) → Tree
 | [], _, s, kk => kk s
 | (i, o) :: r, log, s, kk =>
  match nf P okf rules (aJ ops) (sp.contains i) (base + i) o s with
  | none => .stuck (1000 + i)
  | some (x, fp) =>
   if draw && !(mn ops tab i o x fp log && Bj (fun k ok => nf P okf rules (aJ ops) (sp.contains k) (base + k) ok s) ops tab i o x fp log r) then .stuck (2000 + i)
   else Bf (draw && dAt tab i log) o.dst x s fun s' => nl P okf rules draw ops tab sp base r (if draw then ⟨i, o, x, fp⟩ :: log else log) s' kk
def aw {α : Type} (n : Nat) : List α → List (Nat × α)
 | [] => []
 | a :: r => (n, a) :: aw (n + 1) r
def topo (n : Nat) : Nat → List (Nat × Oper) → Bool
 | done, [] => done == 2 ^ n - 1
 | done, (i, o) :: r => !done.testBit i && qU done o && topo n (done ||| 1 <<< i) r
def fK (P : Program) (okf : FuncId → Bool) (rules : FuncId → Option (List Nat)) (ops : Array Oper) (draw : Bool) (s : SS) (kk : SS → Tree) : Tree :=
 let l := aw 0 ops.toList
 if draw then
  let l' := b6 ops.size 0 l
  if topo ops.size 0 l' then
   nl P okf rules true ops (cq l' []) (cw l) s.next l' [] s fun s' => kk { s' with next := s.next + ops.size }
  else .stuck 3000
 else nl P okf rules false ops [] (cw l) s.next l [] s fun s' => kk { s' with next := s.next + ops.size }
inductive EW where
 | unroll (n : Nat)
 | inv (carry keep : List Nat) (boxes : List (Nat × List Nat))
structure vZ where
 okf : FuncId → Bool
 rules : FuncId → Option (List Nat)
 loop : Nat → EW
 cut : Nat → Option (List Nat × List Nat × List (Nat × List Nat))
def b7 : Code → Nat
 | .region id _ _ => id
 | .seq a _ => b7 a
 | .block _ b => b7 b
 | .loop b => b7 b
 | .cond _ a b => match a with | .skip => b7 b | _ => b7 a
 | _ => 99999
def vU (s : SS) (t : Nat) : At := match s.tmps t with | .s (.at a) => a | _ => .any
def ER (s : SS) (t : Nat) : Option Nat := match vU s t with | .p n _ _ => some n | .sl n _ _ _ _ => some n | _ => none
def qX (l : List Nat) (t : Nat) : Option Nat :=
 match l with
 | [] => none
 | a :: r => if a = t then some 0 else (qX r t).map (· + 1)
def bU (s : SS) : List (Nat × List Nat) → Nat → List (Nat × Bx × List Nat × Nat)
 | [], _ => []
 | (t, cells) :: r, i =>
  match ER s t with
  | none => bU s r i
  | some n => match s.mem n with
   | none => bU s r i
   | some b =>
    let rest := bU s r (i + cells.length)
    (n, b, cells, i) :: rest.filter (fun x => x.1 != n)
def eC (cs : List At) (vs : List Value) : List Nat → Nat → List At
 | [], _ => cs
 | c :: r, i => eC (cs.set c (.v (g vs i))) vs r (i + 1)
def gQ (s : SS) (carry keep : List Nat) (hb : List (Nat × Bx × List Nat × Nat)) (vs : List Value) : SS :=
  { s with
    tmps := fun t => match qX carry t with | some i => .s (.at (.v (g vs i))) | none => if keep.contains t then s.tmps t else .s (.at .any)
    mem := fun n => match hb.find? (·.1 == n) with | some (_, b, cells, i) => some { b with cs := eC b.cs vs cells i } | none => none }
def bF (s : SS) (carry : List Nat) (hb : List (Nat × Bx × List Nat × Nat)) : List Value :=
 carry.map (fun t => (vU s t).den) ++ hb.flatMap fun (n, _, cells, _) => match s.mem n with | some b => cells.map fun c => (b.cs.getD c .any).den | none => []
def fR (s : SS) (carry : List Nat) (hb : List (Nat × Bx × List Nat × Nat)) : Bool :=
 carry.all (fun t => (vU s t).fit) && hb.all fun (n, _, cells, _) => match s.mem n with | some b => cells.all fun c => (b.cs.getD c .any).fit | none => false
def dX : SV → Option (List At)
 | .s x => some x.cells
 | .tup l => some (l.flatMap S1.cells)
 | .opt _ _ => none
def wm : SV → SV → Bool
 | .s (.at _), .s (.at _) => true
 | .s (.agg a), .s (.agg b) => a.length == b.length
 | .tup a, .tup b => a.length == b.length && (a.zip b).all fun p => match p.1, p.2 with | .at _, .at _ => true | .agg a, .agg b => a.length == b.length | _, _ => false
 | _, _ => false
def ic (cs : List At) (cells : List Nat) : List At := (aw 0 cs).map fun (i, a) => if cells.contains i then .k undef else a
def vm : Nat → List (Nat × Bx × List Nat × Nat) → Bool
 | _, [] => true
 | p, (_, _, cells, i) :: r => i == p && vm (p + cells.length) r
def ep (lab : Nat) (C : List Value → Heap → Own → Prop) (carry keep : List Nat) (hb : List (Nat × Bx × List Nat × Nat)) (h s : SS) : Tree :=
  if s.sz == h.sz && vm carry.length hb && fR s carry hb &&
    keep.all (fun t => (qX carry t).isSome || (wm (s.tmps t) (h.tmps t) && match dX (s.tmps t) with | some l => l.all At.known | none => false)) &&
    hb.all (fun (n, b, _, _) => match s.mem n with | some b' => b'.T == b.T && b'.cs.length == b.cs.length && b'.cs.all At.known | none => false)
  then .cont lab C (bF s carry hb)
    ((keep.filter fun t => (qX carry t).isNone).map (fun t => (((dX (s.tmps t)).getD []).map At.den, ((dX (h.tmps t)).getD []).map At.den)) ++
     hb.map fun (n, b, cells, _) => match s.mem n with
      | some b' => (.pointer (some ⟨b'.r, 0, none⟩) :: (ic b'.cs cells).map At.den, .pointer (some ⟨b.r, 0, none⟩) :: (ic b.cs cells).map At.den)
      | none => ([], []))
  else .stuck 902

def kZ (f : SS → (SS → Tree) → Tree) : Nat → SS → Tree
 | 0, _ => .stuck 903
 | n + 1, s => f s fun s' => kZ f n s'
def sx (P : Program) (opts : vZ) : Code → SS → (SS → Tree) → (Nat → Option (SS → Tree)) → (SS → Tree) → Tree
 | .skip, s, k, _, _ => k s
 | .label _, s, k, _, _ => k s
 | .region _ ops draw, s, k, _, _ => fK P opts.okf opts.rules ops draw s k
 | .seq a b, s, k, X, R => sx P opts a s (fun s' => sx P opts b s' k X R) X R
 | .cond c a b, s, k, X, R =>
  let whole (s : SS) (k : SS → Tree) : Tree :=
   match dh s [] c with
   | some (.k (.bool true), _) => sx P opts a s k X R
   | some (.k (.bool false), _) => sx P opts b s k X R
   | some (v, _) => .br v.den (sx P opts a s k X R) (sx P opts b s k X R)
   | none => .stuck 904
  match opts.cut (b7 (.cond c a b)) with
  | none => whole s k
  | some (carry, keep, boxes) =>
   let hb := bU s boxes carry.length
   .cut s.next (b7 (.cond c a b)) (fun C => whole { s with next := s.next + 1 } fun s' => ep s.next C carry keep hb s s') fun vs => k (gQ { s with next := s.next + 1 } carry keep hb vs)
 | .block id b, s, k, X, R => sx P opts b s k (fun j => if j = id then some k else X j) R
 | .exit id, s, _, X, _ => match X id with | some k => k s | none => .stuck 905
 | .ret, s, _, _, R => R s
 | .loop b, s, _, X, R =>
  match opts.loop (b7 b) with
  | .unroll n => kZ (fun s k => sx P opts b s k X R) n s
  | .inv carry keep boxes =>
   let hb := bU s boxes carry.length
   if vm carry.length hb && fR s carry hb then
    .loop s.next (b7 b) (bF s carry hb) fun C vs =>
     sx P opts b (gQ { s with next := s.next + 1 } carry keep hb vs) (fun s' => ep s.next C carry keep hb s s') X R
   else .stuck 906
 | _, _, _, _, _ => .stuck 907
def ei (P : Program) : List TypeId → Nat → List Value → List SV
 | [], _, _ => []
 | T :: r, i, vs =>
  if bT P T then (let m := (eP P T).getD 0; .s (.agg (atsFrom vs i m)) :: ei P r (i + m) vs)
  else .s (.at (.v (g vs i))) :: ei P r (i + 1) vs
def gy (P : Program) (fn : Func) (vs : List Value) : SS :=
 let svs := ei P (fn.params.toList ++ List.replicate fn.nfree 0) 0 vs
 { sz := fn.ntmps, tmps := fun t => (svs[t]?).getD (.s (.at (.k undef))), mem := fun _ => none, next := 0 }
def tB (P : Program) (s : SS) : ResultVar → Option S1
 | .tmp t => match s.tmps t with
  | .s x => if x.known then some x else none
  | _ => none
 | .cell a T => match vU s a with
  | .p n r 0 => (s.mem n).bind fun b => if b.cs.all At.known && some b.cs.length == eP P T then vX P T b.cs else none
  | _ => none
def rV (s : SS) : ResultVar → List Ck
 | .tmp _ => []
 | .cell a _ => match vU s a with
  | .p n r _ => (match s.mem n with | some b => [.eqN r b.r] | none => [])
  | _ => []
def jU (P : Program) (s : SS) : List ResultVar → Option (List S1)
 | [] => some []
 | x :: r => match tB P s x, jU P s r with
  | some v, some vs => some (v :: vs)
  | _, _ => none
def js (P : Program) (fn : Func) (s : SS) : Tree :=
 match jU P s fn.results.toList with
 | none => .stuck 908
 | some l =>
  let atoms := l.flatMap S1.cells
  let own := dz s (cn s 50 (dH atoms (dw atoms [])) [])
  if own.all (fun b => b.2.cs.all At.known) && xd (own.map (·.1)) then
   vY (fn.results.toList.flatMap (rV s)) (.ret (match l with | [v] => v.den | l => .tuple (l.map S1.den).toArray) (bvs own))
  else .stuck 909
def yI (P : Program) (fn : Func) (opts : vZ) (vs : List Value) : Tree :=
 match fn.body with
 | some c => sx P opts c (gy P fn vs) (js P fn) (fun _ => none) (js P fn)
 | none => .stuck 910
def AllCk : List Ck → Prop
 | [] => True
 | c :: r => c.holds ∧ AllCk r
theorem AllCk.append {a b : List Ck} : AllCk (a ++ b) ↔ AllCk a ∧ AllCk b := by
 induction a with
 | nil => simp [AllCk]
 | cons c r ih => simp [AllCk, ih, and_assoc]
def CellsRel : List At → List Value → Prop
 | [], [] => True
 | a :: r, v :: vs => (a.known = true → v = a.den) ∧ CellsRel r vs
 | _, _ => False
theorem CellsRel.length : ∀ {cs : List At} {vs : List Value}, CellsRel cs vs → cs.length = vs.length
 | [], [], _ => rfl
 | _ :: _, _ :: _, h => by simp [CellsRel.length h.2]
theorem CellsRel.known : ∀ {cs : List At} {vs : List Value}, CellsRel cs vs → cs.all At.known = true → vs = cs.map At.den
 | [], [], _, _ => rfl
 | a :: r, v :: vs, h, hk => by
  simp only [List.all_cons, Bool.and_eq_true] at hk
  rw [List.map_cons, h.1 hk.1, CellsRel.known h.2 hk.2]
theorem CellsRel.drop : ∀ {cs : List At} {vs : List Value} (n : Nat), CellsRel cs vs → CellsRel (cs.drop n) (vs.drop n)
 | _, _, 0, h => by simpa using h
 | [], [], _ + 1, _ => by simp [CellsRel]
 | _ :: _, _ :: _, n + 1, h => by simpa using CellsRel.drop n h.2
theorem CellsRel.take : ∀ {cs : List At} {vs : List Value} (n : Nat), CellsRel cs vs → CellsRel (cs.take n) (vs.take n)
 | _, _, 0, _ => by simp [CellsRel]
 | [], [], _ + 1, _ => by simp [CellsRel]
 | _ :: _, _ :: _, n + 1, h => by simpa [CellsRel] using ⟨h.1, CellsRel.take n h.2⟩
theorem CellsRel.append : ∀ {cs ds : List At} {vs us : List Value}, CellsRel cs vs → CellsRel ds us → CellsRel (cs ++ ds) (vs ++ us)
 | [], _, [], _, _, h => by simpa using h
 | _ :: _, _, _ :: _, _, h, h' => by simpa [CellsRel] using ⟨h.1, CellsRel.append h.2 h'⟩
theorem CellsRel.map (cs : List At) : CellsRel cs (cs.map At.den) := by
 induction cs with
 | nil => simp [CellsRel]
 | cons a r ih => exact ⟨fun _ => rfl, ih⟩
theorem CellsRel.fill {cs : List At} {vs : List Value} (h : CellsRel cs vs) (off : Nat) (ys : List At) :
  CellsRel (dl cs off ys) (vs.take off ++ ys.map At.den ++ vs.drop (off + ys.length)) :=
 ((h.take off).append (CellsRel.map ys)).append (h.drop _)
theorem CellsRel.from (vs : List Value) : ∀ (m i : Nat), i + m = vs.length → CellsRel ((List.range' i m).map fun j => At.v (g vs j)) (vs.drop i)
 | 0, i, h => by
  have : vs.drop i = [] := List.drop_eq_nil_of_le (by omega)
  simp [this, CellsRel]
 | m + 1, i, h => by
  have hi : i < vs.length := by omega
  rw [List.drop_eq_getElem_cons hi, List.range'_succ, List.map_cons]
  refine ⟨fun _ => ?_, CellsRel.from vs m (i + 1) (by omega)⟩
  simp [At.den, g, hi]
theorem qf (vs : List Value) (i m : Nat) : atsFrom vs i m = (List.range' i m).map fun j => At.v (g vs j) := by
 unfold atsFrom
 rw [List.range'_eq_map_range, List.map_map]; rfl
theorem CellsRel.atsFrom {vs : List Value} {m : Nat} (h : vs.length = m) : CellsRel (atsFrom vs 0 m) vs := by
 rw [qf]; simpa using CellsRel.from vs m 0 (by omega)
def fX (b : Option Bx) (vs : List Value) : Nat × Obj :=
 match b with
 | some b => (b.r, .cells vs.toArray b.T (0, 0))
 | none => (0, .cells #[] 0 (0, 0))
def Boxes (m : Nat → Option Bx) (L : Own) : Prop :=
 ∃ (ns : List Nat) (f : Nat → List Value), ns.Nodup ∧ (∀ n, (m n).isSome = true ↔ n ∈ ns) ∧ (∀ n b, m n = some b → CellsRel b.cs (f n)) ∧
  L.Perm (ns.map fun n => fX (m n) (f n))
theorem Boxes.perm {m : Nat → Option Bx} {L L' : Own} (h : Boxes m L) (hp : L.Perm L') : Boxes m L' :=
 let ⟨ns, f, a, b, c, d⟩ := h; ⟨ns, f, a, b, c, hp.symm.trans d⟩
theorem Boxes.none : Boxes (fun _ => Option.none) [] := ⟨[], fun _ => [], by simp, by simp, by simp, by simp⟩
theorem Boxes.take {m : Nat → Option Bx} {L : Own} {n : Nat} {b : Bx} (h : Boxes m L) (hb : m n = some b) :
  ∃ vs L', CellsRel b.cs vs ∧ L.Perm ((b.r, .cells vs.toArray b.T (0, 0)) :: L') ∧ Boxes (fun k => if k = n then Option.none else m k) L' := by
 obtain ⟨ns, f, hn, hs, hc, hp⟩ := h
 have hin : n ∈ ns := (hs n).1 (by simp [hb])
 refine ⟨f n, (ns.erase n).map fun k => fX (m k) (f k), hc n b hb, ?_, ns.erase n, f, hn.erase n, fun k => ?_, fun k b' hk => ?_, ?_⟩
 ·refine hp.trans ?_
  have := (List.perm_cons_erase hin).map fun k => fX (m k) (f k)
  simpa [fX, hb] using this
 ·by_cases hk : k = n
  ·subst hk; simpa using fun hm => (List.Nodup.mem_erase_iff hn).1 hm |>.1 rfl
  ·simp only [hk, if_false, hs k, List.Nodup.mem_erase_iff hn]; simp [hk]
 ·by_cases e : k = n
  ·simp [e] at hk
  ·simp only [e, if_false] at hk; exact hc k b' hk
 ·refine List.Perm.of_eq (List.map_congr_left fun k hk => ?_)
  have : k ≠ n := ((List.Nodup.mem_erase_iff hn).1 hk).1
  simp [this]
theorem Boxes.put {m : Nat → Option Bx} {L : Own} {n : Nat} {b : Bx} {vs : List Value} (h : Boxes m L) (hb : m n = Option.none) (hv : CellsRel b.cs vs) :
  Boxes (fun k => if k = n then some b else m k) ((b.r, .cells vs.toArray b.T (0, 0)) :: L) := by
 obtain ⟨ns, f, hn, hs, hc, hp⟩ := h
 have hout : n ∉ ns := fun hin => by have := (hs n).2 hin; simp [hb] at this
 refine ⟨n :: ns, fun k => if k = n then vs else f k, List.nodup_cons.2 ⟨hout, hn⟩, fun k => ?_, fun k b' hk => ?_, ?_⟩
 ·by_cases e : k = n <;> simp [e, hs k]
 ·by_cases e : k = n
  ·subst e; simp at hk; subst hk; simpa using hv
  ·simp only [e, if_false] at hk ⊢; exact hc k b' hk
 ·simp only [List.map_cons, if_true, fX]
  refine List.Perm.cons _ (hp.trans (List.Perm.of_eq (List.map_congr_left fun k hk => ?_)))
  have : k ≠ n := fun e => hout (e ▸ hk)
  simp [this, fX]
theorem rl (m : Nat → Option Bx) (n : Nat) (b : Option Bx) : (fun k => if k = n then b else if k = n then Option.none else m k) = fun k => if k = n then b else m k := by
 funext k; by_cases e : k = n <;> simp [e]
def S1.ok (x : S1) : Prop := ∀ a, a ∈ x.cells → a.ok
def SV.ok : SV → Prop
 | .s x => x.ok
 | .tup l => ∀ x, x ∈ l → x.ok
 | .opt _ x => x.ok
def SS.Ok (s : SS) : Prop := (∀ t, (s.tmps t).ok) ∧ ∀ n b, s.mem n = some b → ∀ a, a ∈ b.cs → a.ok
theorem SS.Ok.set {s : SS} (h : s.Ok) (d : Option Nat) {sv : SV} (hv : sv.ok) : (s.set d sv).Ok := by
 cases d with
 | none => exact h
 | some d =>
  refine ⟨fun t => ?_, h.2⟩
  simp only [SS.set]
  split
  ·exact hv
  ·exact h.1 t
theorem SS.Ok.setBox {s : SS} (h : s.Ok) (n : Nat) {b : Option Bx} (hv : ∀ b', b = some b' → ∀ a, a ∈ b'.cs → a.ok) : (s.setBox n b).Ok := by
 refine ⟨h.1, fun k b' hb => ?_⟩
 simp only [SS.setBox] at hb
 split at hb
 ·exact hv b' hb
 ·exact h.2 k b' hb
theorem At.fit_one {a : At} (h : a.fit = true) (ho : a.ok) : a.den.oneCell' = true := by
 cases a <;> simp_all [At.fit, At.ok, At.den, Value.oneCell']
theorem w8 {gl : List (At × Bool)} {x : S1} (h : x.ok) : (o8 gl x).ok := by
 unfold o8; split <;> exact h
structure Conc (F : Own) (s : SS) (H : Heap) (O : Own) (a : Act) (w : World) : Prop where
 ok : s.Ok
 df : a.defers = []
 sz : a.tmps.size = s.sz
 tm : ∀ t, (s.tmps t).rel (a.tmps.getD t undef)
 mm : ∃ L, Boxes s.mem L ∧ Models w H (L ++ (O ++ F))
theorem Conc.put {F : Own} {s : SS} {H : Heap} {O : Own} {a : Act} {w : World} (h : Conc F s H O a w) {dst : Option Nat} {sv : SV} {v : Value}
  (hd : ∀ d, dst = some d → d < s.sz) (hv : sv.rel v) (hok : sv.ok) : Conc F (s.set dst sv) H O (a.put dst v) w := by
 have hok' := h.ok.set dst hok
 cases dst with
 | none => exact h
 | some d =>
  have hlt : d < a.tmps.size := by rw [h.sz]; exact hd d rfl
  refine ⟨hok', h.df, by simp [Act.put, SS.set, h.sz], fun t => ?_, h.mm⟩
  simp only [SS.set, Act.put]
  by_cases e : t = d
  ·subst e; simpa [Array.getD, hlt] using hv
  ·have := h.tm t
   simp only [e, if_false]
   have hg : (a.tmps.setIfInBounds d v).getD t undef = a.tmps.getD t undef := by
    simp only [Array.getD_eq_getD_getElem?]
    rw [Array.getElem?_setIfInBounds_ne (by omega)]
   rw [hg]; exact this
theorem tc (c : At) (p : Bool) (gl : List (At × Bool)) : On (fc ((c, p) :: gl)) ↔ c.den = .bool p ∧ On (fc gl) := Iff.rfl
theorem uz {gl : List (At × Bool)} {x : S1} {v : Value} (h : On (fc gl) → v = x.den) (h' : ¬ On (fc gl) → v = undef) : (o8 gl x).rel v := by
 unfold o8
 split
 ·rename_i e
  have : gl = [] := by simpa using e
  subst this
  have hv := h trivial
  unfold SV.rel
  split <;> simp_all
 ·exact ⟨h, h'⟩
theorem dc {x : S1} {v : Value} (hk : x.known = true) (h : (SV.s x).rel v) : v = x.den := by
 rcases x with a | l
 ·cases a <;> first | exact h | simp [S1.known, S1.cells, At.known] at hk
 ·exact h
theorem t9 (v : Value) : (ly v).den = v := by
 cases v <;> simp [ly, S1.den, At.den, Function.comp_def]
theorem mL : ∀ (rear gl' : List (At × Bool)), rear.length = gl'.length → ((rear.zip gl').all fun p => p.1.2 == p.2.2) = true →
  AllCk ((rear.zip gl').map fun p => .eqV p.1.1.den p.2.1.den) → On (fc rear) → On (fc gl')
 | [], [], _, _, _, _ => trivial
 | [], _ :: _, h, _, _, _ => by simp at h
 | _ :: _, [], h, _, _, _ => by simp at h
 | p :: r, q :: r', hl, hp, hc, ho => by
  simp only [List.zip_cons_cons, List.all_cons, Bool.and_eq_true, List.map_cons, AllCk, Ck.holds, beq_iff_eq] at hp hc
  refine ⟨?_, mL r r' (by simpa using hl) (by simpa using hp.2) hc.2 ho.2⟩
  have := ho.1
  simp only [] at this ⊢
  rw [← hc.1, ← hp.1]; exact this
theorem yr : ∀ (gl : List (At × Bool)) (k : Nat), On (fc gl) → On (fc (gl.drop k))
 | [], k, _ => by simp [fc, On]
 | _ :: _, 0, h => h
 | _ :: r, k + 1, h => yr r k h.2
theorem wB {gl gl' : List (At × Bool)} {cs : List Ck} (h : lC gl gl' = some cs) (hc : AllCk cs) (ho : On (fc gl)) : On (fc gl') := by
 unfold lC at h
 simp only [] at h
 split at h
 ·rename_i hcond
  simp only [Option.some.injEq] at h
  subst h
  simp only [Bool.and_eq_true, decide_eq_true_eq] at hcond
  exact mL _ _ hcond.1 hcond.2 hc (yr _ _ ho)
 ·simp at h
theorem cV {F : Own} {s : SS} {H : Heap} {O : Own} {a : Act} {w : World} (h : Conc F s H O a w) {gl : List (At × Bool)} {x : Operand} {v : S1} {cs : List Ck}
  (hx : gP s gl x = some (v, cs)) (hc : AllCk cs) (ho : On (fc gl)) : a.eval x = v.den := by
 cases x with
 | tmp t =>
  have ht := h.tm t
  simp only [gP] at hx
  simp only [Act.eval]
  split at hx
  ·rename_i y hy
   split at hx
   ·rename_i hk; simp only [Option.some.injEq, Prod.mk.injEq] at hx; rw [← hx.1]; rw [hy] at ht; exact dc hk ht
   ·simp at hx
  ·rename_i gl' y hy
   split at hx
   ·rename_i hk
    cases hs : lC gl gl' with
    | none => simp [hs] at hx
    | some c =>
     simp only [hs, Option.map_some, Option.some.injEq, Prod.mk.injEq] at hx
     rw [hy] at ht
     rw [← hx.1]; exact ht.1 (wB hs (hx.2 ▸ hc) ho)
   ·simp at hx
  ·simp at hx
 | const v => simp only [gP, Option.some.injEq, Prod.mk.injEq] at hx; rw [← hx.1, t9]; rfl
 | global n => simp only [gP, Option.some.injEq, Prod.mk.injEq] at hx; rw [← hx.1]; rfl
 | func f => simp only [gP, Option.some.injEq, Prod.mk.injEq] at hx; rw [← hx.1]; rfl
theorem vM (v : Value) : (ly v).ok := by
 intro a ha
 cases v <;> simp [ly, S1.cells] at ha
 case agg cs => obtain ⟨x, _, rfl⟩ := ha; trivial
 all_goals (subst ha; trivial)
theorem de {s : SS} (h : s.Ok) {gl : List (At × Bool)} {x : Operand} {v : S1} {cs : List Ck} (hx : gP s gl x = some (v, cs)) : v.ok := by
 cases x with
 | tmp t =>
  have ht := h.1 t
  simp only [gP] at hx
  split at hx
  ·rename_i y hy
   split at hx
   ·simp only [Option.some.injEq, Prod.mk.injEq] at hx; rw [← hx.1]; rw [hy] at ht; exact ht
   ·simp at hx
  ·split at hx
   ·rename_i gl' y hy hk
    cases hs : lC gl gl' with
    | none => simp [hs] at hx
    | some c => simp only [hs, Option.map_some, Option.some.injEq, Prod.mk.injEq] at hx; rw [← hx.1]; rw [hy] at ht; exact ht
   ·simp at hx
  ·simp at hx
 | const v => simp only [gP, Option.some.injEq, Prod.mk.injEq] at hx; rw [← hx.1]; exact vM v
 | global n =>
  simp only [gP, Option.some.injEq, Prod.mk.injEq] at hx; rw [← hx.1]; intro a ha; simp [S1.cells] at ha; subst ha; trivial
 | func f =>
  simp only [gP, Option.some.injEq, Prod.mk.injEq] at hx; rw [← hx.1]; intro a ha; simp [S1.cells] at ha; subst ha; trivial
theorem qI {s : SS} {gl : List (At × Bool)} {x : Operand} {a : At} {cs : List Ck} (hx : dh s gl x = some (a, cs)) : gP s gl x = some (.at a, cs) := by
 unfold dh at hx
 split at hx
 ·rename_i b c he; simp only [Option.some.injEq, Prod.mk.injEq] at hx; rw [he, hx.1, hx.2]
 ·simp at hx
theorem ay {F : Own} {s : SS} {H : Heap} {O : Own} {a : Act} {w : World} (h : Conc F s H O a w) {gl : List (At × Bool)} {x : Operand} {v : At} {cs : List Ck}
  (hx : dh s gl x = some (v, cs)) (hc : AllCk cs) (ho : On (fc gl)) : a.eval x = v.den := cV h (qI hx) hc ho
theorem nB {s : SS} (h : s.Ok) {gl : List (At × Bool)} {x : Operand} {v : At} {cs : List Ck} (hx : dh s gl x = some (v, cs)) : v.ok :=
 de h (qI hx) v (by simp [S1.cells])
theorem mw {s : SS} (h : s.Ok) {gl : List (At × Bool)} : ∀ {xs : List Operand} {vs : List At} {cs : List Ck}, bI s gl xs = some (vs, cs) → ∀ a, a ∈ vs → a.ok
 | [], _, _, hx => by simp only [bI, Option.some.injEq, Prod.mk.injEq] at hx; rw [← hx.1]; simp
 | x :: r, vs, cs, hx => by
  simp only [bI] at hx
  split at hx
  ·rename_i a' c as cs' h1 h2
   simp only [Option.some.injEq, Prod.mk.injEq] at hx
   rw [← hx.1]
   intro a ha
   rcases List.mem_cons.1 ha with rfl | ha
   ·exact nB h h1
   ·exact mw h h2 a ha
  ·simp at hx
theorem bS {F : Own} {s : SS} {H : Heap} {O : Own} {a : Act} {w : World} (h : Conc F s H O a w) {gl : List (At × Bool)} : ∀ {xs : List Operand} {vs : List At} {cs : List Ck},
  bI s gl xs = some (vs, cs) → AllCk cs → On (fc gl) → xs.map a.eval = vs.map At.den
 | [], _, _, hx, _, _ => by simp only [bI, Option.some.injEq, Prod.mk.injEq] at hx; rw [← hx.1]; rfl
 | x :: r, vs, cs, hx, hc, ho => by
  simp only [bI] at hx
  split at hx
  ·rename_i a' c as cs' h1 h2
   simp only [Option.some.injEq, Prod.mk.injEq] at hx
   rw [← hx.2, AllCk.append] at hc
   rw [← hx.1, List.map_cons, List.map_cons, ay h h1 hc.1 ho, bS h h2 hc.2 ho]
  ·simp at hx
theorem hP {F : Own} {s : SS} {H : Heap} {O : Own} {a : Act} {w : World} (h : Conc F s H O a w) {gl : List (At × Bool)} : ∀ {xs : List Operand} {vs : List S1} {cs : List Ck},
  fA s gl xs = some (vs, cs) → AllCk cs → On (fc gl) → xs.map a.eval = vs.map S1.den
 | [], _, _, hx, _, _ => by simp only [fA, Option.some.injEq, Prod.mk.injEq] at hx; rw [← hx.1]; rfl
 | x :: r, vs, cs, hx, hc, ho => by
  simp only [fA] at hx
  split at hx
  ·rename_i a' c as cs' h1 h2
   simp only [Option.some.injEq, Prod.mk.injEq] at hx
   rw [← hx.2, AllCk.append] at hc
   rw [← hx.1, List.map_cons, List.map_cons, cV h h1 hc.1 ho, hP h h2 hc.2 ho]
  ·simp at hx
theorem dS {F : Own} {s : SS} {H : Heap} {O : Own} {a : Act} {w : World} (h : Conc F s H O a w) {ops : Array Oper} {o : Oper} {gl : List (At × Bool)}
  (hg : ar (aJ ops) s o = .go gl) : Region.wanted o (yielded ops a.tmps) = true ↔ On (fc gl) := by
 unfold ar at hg
 split at hg
 ·rename_i e; simp only [GR.go.injEq] at hg; subst hg; simp [Region.wanted, e, fc, On]
 ·rename_i j want e
  have hy : ∀ t, aJ ops j = some t → (Region.wanted o (yielded ops a.tmps) = true ↔ a.tmps.getD t undef = .bool want) := by
   intro t ht
   unfold aJ at ht
   simp only [Region.wanted, e, yielded, ht, Option.bind_some, Array.getD_eq_getD_getElem?]
   cases hv : a.tmps[t]? with
   | none => simp [undef]
   | some v => cases v <;> simp
  split at hg
  ·simp at hg
  ·rename_i t ht
   have htm := h.tm t
   rw [hy t ht]
   split at hg
   ·rename_i b hb
    rw [hb] at htm
    simp only [SV.rel, S1.den, At.den] at htm
    split at hg
    ·rename_i hbw; simp only [GR.go.injEq] at hg; subst hg; simp at hbw; simp [htm, hbw, fc, On]
    ·simp at hg
   ·simp at hg
   ·rename_i c _ _ hb
    rw [hb] at htm
    split at hg
    ·rename_i hk
     simp only [GR.go.injEq] at hg; subst hg
     have := dc (x := .at c) (by simpa [S1.known, S1.cells] using hk) htm
     rw [this]; simp [fc, On, S1.den]
    ·simp at hg
   ·rename_i gl' c hb
    rw [hb] at htm
    split at hg
    ·simp only [GR.go.injEq] at hg; subst hg
     rw [tc]
     by_cases ho : On (fc gl')
     ·rw [htm.1 ho]; simp [S1.den, ho]
     ·rw [htm.2 ho]; simp [undef, ho]
    ·simp at hg
   ·simp at hg
theorem pT {F : Own} {s : SS} {H : Heap} {O : Own} {a : Act} {w : World} (h : Conc F s H O a w) {ops : Array Oper} {o : Oper}
  (hg : ar (aJ ops) s o = .skip) : Region.wanted o (yielded ops a.tmps) = false := by
 unfold ar at hg
 split at hg
 ·simp at hg
 ·rename_i j want e
  have hy : ∀ t, aJ ops j = some t → a.tmps.getD t undef ≠ .bool want → Region.wanted o (yielded ops a.tmps) = false := by
   intro t ht
   unfold aJ at ht
   simp only [Region.wanted, e, yielded, ht, Option.bind_some, Array.getD_eq_getD_getElem?]
   cases hv : a.tmps[t]? with
   | none => simp
   | some v => cases v <;> simp
  split at hg
  ·simp at hg
  ·rename_i t ht
   have htm := h.tm t
   refine hy t ht ?_
   split at hg
   ·rename_i b hb
    rw [hb] at htm
    simp only [SV.rel, S1.den, At.den] at htm
    split at hg
    ·simp at hg
    ·rename_i hbw; simp at hbw; simpa [htm] using hbw
   ·rename_i vs hb
    rw [hb] at htm
    simp only [SV.rel, S1.den, At.den] at htm
    simp [htm]
   ·split at hg <;> simp at hg
   ·split at hg <;> simp at hg
   ·simp at hg
def FK.pre (P : Program) (k : FK) (H : Heap) (O : Own) (vs : List Value) : Prop :=
 match k with
 | .sil => vs = []
 | .pure gd op args => ∃ v, vs = [v] ∧ (On gd → af op args = some v) ∧ (gd = [] ∨ v.oneCell' = true)
 | .raw gd op args => ∃ v, vs = [v] ∧ (On gd → ∀ w, (op.sem args).run P w = .ok (.value v) w) ∧ v.oneCell' = true
 | .load gd p m => vs.length = m ∧ Ones vs ∧ (On gd → Reads H O p m vs)
 | .split c => ∃ b, c = .bool b ∧ vs = [.bool b]
 | .isplit c n => ∃ kd i, c = .int kd i ∧ 0 ≤ i ∧ i < n ∧ vs = [.int .i64 i]
def HK.T (P : Program) : HK → Heap → Own → (Value → Heap → Own → Prop) → Prop
 | .call f args => fun H O R => Triple P f args H O R
 | .callv fv args => fun H O R => ∃ f caps, fv = .func (.func f) #[] caps ∧ gU P f ∧ Triple P f (args ++ caps.toList) H O R
 | .callm m x args => fun H O R => ∃ f r, yu P m x f r ∧ gU P f ∧ Triple P f (r :: args) H O R
 | .prim op args => fun H O R => b9 P (op.sem args) H O R
def NF.run (P : Program) (d : Bool) (dst : Option Tmp) (x : NF) (s : SS) (K : SS → Heap → Own → Prop) (H : Heap) (O : Own) : Prop :=
 match x with
 | .fl cs k X => AllCk cs ∧ ∃ vs, k.pre P H O vs ∧ K (s.set dst (X vs)) H O
 | .box cs n T cells val => AllCk cs ∧ ∀ r, K ((s.setBox n (some ⟨r, T, cells⟩)).set dst (.s (.at (val r)))) H O
 | .stb cs n b => AllCk cs ∧ K (s.setBox n (some b)) H O
 | .hv cs k frz own shp post sv => AllCk cs ∧ er (k.T P) (d && k.isCall') (bvs frz) (bvs own) shp (fun vs css H O => AllCk (post vs) ∧ K (gp dst frz own sv s vs css) H O) H O
 | .st cs p vs => AllCk cs ∧ ∃ O', mJ O p vs O' ∧ K s H O'
theorem cY {P : Program} {Q : Value → Heap → Own → Prop} {H : Heap} {O : Own} {t : Tree} : ∀ {cs : List Ck},
  (vY cs t).den P Q H O → AllCk cs ∧ t.den P Q H O
 | [], h => ⟨trivial, h⟩
 | _ :: _, h => ⟨⟨h.1, (cY h.2).1⟩, (cY h.2).2⟩
theorem xt {P : Program} {Q : Value → Heap → Own → Prop} {H : Heap} {O : Own} {c : Value} {kk : Nat → Tree} : ∀ {n i : Nat},
  (tQ c kk i n).den P Q H O → ∃ (kd : IntKind) (j : Nat), c = .int kd j ∧ i ≤ j ∧ j < i + n ∧ (kk j).den P Q H O
 | 0, i, h => h.elim
 | n + 1, i, h => by
  obtain ⟨kd, m, hc, h1, h2⟩ := h
  by_cases e : m = i
  ·exact ⟨kd, i, by rw [hc, e], Nat.le_refl _, by omega, h1 e⟩
  ·obtain ⟨kd', j, hc', hl, hu, hk⟩ := xt (h2 e)
   exact ⟨kd', j, hc', by omega, by omega, hk⟩
theorem f5 {T T' : Heap → Own → (Value → Heap → Own → Prop) → Prop} {d : Bool} {frz own : List BV} {shp : Shp} {K K' : List Value → List (List Value) → Heap → Own → Prop} {H : Heap} {O : Own}
  (hT : ∀ H O R, T H O R → T' H O R) (hK : ∀ vs cs H O, K vs cs H O → K' vs cs H O) (h : er T d frz own shp K H O) : er T' d frz own shp K' H O := by
 intro hcons
 obtain ⟨H1, O1, O2, Q, hg, ht, hk⟩ := h hcons
 exact ⟨H1, O1, O2, Q, hg, hT _ _ _ ht, fun v H' O' hq hle => let ⟨vs, cs, O3, a, b, c, e, k⟩ := hk v H' O' hq hle; ⟨vs, cs, O3, a, b, c, e, hK _ _ _ _ k⟩⟩
theorem vx {P : Program} {Q : Value → Heap → Own → Prop} {d : Bool} {dst : Option Tmp} {x : NF} {s : SS} {kk : SS → Tree} {H : Heap} {O : Own}
  (h : (Bf d dst x s kk).den P Q H O) : x.run P d dst s (fun s' H' O' => (kk s').den P Q H' O') H O := by
 cases x with
 | fl cs k upd =>
  obtain ⟨hc, h⟩ := cY h
  refine ⟨hc, ?_⟩
  cases k with
  | sil => exact ⟨[], rfl, h⟩
  | pure gd op args => obtain ⟨v, h1, h2, h3⟩ := h; exact ⟨[v], ⟨v, rfl, h1, h2⟩, h3⟩
  | raw gd op args => obtain ⟨v, h1, h2, h3⟩ := h; exact ⟨[v], ⟨v, rfl, h1, h2⟩, h3⟩
  | load gd p m => obtain ⟨vs, h1, h2, h3, h4⟩ := h; exact ⟨vs, ⟨h1, h2, h3⟩, h4⟩
  | split c =>
   obtain ⟨b, hb, h1, h2⟩ := h
   refine ⟨[.bool b], ⟨b, hb, rfl⟩, ?_⟩
   cases b
   ·exact h2 rfl
   ·exact h1 rfl
  | isplit c n =>
   obtain ⟨kd, j, hc', _, hu, hk⟩ := xt h
   exact ⟨[.int .i64 j], ⟨kd, j, hc', by omega, by omega, rfl⟩, hk⟩
 | box cs n T cells val => exact cY h
 | stb cs n b => exact cY h
 | hv cs k frz own shp post upd =>
  obtain ⟨hc, h⟩ := cY h
  refine ⟨hc, ?_⟩
  cases k with
  | call f args =>
   show er _ (d && true) _ _ _ _ _ _
   rw [Bool.and_true]
   exact f5 (fun _ _ _ x => x) (fun _ _ _ _ x => cY x) h
  | callv fv args =>
   obtain ⟨f, caps, hf, hok, h⟩ := h
   show er _ (d && true) _ _ _ _ _ _
   rw [Bool.and_true]
   exact f5 (fun _ _ _ x => ⟨f, caps, hf, hok, x⟩) (fun _ _ _ _ x => cY x) h
  | callm m x args =>
   obtain ⟨f, r, hf, hok, h⟩ := h
   show er _ (d && true) _ _ _ _ _ _
   rw [Bool.and_true]
   exact f5 (fun _ _ _ x => ⟨f, r, hf, hok, x⟩) (fun _ _ _ _ x => cY x) h
  | prim op args =>
   show er _ (d && false) _ _ _ _ _ _
   rw [Bool.and_false]
   exact f5 (fun _ _ _ x => x) (fun _ _ _ _ x => cY x) h
 | st cs p vs => exact cY h
def wp1 (P : Program) (ops : Array Oper) (Q : Exit → Act → World → Prop) (o : Oper) (K : Act → World → Prop) (a : Act) (w : World) : Prop :=
 if Region.wanted o (yielded ops a.tmps) then o.wp P a w K Q ∨ (o.asks P a w ∧ LetsOut Q) else K (a.put o.dst undef) w
def Sound (P : Program) (ops : Array Oper) (o : Oper) (s : SS) (x : NF) : Prop :=
 ∀ (F : Own) (H : Heap) (O : Own) (a : Act) (w : World) (d : Bool) (K : SS → Heap → Own → Prop) (Q : Exit → Act → World → Prop),
  Conc F s H O a w → x.run P d o.dst s K H O →
  wp1 P ops Q o (fun a' w' => ∃ s' H' O', Conc F s' H' O' a' w' ∧ Heap.le H H' ∧ K s' H' O') a w
theorem cM {a : At} (h : a.ok) : (S1.at a).ok := by intro b hb; simp [S1.cells] at hb; subst hb; exact h
theorem jZ (v : Value) : (S1.at (.k v)).ok := cM trivial
theorem u9 {P : Program} {ops : Array Oper} {o : Oper} {s : SS} (hg : ar (aJ ops) s o = .skip) (hd : ∀ d, o.dst = some d → d < s.sz) :
  Sound P ops o s (.fl [] .sil (fun _ => .s (.at (.k undef)))) := by
 intro F H O a w d K Q hc hr
 obtain ⟨_, vs, _, hk⟩ := hr
 unfold wp1
 rw [if_neg (by simp [pT hc hg])]
 exact ⟨_, H, O, hc.put (sv := .s (.at (.k undef))) hd (show undef = At.den (.k undef) from rfl) (jZ undef), Heap.le_refl H, hk⟩
theorem aR {P : Program} {ops : Array Oper} {o : Oper} {s : SS} {gl : List (At × Bool)} {cs : List Ck} {k : FK} {X : List Value → S1}
  (hg : ar (aJ ops) s o = .go gl) (hd : ∀ d, o.dst = some d → d < s.sz)
  (hok : ∀ H O vs, s.Ok → AllCk cs → k.pre P H O vs → (X vs).ok)
  (hrun : ∀ F H O a w vs, Conc F s H O a w → AllCk cs → k.pre P H O vs → On (fc gl) → (execOp a.eval o).run P w = .ok (.value (X vs).den) w) :
  Sound P ops o s (.fl cs k (fun vs => o8 gl (X vs))) := by
 intro F H O a w d K Q hc hr
 obtain ⟨hcs, vs, hp, hk⟩ := hr
 unfold wp1
 by_cases ho : On (fc gl)
 ·rw [if_pos ((dS hc hg).2 ho)]
  refine .inl ?_
  unfold Oper.wp
  rw [hrun F H O a w vs hc hcs hp ho, Oper.upon_value]
  exact ⟨_, H, O, hc.put hd (uz (fun _ => rfl) (fun h => absurd ho h)) (w8 (hok H O vs hc.ok hcs hp)), Heap.le_refl H, hk⟩
 ·rw [if_neg (fun h => ho ((dS hc hg).1 h))]
  exact ⟨_, H, O, hc.put hd (uz (fun h => absurd h ho) (fun _ => rfl)) (w8 (hok H O vs hc.ok hcs hp)), Heap.le_refl H, hk⟩
theorem sM {op : POp} {args : List Value} {v : Value} (h : af op args = some v) (ha : op = .pick ∨ op = .aidx → Ones args.tail) : v.oneCell' = true := by
 have hg : ∀ (l : List Value) (i : Nat) (x : Value), Ones l → l[i]? = some x → x.oneCell' = true := by
  intro l
  induction l with
  | nil => intro i x _ hx; simp at hx
  | cons y r ih =>
   intro i x ho hx
   cases i with
   | zero => simp at hx; subst hx; exact ho.1
   | succ i => exact ih i x ho.2 (by simpa using hx)
 have hint : ∀ op k a b v, bW op k a b = some v → v.oneCell' = true := by
  intro op k a b v h
  cases op <;> simp only [bW] at h <;> first
   | (simp at h; done)
   | (simp only [Option.some.injEq] at h; subst h; rfl)
   | (split at h <;> first | (simp at h; done) | (simp only [Option.some.injEq] at h; subst h; rfl))
 have hnil : ∀ op bk x y v, q6 op bk x y = some v → v.oneCell' = true := by
  intro op bk x y v h
  cases op <;> simp only [q6] at h <;> first
   | (simp at h; done)
   | (simp only [Option.map_eq_some_iff] at h; obtain ⟨b, _, rfl⟩ := h; rfl)
 cases op with
 | bin op bk =>
  match args, h with
  | [x, y], h =>
   simp only [af] at h
   unfold ct at h
   split at h
   ·split at h
    ·unfold fS at h; split at h
     ·simp at h
     ·simp only [Option.some.injEq] at h; subst h; rfl
    ·unfold fS at h; split at h
     ·simp at h
     ·simp only [Option.some.injEq] at h; subst h; rfl
    ·split at h
     ·exact hint _ _ _ _ _ h
     ·simp at h
   ·unfold oe at h
    split at h
    ·split at h
     ·simp at h
     ·simp only [Option.some.injEq] at h; subst h; rfl
    ·simp only [Option.some.injEq] at h; subst h; rfl
    ·simp only [Option.some.injEq] at h; subst h; rfl
    ·simp at h
   ·exact hnil _ _ _ _ _ h
  | [], h => simp [af] at h
  | [_], h => simp [af] at h
  | _ :: _ :: _ :: _, h => simp [af] at h
 | pick =>
  have ho := ha (.inl rfl)
  rcases args with _ | ⟨c, _ | ⟨x, _ | ⟨y, _ | ⟨u, r⟩⟩⟩⟩
  ·simp [af] at h
  ·simp [af] at h
  ·simp [af] at h
  ·cases c <;> simp only [af, reduceCtorEq, Option.some.injEq] at h
   rename_i b
   cases b
   ·simp only [Bool.false_eq_true, if_false] at h; subst h; exact ho.2.1
   ·simp only [if_true] at h; subst h; exact ho.1
  ·simp [af] at h
 | aidx =>
  have ho := ha (.inr rfl)
  match args, h, ho with
  | [], h, _ => simp [af] at h
  | i :: cs, h, ho =>
   simp only [af, iR] at h
   split at h
   ·split at h
    ·exact hg _ _ _ ho h
    ·simp at h
   ·simp at h
 | _ =>
  unfold af at h
  split at h <;> simp_all
  all_goals try (subst h; rfl)
  all_goals first
   | exact hint _ _ _ _ _ h
   | (unfold gx at h; split at h <;> first | (simp at h; done) | (split at h <;> simp at h; subst h; rfl))
   | (unfold iQ at h; split at h <;> first | (simp at h; done) | (split at h <;> simp at h; subst h; rfl))
   | (unfold mE at h; split at h <;> first | (simp at h; done) | (simp only [Option.map_eq_some_iff] at h; obtain ⟨_, _, rfl⟩ := h; rfl))
   | (split at h <;> first | (simp at h; done) | (unfold jA at h; split at h <;> first | (simp at h; done) | (simp only [Option.map_eq_some_iff] at h; obtain ⟨_, _, rfl⟩ := h; rfl)))
   | (split at h <;> first | (simp at h; done) | (unfold mD at h; split at h <;> first | (simp at h; done) | (simp only [Option.map_eq_some_iff] at h; obtain ⟨_, _, rfl⟩ := h; rfl)))
theorem al {P : Program} {t : TypeId} {d : TypeDesc} (h : P.underlying t = some d) (w : World) : (underlying t).run P w = .ok d w := by
 simp [underlying, h]
theorem rH {P : Program} {t : TypeId} {m : Nat} (h : eP P t = some m) : ∃ i d, P.info? t = some i ∧ i.size = m ∧ P.underlying t = some d := by
 unfold eP at h
 split at h
 ·rename_i i d h1 h2; exact ⟨i, d, h1, by simpa using h, h2⟩
 ·simp at h
theorem aE {P : Program} {t : TypeId} {m : Nat} (h : eP P t = some m) (w : World) : (sizeOf t).run P w = .ok m w := by
 obtain ⟨i, d, hi, hs, _⟩ := rH h
 simp [sizeOf, typeInfo, hi, hs]
theorem iM {P : Program} {t : TypeId} {m : Nat} (h : eP P t = some m) (w : World) : (isAgg t).run P w = .ok (bT P t) w := by
 obtain ⟨i, d, _, _, hu⟩ := rH h
 unfold isAgg bT
 rw [Sem.run_bind, al hu w, hu]
 cases d <;> rfl
theorem eS {P : Program} {t : TypeId} {m : Nat} (hs : eP P t = some m) {w : World} {a : Addr} {vs : List Value} (hl : vs.length = m)
  (hc : ∀ j v, vs[j]? = some v → w.cell? (a.add j) = some v) (h1 : bT P t = true ∨ m = 1) :
  (loadVar t a).run P w = .ok (if bT P t then .agg vs.toArray else g vs 0) w := by
 unfold loadVar
 rw [Sem.run_bind, iM hs w]
 simp only [Result.andThen_ok]
 cases hA : bT P t with
 | true =>
  have hl' := run_loadCells_list (P := P) w a vs hc
  rw [hl] at hl'
  simp [Sem.run_bind, aE hs w, hl']
 | false =>
  have hm : m = 1 := h1.resolve_left (by simp [hA])
  match vs, hl with
  | [v], _ =>
   have := hc 0 v rfl
   have h0 : a.add 0 = a := by simp [Addr.add]
   rw [h0] at this
   simp [run_load, this, g]
  | [], hl => simp [hm] at hl
  | _ :: _ :: _, hl => simp [hm] at hl
theorem rc {F : Own} {s : SS} {H : Heap} {O : Own} {a : Act} {w : World} (h : Conc F s H O a w) {n : Nat} {b : Bx} (hb : s.mem n = some b) :
  ∃ vs, CellsRel b.cs vs ∧ w.heap[b.r]? = some (.cells vs.toArray b.T (0, 0)) := by
 obtain ⟨L, hL, hm⟩ := h.mm
 obtain ⟨vs, L', hv, hp, _⟩ := hL.take hb
 refine ⟨vs, hv, ?_⟩
 have := (hm.perm (hp.append_right _)).own (b.r, .cells vs.toArray b.T (0, 0)) (by simp)
 exact this.1
theorem aZ (r off j : Nat) : (⟨r, off, none⟩ : Addr).add j = ⟨r, off + j, none⟩ := by
 unfold Addr.add; split <;> simp_all
theorem oJ (a : Addr) (i j : Nat) : (a.add i).add j = a.add (i + j) := by
 cases a
 by_cases hi : i = 0 <;> by_cases hj : j = 0 <;> simp [Addr.add, hi, hj, Nat.add_assoc]
theorem fj {w : World} {r : Nat} {vs : List Value} {T : TypeId} (h : w.heap[r]? = some (.cells vs.toArray T (0, 0))) (off : Nat) {m : Nat} :
  ∀ j v, ((vs.drop off).take m)[j]? = some v → w.cell? ((⟨r, off, none⟩ : Addr).add j) = some v := by
 intro j v hv
 rw [aZ, cell_of_row w r (off + j) _ T _ h]
 rw [List.getElem?_take] at hv
 split at hv
 ·rw [List.getElem?_drop] at hv; simpa using hv
 ·simp at hv
theorem j5 {α β : Type} {f : α → Option β} : ∀ {l : List α} {r : List β}, l.mapM f = some r → ∀ (j : Nat) (v : β), r[j]? = some v → ∃ a, l[j]? = some a ∧ f a = some v
 | [], r, h, j, v, hv => by simp at h; subst h; simp at hv
 | a :: l, r, h, j, v, hv => by
  simp only [List.mapM_cons, Option.pure_def, Option.bind_eq_bind] at h
  cases ha : f a with
  | none => simp [ha] at h
  | some b =>
   simp only [ha, Option.bind_some] at h
   cases hl : l.mapM f with
   | none => simp [hl] at h
   | some bs =>
    simp only [hl, Option.bind_some, Option.some.injEq] at h
    subst h
    cases j with
    | zero => simp at hv; subst hv; exact ⟨a, rfl, ha⟩
    | succ j => simpa using j5 hl j v (by simpa using hv)
theorem tC {w : World} {H : Heap} {O L : Own} {p : Value} {m : Nat} {vs : List Value} (h : Reads H O p m vs) (hm : Models w H L) (hs : ∀ x, x ∈ O → x ∈ L) (h0 : 0 < m) :
  ∃ a, p = .pointer (some a) ∧ ∀ j v, vs[j]? = some v → w.cell? (a.add j) = some v := by
 rcases h with h | ⟨a, cs, T, rfl, hsp, hin, hv, _⟩
 ·unfold Heap.read at h
  split at h
  ·rename_i a
   refine ⟨a, rfl, fun j v hv => ?_⟩
   obtain ⟨i, hi, hc⟩ := j5 h j v hv
   have : i = j := by
    rw [List.getElem?_eq_some_iff] at hi
    obtain ⟨_, hi⟩ := hi
    simpa using hi.symm
   subst this
   exact hm.cell? hc
  ·simp at h
 ·refine ⟨a, rfl, fun j v hj => ?_⟩
  have hrow := (hm.own _ (hs _ hin)).1
  rw [← hv] at hj
  have ha : a = ⟨a.block, a.off, none⟩ := by cases a; simp_all
  rw [ha]
  have := fj (vs := cs.toList) (T := T) (by simpa using hrow) a.off (m := m) j v hj
  exact this
theorem oD {vs : List Value} {m : Nat} (h : vs.length = m) : (atsFrom vs 0 m).map At.den = vs := by
 have := (CellsRel.atsFrom h).known (by simp [atsFrom, At.known])
 exact this.symm
theorem Ones.get : ∀ {vs : List Value}, Ones vs → ∀ i, i < vs.length → (g vs i).oneCell' = true
 | [], _, i, h => by simp at h
 | v :: _, h, 0, _ => h.1
 | _ :: r, h, i + 1, hi => by simpa [g] using Ones.get (vs := r) h.2 i (by simpa using hi)
theorem fN {vs : List Value} {i m : Nat} (h : i + m ≤ vs.length) (ho : Ones vs) : ∀ a, a ∈ atsFrom vs i m → a.ok := by
 intro a ha
 simp only [atsFrom, List.mem_map, List.mem_range] at ha
 obtain ⟨j, hj, rfl⟩ := ha
 exact ho.get _ (by omega)
variable {P : Program} {ops : Array Oper} {o : Oper} {s : SS} {gl : List (At × Bool)}
theorem sy {t : TypeId} {x : Operand} {y : At} {cs : List Ck} {nfp : NF × FP} (ho : o.op = .load t x) (hx : dh s gl x = some (y, cs))
    (hg : ar (aJ ops) s o = .go gl) (hd : ∀ d, o.dst = some d → d < s.sz) (h : j7 P s gl o.dst t y cs = some nfp) : Sound P ops o s nfp.1 := by
  unfold j7 at h
  cases hm : eP P t with
  | none => simp [hm] at h
  | some m =>
    simp only [hm, Option.bind_some] at h
    have far : (bT P t = true ∨ m = 1) → Sound P ops o s (.fl cs (.load (fc gl) y.den m) (fun vs => o8 gl (if bT P t then .agg (atsFrom vs 0 m) else .at (.v (g vs 0))))) := by
      intro h1
      refine aR (X := fun vs => if bT P t then .agg (atsFrom vs 0 m) else .at (.v (g vs 0))) hg hd ?_ ?_
      · intro H O vs _ _ ⟨hl, hone, _⟩
        split
        · exact fN (by omega) hone
        · rename_i hA
          have : m = 1 := h1.resolve_left hA
          exact cM (hone.get 0 (by omega))
      · intro F H O a w vs hc hcs ⟨hl, hone, hr⟩ hon
        have he := ay hc hx hcs hon
        have hr := hr hon
        by_cases h0 : m = 0
        · have hA : bT P t = true := h1.resolve_right (by omega)
          obtain ⟨b, hb⟩ : ∃ b, y.den = .pointer (some b) := by
            rcases hr with hr | ⟨b, _, _, hb, _⟩
            · unfold Heap.read at hr; split at hr
              · rename_i b hb; exact ⟨b, hb⟩
              · simp at hr
            · exact ⟨b, hb⟩
          have hv : vs = [] := List.eq_nil_of_length_eq_zero (by omega)
          subst hv
          have := eS (P := P) hm (w := w) (a := b) (vs := []) (by simpa using h0.symm) (by simp) (.inl hA)
          simp only [execOp, ho, he, hb, Instr.loadAt, Instr.sureAddr, Sem.run_bind, Sem.run_pure, Result.andThen_ok, this, hA, if_true]
          simp [S1.den, atsFrom, h0]
        · obtain ⟨L, hL, hmod⟩ := hc.mm
          obtain ⟨b, hb, hcell⟩ := tC hr hmod (fun x hx => by simp [hx]) (by omega)
          have := eS (P := P) hm (w := w) (a := b) (vs := vs) hl hcell h1
          simp only [execOp, ho, he, hb, Instr.loadAt, Instr.sureAddr, Sem.run_bind, Sem.run_pure, Result.andThen_ok, this]
          cases hA : bT P t with
          | true => simp [S1.den, oD hl]
          | false => simp [S1.den, At.den]
    have near : ∀ {n r off : Nat} {b : Bx} {v : S1}, y = .p n r off → s.mem n = some b → ((b.cs.drop off).take m).length = m → ((b.cs.drop off).take m).all At.known = true →
        vX P t ((b.cs.drop off).take m) = some v → Sound P ops o s (.fl (.eqN r b.r :: cs) .sil (fun _ => o8 gl v)) := by
      intro n r off b v hy hb hlen hk hv
      refine aR (X := fun _ => v) hg hd ?_ ?_
      · intro H O vs hok _ _ a ha
        have : ∀ a, a ∈ v.cells → a ∈ b.cs := by
          intro a ha
          unfold vX at hv
          split at hv
          · simp only [Option.some.injEq] at hv; subst hv; exact List.mem_of_mem_drop (List.mem_of_mem_take ha)
          · split at hv
            · rename_i a' he; simp only [Option.some.injEq] at hv; subst hv
              simp [S1.cells] at ha; subst ha
              have : a ∈ (b.cs.drop off).take m := by rw [he]; simp
              exact List.mem_of_mem_drop (List.mem_of_mem_take this)
            · simp at hv
        exact hok.2 n b hb a (this a ha)
      · intro F H O a w vs hc hcs _ hon
        have he := ay hc hx hcs.2 hon
        have hr : r = b.r := hcs.1
        obtain ⟨us, hus, hrow⟩ := rc hc hb
        have hcells := ((hus.drop off).take m).known hk
        have hlen' : ((us.drop off).take m).length = m := by rw [hcells]; simpa using hlen
        have h1 : bT P t = true ∨ m = 1 := by
          unfold vX at hv
          split at hv
          · rename_i hA; exact .inl hA
          · split at hv
            · rename_i a' he'; rw [he'] at hlen; exact .inr (by simpa using hlen.symm)
            · simp at hv
        have := eS (P := P) hm (w := w) (a := ⟨b.r, off, none⟩) hlen' (fj hrow off) h1
        simp only [execOp, ho, he, hy, At.den, hr, Instr.loadAt, Instr.sureAddr, Sem.run_bind, Sem.run_pure, Result.andThen_ok, this]
        rw [hcells]
        unfold vX at hv
        split at hv
        · rename_i hA; simp only [Option.some.injEq] at hv; subst hv; simp [hA, S1.den]
        · rename_i hA
          split at hv
          · rename_i a' he'; simp only [Option.some.injEq] at hv; subst hv
            have hA' : bT P t = false := by simpa using hA
            rw [he']; simp [hA', S1.den, g]
          · simp at hv
    split at h
    · rename_i n r off
      split at h
      · rename_i b hb
        split at h
        · rename_i hcond
          simp only [Bool.and_eq_true, decide_eq_true_eq] at hcond
          simp only [Option.map_eq_some_iff] at h
          obtain ⟨v, hv, rfl⟩ := h
          exact near rfl hb hcond.1 hcond.2 hv
        · simp at h
      · split at h
        · simp at h
        · rename_i hcond
          simp only [Option.some.injEq] at h; subst h
          refine far ?_
          simp only [Bool.and_eq_true, Bool.not_eq_true', bne_iff_ne, ne_eq, not_and, Decidable.not_not] at hcond
          cases hA : bT P t with
          | true => exact .inl rfl
          | false => exact .inr (hcond hA)
    all_goals first
      | (simp at h; done)
      | (split at h
         · simp at h
         · rename_i hcond
           simp only [Option.some.injEq] at h; subst h
           refine far ?_
           simp only [Bool.and_eq_true, Bool.not_eq_true', bne_iff_ne, ne_eq, not_and, Decidable.not_not] at hcond
           cases hA : bT P t with
           | true => exact .inl rfl
           | false => exact .inr (hcond hA))
theorem rZ : ∀ {as : List At} {vs : List Value}, as.mapM nv = some vs → as.map At.den = vs
 | [], vs, h => by simp at h; subst h; rfl
 | a :: r, vs, h => by
  simp only [List.mapM_cons, Option.pure_def, Option.bind_eq_bind] at h
  cases ha : nv a with
  | none => simp [ha] at h
  | some b =>
   simp only [ha, Option.bind_some] at h
   cases hl : r.mapM nv with
   | none => simp [hl] at h
   | some bs =>
    simp only [hl, Option.bind_some, Option.some.injEq] at h
    subst h
    rw [List.map_cons, rZ hl]
    unfold nv at ha
    split at ha <;> simp at ha <;> subst ha <;> rfl
theorem uG {as : List At} (hf : ∀ a, a ∈ as → a.fit = true) (ho : ∀ a, a ∈ as → a.ok) : Ones (as.map At.den) := by
 induction as with
 | nil => trivial
 | cons a r ih => exact ⟨At.fit_one (hf a (by simp)) (ho a (by simp)), ih (fun b hb => hf b (by simp [hb])) (fun b hb => ho b (by simp [hb]))⟩
variable {P : Program} {ops : Array Oper} {o : Oper} {s : SS} {gl : List (At × Bool)}
theorem aF {total : Bool} {op : POp} {as : List At} {cs : List Ck}
  (hg : ar (aJ ops) s o = .go gl) (hd : ∀ d, o.dst = some d → d < s.sz)
  (hfit : op = .pick ∨ op = .aidx → Ones (as.map At.den).tail ∨ ¬ s.Ok)
  (hexec : ∀ F H O a w v, Conc F s H O a w → AllCk cs → On (fc gl) → af op (as.map At.den) = some v → (execOp a.eval o).run P w = .ok (.value v) w) :
  Sound P ops o s (cA gl total o.dst op as cs) := by
 unfold cA
 split
 ·rename_i v hv
  unfold Ao at hv
  simp only [Option.bind_eq_some_iff] at hv
  obtain ⟨vs, hvs, hev⟩ := hv
  refine aR (X := fun _ => .at (.k v)) hg hd (fun _ _ _ _ _ _ => jZ v) ?_
  intro F H O a w _ hc hcs _ hon
  exact hexec F H O a w v hc hcs hon (by rw [rZ hvs]; exact hev)
 ·refine aR (X := fun vs => .at (.v (g vs 0))) hg hd ?_ ?_
  ·rintro H O vs hok _ ⟨v, rfl, he, hone⟩
   refine cM ?_
   show v.oneCell' = true
   rcases hone with h0 | h1
   ·have he := he (by rw [h0]; trivial)
    exact sM he (fun h => (hfit h).resolve_right (fun hn => hn hok))
   ·exact h1
  ·rintro F H O a w vs hc hcs ⟨v, rfl, he, _⟩ hon
   exact hexec F H O a w v hc hcs hon (he (by cases total <;> simp [hon, On]))
theorem gY {op : BinOp} {t : TypeId} {x y : Operand} {X Y : Value} (h : ¬ (X = .nilIface ∧ Y = .nilIface)) (h' : ∀ a b, ¬ (X = .agg a ∧ Y = .agg b)) (w : World) :
    (eqGuard op t x y X Y).run P w = .ok () w := by
  unfold eqGuard
  cases op <;> first
    | rfl
    | (simp only [Bool.not_true, Bool.false_eq_true, if_false]
       split
       · exact absurd ⟨rfl, rfl⟩ h
       · exact absurd ⟨rfl, rfl⟩ (h' _ _)
       · rfl)

theorem BM {op : BinOp} {t : TypeId} {k : IntKind} {a b : Int} {v : Value} (hs : op ≠ .shl) (hs' : op ≠ .shr) (h : bW op k a b = some v) (w : World) :
    (binOp op t (.int k a) (.int k b)).run P w = .ok v w := by
  cases op <;> simp only [bW] at h <;> first
    | (simp at h; done)
    | exact absurd rfl hs
    | exact absurd rfl hs'
    | (simp only [Option.some.injEq] at h; subst h; simp [binOp, Op.intArith, Op.intCmp, Op.intBits]; done)
    | (split at h
       · simp at h
       · rename_i h0; simp only [Option.some.injEq] at h; subst h; simp [binOp, Op.intDiv, h0])

theorem rO {op : BinOp} {t : TypeId} {k k' : IntKind} {a b : Int} {v : Value} (h : fS op k a b = some v) (hs : op = .shl ∨ op = .shr) (w : World) :
  (binOp op t (.int k a) (.int k' b)).run P w = .ok v w := by
 unfold fS at h
 split at h
 ·simp at h
 ·rename_i h0
  rcases hs with rfl | rfl <;> simp only [Option.some.injEq] at h <;> subst h <;> simp [binOp, Op.shift, h0]
theorem BL {op : BinOp} {t : TypeId} {a b : ByteArray} {v : Value} (h : oe op a b = some v) (w : World) :
  (binOp op t (.string a) (.string b)).run P w = .ok v w := by
 unfold oe at h
 split at h
 ·split at h
  ·simp at h
  ·rename_i h0
   simp only [Option.some.injEq] at h; subst h
   simp only [binOp, Op.stringOp, if_neg h0]; rfl
 ·simp only [Option.some.injEq] at h; subst h; simp [binOp, Op.stringOp]
 ·simp only [Option.some.injEq] at h; subst h; simp [binOp, Op.stringOp]
 ·simp at h
def BK.fits : BK → TypeDesc → Prop
 | .int, .int _ | .bool, .bool | .str, .string | .slice, .slice _ | .ptr, .pointer _ | .map, .map _ _ | .func, .func _ _ _ => True
 | _, _ => False
theorem ES {t : TypeId} {bk : BK} (h : FX P t = some bk) : ∃ d, P.underlying t = some d ∧ bk.fits d := by
 unfold FX at h
 split at h <;> first
  | (simp at h; done)
  | (rename_i e; simp only [Option.some.injEq] at h; subst h; exact ⟨_, e, trivial⟩)
theorem mY {t : TypeId} {bk : BK} {d : TypeDesc} (hd : P.underlying t = some d) (hm : bk.fits d) {x y : Value} {r : Bool} (h : yx bk x y = some r) (n : Nat) (w : World) :
  (Op.equalIn (n + 1) t x y).run P w = .ok r w := by
 simp only [Op.equalIn, Sem.run_bind, al hd w, Result.andThen_ok]
 unfold yx at h
 split at h <;> simp only [Option.some.injEq, reduceCtorEq] at h <;> subst h <;> cases d <;> simp_all [BK.fits]
 all_goals first
  | rfl
  | (rename_i b _ _ _; cases b <;> rfl)
  | (rename_i b _ _; cases b <;> rfl)
  | (rename_i b _; cases b <;> rfl)
  | (rename_i b; cases b <;> rfl)
  | skip
theorem qA {t : TypeId} {bk : BK} {d : TypeDesc} (hd : P.underlying t = some d) (hm : bk.fits d) {x y : Value} {r : Bool} (h : yx bk x y = some r) (w : World) :
  (Op.equal t x y).run P w = .ok r w := mY hd hm h 9999 w
theorem BN {op : BinOp} {t : TypeId} {bk : BK} (hb : FX P t = some bk) {x y : Operand} {X Y : Value} {v : Value} (h : ct op bk X Y = some v) (w : World) :
  (do eqGuard op t x y X Y; binOp op t X Y : Sem Value).run P w = .ok v w := by
 unfold ct at h
 split at h
 ·rename_i k a k' b
  rw [Sem.run_bind, gY (by simp) (by simp) w, Result.andThen_ok]
  split at h
  ·exact rO h (.inl rfl) w
  ·exact rO h (.inr rfl) w
  ·rename_i h1 h2
   split at h
   ·rename_i e; subst e; exact BM h1 h2 h w
   ·simp at h
 ·rw [Sem.run_bind, gY (by simp) (by simp) w, Result.andThen_ok]
  exact BL h w
 ·obtain ⟨d, hd, hm⟩ := ES hb
  have key : ∀ r, yx bk X Y = some r → (eqGuard op t x y X Y).run P w = .ok () w ∧ (Op.equal t X Y).run P w = .ok r w ∧
    (binOp .eql t X Y = do pure (.bool (← Op.equal t X Y))) ∧ (binOp .neq t X Y = do pure (.bool (!(← Op.equal t X Y)))) := by
   intro r hr
   refine ⟨gY ?_ ?_ w, qA hd hm hr w, ?_, ?_⟩
   ·rintro ⟨rfl, rfl⟩; unfold yx at hr; split at hr <;> simp_all
   ·rintro a b ⟨rfl, rfl⟩; unfold yx at hr; split at hr <;> simp_all
   ·unfold yx at hr; split at hr <;> simp_all [binOp]
   ·unfold yx at hr; split at hr <;> simp_all [binOp]
  unfold q6 at h
  split at h
  ·simp only [Option.map_eq_some_iff] at h
   obtain ⟨r, hr, rfl⟩ := h
   obtain ⟨h1, h2, h3, _⟩ := key r hr
   rw [Sem.run_bind, h1, Result.andThen_ok, h3, Sem.run_bind, h2]; rfl
  ·simp only [Option.map_eq_some_iff] at h
   obtain ⟨r, hr, rfl⟩ := h
   obtain ⟨h1, h2, _, h4⟩ := key r hr
   rw [Sem.run_bind, h1, Result.andThen_ok, h4, Sem.run_bind, h2]; rfl
  ·simp at h
variable {P : Program} {ops : Array Oper} {o : Oper} {s : SS} {gl : List (At × Bool)}
theorem wL {t elem : TypeId} {size : Nat} (hu : P.underlying t = some (.slice elem)) (hs : eP P elem = some size) {x i v : Value} (h : gx size x i = some v) (w : World) :
  (Instr.indexAt t x i).run P w = .ok v w := by
 unfold gx at h
 split at h
 ·rename_i a len c k n
  split at h
  ·rename_i hb
   simp only [Option.some.injEq] at h; subst h
   simp [Instr.indexAt, asIntOf, al hu, aE hs, hb]
  ·simp at h
 ·simp at h
theorem uu {t elem : TypeId} {len size : Nat} (hu : P.underlying t = some (.array len elem)) (hs : eP P elem = some size) {x i v : Value} (h : iQ len size x i = some v) (w : World) :
  (Instr.indexAt t x i).run P w = .ok v w := by
 unfold iQ at h
 split at h
 ·rename_i a k n
  split at h
  ·rename_i hb
   simp only [Option.some.injEq] at h; subst h
   simp [Instr.indexAt, asIntOf, al hu, aE hs, hb, Instr.sureAddr]
  ·simp at h
 ·simp at h
theorem y5 {t : TypeId} (hu : P.underlying t = some .string) {x i v : Value} (h : mE x i = some v) (w : World) : (Instr.index t x i).run P w = .ok v w := by
 unfold mE at h
 split at h
 ·rename_i sb k n
  simp only [Option.map_eq_some_iff] at h
  obtain ⟨b, hb, rfl⟩ := h
  simp only [Instr.index, asIntOf, Sem.run_bind, Sem.run_pure, Result.andThen_ok, al hu, hb]
 ·simp at h
theorem uw {t elem : TypeId} {len : Nat} {cs : List Value} (hu : P.underlying t = some (.array len elem)) (hs : eP P elem = some 1) (hA : bT P elem = false) (hl : cs.length = len)
  {i v : Value} (h : iR i cs = some v) (w : World) : (Instr.index t (.agg cs.toArray) i).run P w = .ok v w := by
 unfold iR at h
 split at h
 ·rename_i k n
  split at h
  ·rename_i hb
   rw [hl] at hb
   simp only [Instr.index, asIntOf, Sem.run_bind, Sem.run_pure, Result.andThen_ok, al hu, if_pos hb, aE hs, part, iM hs, hA, Nat.mul_one]
   have : cs.toArray[n.toNat]? = some v := by simpa using h
   simp [this]
  ·simp at h
 ·simp at h
theorem wK {t ty e : TypeId} {x v : Value} (hu : P.underlying t = some (.slice e)) (h : af .len [x] = some v) (w : World) :
  (Builtin.len_ #[t] ty #[x]).run P w = .ok v w := by
 cases x <;> simp [af] at h
 subst h
 simp [Builtin.len_, al hu]
theorem y4 {t ty : TypeId} {x v : Value} (hu : P.underlying t = some .string) (h : af .slen [x] = some v) (w : World) :
  (Builtin.len_ #[t] ty #[x]).run P w = .ok v w := by
 cases x <;> simp [af] at h
 subst h
 simp [Builtin.len_, al hu]
theorem y6 {t ty e : TypeId} {n : Nat} {x : Value} (hu : P.underlying t = some (.array n e)) (w : World) :
  (Builtin.len_ #[t] ty #[x]).run P w = .ok (goInt n) w := by
 simp [Builtin.len_, al hu]
theorem wM {t ty e : TypeId} {x v : Value} (hu : P.underlying t = some (.slice e)) (h : af .cap [x] = some v) (w : World) :
  (Builtin.cap_ #[t] ty #[x]).run P w = .ok v w := by
 cases x <;> simp [af] at h
 subst h
 simp [Builtin.cap_, al hu]
theorem dE {v : Value} {y n : Nat} (h : qe v y = some n) (code : BoundsCode) (w : World) : (Instr.sliceBound v y code).run P w = .ok n w := by
 unfold qe asI at h
 cases v <;> simp at h
 rename_i k i
 obtain ⟨hb, rfl⟩ := h
 simp [Instr.sliceBound, asIntOf, hb]
theorem lA {isSlice : Bool} {len cap l h m : Nat} {lo hi mx : Option Value} (hb : cO len cap lo hi mx = some (l, h, m)) (w : World) :
  (Instr.sliceBounds isSlice len cap lo hi mx).run P w = .ok (l, h, m) w := by
 unfold cO at hb
 simp only [Option.bind_eq_some_iff, Option.some.injEq, Prod.mk.injEq] at hb
 obtain ⟨m', hm, h', hh, l', hl, rfl, rfl, rfl⟩ := hb
 cases mx with
 | none =>
  simp only [bO, Option.some.injEq] at hm; subst hm
  cases hi with
  | none =>
   simp only [dF, Option.isSome_none, Bool.false_eq_true, if_false, Option.some.injEq] at hh; subst hh
   cases lo with
   | none => simp only [bO, Option.some.injEq] at hl; subst hl; rfl
   | some v => simp only [bO] at hl; simp [Instr.sliceBounds, dE hl]
  | some u =>
   simp only [dF] at hh
   cases lo with
   | none => simp only [bO, Option.some.injEq] at hl; subst hl; simp [Instr.sliceBounds, dE hh]
   | some v => simp only [bO] at hl; simp [Instr.sliceBounds, dE hh, dE hl]
 | some x =>
  simp only [bO] at hm
  cases hi with
  | none => simp [dF] at hh
  | some u =>
   simp only [dF] at hh
   cases lo with
   | none => simp only [bO, Option.some.injEq] at hl; subst hl; simp [Instr.sliceBounds, dE hm, dE hh]
   | some v => simp only [bO] at hl; simp [Instr.sliceBounds, dE hm, dE hh, dE hl]
theorem wJ {t elem : TypeId} {size : Nat} (hu : P.underlying t = some (.slice elem)) (hs : eP P elem = some size) {x v : Value} {lo hi mx : Option Value} (h : jA size x lo hi mx = some v) (w : World) :
  (Instr.sliceAt t x lo hi mx).run P w = .ok v w := by
 unfold jA at h
 split at h
 ·rename_i a len c
  simp only [Option.map_eq_some_iff] at h
  obtain ⟨⟨l, hh, m⟩, hb, rfl⟩ := h
  simp only [Instr.sliceAt, Sem.run_bind, al hu, Result.andThen_ok, Instr.slice, lA hb, aE hs]
  rfl
 ·simp at h
theorem y3 {t : TypeId} (hu : P.underlying t = some .string) {x v : Value} {lo hi : Option Value} (h : mD x lo hi = some v) (w : World) :
  (Instr.sliceAt t x lo hi none).run P w = .ok v w := by
 unfold mD at h
 split at h
 ·rename_i sb
  simp only [Option.map_eq_some_iff] at h
  obtain ⟨⟨l, hh, m⟩, hb, rfl⟩ := h
  simp only [Instr.sliceAt, Sem.run_bind, al hu, Result.andThen_ok, Instr.slice, Option.isSome_none, Bool.false_eq_true, if_false, lA hb, Sem.run_pure]
 ·simp at h
theorem rN {t elem : TypeId} {n size l h m : Nat} (hu : P.underlying t = some (.array n elem)) (hs : eP P elem = some size) {r off : Nat} {lo hi mx : Option Value}
  (hb : cO n n lo hi mx = some (l, h, m)) (w : World) :
  (Instr.sliceAt t (.pointer (some ⟨r, off, none⟩)) lo hi mx).run P w = .ok (.slice (some (if m = l then ⟨r, off, none⟩ else ⟨r, off + l * size, none⟩)) (h - l) (m - l)) w := by
 simp only [Instr.sliceAt, Sem.run_bind, al hu, Result.andThen_ok, Instr.sureAddr, Sem.run_pure, lA hb, aE hs, aZ]
theorem lM {t : TypeId} {f : Nat} {fd : Field} (h : jz P t f = some fd) : ∃ fs, P.underlying t = some (.struct fs) ∧ fs[f]? = some fd := by
 unfold jz at h
 split at h
 ·rename_i fs e; exact ⟨fs, e, h⟩
 ·simp at h
theorem tw {t : TypeId} {f : Nat} {fd : Field} {m : Nat} (hf : jz P t f = some fd) (hs : eP P fd.type = some m) (hm : m ≠ 0) (a : Addr) (w : World) :
  (Instr.fieldAt t (.pointer (some a)) f).run P w = .ok (.pointer (some (a.add fd.offset))) w := by
 obtain ⟨fs, hu, hfd⟩ := lM hf
 simp [Instr.fieldAt, al hu, hfd, Instr.sureAddr, fieldPlace, aE hs, hm]
theorem uv {t : TypeId} {m : Nat} {cs : List At} {off : Nat} {v : S1} (h : jW P t cs off = some v) (w : World) (_hm : eP P t = some m) :
  (part t (cs.map At.den).toArray off).run P w = .ok v.den w := by
 unfold jW at h
 rw [_hm] at h
 simp only [Option.bind_some] at h
 split at h
 ·rename_i hl
  unfold vX at h
  unfold part
  rw [Sem.run_bind, iM _hm, Result.andThen_ok]
  split at h
  ·rename_i hA
   simp only [Option.some.injEq] at h; subst h
   simp [hA, aE _hm, S1.den]
  ·rename_i hA
   have hA' : bT P t = false := by simpa using hA
   split at h
   ·rename_i a he
    simp only [Option.some.injEq] at h; subst h
    have hget : cs[off]? = some a := by
     have : (List.take m (cs.drop off))[0]? = some a := by rw [he]; rfl
     have h0 : 0 < m := by rw [he] at hl; simp at hl; omega
     simpa [List.getElem?_take, h0] using this
    simp [hA', hget, S1.den]
   ·simp at h
 ·simp at h
theorem nz {t : TypeId} {cs : List At} {off : Nat} {v : S1} (h : jW P t cs off = some v) : ∃ m, eP P t = some m := by
 unfold jW at h
 cases hm : eP P t with
 | none => simp [hm] at h
 | some m => exact ⟨m, rfl⟩
theorem pu {t : TypeId} {cs : List At} {off : Nat} {v : S1} (h : jW P t cs off = some v) : ∀ a, a ∈ v.cells → a ∈ cs := by
 unfold jW at h
 cases hm : eP P t with
 | none => simp [hm] at h
 | some m =>
  simp only [hm, Option.bind_some] at h
  split at h
  ·unfold vX at h
   split at h
   ·simp only [Option.some.injEq] at h; subst h
    intro a ha; exact List.mem_of_mem_drop (List.mem_of_mem_take ha)
   ·split at h
    ·rename_i a he
     simp only [Option.some.injEq] at h; subst h
     intro b hb; simp [S1.cells] at hb; subst hb
     have : b ∈ (cs.drop off).take m := by rw [he]; simp
     exact List.mem_of_mem_drop (List.mem_of_mem_take this)
    ·simp at h
  ·simp at h
theorem ot {v : S1} (hf : v.cells.all At.fit = true) (ho : v.ok) : v.den.cells = (v.cells.map At.den).toArray := by
 rcases v with a | l
 ·have h1 : a.den.oneCell' = true := At.fit_one (by simpa [S1.cells] using hf) (ho a (by simp [S1.cells]))
  simp only [S1.den, S1.cells, List.map_cons, List.map_nil]
  cases hd : a.den <;> simp_all [Value.cells, Value.oneCell']
 ·rfl
theorem xI (vs : List Value) : ∀ (off : Nat) (cells : List Value), off + vs.length ≤ cells.length →
  (vs.zipIdx.foldl (fun (cs : Array Value) (p : Value × Nat) => cs.setIfInBounds (off + p.2) p.1) cells.toArray) = (cells.take off ++ vs ++ cells.drop (off + vs.length)).toArray := by
 have gen : ∀ (vs : List Value) (k off : Nat) (cells : List Value), off + k + vs.length ≤ cells.length →
   ((vs.zipIdx k).foldl (fun (cs : Array Value) (p : Value × Nat) => cs.setIfInBounds (off + p.2) p.1) cells.toArray) = (cells.take (off + k) ++ vs ++ cells.drop (off + k + vs.length)).toArray := by
  intro vs
  induction vs with
  | nil => intro k off cells _; simp
  | cons v r ih =>
   intro k off cells h
   simp only [List.length_cons] at h
   simp only [List.zipIdx_cons, List.foldl_cons, List.setIfInBounds_toArray]
   have hlen : (cells.set (off + k) v).length = cells.length := by simp
   have := ih (k + 1) off (cells.set (off + k) v) (by simp; omega)
   rw [this]
   congr 1
   have e1 : (cells.set (off + k) v).take (off + (k + 1)) = cells.take (off + k) ++ [v] := by
    apply List.ext_getElem?
    intro i
    by_cases hi : i < off + k
    ·rw [List.getElem?_take, if_pos (by omega), List.getElem?_set_ne (by omega), List.getElem?_append_left (by simp; omega), List.getElem?_take, if_pos hi]
    ·by_cases he : i = off + k
     ·subst he
      rw [List.getElem?_take, if_pos (by omega), List.getElem?_set_self (by omega), List.getElem?_append_right (by simp; omega)]
      have : off + k - (cells.take (off + k)).length = 0 := by simp; omega
      rw [this]; rfl
     ·rw [List.getElem?_take, if_neg (by omega), List.getElem?_eq_none (by simp; omega)]
   have e2 : (cells.set (off + k) v).drop (off + (k + 1) + r.length) = cells.drop (off + k + (r.length + 1)) := by
    rw [List.drop_set_of_lt (by omega)]; congr 1; omega
   rw [e1, e2]; simp
 intro off cells h
 simpa using gen vs 0 off cells (by simpa using h)
theorem mB {F : Own} {H : Heap} {O : Own} {a : Act} {w : World} (hc : Conc F s H O a w) {place : Nat → Option (Nat × Nat)} (hon : On (fc gl)) :
  ∀ {parts : List (Nat × Operand)} {cells out : List At} {cs : List Ck}, bV s gl place parts cells = some (out, cs) → AllCk cs →
   Instr.fill place (cells.map At.den).toArray (parts.map fun p => (p.1, a.eval p.2)) = some (out.map At.den).toArray
 | [], cells, out, cs, h, _ => by simp only [bV, Option.some.injEq, Prod.mk.injEq] at h; rw [← h.1]; rfl
 | (i, x) :: r, cells, out, cs, h, hcs => by
  simp only [bV] at h
  split at h
  ·rename_i off size v c hp hx
   split at h
   ·rename_i hcond
    simp only [Bool.and_eq_true, decide_eq_true_eq] at hcond
    obtain ⟨hcond, hfit⟩ := hcond
    simp only [Option.map_eq_some_iff] at h
    obtain ⟨⟨cs', c'⟩, hr, he⟩ := h
    simp only [Prod.mk.injEq] at he
    obtain ⟨rfl, rfl⟩ := he
    rw [AllCk.append] at hcs
    have hv := cV hc hx hcs.1 hon
    have hcells : v.den.cells = (v.cells.map At.den).toArray := by
     have hok := de hc.ok hx
     exact ot hfit hok
    simp only [List.map_cons, Instr.fill, hp, hv, hcells]
    have hsz : (v.cells.map At.den).toArray.size = size := by simp [hcond.1]
    have : (decide ((v.cells.map At.den).toArray.size ≠ size) || decide (off + (v.cells.map At.den).toArray.size > (cells.map At.den).toArray.size)) = false := by
     simp only [List.size_toArray, List.length_map, Bool.or_eq_false_iff, decide_eq_false_iff_not]; omega
    rw [this]
    simp only [Bool.false_eq_true, if_false]
    have hf := xI (v.cells.map At.den) off (cells.map At.den) (by simp; omega)
    have hz : ((v.cells.map At.den).toArray.zipIdx).foldl (fun (cs : Array Value) (p : Value × Nat) => cs.setIfInBounds (off + p.2) p.1) (cells.map At.den).toArray = ((dl cells off v.cells).map At.den).toArray := by
     rw [← Array.foldl_toList, Array.toList_zipIdx, List.toList_toArray, hf]
     simp [dl, List.map_take, List.map_drop]
    rw [hz]
    exact mB hc hon hr hcs.2
   ·simp at h
  ·simp at h
variable {P : Program} {ops : Array Oper} {o : Oper} {s : SS} {gl : List (At × Bool)}
theorem tp (vs : List Value) (off : Nat) (v : Value) (r : List Value) (h : off < vs.length) : cd (vs.set off v) (off + 1) r = cd vs off (v :: r) := by
 unfold cd
 have e1 : (vs.set off v).take (off + 1) = vs.take off ++ [v] := by
  rw [List.take_set]
  apply List.ext_getElem?
  intro i
  by_cases hi : i < off
  ·rw [List.getElem?_set_ne (by omega), List.getElem?_take, if_pos (by omega), List.getElem?_append_left (by simp; omega), List.getElem?_take, if_pos hi]
  ·by_cases he : i = off
   ·subst he
    rw [List.getElem?_set_self (by simp; omega), List.getElem?_append_right (by simp; omega)]
    have : i - (vs.take i).length = 0 := by simp; omega
    rw [this]; rfl
   ·rw [List.getElem?_set_ne (by omega), List.getElem?_take, if_neg (by omega), List.getElem?_eq_none (by simp; omega)]
 have e2 : (vs.set off v).drop (off + 1 + r.length) = vs.drop (off + (v :: r).length) := by
  rw [List.drop_set_of_lt (by omega), List.length_cons]; congr 1; omega
 rw [e1, e2]; simp
theorem iZ {r off : Nat} {T : TypeId} : ∀ (ys : List Value) (i : Nat) (vs : List Value) (w : World), w.heap[r]? = some (.cells vs.toArray T (0, 0)) → Ones ys → off + i + ys.length ≤ vs.length →
  ∃ w', (storeCells ⟨r, off, none⟩ ys i).run P w = .ok () w' ∧ (∀ b, b ≠ r → w'.heap[b]? = w.heap[b]?) ∧ w'.heap[r]? = some (.cells (cd vs (off + i) ys).toArray T (0, 0)) ∧ dA w' = dA w
 | [], i, vs, w, h, _, hl => ⟨w, rfl, fun _ _ => rfl, by rw [h]; simp [cd], rfl⟩
 | y :: ys, i, vs, w, h, ho, hl => by
  simp only [List.length_cons] at hl
  have hcell : w.cell? ⟨r, off + i, none⟩ = some (vs[off + i]'(by omega)) := by
   rw [cell_of_row w r (off + i) _ T _ h]; simp
  have hfr : w.frozen? ⟨r, off + i, none⟩ = false := frozen_of_row w r (off + i) _ T h
  have hset : (w.setCell ⟨r, off + i, none⟩ y).heap[r]? = some (.cells (vs.set (off + i) y).toArray T (0, 0)) := by
   rw [heap_setCell_same w r (off + i) vs.toArray T y h]; simp
  have henv : dA (w.setCell ⟨r, off + i, none⟩ y) = dA w := by
   unfold World.setCell; split <;> rfl
  obtain ⟨w', hr, hs, hb, he⟩ := iZ (r := r) (off := off) ys (i + 1) (vs.set (off + i) y) (w.setCell ⟨r, off + i, none⟩ y) hset ho.2 (by simp; omega)
  refine ⟨w', ?_, fun b hne => ?_, ?_, he.trans henv⟩
  ·simp only [storeCells, Sem.run_bind, aZ, run_store P w _ y .plain ho.1, hcell, hfr, Bool.false_eq_true, if_false, Result.andThen_ok]
   exact hr
  ·rw [hs b hne, heap_setCell_other w ⟨r, off + i, none⟩ b y hne]
  ·rw [hb, ← tp vs (off + i) y ys (by omega)]; rfl
theorem lF {t : TypeId} {m : Nat} (hs : eP P t = some m) {r off : Nat} {T : TypeId} {vs : List Value} {w : World} (h : w.heap[r]? = some (.cells vs.toArray T (0, 0))) {y : Value} {ys : List Value}
  (hy : y.cells = ys.toArray) (ho : Ones ys) (hm : ys.length = m) (hl : off + ys.length ≤ vs.length) :
  ∃ w', (storeVar t ⟨r, off, none⟩ y).run P w = .ok () w' ∧ (∀ b, b ≠ r → w'.heap[b]? = w.heap[b]?) ∧ w'.heap[r]? = some (.cells (cd vs off ys).toArray T (0, 0)) ∧ dA w' = dA w := by
 obtain ⟨w', hr, hb, hc, he⟩ := iZ (P := P) (off := off) ys 0 vs w h ho (by omega)
 refine ⟨w', ?_, hb, hc, he⟩
 unfold storeVar
 rw [Sem.run_bind, aE hs, Result.andThen_ok]
 have : ¬ (y.cells.size ≠ m) := by rw [hy]; simp [hm]
 simp only [this, if_false]
 rw [hy]
 simpa using hr
theorem qt {t : TypeId} {x y : Operand} {x' : At} {y' : S1} {cx cy : List Ck} {nfp : NF × FP} (ho : o.op = .store t x y) (hdst : o.dst = none) (hx : dh s [] x = some (x', cx)) (hy : gP s [] y = some (y', cy))
    (hg : ar (aJ ops) s o = .go []) (h : ga P s t x' y' (cx ++ cy) = some nfp) : Sound P ops o s nfp.1 := by
  unfold ga at h
  cases hm : eP P t with
  | none => simp [hm] at h
  | some m =>
    simp only [hm, Option.bind_some] at h
    split at h
    · simp at h
    · rename_i hcond
      simp only [Bool.or_eq_true, decide_eq_true_eq, Bool.not_eq_true', not_or, Decidable.not_not, Bool.not_eq_false] at hcond
      obtain ⟨hlen, hfit⟩ := hcond
      have common : ∀ {F H O a w}, Conc F s H O a w → AllCk (cx ++ cy) → a.eval x = x'.den ∧ a.eval y = y'.den ∧ y'.den.cells = (y'.cells.map At.den).toArray ∧ Ones (y'.cells.map At.den) := by
        intro F H O a w hc hcs
        rw [AllCk.append] at hcs
        have hok := de hc.ok hy
        exact ⟨ay hc hx hcs.1 trivial, cV hc hy hcs.2 trivial, ot hfit hok, uG (by simpa using hfit) hok⟩
      split at h
      · rename_i n r off
        split at h
        · rename_i b hb
          split at h
          · rename_i hl
            simp only [Option.some.injEq] at h; subst h
            intro F H O a w d K Q hc hr
            obtain ⟨hcs, hk⟩ := hr
            obtain ⟨e1, e2, e3, e4⟩ := common hc hcs.2
            have hrb : r = b.r := hcs.1
            unfold wp1
            rw [if_pos ((dS hc hg).2 trivial)]
            refine .inl ?_
            obtain ⟨L, hL, hmod⟩ := hc.mm
            obtain ⟨us, L', hus, hperm, hL'⟩ := hL.take hb
            have hmod' := hmod.perm (hperm.append_right _)
            simp only [List.cons_append] at hmod'
            have hrow := (hmod'.own (b.r, .cells us.toArray b.T (0, 0)) (by simp)).1
            obtain ⟨w', hrun, hoth, hnew, henv⟩ := lF (P := P) hm hrow e3 e4 (by simpa using hlen) (off := off) (by have := hus.length; simp; omega)
            unfold Oper.wp
            have : (execOp a.eval o).run P w = .ok .skip w' := by
              simp only [execOp, ho, e1, e2, At.den, hrb, Instr.storeAt, Instr.sureAddr, Sem.run_bind, Sem.run_pure, Result.andThen_ok, hrun]
            rw [this, Oper.upon_skip, hdst]
            refine ⟨_, H, O, ?_, Heap.le_refl H, hk⟩
            have hput := hL'.put (n := n) (b := { b with cs := dl b.cs off y'.cells }) (vs := us.take off ++ y'.cells.map At.den ++ us.drop (off + y'.cells.length)) (by simp) (hus.fill off y'.cells)
            rw [rl] at hput
            refine ⟨hc.ok.setBox n ?_, hc.df, hc.sz, hc.tm, _, hput, ?_⟩
            · rintro b' hb' a' ha'
              simp only [Option.some.injEq] at hb'; subst hb'
              simp only [dl, List.mem_append] at ha'
              rcases ha' with (ha' | ha') | ha'
              · exact hc.ok.2 n b hb a' (List.mem_of_mem_take ha')
              · exact de hc.ok hy a' ha'
              · exact hc.ok.2 n b hb a' (List.mem_of_mem_drop ha')
            · refine hmod'.update hoth ?_ henv
              rw [hnew]; simp [cd]
          · simp at h
        · simp at h
      all_goals first
        | (simp at h; done)
        | (split at h
           · simp at h
           · rename_i hm0
             simp only [Option.some.injEq] at h; subst h
             intro F H O a w d K Q hc hr
             obtain ⟨hcs, O', hst, hk⟩ := hr
             obtain ⟨e1, e2, e3, e4⟩ := common hc hcs.2
             unfold wp1
             rw [if_pos ((dS hc hg).2 trivial)]
             refine .inl ?_
             obtain ⟨ad, cs, T, L', hp, hsp, hperm, hl, hO'⟩ := hst
             have had : ad = ⟨ad.block, ad.off, none⟩ := by cases ad; simp_all
             obtain ⟨L, hL, hmod⟩ := hc.mm
             have hmod' : Models w H ((ad.block, .cells cs T (0, 0)) :: (L ++ (L' ++ F))) := by
               refine hmod.perm ?_
               have := (hperm.append_right F)
               refine (List.Perm.append_left L this).trans ?_
               simp only [List.cons_append]
               exact List.perm_middle
             have hrow : w.heap[ad.block]? = some (.cells cs.toList.toArray T (0, 0)) := by simpa using (hmod'.own (ad.block, .cells cs T (0, 0)) (by simp)).1
             obtain ⟨w', hrun, hoth, hnew, henv⟩ := lF (P := P) hm hrow e3 e4 (by simpa using hlen) (off := ad.off) (by simpa using hl)
             unfold Oper.wp
             have : (execOp a.eval o).run P w = .ok .skip w' := by
               simp only [execOp, ho, e1, e2, hp, Instr.storeAt, Instr.sureAddr, Sem.run_bind, Sem.run_pure, Result.andThen_ok]
               rw [had, hrun]; rfl
             rw [this, Oper.upon_skip, hdst]
             refine ⟨s, H, O', ⟨hc.ok, hc.df, hc.sz, hc.tm, L, hL, ?_⟩, Heap.le_refl H, hk⟩
             have hu := hmod'.update hoth hnew henv
             subst hO'
             refine hu.perm ?_
             simp only [List.cons_append]
             exact List.perm_middle.symm)
variable {P : Program} {ops : Array Oper} {o : Oper} {s : SS} {gl : List (At × Bool)}
theorem wF {name : Nat} {T : TypeId} {cells : List At} {val : Nat → At} {cs : List Ck} (hg : ar (aJ ops) s o = .go []) (hd : ∀ d, o.dst = some d → d < s.sz)
  (hn : s.mem name = none) (hv : ∀ r, (val r).ok) (hvk : ∀ r, (val r).known = true) (hcells : s.Ok → ∀ a, a ∈ cells → a.ok)
  (hrun : ∀ F H O a w, Conc F s H O a w → AllCk cs → ∃ vs : List Value, CellsRel cells vs ∧
   (execOp a.eval o).run P w = .ok (.value (val w.heap.size).den) { w with heap := w.heap.push (.cells vs.toArray T (0, 0)) }) :
  Sound P ops o s (.box cs name T cells val) := by
 intro F H O a w d K Q hc hr
 obtain ⟨hcs, hk⟩ := hr
 obtain ⟨vs, hvs, hex⟩ := hrun F H O a w hc hcs
 unfold wp1
 rw [if_pos ((dS hc hg).2 trivial)]
 refine .inl ?_
 unfold Oper.wp
 rw [hex, Oper.upon_value]
 obtain ⟨L, hL, hmod⟩ := hc.mm
 have h1 : Conc F (s.setBox name (some ⟨w.heap.size, T, cells⟩)) H O a { w with heap := w.heap.push (.cells vs.toArray T (0, 0)) } := by
  refine ⟨hc.ok.setBox name ?_, hc.df, hc.sz, hc.tm, _, hL.put (n := name) (b := ⟨w.heap.size, T, cells⟩) hn hvs, ?_⟩
  ·rintro b' hb' a' ha'
   simp only [Option.some.injEq] at hb'; subst hb'; exact hcells hc.ok a' ha'
  ·simpa using hmod.push (.cells vs.toArray T (0, 0))
 refine ⟨_, H, O, h1.put (sv := .s (.at (val w.heap.size))) hd ?_ (cM (hv _)), Heap.le_refl H, hk _⟩
 cases hval : val w.heap.size <;> first
  | rfl
  | (have := hvk w.heap.size; rw [hval] at this; simp [At.known] at this)
theorem fE {T : TypeId} {cells : List At} (h : jL P T = some cells) : ∃ z : Value, (∀ w, (zeroValue T).run P w = .ok z w) ∧ z.cells.toList = cells.map At.den ∧ cells.all At.known = true ∧ ∀ a, a ∈ cells → a.ok := by
 unfold jL at h
 cases hi : P.info? T with
 | none => simp [hi] at h
 | some i =>
  simp only [hi, Option.bind_some, Option.map_eq_some_iff] at h
  obtain ⟨z, hz, rfl⟩ := h
  refine ⟨z, fun w => by simp [zeroValue, typeInfo, hi, hz], by simp [Function.comp_def, At.den], by simp [At.known], ?_⟩
  intro a ha; simp only [List.mem_map] at ha; obtain ⟨x, _, rfl⟩ := ha; trivial
def nk (z : List Value) : Nat → List Value
 | 0 => []
 | n + 1 => z ++ nk z n
theorem ed (z : List Value) (hz : z.length ≠ 0) : ∀ n : Nat, ((Array.range (n * z.length)).map fun i => z.toArray[i % z.toArray.size]!).toList = (nk z n)
 | 0 => by simp [nk]
 | n + 1 => by
  have ih := ed z hz n
  simp only [Array.toList_map, Array.toList_range] at ih ⊢
  rw [show (n + 1) * z.length = z.length + n * z.length by rw [Nat.add_mul]; omega, List.range_add, List.map_append, List.map_map]
  have e1 : (List.range z.length).map (fun i => z.toArray[i % z.toArray.size]!) = z := by
   apply List.ext_getElem
   ·simp
   ·intro i h1 h2
    have hi : i < z.length := by simpa using h1
    simp [Nat.mod_eq_of_lt hi, hi]
  have e2 : (List.range (n * z.length)).map ((fun i => z.toArray[i % z.toArray.size]!) ∘ fun i => z.length + i) = (List.range (n * z.length)).map fun i => z.toArray[i % z.toArray.size]! := by
   apply List.map_congr_left
   intro i _
   simp [Function.comp]
  rw [e1, e2, ih]; rfl
theorem eT (z : List At) : ∀ n, (bg z n).map At.den = nk (z.map At.den) n
 | 0 => rfl
 | n + 1 => by simp [bg, nk, eT z n]
theorem dV {z : List At} : ∀ {n : Nat} {a : At}, a ∈ bg z n → a ∈ z
 | 0, a, h => by simp [bg] at h
 | n + 1, a, h => by
  simp only [bg, List.mem_append] at h
  exact h.elim id dV
theorem eh (hok : s.Ok) {place : Nat → Option (Nat × Nat)} : ∀ {parts : List (Nat × Operand)} {cells out : List At} {cs : List Ck}, bV s gl place parts cells = some (out, cs) →
  (∀ a, a ∈ cells → a.ok) → ∀ a, a ∈ out → a.ok
 | [], cells, out, cs, h, hc => by simp only [bV, Option.some.injEq, Prod.mk.injEq] at h; rw [← h.1]; exact hc
 | (i, x) :: r, cells, out, cs, h, hc => by
  simp only [bV] at h
  split at h
  ·rename_i off size v c hp hx
   split at h
   ·simp only [Option.map_eq_some_iff] at h
    obtain ⟨⟨cs', c'⟩, hr, he⟩ := h
    simp only [Prod.mk.injEq] at he
    obtain ⟨rfl, rfl⟩ := he
    refine eh hok hr ?_
    intro a ha
    simp only [dl, List.mem_append] at ha
    rcases ha with (ha | ha) | ha
    ·exact hc a (List.mem_of_mem_take ha)
    ·exact de hok hx a ha
    ·exact hc a (List.mem_of_mem_drop ha)
   ·simp at h
  ·simp at h
theorem jt : ∀ {l : List Nat}, xd l = true → l.Nodup
 | [], _ => by simp
 | n :: r, h => by
  simp only [xd, Bool.and_eq_true, Bool.not_eq_true', List.contains_eq_mem, decide_eq_false_iff_not] at h
  exact List.nodup_cons.2 ⟨h.1, jt h.2⟩
theorem fg : ∀ {l : List Nat} {s : SS} {n : Nat}, (aU l s).mem n = if n ∈ l then none else s.mem n
 | [], s, n => by simp [aU]
 | m :: r, s, n => by
  rw [aU, fg]
  by_cases h : n ∈ r
  ·simp [h]
  ·by_cases e : n = m <;> simp [h, e, SS.setBox]
theorem b8 : ∀ {l : List Nat} {s : SS}, (aU l s).tmps = s.tmps ∧ (aU l s).sz = s.sz
 | [], _ => ⟨rfl, rfl⟩
 | m :: r, s => by rw [aU]; exact b8 (l := r) (s := s.setBox m none)
theorem ef : ∀ {l : List (Nat × Bx)} {css : List (List Value)} {s : SS}, (bH l css s).tmps = s.tmps ∧ (bH l css s).sz = s.sz
 | [], _, _ => by simp [bH]
 | _ :: _, [], _ => by simp [bH]
 | (n, b) :: r, vs :: vss, s => by rw [bH]; exact ef (l := r)
theorem vd {s : SS} (h : s.Ok) (l : List Nat) : (aU l s).Ok := by
 refine ⟨by rw [b8.1]; exact h.1, fun n b hb => ?_⟩
 rw [fg] at hb
 split at hb
 ·simp at hb
 ·exact h.2 n b hb
theorem nr : ∀ {l : List (Nat × Bx)} {css : List (List Value)} {s : SS}, s.Ok → EX (l.map (·.2.bv)) css → (bH l css s).Ok
 | [], _, _, h, _ => by simpa [bH] using h
 | _ :: _, [], _, h, _ => by simpa [bH] using h
 | (n, b) :: r, vs :: vss, s, h, hf => by
  rw [bH]
  refine nr (h.setBox n ?_) hf.2.2
  rintro b' hb' a ha
  simp only [Option.some.injEq] at hb'; subst hb'
  have hl : vs.length = b.cs.length := by have := hf.1; simpa [Bx.bv] using this
  exact fN (by omega) hf.2.1 a ha
theorem qs : ∀ {l : List (Nat × Bx)} {s : SS} {L : Own}, Boxes s.mem L → (∀ p, p ∈ l → s.mem p.1 = some p.2) → (l.map (·.1)).Nodup → (∀ p, p ∈ l → p.2.cs.all At.known = true) →
  ∃ L', L.Perm (l.map (fun p => p.2.bv.obj) ++ L') ∧ Boxes (aU (l.map (·.1)) s).mem L'
 | [], s, L, h, _, _, _ => ⟨L, by simp, h⟩
 | (n, b) :: r, s, L, h, hm, hn, hk => by
  obtain ⟨vs, L1, hvs, hp, h1⟩ := h.take (hm (n, b) (by simp))
  simp only [List.map_cons, List.nodup_cons] at hn
  have hr : ∀ p, p ∈ r → (s.setBox n none).mem p.1 = some p.2 := by
   intro p hp'
   have : p.1 ≠ n := fun e => hn.1 (e ▸ List.mem_map_of_mem hp')
   simp only [SS.setBox, this, if_false]
   exact hm p (by simp [hp'])
  obtain ⟨L', hp2, h2⟩ := qs (s := s.setBox n none) (L := L1) h1 hr hn.2 (fun p hp' => hk p (by simp [hp']))
  refine ⟨L', hp.trans ?_, by simpa [aU] using h2⟩
  have : vs = b.cs.map At.den := hvs.known (hk (n, b) (by simp))
  simp only [List.map_cons, List.cons_append]
  rw [this]
  exact List.Perm.cons _ hp2
theorem wU : ∀ {l : List (Nat × Bx)} {css : List (List Value)} {s : SS} {i : Nat}, EX (l.map (·.2.bv)) (css.drop i) → rz i l css s = bH l (css.drop i) s
 | [], css, s, i, _ => by cases css.drop i <;> rfl
 | (n, b) :: r, css, s, i, h => by
  cases hd : css.drop i with
  | nil => rw [hd] at h; exact h.elim
  | cons v vs =>
   rw [hd] at h
   have hlt : i < css.length := by
    rcases Nat.lt_or_ge i css.length with h' | h'
    ·exact h'
    ·rw [List.drop_of_length_le h'] at hd; cases hd
   rw [List.drop_eq_getElem_cons hlt] at hd
   obtain ⟨rfl, hd2⟩ := List.cons.inj hd
   have hv : css.getD i [] = css[i] := by simp [List.getD, hlt]
   rw [rz, bH, ← hd2, wU (l := r) (i := i + 1) (by rw [hd2]; exact h.2.2), hv]
theorem nt : ∀ {l : List (Nat × Bx)} {css : List (List Value)} {s : SS} {i : Nat}, (rz i l css s).tmps = s.tmps ∧ (rz i l css s).sz = s.sz
 | [], _, _, _ => ⟨rfl, rfl⟩
 | (n, b) :: r, css, s, i => by rw [rz]; exact nt (l := r)
theorem wT : ∀ {l : List (Nat × Bx)} {css : List (List Value)} {s : SS} {L : Own}, Boxes s.mem L → (∀ p, p ∈ l → s.mem p.1 = none) → (l.map (·.1)).Nodup → EX (l.map (·.2.bv)) css →
  ∃ L', L'.Perm ((eW (l.map (·.2.bv)) css).map BV.obj ++ L) ∧ Boxes (bH l css s).mem L'
 | [], css, s, L, h, _, _, _ => by cases css <;> exact ⟨L, by simp [eW], by simpa [bH] using h⟩
 | (n, b) :: r, [], s, L, h, _, _, hf => by simp [EX] at hf
 | (n, b) :: r, vs :: vss, s, L, h, hm, hn, hf => by
  simp only [List.map_cons, List.nodup_cons] at hn
  have hl : vs.length = b.cs.length := by have := hf.1; simpa [Bx.bv] using this
  have h1 := h.put (n := n) (b := { b with cs := atsFrom vs 0 b.cs.length }) (vs := vs) (hm (n, b) (by simp)) (CellsRel.atsFrom hl)
  obtain ⟨L', hp, h2⟩ := wT (l := r) (css := vss) (s := s.setBox n (some { b with cs := atsFrom vs 0 b.cs.length })) h1 (by
   intro p hp'
   have : p.1 ≠ n := fun e => hn.1 (e ▸ List.mem_map_of_mem hp')
   simp only [SS.setBox, this, if_false]
   exact hm p (by simp [hp'])) hn.2 hf.2.2
  refine ⟨L', hp.trans ?_, by simpa [bH] using h2⟩
  simp only [List.map_cons, eW, List.cons_append]
  exact List.perm_middle
theorem fC {s : SS} {l : List Nat} : ∀ p, p ∈ dz s l → s.mem p.1 = some p.2 := by
 intro p hp
 simp only [dz, List.mem_filterMap, Option.map_eq_some_iff] at hp
 obtain ⟨n, _, b, hb, rfl⟩ := hp
 exact hb
theorem j3 : ∀ {l : List BV} {w : World} {H : Heap} {O : Own}, Models w H (l.map BV.obj ++ O) → Models w (H.insAll l) O ∧ Heap.le H (H.insAll l)
 | [], w, H, O, h => ⟨by simpa [Heap.insAll] using h, Heap.le_refl H⟩
 | b :: r, w, H, O, h => by
  simp only [List.map_cons, List.cons_append] at h
  have hf : Models w (H.ins b.r b.obj.2) (r.map BV.obj ++ O) := Models.freeze h
  have hle : Heap.le H (H.ins b.r b.obj.2) := (Ghost.freeze H b.r b.obj.2 [] w (r.map BV.obj ++ O) h).2
  obtain ⟨h1, h2⟩ := j3 hf
  exact ⟨h1, Heap.le_trans hle h2⟩
theorem nD {vs : List Value} (ho : Ones vs) : ∀ {l : List (Option Nat)} {i : Nat}, i + Shp.count (.tup l) ≤ vs.length → ∀ x, x ∈ Shp.svList vs i l → x.ok
 | [], i, _, x, hx => by simp [Shp.svList] at hx
 | none :: r, i, h, x, hx => by
  simp only [Shp.count, List.foldr_cons, Option.getD_none] at h
  simp only [Shp.svList, List.mem_cons] at hx
  rcases hx with rfl | hx
  ·exact cM (ho.get i (by omega))
  ·exact nD ho (l := r) (i := i + 1) (by simp only [Shp.count]; omega) x hx
 | some m :: r, i, h, x, hx => by
  simp only [Shp.count, List.foldr_cons, Option.getD_some] at h
  simp only [Shp.svList, List.mem_cons] at hx
  rcases hx with rfl | hx
  ·exact fN (by omega) ho
  ·exact nD ho (l := r) (i := i + m) (by simp only [Shp.count]; omega) x hx
theorem gj : ∀ {l : List (Option Nat)} {xs vs pre : List Value}, Shp.openList l xs = some vs →
  vs.length = Shp.count (.tup l) ∧ (Shp.svList (pre ++ vs) pre.length l).map S1.den = xs
 | [], [], vs, pre, h => by simp only [Shp.openList, Option.some.injEq] at h; subst h; simp [Shp.count, Shp.svList]
 | [], _ :: _, vs, pre, h => by simp [Shp.openList] at h
 | none :: r, [], vs, pre, h => by simp [Shp.openList] at h
 | none :: r, v :: xs, vs, pre, h => by
  simp only [Shp.openList, Option.map_eq_some_iff] at h
  obtain ⟨us, hu, rfl⟩ := h
  obtain ⟨h1, h2⟩ := gj (pre := pre ++ [v]) hu
  refine ⟨?_, ?_⟩
  ·simp only [Shp.count, List.foldr_cons, Option.getD_none, List.length_cons] at h1 ⊢; omega
  ·simp only [Shp.svList, List.map_cons]
   have e : pre ++ v :: us = pre ++ [v] ++ us := by simp
   have : g (pre ++ v :: us) pre.length = v := by simp [g]
   rw [S1.den, At.den, this, e]
   have hl : (pre ++ [v]).length = pre.length + 1 := by simp
   rw [← hl, h2]
 | some m :: r, [], vs, pre, h => by simp [Shp.openList] at h
 | some m :: r, v :: xs, vs, pre, h => by
  cases v with
  | agg cs =>
   simp only [Shp.openList] at h
   split at h
   ·rename_i hsz
    simp only [Option.map_eq_some_iff] at h
    obtain ⟨us, hu, rfl⟩ := h
    obtain ⟨h1, h2⟩ := gj (pre := pre ++ cs.toList) hu
    have hl : (pre ++ cs.toList).length = pre.length + m := by simp [hsz]
    refine ⟨?_, ?_⟩
    ·simp only [Shp.count, List.foldr_cons, Option.getD_some, List.length_append, Array.length_toList] at h1 ⊢
     omega
    ·simp only [Shp.svList, List.map_cons]
     rw [← hl, ← List.append_assoc, h2]
     congr 1
     simp only [S1.den, Value.agg.injEq]
     rw [qf]
     apply Array.ext'
     simp only [List.toList_toArray, List.map_map]
     apply List.ext_getElem
     ·simp [hsz]
     ·intro i hi1 hi2
      have hi : i < cs.size := by simpa using hi2
      have hlt : ¬ (pre.length + i < pre.length) := by omega
      simp [At.den, g, List.getElem?_append, hi, hlt]
   ·simp at h
  | _ => simp [Shp.openList] at h
theorem wY {shp : Shp} {v : Value} {vs : List Value} (h : shp.open v = some vs) (ho : Ones vs) : (shp.sv vs).rel v ∧ (shp.sv vs).ok := by
 cases shp with
 | one =>
  simp only [Shp.open, Option.some.injEq] at h; subst h
  exact ⟨rfl, cM ho.1⟩
 | agg m =>
  cases v with
  | agg cs =>
   simp only [Shp.open] at h
   split at h
   ·rename_i hsz
    simp only [Option.some.injEq] at h; subst h
    refine ⟨?_, fN (by simp [hsz]) ho⟩
    show _ = Value.agg ((atsFrom cs.toList 0 m).map At.den).toArray
    rw [oD (by simp [hsz])]
   ·simp at h
  | _ => simp [Shp.open] at h
 | tup l =>
  cases v with
  | tuple xs =>
   simp only [Shp.open] at h
   obtain ⟨h1, h2⟩ := gj (pre := []) h
   refine ⟨?_, nD ho (l := l) (i := 0) (by omega)⟩
   show _ = Value.tuple ((Shp.svList vs 0 l).map S1.den).toArray
   have h2' : (Shp.svList vs 0 l).map S1.den = xs.toList := by simpa using h2
   rw [h2']
  | _ => simp [Shp.open] at h
theorem ut {hk : HK} {frz own : List (Nat × Bx)} {shp : Shp} {post : List Value → List Ck} {cs : List Ck} {sv : List Value → SV} (hg : ar (aJ ops) s o = .go []) (hd : ∀ d, o.dst = some d → d < s.sz)
  (hfrz : ∀ p, p ∈ frz ++ own → s.mem p.1 = some p.2) (hnd : ((frz ++ own).map (·.1)).Nodup) (hkn : ∀ p, p ∈ frz ++ own → p.2.cs.all At.known = true)
  (hsv : ∀ v vs, s.Ok → shp.open v = some vs → Ones vs → AllCk (post vs) → (sv vs).rel v ∧ (sv vs).ok)
  (hex : ∀ F H O a w, Conc F s H O a w → AllCk cs → ∀ H1 O1 R, hk.T P H1 O1 R → ∀ F1, Models w H1 (O1 ++ F1) → ∀ (next : Act → World → Prop) (Q : Exit → Act → World → Prop),
   (∀ v w' H' O', R v H' O' → Heap.le H1 H' → Models w' H' (O' ++ F1) → next (a.put o.dst v) w') → o.wp P a w next Q) :
  Sound P ops o s (.hv cs hk frz own shp post sv) := by
 intro F H O a w d K Q hc hr
 obtain ⟨hcs, hr⟩ := hr
 unfold wp1
 rw [if_pos ((dS hc hg).2 trivial)]
 refine .inl ?_
 obtain ⟨L, hL, hmod⟩ := hc.mm
 obtain ⟨L', hp, hL'⟩ := qs hL hfrz hnd hkn
 have hm0 : Models w H ((frz.map (·.2.bv)).map BV.obj ++ ((own.map (·.2.bv)).map BV.obj ++ (L' ++ (O ++ F)))) := by
  refine hmod.perm ((hp.append_right _).trans (List.Perm.of_eq ?_))
  simp [List.map_map, Function.comp_def]
 obtain ⟨H1, O1, O2, R, hgh, hT, hk'⟩ := hr ⟨w, L' ++ F, hm0.perm (by
  rw [List.append_assoc, List.append_assoc]
  exact List.Perm.append_left _ (List.Perm.append_left _ (List.perm_append_comm_assoc _ _ _))) ⟩
 obtain ⟨hm1, hle1⟩ := j3 hm0
 have hgh' : Ghost (H.insAll (frz.map (·.2.bv))) O H1 (O1 ++ O2) := by
  split at hgh
  ·obtain ⟨rfl, ⟨rfl, rfl⟩ | ⟨_, rfl, rfl, _⟩⟩ := hgh
   ·exact Ghost.refl _ _
   ·rw [List.append_nil]; exact Ghost.refl _ _
  ·exact hgh
 have hm2 : Models w (H.insAll (frz.map (·.2.bv))) (O ++ ((own.map (·.2.bv)).map BV.obj ++ (L' ++ F))) := by
  refine hm1.perm ?_
  exact (List.Perm.append_left _ (List.perm_append_comm_assoc _ _ _)).trans (List.perm_append_comm_assoc _ _ _)
 obtain ⟨hm3, hle2⟩ := hgh' w _ hm2
 have hm4 : Models w H1 (((own.map (·.2.bv)).map BV.obj ++ O1) ++ (O2 ++ (L' ++ F))) := by
  refine hm3.perm ?_
  rw [List.append_assoc, List.append_assoc]
  exact (List.Perm.append_left _ (List.perm_append_comm_assoc _ _ _)).trans (List.perm_append_comm_assoc _ _ _)
 refine hex F H O a w hc hcs H1 _ R hT _ hm4 _ Q ?_
 intro v w' H' O' hR hle3 hm5
 obtain ⟨vs, css, O3, hop, hones, hfits, rfl, hpost, hK⟩ := hk' v H' O' hR hle3
 obtain ⟨hrel, hok⟩ := hsv v vs hc.ok hop hones hpost
 have hmemNone : ∀ p, p ∈ own → (aU ((frz ++ own).map (·.1)) s).mem p.1 = none := by
  intro p hp'
  rw [fg, if_pos (List.mem_map_of_mem (by simp [hp']))]
 have hndo : (own.map (·.1)).Nodup := by
  rw [List.map_append] at hnd; exact (List.nodup_append.1 hnd).2.1
 obtain ⟨L'', hp'', hL''⟩ := wT (css := css) hL' hmemNone hndo hfits
 have hconc : Conc F (bH own css (aU ((frz ++ own).map (·.1)) s)) H' (O3 ++ O2) a w' := by
  refine ⟨nr (vd hc.ok _) hfits, hc.df, ?_, ?_, L'', hL'', ?_⟩
  ·rw [ef.2, b8.2]; exact hc.sz
  ·rw [ef.1, b8.1]; exact hc.tm
  ·refine hm5.perm (List.Perm.trans ?_ (hp''.symm.append_right _))
   rw [List.append_assoc, List.append_assoc, ← List.append_assoc O3]
   exact List.Perm.append_left _ (List.perm_append_comm_assoc _ _ _)
 have hpb : rz 0 own css (aU ((frz ++ own).map (·.1)) s) = bH own css (aU ((frz ++ own).map (·.1)) s) := wU (i := 0) hfits
 rw [gp, hpb] at hK
 refine ⟨_, H', O3 ++ O2, hconc.put ?_ hrel hok, Heap.le_trans hle1 (Heap.le_trans hle2 hle3), hK⟩
 intro d' hd'
 rw [ef.2, b8.2]; exact hd d' hd'
variable {P : Program} {ops : Array Oper} {o : Oper} {s : SS} {gl : List (At × Bool)}
theorem aB {v : S1} {cs : List Ck} {x : NF} {fp : FP} (hg : ar (aJ ops) s o = .go gl) (hd : ∀ d, o.dst = some d → d < s.sz) (h : aS gl o.dst v cs = some (x, fp))
  (hok : s.Ok → AllCk cs → v.ok) (hrun : ∀ F H O a w, Conc F s H O a w → AllCk cs → On (fc gl) → (execOp a.eval o).run P w = .ok (.value v.den) w) : Sound P ops o s x := by
 simp only [aS, Option.some.injEq, Prod.mk.injEq] at h
 rw [← h.1]
 exact aR (X := fun _ => v) hg hd (fun _ _ _ h1 h2 _ => hok h1 h2) (fun F H O a w _ hc hcs _ hon => hrun F H O a w hc hcs hon)
theorem gB {name : Nat} {T : TypeId} {cells : List At} {val : Nat → At} {cs : List Ck} {x : NF} {fp : FP} (hg : ar (aJ ops) s o = .go gl) (hd : ∀ d, o.dst = some d → d < s.sz)
  (h : d5 s gl o.dst name T cells val cs = some (x, fp)) (hv : ∀ r, (val r).ok) (hvk : ∀ r, (val r).known = true) (hcells : s.Ok → ∀ a, a ∈ cells → a.ok)
  (hrun : ∀ F H O a w, Conc F s H O a w → AllCk cs → gl = [] → ∃ vs : List Value, CellsRel cells vs ∧
   (execOp a.eval o).run P w = .ok (.value (val w.heap.size).den) { w with heap := w.heap.push (.cells vs.toArray T (0, 0)) }) : Sound P ops o s x := by
 unfold d5 at h
 split at h
 ·rename_i hcond
  simp only [Bool.and_eq_true, Option.isNone_iff_eq_none, List.isEmpty_iff] at hcond
  simp only [Option.some.injEq, Prod.mk.injEq] at h
  rw [← h.1]
  obtain ⟨rfl, hn⟩ := hcond
  exact wF hg hd hn hv hvk hcells (fun F H O a w hc hcs => hrun F H O a w hc hcs rfl)
 ·simp at h
theorem bM {dst : Option Tmp} {shp : Shp} {hk : HK} {atoms : List At} {cs : List Ck} {x : NF} {fp : FP} (hdst : dst = o.dst) (hg : ar (aJ ops) s o = .go []) (hd : ∀ d, o.dst = some d → d < s.sz)
  (h : bD s dst shp hk atoms cs = some (x, fp))
  (hex : ∀ F H O a w, Conc F s H O a w → AllCk cs → ∀ H1 O1 R, hk.T P H1 O1 R → ∀ F1, Models w H1 (O1 ++ F1) → ∀ (next : Act → World → Prop) (Q : Exit → Act → World → Prop),
   (∀ v w' H' O', R v H' O' → Heap.le H1 H' → Models w' H' (O' ++ F1) → next (a.put o.dst v) w') → o.wp P a w next Q) : Sound P ops o s x := by
 subst hdst
 unfold bD at h
 simp only [] at h
 split at h
 ·rename_i hcond
  simp only [Bool.and_eq_true] at hcond
  simp only [Option.some.injEq, Prod.mk.injEq] at h
  rw [← h.1]
  refine ut (sv := shp.sv) hg hd ?_ (jt hcond.2) ?_ (fun v vs _ ho hn _ => wY ho hn) hex
  ·intro p hp
   rcases List.mem_append.1 hp with hp | hp
   ·exact fC p hp
   ·exact fC p hp
  ·intro p hp
   have := hcond.1
   rw [List.all_eq_true] at this
   exact this p hp
 ·simp at h
theorem mr {a : Act} {w : World} {f : FuncId} {args : List Value} {H1 : Heap} {O1 F1 : Own} {R : Value → Heap → Own → Prop} {next : Act → World → Prop} {Q : Exit → Act → World → Prop}
  (hT : Triple P f args H1 O1 R) (hm : Models w H1 (O1 ++ F1)) (hrun : (execOp a.eval o).run P w = .ok (.enter f args.toArray) w)
  (hn : ∀ v w' H' O', R v H' O' → Heap.le H1 H' → Models w' H' (O' ++ F1) → next (a.put o.dst v) w') : o.wp P a w next Q := by
 unfold Oper.wp
 rw [hrun, Oper.upon_enter]
 exact (hT w F1 hm).mono fun e w' ⟨v, H', O', he, hR, hle, hm'⟩ => by subst he; exact hn v w' H' O' hR hle hm'
theorem kX {a : Act} {w : World} {sem : Sem Next} {H1 : Heap} {O1 F1 : Own} {R : Value → Heap → Own → Prop} {next : Act → World → Prop} {Q : Exit → Act → World → Prop}
  (hT : b9 P sem H1 O1 R) (hm : Models w H1 (O1 ++ F1)) (hrun : (execOp a.eval o).run P w = sem.run P w)
  (hn : ∀ v w' H' O', R v H' O' → Heap.le H1 H' → Models w' H' (O' ++ F1) → next (a.put o.dst v) w') : o.wp P a w next Q := by
 unfold Oper.wp
 obtain ⟨v, w', H', O', hr, hR, hle, hm'⟩ := hT w F1 hm
 rw [hrun, hr, Oper.upon_value]
 exact hn v w' H' O' hR hle hm'
theorem lS {f : FuncId} (h : gU P f) (args : Array Value) (w : World) : (callFunc f args).run P w = .ok (.enter f args) w := by
 obtain ⟨fn, h1, h2, h3⟩ := h
 simp only [callFunc, Sem.run_bind, run_program, Result.andThen_ok, h1, h2, h3, Bool.false_eq_true, if_false]
 rfl
theorem mG {c : Call} {f : Operand} {n : FuncId} {caps : Array Value} {a : Act} (hop : o.op = .call c) (hcal : c.callee = .value f) (hf : a.eval f = .func (.func n) #[] caps) (hok : gU P n) (w : World) :
  (execOp a.eval o).run P w = .ok (.enter n (c.args.map a.eval ++ caps)) w := by
 simp only [execOp, hop, resolve, hcal, hf, Deferred.ofValue, Sem.run_bind, Sem.run_pure, Result.andThen_ok, invoke, Array.empty_append, lS hok]
theorem Af {c : Call} {x : Operand} {m : String} {f : FuncId} {v r : Value} {a : Act} (hop : o.op = .call c) (hcal : c.callee = .invoke x m) (hx : a.eval x = v) (hm : yu P m v f r) (hok : gU P f) (w : World) :
  (execOp a.eval o).run P w = .ok (.enter f (#[r] ++ c.args.map a.eval)) w := by
 obtain ⟨t, y, rfl, hr⟩ := hm
 have e0 : (#[Value.iface t y] ++ c.args.map a.eval)[0]? = some (.iface t y) := by
  rw [Array.getElem?_append_left (by simp)]; rfl
 have e1 : (#[Value.iface t y] ++ c.args.map a.eval).extract 1 (#[Value.iface t y] ++ c.args.map a.eval).size = c.args.map a.eval := by
  apply Array.ext'
  rw [Array.toList_extract, Array.toList_append, List.extract, List.take_of_length_le (by simp)]
  rfl
 simp only [execOp, hop, resolve, hcal, hx, Sem.run_bind, Sem.run_pure, Result.andThen_ok, invoke, e0, e1, callMethod, run_program, hr, lS hok]
theorem nA {s : SS} {gl : List (At × Bool)} {x y : Operand} {as : List At} {cs : List Ck} (h : bI s gl [x, y] = some (as, cs)) : ∃ a b, as = [a, b] := by
 simp only [bI] at h
 split at h
 ·rename_i a c as' cs' h1 h2
  simp only [Option.some.injEq, Prod.mk.injEq] at h
  split at h2
  ·rename_i b c2 as2 cs2 h3 h4
   simp only [Option.some.injEq, Prod.mk.injEq] at h2 h4
   exact ⟨a, b, by rw [← h.1, ← h2.1, ← h4.1]⟩
  ·simp at h2
 ·simp at h
theorem mC {F : Own} {H : Heap} {O : Own} {a : Act} {w : World} (h : Conc F s H O a w) {x y : Operand} {x' y' : At} {cs : List Ck}
  (hx : bI s gl [x, y] = some ([x', y'], cs)) (hc : AllCk cs) (ho : On (fc gl)) : a.eval x = x'.den ∧ a.eval y = y'.den := by
 have := bS h hx hc ho
 simpa using this
theorem nJ {x : At} {n : Nat} {a : At} {c : List Ck} (h : so gl x n = some (a, c)) : (AllCk c → x.ok → a.ok) ∧
  (AllCk c → On (fc gl) → ∃ ad, x.den = .pointer (some ad) ∧ a.den = .pointer (some (ad.add n))) := by
 have hp : ∀ y : Value, sD y = true → ∃ ad, y = .pointer (some ad) := by
  intro y hy
  unfold sD at hy; split at hy
  ·exact ⟨_, rfl⟩
  ·simp at hy
 have hadd0 : ∀ ad : Addr, ad.add 0 = ad := fun ad => by simp [Addr.add]
 cases x <;> simp only [so] at h
 case p n' r off =>
  simp only [Option.some.injEq, Prod.mk.injEq] at h
  obtain ⟨rfl, rfl⟩ := h
  exact ⟨fun _ _ => trivial, fun _ _ => ⟨⟨r, off, none⟩, rfl, by rw [aZ]; rfl⟩⟩
 case px y off =>
  simp only [Option.some.injEq, Prod.mk.injEq] at h
  obtain ⟨rfl, rfl⟩ := h
  refine ⟨fun _ _ => trivial, fun hc ho => ?_⟩
  obtain ⟨ad, rfl⟩ := hp y (hc.1 ho)
  exact ⟨ad.add off, rfl, by simp [At.den, dq, oJ]⟩
 case v y =>
  simp only [Option.some.injEq, Prod.mk.injEq] at h
  obtain ⟨rfl, rfl⟩ := h
  refine ⟨fun hc ho => ?_, fun hc ho => ?_⟩
  ·split
   ·exact ho
   ·split
    ·rename_i he
     have : gl = [] := by simpa using he
     subst this
     obtain ⟨ad, rfl⟩ := hp y (hc.1 trivial)
     rfl
    ·trivial
  ·obtain ⟨ad, rfl⟩ := hp y (hc.1 ho)
   refine ⟨ad, rfl, ?_⟩
   split
   ·rename_i h0; subst h0; rw [hadd0]; rfl
   ·split <;> rfl
 case k y =>
  simp only [Option.some.injEq, Prod.mk.injEq] at h
  obtain ⟨rfl, rfl⟩ := h
  refine ⟨fun hc ho => ?_, fun hc ho => ?_⟩
  ·split
   ·exact ho
   ·split
    ·rename_i he
     have : gl = [] := by simpa using he
     subst this
     obtain ⟨ad, rfl⟩ := hp y (hc.1 trivial)
     rfl
    ·trivial
  ·obtain ⟨ad, rfl⟩ := hp y (hc.1 ho)
   refine ⟨ad, rfl, ?_⟩
   split
   ·rename_i h0; subst h0; rw [hadd0]; rfl
   ·split <;> rfl
 all_goals simp at h
theorem ej {i : At} {n : Nat} (h : dT i = some n) : ∃ k, i.den = .int k n := by
 unfold dT at h
 split at h
 ·rename_i k m
  split at h
  ·rename_i h0
   simp only [Option.some.injEq] at h
   exact ⟨k, by simp [At.den]; omega⟩
  ·simp at h
 ·simp at h
theorem nX {t : TypeId} {x i : Operand} {x' i' : At} {cs : List Ck} {y : NF} {fp : FP} (hop : o.op = .indexAddr t x i) (hx : bI s gl [x, i] = some ([x', i'], cs))
    (hg : ar (aJ ops) s o = .go gl) (hd : ∀ d, o.dst = some d → d < s.sz) (h : gn P gl o.dst t x' i' cs = some (y, fp)) : Sound P ops o s y := by
  have hok := fun hs : s.Ok => mw hs hx
  have ev := fun {F H O a w} (hc : Conc F s H O a w) (hcs : AllCk cs) (hon : On (fc gl)) => mC hc hx hcs hon
  unfold gn at h
  split at h
  · rename_i len elem hu
    cases hs : eP P elem with
    | none => simp [hs] at h
    | some size =>
      simp only [hs, Option.bind_some] at h
      have harr : ∀ {ad : Addr} {k : IntKind} {n : Int}, 0 ≤ n ∧ n < len → ∀ w, (Instr.indexAt t (.pointer (some ad)) (.int k n)).run P w = .ok (.pointer (some (ad.add (n.toNat * size)))) w :=
        fun hb w => uu hu hs (by simp [iQ, hb]) w
      split at h
      · rename_i n hn
        split at h
        · rename_i hlt
          simp only [Option.map_eq_some_iff, Prod.mk.injEq] at h
          obtain ⟨⟨a', c⟩, hm, rfl, _⟩ := h
          obtain ⟨h1, h2⟩ := nJ hm
          refine aR (X := fun _ => .at a') hg hd ?_ ?_
          · intro H O vs hs' hc _
            rw [AllCk.append] at hc
            exact cM (h1 hc.1 (hok hs' x' (by simp)))
          · intro F H O a w vs hc hcs _ hon
            rw [AllCk.append] at hcs
            obtain ⟨e1, e2⟩ := ev hc hcs.2 hon
            obtain ⟨ad, hx', ha'⟩ := h2 hcs.1 hon
            obtain ⟨k, hk⟩ := ej hn
            simp only [execOp, hop, e1, e2, hx', hk, Sem.run_bind, harr (ad := ad) (k := k) (n := n) (by omega), Result.andThen_ok, Sem.run_pure, S1.den, ha', Int.toNat_natCast]
        · simp at h
      · split at h
        · rename_i n r off
          split at h
          · rename_i hcond
            simp only [Bool.and_eq_true, List.isEmpty_iff, decide_eq_true_eq] at hcond
            obtain ⟨rfl, _⟩ := hcond
            simp only [Option.some.injEq, Prod.mk.injEq] at h
            obtain ⟨rfl, _⟩ := h
            refine aR (gl := []) (X := fun vs => .at (.p n r (off + (match g vs 0 with | .int _ n => n.toNat | _ => 0) * size))) hg hd (fun _ _ _ _ _ _ => cM trivial) ?_
            rintro F H O a w vs hc hcs ⟨kd, j, hj, h0, h1, rfl⟩ hon
            obtain ⟨e1, e2⟩ := ev hc hcs hon
            have e1' : a.eval x = .pointer (some ⟨r, off, none⟩) := e1
            simp only [execOp, hop, e1', e2, hj, Sem.run_bind, harr (ad := ⟨r, off, none⟩) (k := kd) (n := j) ⟨h0, h1⟩, Result.andThen_ok, Sem.run_pure, S1.den, aZ]
            rfl
          · simp at h
        all_goals first
          | (simp at h; done)
          | (split at h
             · simp at h
             · simp only [Option.some.injEq, Prod.mk.injEq] at h
               obtain ⟨rfl, _⟩ := h
               refine aF hg hd (by simp) ?_
               intro F H O a w v hc hcs hon he
               obtain ⟨e1, e2⟩ := ev hc hcs hon
               simp only [List.map_cons, List.map_nil, af] at he
               simp only [execOp, hop, e1, e2, Sem.run_bind, uu hu hs he, Result.andThen_ok, Sem.run_pure])
  · rename_i elem hu
    cases hs : eP P elem with
    | none => simp [hs] at h
    | some size =>
      simp only [hs, Option.bind_some] at h
      have gen : ∀ {y fp}, some (cA gl false o.dst (.idx size) [x', i'] cs, ({} : FP)) = some (y, fp) → Sound P ops o s y := by
        intro y fp h
        simp only [Option.some.injEq, Prod.mk.injEq] at h
        obtain ⟨rfl, _⟩ := h
        refine aF hg hd (by simp) ?_
        intro F H O a w v hc hcs hon he
        obtain ⟨e1, e2⟩ := ev hc hcs hon
        simp only [List.map_cons, List.map_nil, af] at he
        simp only [execOp, hop, e1, e2, Sem.run_bind, wL hu hs he, Result.andThen_ok, Sem.run_pure]
      split at h
      · rename_i n r off len c k hk
        split at h
        · rename_i hlt
          simp only [Option.some.injEq, Prod.mk.injEq] at h
          obtain ⟨rfl, _⟩ := h
          refine aR (X := fun _ => .at (.p n r (off + k * size))) hg hd (fun _ _ _ _ _ _ => cM trivial) ?_
          intro F H O a w vs hc hcs _ hon
          obtain ⟨e1, e2⟩ := ev hc hcs hon
          obtain ⟨kd, hkd⟩ := ej hk
          have : (Instr.indexAt t (.slice (some ⟨r, off, none⟩) len c) (.int kd k)).run P w = .ok (.pointer (some ⟨r, off + k * size, none⟩)) w :=
            wL hu hs (by simp [gx, hlt, aZ]) w
          have e1' : a.eval x = .slice (some ⟨r, off, none⟩) len c := e1
          simp only [execOp, hop, e1', e2, hkd, Sem.run_bind, this, Result.andThen_ok, Sem.run_pure]
          rfl
        · simp at h
      · exact gen h
  · simp at h

theorem qG {F : Own} {H : Heap} {O : Own} {a : Act} {w : World} (h : Conc F s H O a w) {x : Option Operand} {l : List At} {cs : List Ck}
  (hx : bI s gl x.toList = some (l, cs)) (hc : AllCk cs) (ho : On (fc gl)) : x.map a.eval = l.head?.map At.den ∧ (l.head?.isSome = x.isSome) ∧ l = l.head?.toList := by
 have hd := bS h hx hc ho
 cases x with
 | none =>
  simp only [Option.toList, bI, Option.some.injEq, Prod.mk.injEq] at hx
  rw [← hx.1]; simp
 | some y =>
  simp only [Option.toList, List.map_cons, List.map_nil] at hd
  match l, hd with
  | [b], hd => simp at hd; simp [hd]
  | [], hd => simp at hd
  | _ :: _ :: _, hd => simp at hd
theorem wk (lo hi mx : Option Value) : eR [lo.isSome, hi.isSome, mx.isSome] (lo.toList ++ hi.toList ++ mx.toList) = [lo, hi, mx] := by
 cases lo <;> cases hi <;> cases mx <;> rfl
theorem wl (lo hi : Option Value) : eR [lo.isSome, hi.isSome] (lo.toList ++ hi.toList ++ []) = [lo, hi] := by
 cases lo <;> cases hi <;> rfl
theorem pC (x : Option At) : x.toList.map At.den = (x.map At.den).toList := by cases x <;> rfl
theorem ez {x : Option At} {d n y : Nat} (h : (x.map dT).getD (some d) = some n) (hy : n ≤ y) : bO (x.map At.den) y d = some n ∧ dF (x.map At.den) false y d = some n := by
 cases x with
 | none => simpa [bO, dF] using h
 | some a =>
  simp only [Option.map_some, Option.getD_some] at h
  obtain ⟨k, hk⟩ := ej h
  simp [hk, bO, dF, qe, asI, hy]
theorem tq {t : TypeId} {x : Operand} {lo hi mx : Option Operand} {x' : At} {l h' m : List At} {c0 c1 c2 c3 : List Ck} {y : NF} {fp : FP} (hop : o.op = .slice t x lo hi mx)
  (h0 : dh s gl x = some (x', c0)) (h1 : bI s gl lo.toList = some (l, c1)) (h2 : bI s gl hi.toList = some (h', c2)) (h3 : bI s gl mx.toList = some (m, c3))
  (hg : ar (aJ ops) s o = .go gl) (hd : ∀ d, o.dst = some d → d < s.sz) (h : qw P gl o.dst t x' l.head? h'.head? m.head? (c0 ++ c1 ++ c2 ++ c3) = some (y, fp)) : Sound P ops o s y := by
 have ev : ∀ {F H O a w}, Conc F s H O a w → AllCk (c0 ++ c1 ++ c2 ++ c3) → On (fc gl) → a.eval x = x'.den ∧ lo.map a.eval = l.head?.map At.den ∧ hi.map a.eval = h'.head?.map At.den ∧ mx.map a.eval = m.head?.map At.den := by
  intro F H O a w hc hcs hon
  simp only [AllCk.append] at hcs
  exact ⟨ay hc h0 hcs.1.1.1 hon, (qG hc h1 hcs.1.1.2 hon).1, (qG hc h2 hcs.1.2 hon).1, (qG hc h3 hcs.2 hon).1⟩
 generalize l.head? = lo' at h ev
 generalize h'.head? = hi' at h ev
 generalize m.head? = mx' at h ev
 unfold qw at h
 simp only [] at h
 split at h
 ·rename_i hu
  split at h
  ·simp at h
  ·rename_i hmx
   simp only [Option.some.injEq, Prod.mk.injEq] at h
   obtain ⟨rfl, _⟩ := h
   have hmx' : mx' = none := by cases mx' <;> simp_all
   subst hmx'
   refine aF hg hd (by simp) ?_
   intro F H O a w v hc hcs hon he
   obtain ⟨e0, e1, e2, e3⟩ := ev hc hcs hon
   simp only [List.map_cons, List.map_append, af, pC, Option.toList_none, List.map_nil, List.append_nil] at he
   have hta := wl (lo'.map At.den) (hi'.map At.den)
   simp only [List.append_nil, Option.isSome_map] at hta
   rw [hta] at he
   simp only [Option.map_none] at e3
   simp only [execOp, hop, e0, e1, e2, e3, Sem.run_bind, y3 hu he, Result.andThen_ok, Sem.run_pure]
 ·rename_i elem hu
  cases hs : eP P elem with
  | none => simp [hs] at h
  | some size =>
   simp only [hs, Option.bind_some] at h
   have gen : ∀ {y fp}, some (cA gl false o.dst (.slc size lo'.isSome hi'.isSome mx'.isSome) (x' :: (lo'.toList ++ hi'.toList ++ mx'.toList)) (c0 ++ c1 ++ c2 ++ c3), ({} : FP)) = some (y, fp) → Sound P ops o s y := by
    intro y fp h
    simp only [Option.some.injEq, Prod.mk.injEq] at h
    obtain ⟨rfl, _⟩ := h
    refine aF hg hd (by simp) ?_
    intro F H O a w v hc hcs hon he
    obtain ⟨e0, e1, e2, e3⟩ := ev hc hcs hon
    simp only [List.map_cons, List.map_append, af, pC] at he
    have hta := wk (lo'.map At.den) (hi'.map At.den) (mx'.map At.den)
    simp only [Option.isSome_map] at hta
    rw [hta] at he
    simp only [execOp, hop, e0, e1, e2, e3, Sem.run_bind, wJ hu hs he, Result.andThen_ok, Sem.run_pure]
   split at h
   ·rename_i l'' h'' n r off len cap
    split at h
    ·rename_i l3 h3' hl hh
     split at h
     ·rename_i hcond
      simp only [Bool.and_eq_true, decide_eq_true_eq] at hcond
      simp only [Option.some.injEq, Prod.mk.injEq] at h
      obtain ⟨rfl, _⟩ := h
      refine aR (X := fun _ => .at (.sl n r (if cap = l3 then off else off + l3 * size) (h3' - l3) (cap - l3))) hg hd (fun _ _ _ _ _ _ => cM trivial) ?_
      intro F H O a w vs hc hcs _ hon
      obtain ⟨e0, e1, e2, e3⟩ := ev hc hcs hon
      have hb : jA size (.slice (some ⟨r, off, none⟩) len cap) (lo'.map At.den) (hi'.map At.den) none =
        some (.slice (if cap = l3 then some ⟨r, off, none⟩ else some ⟨r, off + l3 * size, none⟩) (h3' - l3) (cap - l3)) := by
       have b1 := (ez (x := hi') (d := len) (n := h3') (y := cap) hh hcond.2).2
       have b2 := (ez (x := lo') (d := 0) (n := l3) (y := h3') hl hcond.1).1
       have b3 : cO len cap (lo'.map At.den) (hi'.map At.den) none = some (l3, h3', cap) := by
        show ((dF (hi'.map At.den) false cap len).bind fun h => (bO (lo'.map At.den) h 0).bind fun l => some (l, h, cap)) = _
        rw [b1]; simp only [Option.bind_some]
        rw [b2]; rfl
       simp only [jA, b3, Option.map_some, aZ]
      have e0' : a.eval x = .slice (some ⟨r, off, none⟩) len cap := e0
      simp only [Option.map_none] at e3
      simp only [execOp, hop, e0', e1, e2, e3, Sem.run_bind, wJ hu hs hb, Result.andThen_ok, Sem.run_pure, S1.den, At.den]
      split <;> rfl
     ·simp at h
    ·exact gen h
   ·exact gen h
 ·rename_i len elem hu
  cases hs : eP P elem with
  | none => simp [hs] at h
  | some size =>
   simp only [hs, Option.bind_some] at h
   split at h
   ·rename_i l'' h'' n r off
    split at h
    ·rename_i l3 h3' hl hh
     split at h
     ·rename_i hcond
      simp only [Bool.and_eq_true, decide_eq_true_eq] at hcond
      simp only [Option.some.injEq, Prod.mk.injEq] at h
      obtain ⟨rfl, _⟩ := h
      refine aR (X := fun _ => .at (.sl n r (if len = l3 then off else off + l3 * size) (h3' - l3) (len - l3))) hg hd (fun _ _ _ _ _ _ => cM trivial) ?_
      intro F H O a w vs hc hcs _ hon
      obtain ⟨e0, e1, e2, e3⟩ := ev hc hcs hon
      have hb : cO len len (lo'.map At.den) (hi'.map At.den) none = some (l3, h3', len) := by
       have b1 := (ez (x := hi') (d := len) (n := h3') (y := len) hh hcond.2).2
       have b2 := (ez (x := lo') (d := 0) (n := l3) (y := h3') hl hcond.1).1
       show ((bO none len len).bind fun m => (dF (hi'.map At.den) false m len).bind fun h => (bO (lo'.map At.den) h 0).bind fun l => some (l, h, m)) = _
       show ((dF (hi'.map At.den) false len len).bind fun h => (bO (lo'.map At.den) h 0).bind fun l => some (l, h, len)) = _
       rw [b1]; simp only [Option.bind_some]
       rw [b2]; rfl
      have e0' : a.eval x = .pointer (some ⟨r, off, none⟩) := e0
      simp only [Option.map_none] at e3
      simp only [execOp, hop, e0', e1, e2, e3, Sem.run_bind, rN hu hs hb, Result.andThen_ok, Sem.run_pure, S1.den, At.den]
      split <;> rfl
     ·simp at h
    ·simp at h
   ·rename_i l'' h'' r off
    split at h
    ·rename_i l3 h3' hl hh
     split at h
     ·rename_i hcond
      simp only [Bool.and_eq_true, decide_eq_true_eq] at hcond
      simp only [Option.some.injEq, Prod.mk.injEq] at h
      obtain ⟨rfl, _⟩ := h
      refine aR (X := fun _ => .at (.k (.slice (some ⟨r, if len = l3 then off else off + l3 * size, none⟩) (h3' - l3) (len - l3)))) hg hd (fun _ _ _ _ _ _ => cM trivial) ?_
      intro F H O a w vs hc hcs _ hon
      obtain ⟨e0, e1, e2, e3⟩ := ev hc hcs hon
      have hb : cO len len (lo'.map At.den) (hi'.map At.den) none = some (l3, h3', len) := by
       have b1 := (ez (x := hi') (d := len) (n := h3') (y := len) hh hcond.2).2
       have b2 := (ez (x := lo') (d := 0) (n := l3) (y := h3') hl hcond.1).1
       show ((bO none len len).bind fun m => (dF (hi'.map At.den) false m len).bind fun h => (bO (lo'.map At.den) h 0).bind fun l => some (l, h, m)) = _
       show ((dF (hi'.map At.den) false len len).bind fun h => (bO (lo'.map At.den) h 0).bind fun l => some (l, h, len)) = _
       rw [b1]; simp only [Option.bind_some]
       rw [b2]; rfl
      have e0' : a.eval x = .pointer (some ⟨r, off, none⟩) := e0
      simp only [Option.map_none] at e3
      simp only [execOp, hop, e0', e1, e2, e3, Sem.run_bind, rN hu hs hb, Result.andThen_ok, Sem.run_pure, S1.den, At.den]
      split <;> rfl
     ·simp at h
    ·simp at h
   ·simp at h
 ·simp at h
variable {P : Program} {ops : Array Oper} {o : Oper} {s : SS} {gl : List (At × Bool)}
theorem pz {sp : Bool} {x : Operand} {y : NF} {fp : FP} (hrun : ∀ a : Act, ∀ w, (execOp a.eval o).run P w = .ok (.value (a.eval x)) w)
  (hg : ar (aJ ops) s o = .go gl) (hd : ∀ d, o.dst = some d → d < s.sz) (h : ia s gl o.dst sp x = some (y, fp)) : Sound P ops o s y := by
 have gen : ∀ {v : S1} {cs : List Ck}, gP s gl x = some (v, cs) → aS gl o.dst v cs = some (y, fp) → Sound P ops o s y := by
  intro v cs hx h
  exact aB hg hd h (fun hs _ => de hs hx) (fun F H O a w hc hcs hon => by rw [hrun, cV hc hx hcs hon])
 have gen' : ((gP s gl x).bind fun (v, cs) => aS gl o.dst v cs) = some (y, fp) → Sound P ops o s y := by
  intro h
  simp only [Option.bind_eq_some_iff] at h
  obtain ⟨⟨v, cs⟩, hx, h⟩ := h
  exact gen hx h
 unfold ia at h
 split at h
 ·split at h
  ·rename_i hgl
   have : gl = [] := by simpa using hgl
   subst this
   simp only [Option.bind_eq_some_iff] at h
   obtain ⟨⟨a', cs⟩, hx, h⟩ := h
   simp only [] at h
   split at h
   ·exact gen (qI hx) h
   ·simp only [Option.some.injEq, Prod.mk.injEq] at h
    obtain ⟨rfl, _⟩ := h
    refine aR (gl := []) (X := fun vs => .at (.k (g vs 0))) hg hd (fun _ _ _ _ _ _ => jZ _) ?_
    rintro F H O a w vs hc hcs ⟨b, hb, rfl⟩ hon
    rw [hrun, ay hc hx hcs hon, hb]; rfl
  ·simp at h
 ·cases x with
  | tmp t =>
   simp only [] at h
   split at h
   ·rename_i l hl
    split at h
    ·rename_i hgl
     have : gl = [] := by simpa using hgl
     subst this
     simp only [Option.some.injEq, Prod.mk.injEq] at h
     obtain ⟨rfl, _⟩ := h
     intro F H O a w d K Q hc hr
     obtain ⟨_, vs, _, hk⟩ := hr
     unfold wp1
     rw [if_pos ((dS hc hg).2 trivial)]
     refine .inl ?_
     unfold Oper.wp
     rw [hrun, Oper.upon_value]
     have ht := hc.tm t
     rw [hl] at ht
     have hok := hc.ok.1 t
     rw [hl] at hok
     exact ⟨_, H, O, hc.put (sv := .tup l) hd ht hok, Heap.le_refl H, hk⟩
    ·simp at h
   ·exact gen' h
  | const v => exact gen' h
  | global n => exact gen' h
  | func f => exact gen' h
theorem vp {c a b : Operand} {y : NF} {fp : FP} (hop : o.op = .pick c a b)
  (hg : ar (aJ ops) s o = .go gl) (hd : ∀ d, o.dst = some d → d < s.sz) (h : ny s gl o.dst c a b = some (y, fp)) : Sound P ops o s y := by
 unfold ny at h
 simp only [Option.bind_eq_some_iff] at h
 obtain ⟨⟨c', cs⟩, hc', h⟩ := h
 simp only [] at h
 split at h
 ·simp only [Option.bind_eq_some_iff] at h
  obtain ⟨⟨v, cs'⟩, hv, h⟩ := h
  refine aB hg hd h (fun hs _ => de hs hv) ?_
  intro F H O a' w hc hcs hon
  rw [AllCk.append] at hcs
  have e1 : a'.eval c = .bool true := ay hc hc' hcs.1 hon
  have e2 := cV hc hv hcs.2 hon
  simp [execOp, hop, e1, asBool, e2]
 ·simp only [Option.bind_eq_some_iff] at h
  obtain ⟨⟨v, cs'⟩, hv, h⟩ := h
  refine aB hg hd h (fun hs _ => de hs hv) ?_
  intro F H O a' w hc hcs hon
  rw [AllCk.append] at hcs
  have e1 : a'.eval c = .bool false := ay hc hc' hcs.1 hon
  have e2 := cV hc hv hcs.2 hon
  simp [execOp, hop, e1, asBool, e2]
 ·split at h
  ·rename_i a1 ca b1 cb ha hb
   split at h
   ·rename_i hfit
    simp only [Bool.and_eq_true] at hfit
    simp only [Option.some.injEq, Prod.mk.injEq] at h
    obtain ⟨rfl, _⟩ := h
    refine aF hg hd ?_ ?_
    ·intro _
     by_cases hs : s.Ok
     ·exact .inl ⟨At.fit_one hfit.1 (nB hs ha), At.fit_one hfit.2 (nB hs hb), trivial⟩
     ·exact .inr hs
    ·intro F H O a' w v hc hcs hon he
     simp only [AllCk.append] at hcs
     have e1 := ay hc hc' hcs.1.1 hon
     simp only [List.map_cons, List.map_nil] at he
     cases hcd : c'.den <;> simp only [hcd, af] at he <;> try (simp at he; done)
     rename_i bv
     simp only [Option.some.injEq] at he
     cases bv with
     | true =>
      have e2 := ay hc ha hcs.1.2 (gl := (c', true) :: gl) ⟨hcd, hon⟩
      simp only [if_true] at he
      simp [execOp, hop, e1, hcd, asBool, e2, he]
     | false =>
      have e2 := ay hc hb hcs.2 (gl := (c', false) :: gl) ⟨hcd, hon⟩
      simp only [Bool.false_eq_true, if_false] at he
      simp [execOp, hop, e1, hcd, asBool, e2, he]
   ·simp at h
  ·simp at h
theorem uh {T : TypeId} {parts : Array (Nat × Operand)} {y : NF} {fp : FP} (hop : o.op = .build T parts)
  (hg : ar (aJ ops) s o = .go gl) (hd : ∀ d, o.dst = some d → d < s.sz) (h : jI P s gl o.dst T parts.toList = some (y, fp)) : Sound P ops o s y := by
 unfold jI at h
 simp only [Option.bind_eq_some_iff] at h
 obtain ⟨zero, hz, h⟩ := h
 obtain ⟨z, hzr, hzc, hzk, hzo⟩ := fE hz
 have hzc' : z.cells = (zero.map At.den).toArray := by rw [← hzc]
 have hparts : ∀ a : Act, (parts.map fun p => (p.1, a.eval p.2)).toList = parts.toList.map fun p => (p.1, a.eval p.2) := fun a => by simp
 split at h
 ·rename_i fs hu
  simp only [Option.bind_eq_some_iff] at h
  obtain ⟨places, hp, ⟨cells, cs⟩, hf, h⟩ := h
  refine aB hg hd h (fun hs _ => eh hs hf hzo) ?_
  intro F H O a w hc hcs hon
  have hfill := mB hc hon hf hcs
  have hb : P.built T (parts.map fun p => (p.1, a.eval p.2)).toList = some (cells.map At.den).toArray := by
   unfold jL at hz
   cases hi : P.info? T with
   | none => simp [hi] at hz
   | some i =>
    simp only [hi, Option.bind_some, Option.map_eq_some_iff] at hz
    obtain ⟨z0, hz0, hz1⟩ := hz
    have : z0.cells = (zero.map At.den).toArray := by rw [← hz1]; simp [Function.comp_def, At.den]
    unfold Program.built
    simp only [hi, hu, hz0, hp, this, hparts]
    exact hfill
  simp only [execOp, hop, Sem.run_bind, run_build w T _ _ hb, Result.andThen_ok, Sem.run_pure]
  rfl
 ·rename_i n elem hu
  simp only [Option.bind_eq_some_iff] at h
  obtain ⟨size, hs, ⟨cells, cs⟩, hf, h⟩ := h
  refine aB hg hd h (fun hs' _ => eh hs' hf hzo) ?_
  intro F H O a w hc hcs hon
  have hfill := mB hc hon hf hcs
  simp only [execOp, hop, Instr.build, Sem.run_bind, hzr, Result.andThen_ok, al hu, aE hs, hparts, hzc', hfill, Sem.run_pure]
  rfl
 ·simp at h
theorem mq {name : Nat} {T : TypeId} {len : Nat} {parts : Array (Nat × Operand)} {y : NF} {fp : FP} (hop : o.op = .buildSlice T len parts)
  (hg : ar (aJ ops) s o = .go gl) (hd : ∀ d, o.dst = some d → d < s.sz) (h : cF P s gl o.dst name T len parts.toList = some (y, fp)) : Sound P ops o s y := by
 unfold cF at h
 split at h
 ·rename_i elem hu
  simp only [Option.bind_eq_some_iff] at h
  obtain ⟨size, hs, zero, hz, h⟩ := h
  split at h
  ·rename_i hcond
   simp only [Bool.and_eq_true, decide_eq_true_eq] at hcond
   obtain ⟨⟨hzl, hs0⟩, hlim⟩ := hcond
   simp only [Option.bind_eq_some_iff] at h
   obtain ⟨⟨cells, cs⟩, hf, h⟩ := h
   obtain ⟨z, hzr, hzc, hzk, hzo⟩ := fE hz
   refine gB hg hd h (fun _ => trivial) (fun _ => rfl) (fun hs' => eh hs' hf (fun a ha => hzo a (dV ha))) ?_
   intro F H O a w hc hcs hgl
   subst hgl
   refine ⟨cells.map At.den, CellsRel.map cells, ?_⟩
   have hfill := mB (gl := []) hc trivial hf hcs
   have hzc' : z.cells = (zero.map At.den).toArray := by rw [← hzc]
   have hparts : (parts.map fun p => (p.1, a.eval p.2)).toList = parts.toList.map fun p => (p.1, a.eval p.2) := by simp
   have hlim' : ¬ (len * size > 2 ^ 24) := by have : (2:Nat) ^ 24 = 16777216 := rfl; omega
   have hrep : ((Array.range (len * size)).map fun i => (zero.map At.den).toArray[i % (zero.map At.den).toArray.size]!) = ((bg zero len).map At.den).toArray := by
    have := ed (zero.map At.den) (by rw [List.length_map, hzl]; exact hs0) len
    apply Array.ext'
    rw [eT, ← this]
    simp [hzl]
   by_cases h0 : len * size = 0
   ·have hl0 : len = 0 := by
     rcases Nat.mul_eq_zero.1 h0 with h | h
     ·exact h
     ·exact absurd h hs0
    subst hl0
    simp only [bg, List.map_nil] at hfill
    simp only [execOp, hop, Instr.buildSlice, Sem.run_bind, al hu, Result.andThen_ok, aE hs, Nat.zero_mul, hparts]
    simp only [Nat.not_lt_zero, gt_iff_lt, if_false, if_true, Sem.run_bind, Sem.run_pure, Result.andThen_ok, show Array.range 0 = #[] from rfl, Array.map_empty, hfill, newRow, run_newObj]
    rfl
   ·simp only [execOp, hop, Instr.buildSlice, Sem.run_bind, al hu, Result.andThen_ok, aE hs, hlim', if_false, h0, hzr, Sem.run_pure, hzc', hrep, hparts, hfill, newRow, run_newObj]
    rfl
  ·simp at h
 ·simp at h
theorem nN {name : Nat} {t : TypeId} {l c : Operand} {y : NF} {fp : FP} {n m : Nat} {elem : TypeId} (hop : o.op = .makeSlice t l c)
  (hg : ar (aJ ops) s o = .go gl) (hd : ∀ d, o.dst = some d → d < s.sz) (hl : jc l = some n) (hc0 : jc c = some m) (hu : P.underlying t = some (.slice elem))
  (h : cD P s gl o.dst name t l c = some (y, fp)) : Sound P ops o s y := by
 unfold cD at h
 rw [hl, hc0, hu] at h
 simp only [Option.bind_eq_some_iff] at h
 obtain ⟨size, hs, zero, hz, h⟩ := h
 split at h
 ·rename_i hcond
  simp only [Bool.and_eq_true, decide_eq_true_eq] at hcond
  obtain ⟨⟨⟨⟨hzl, hs0⟩, hnm⟩, hlim⟩, hby⟩ := hcond
  obtain ⟨z, hzr, hzc, hzk, hzo⟩ := fE hz
  have hk : ∀ {x : Operand} {k : Nat}, jc x = some k → x = .const (.int .i64 k) ∧ k ≤ 65536 := by
   intro x k hx
   unfold jc at hx
   split at hx
   ·split at hx
    ·rename_i v hv
     simp only [Option.some.injEq] at hx
     subst hx
     exact ⟨by congr 2; omega, by omega⟩
    ·simp at hx
   ·simp at hx
  obtain ⟨rfl, hn6⟩ := hk hl
  obtain ⟨rfl, hm6⟩ := hk hc0
  refine gB hg hd h (fun _ => trivial) (fun _ => rfl) (fun _ => fun a ha => hzo a (dV ha)) ?_
  intro F H O a w hc hcs hgl
  subst hgl
  refine ⟨(bg zero m).map At.den, CellsRel.map _, ?_⟩
  have hzc' : z.cells = (zero.map At.den).toArray := by rw [← hzc]
  have hrep : ((Array.range (m * size)).map fun i => (zero.map At.den).toArray[i % (zero.map At.den).toArray.size]!) = ((bg zero m).map At.den).toArray := by
   have := ed (zero.map At.den) (by rw [List.length_map, hzl]; exact hs0) m
   apply Array.ext'
   rw [eT, ← this]
   simp [hzl]
  cases hi : P.info? elem with
  | none => rw [hi] at hby; simp at hby
  | some i =>
   rw [hi] at hby
   simp only [Option.map_some, Option.getD_some, decide_eq_true_eq] at hby
   have w1 : IntKind.i64.wrap (n : Int) = n := by simp only [IntKind.wrap, IntKind.bits, IntKind.signed]; simp; omega
   have w2 : IntKind.i64.wrap (m : Int) = m := by simp only [IntKind.wrap, IntKind.bits, IntKind.signed]; simp; omega
   have hby' : ¬ ((i.bytes : Int) * (m : Int) > 2 ^ 48) := by
    have : ((i.bytes * m : Nat) : Int) ≤ ((2 ^ 48 : Nat) : Int) := Int.ofNat_le.2 hby
    have e : ((i.bytes * m : Nat) : Int) = (i.bytes : Int) * (m : Int) := Int.natCast_mul _ _
    have e2 : ((2 ^ 48 : Nat) : Int) = 2 ^ 48 := by rfl
    omega
   have hcnd : ¬ (((decide ((m : Int) < 0) || decide ((i.bytes : Int) * (m : Int) > 2 ^ 48)) || decide ((n : Int) < 0) || decide ((n : Int) > (m : Int))) = true) := by
    simp only [Bool.or_eq_true, decide_eq_true_eq]
    omega
   have hti : (typeInfo elem).run P w = .ok i w := by simp [typeInfo, hi]
   have hA : ∀ k : Nat, (asInt (.int .i64 (k : Int))).run P w = .ok (k : Int) w := fun k => rfl
   have hms : (Instr.makeSlice t (.int .i64 (n : Int)) (.int .i64 (m : Int))).run P w = .ok (.slice (some ⟨w.heap.size, 0, none⟩) n m) { w with heap := w.heap.push (.cells ((bg zero m).map At.den).toArray elem (0, 0)) } := by
    unfold Instr.makeSlice
    rw [Sem.run_bind, al hu]
    simp only [Result.andThen_ok]
    rw [Sem.run_bind, hA, Result.andThen_ok, Sem.run_bind, hA, Result.andThen_ok, Sem.run_bind, hti, Result.andThen_ok]
    simp only [w1, w2]
    rw [if_neg hcnd]
    by_cases h0 : m * size = 0
    ·have hm0 : m = 0 := (Nat.mul_eq_zero.1 h0).resolve_right hs0
     subst hm0
     simp only [Sem.run_bind, run_askRoom, aE hs, Result.andThen_ok, Int.toNat_natCast, Nat.zero_mul, if_true, Sem.run_pure, show Array.range 0 = #[] from rfl, Array.map_empty, newRow, run_newObj, bg, List.map_nil]
    ·simp only [Sem.run_bind, run_askRoom, aE hs, Result.andThen_ok, Int.toNat_natCast, h0, if_false, hzr, Sem.run_pure, hzc', hrep, newRow, run_newObj]
   simp only [execOp, hop, Act.eval, Sem.run_bind, hms, Result.andThen_ok, Sem.run_pure]
   rfl
 ·simp at h
variable {P : Program} {ops : Array Oper} {o : Oper} {s : SS} {gl : List (At × Bool)}
theorem lm {y : Value} (h : sD y = true) : ∃ ad, y = .pointer (some ad) := by
 unfold sD at h; split at h
 ·exact ⟨_, rfl⟩
 ·simp at h
theorem xe {x : Operand} {x' : At} {cs : List Ck} {y : NF} {fp : FP} (hop : o.op = .nilCheck x) (hx : dh s gl x = some (x', cs))
  (hg : ar (aJ ops) s o = .go gl) (hd : ∀ d, o.dst = some d → d < s.sz) (h : Ac gl o.dst x' cs = some (y, fp)) : Sound P ops o s y := by
 have hok := fun hs : s.Ok => nB hs hx
 unfold Ac at h
 split at h
 ·refine aB hg hd h (fun hs _ => cM (hok hs)) ?_
  intro F H O a w hc hcs hon
  have e := ay hc hx hcs hon
  simp only [execOp, hop, e]; rfl
 ·refine aB hg hd h (fun hs _ => cM (hok hs)) ?_
  intro F H O a w hc hcs hon
  have e := ay hc hx hcs hon
  simp only [execOp, hop, e]; rfl
 ·refine aB hg hd h (fun hs _ => cM (hok hs)) ?_
  intro F H O a w hc hcs hon
  have e := ay hc hx hcs.2 hon
  obtain ⟨ad, had⟩ := lm (hcs.1 hon)
  subst had
  simp only [execOp, hop, e]; rfl
 ·refine aB hg hd h (fun hs _ => cM (hok hs)) ?_
  intro F H O a w hc hcs hon
  have e := ay hc hx hcs.2 hon
  obtain ⟨ad, had⟩ := lm (hcs.1 hon)
  subst had
  simp only [execOp, hop, e]; rfl
 ·refine aB hg hd h (fun hs _ => cM (hok hs)) ?_
  intro F H O a w hc hcs hon
  have e := ay hc hx hcs.2 hon
  obtain ⟨ad, had⟩ := lm (hcs.1 hon)
  subst had
  simp only [execOp, hop, e]; rfl
 ·simp at h
theorem wZ {s : SS} {gl : List (At × Bool)} {x y : Operand} {as : List S1} {cs : List Ck} (h : fA s gl [x, y] = some (as, cs)) : ∃ a b, as = [a, b] := by
 simp only [fA] at h
 split at h
 ·rename_i a c as' cs' h1 h2
  simp only [Option.some.injEq, Prod.mk.injEq] at h
  split at h2
  ·rename_i b c2 as2 cs2 h3 h4
   simp only [Option.some.injEq, Prod.mk.injEq] at h2 h4
   exact ⟨a, b, by rw [← h.1, ← h2.1, ← h4.1]⟩
  ·simp at h2
 ·simp at h
theorem ED {op : BinOp} {t yt : TypeId} {x y : Operand} {X Y v : Value} (hop : o.op = .binOp op t x y yt) {a : Act} (ex : a.eval x = X) (ey : a.eval y = Y)
  (h : ∀ w, ((PrimOp.eqv op t (ln x || ln y)).sem [X, Y]).run P w = .ok (.value v) w) (w : World) : (execOp a.eval o).run P w = .ok (.value v) w := by
 have hw := h w
 simp only [PrimOp.sem] at hw
 simp only [execOp, hop, ex, ey]
 have : (eqGuard op t x y X Y) = (eqGuard op t (if (ln x || ln y) = true then .const undef else .global 0) (.global 0) X Y) := by
  unfold eqGuard
  cases x <;> cases y <;> rfl
 rw [this]; exact hw
theorem yk {op : BinOp} {t yt : TypeId} {x y : Operand} {z : NF} {fp : FP} (hop : o.op = .binOp op t x y yt)
    (hg : ar (aJ ops) s o = .go gl) (hd : ∀ d, o.dst = some d → d < s.sz) (h : s4 P s gl o.dst op t x y = some (z, fp)) : Sound P ops o s z := by
  unfold s4 at h
  split at h
  · rename_i bk hbk
    simp only [Option.bind_eq_some_iff] at h
    obtain ⟨⟨as, cs⟩, hx, h⟩ := h
    obtain ⟨x', y', rfl⟩ := nA hx
    simp only [Option.some.injEq, Prod.mk.injEq] at h
    obtain ⟨rfl, _⟩ := h
    refine aF hg hd (by simp) ?_
    intro F H O a w v hc hcs hon he
    obtain ⟨e1, e2⟩ := mC hc hx hcs hon
    simp only [List.map_cons, List.map_nil, af] at he
    simp only [execOp, hop, e1, e2]
    rw [Sem.run_bind, BN hbk he]; rfl
  · split at h
    all_goals first
      | (simp at h; done)
      | (simp only [Option.bind_eq_some_iff] at h
         obtain ⟨⟨as, cs⟩, hx, h⟩ := h
         obtain ⟨x', y', rfl⟩ := wZ hx
         simp only [Option.some.injEq, Prod.mk.injEq] at h
         obtain ⟨rfl, _⟩ := h
         refine aR (X := fun vs => .at (.v (g vs 0))) hg hd ?_ ?_
         · rintro H O vs _ _ ⟨v, rfl, _, hone⟩; exact cM hone
         · rintro F H O a w vs hc hcs ⟨v, rfl, he, _⟩ hon
           have e := hP hc hx hcs hon
           simp only [List.map_cons, List.map_nil, List.cons.injEq, and_true] at e
           exact ED hop e.1 e.2 (he hon) w)

theorem yD {op : UnOp} {t : TypeId} {x : Operand} {x' : At} {cs : List Ck} {z : NF} {fp : FP} (hop : o.op = .unOp op t x) (hx : dh s gl x = some (x', cs))
    (hg : ar (aJ ops) s o = .go gl) (hd : ∀ d, o.dst = some d → d < s.sz) (h : F3 P gl o.dst op t x' cs = some (z, fp)) : Sound P ops o s z := by
  unfold F3 at h
  split at h
  all_goals first
    | (simp at h; done)
    | (simp only [Option.some.injEq, Prod.mk.injEq] at h
       obtain ⟨rfl, _⟩ := h
       refine aF hg hd (by simp) ?_
       intro F H O a w v hc hcs hon he
       have e := ay hc hx hcs hon
       simp only [List.map_cons, List.map_nil] at he
       simp only [execOp, hop, e]
       cases hv : x'.den <;> simp only [hv, af, reduceCtorEq, bW, Option.some.injEq] at he
       subst he
       rfl)

theorem vL {ta tb : TypeId} {x : Operand} {x' : At} {cs : List Ck} {z : NF} {fp : FP} (hop : o.op = .convert ta tb x) (hx : dh s gl x = some (x', cs))
  (hg : ar (aJ ops) s o = .go gl) (hd : ∀ d, o.dst = some d → d < s.sz) (h : oq P s gl o.dst ta tb x' cs = some (z, fp)) : Sound P ops o s z := by
 unfold oq at h
 split at h
 ·rename_i k0 k hu1 hu2
  simp only [Option.some.injEq, Prod.mk.injEq] at h
  obtain ⟨rfl, _⟩ := h
  refine aF hg hd (by simp) ?_
  intro F H O a w v hc hcs hon he
  have e := ay hc hx hcs hon
  simp only [List.map_cons, List.map_nil] at he
  cases hv : x'.den <;> simp only [hv, af, reduceCtorEq, Option.some.injEq] at he
  subst he
  simp only [execOp, hop, e, hv, convert, Sem.run_bind, al hu1, al hu2, Result.andThen_ok, Conv.intToInt, Sem.run_pure]
 ·split at h
  ·rename_i hgl
   have : gl = [] := by simpa using hgl
   subst this
   refine bM rfl hg hd h ?_
   intro F H O a w hc hcs H1 O1 R hT F1 hm next Q hn
   have e := ay hc hx hcs trivial
   exact kX hT hm (by simp only [execOp, hop, e, PrimOp.sem]) hn
  ·simp at h
theorem tU {t : TypeId} {x : Operand} {z : NF} {fp : FP} (hop : o.op = .makeInterface t x)
  (hg : ar (aJ ops) s o = .go gl) (hd : ∀ d, o.dst = some d → d < s.sz) (h : jw P s gl o.dst t x = some (z, fp)) : Sound P ops o s z := by
 unfold jw at h
 split at h
 ·simp at h
 ·simp at h
 ·rename_i d hni hu
  simp only [Option.bind_eq_some_iff] at h
  obtain ⟨⟨v, cs⟩, hx, h⟩ := h
  simp only [] at h
  split at h
  ·refine aB hg hd h (fun _ _ => cM rfl) ?_
   intro F H O a w hc hcs hon
   have e := cV hc hx hcs hon
   simp only [execOp, hop, e, Instr.makeInterface, Sem.run_bind, al hu, Result.andThen_ok]
   cases d <;> first | rfl | exact absurd hu (hni _)
  ·split at h
   ·rename_i hgl
    have : gl = [] := by simpa using hgl
    subst this
    refine bM rfl hg hd h ?_
    intro F H O a w hc hcs H1 O1 R hT F1 hm next Q hn
    have e := cV hc hx hcs trivial
    refine kX hT hm ?_ hn
    rcases v with c | l
    ·simp only [execOp, hop, e, S1.isAgg, S1.cells, S1.den, PrimOp.sem, List.map_cons, List.map_nil]
    ·simp only [execOp, hop, e, S1.isAgg, S1.cells, S1.den, PrimOp.sem]
   ·simp at h
theorem sV : ∀ {as : List At} {l : List Cp}, kn as = some l → l.map Cp.den = as.map At.den
 | [], l, h => by simp only [kn, Option.some.injEq] at h; subst h; rfl
 | a :: r, l, h => by
  cases a <;> simp only [kn, Option.map_eq_some_iff, reduceCtorEq] at h
  all_goals
   obtain ⟨l', hl, rfl⟩ := h
   simp only [List.map_cons, sV hl]
   rfl
theorem vH {f : FuncId} {first caps : Array Operand} {as : List At} {cs : List Ck} {l : List Cp} {z : NF} {fp : FP} (hop : o.op = .makeFunc (.func f) first caps) (hf : first.isEmpty = true)
  (hx : bI s gl caps.toList = some (as, cs)) (hl : kn as = some l)
  (hg : ar (aJ ops) s o = .go gl) (hd : ∀ d, o.dst = some d → d < s.sz) (h : aS gl o.dst (.at (.clo f l)) cs = some (z, fp)) : Sound P ops o s z := by
 refine aB hg hd h (fun _ _ => cM trivial) ?_
 intro F H O a w hc hcs hon
 have e := bS hc hx hcs hon
 have : first = #[] := by simpa using hf
 subst this
 have hcaps : caps.map a.eval = (l.map Cp.den).toArray := by
  rw [sV hl, ← e]; apply Array.ext'; simp
 simp only [execOp, hop, Instr.makeFunc, hcaps, Sem.run_bind, Sem.run_pure, Result.andThen_ok, Array.map_empty]
 rfl
theorem tR {t : TypeId} {x i : Operand} {x' : S1} {i' : At} {cx ci : List Ck} {z : NF} {fp : FP} (hop : o.op = .index t x i) (hx : gP s gl x = some (x', cx)) (hi : dh s gl i = some (i', ci))
  (hg : ar (aJ ops) s o = .go gl) (hd : ∀ d, o.dst = some d → d < s.sz) (h : qV P gl o.dst t x' i' (cx ++ ci) = some (z, fp)) : Sound P ops o s z := by
 have ev : ∀ {F H O a w}, Conc F s H O a w → AllCk (cx ++ ci) → On (fc gl) → a.eval x = x'.den ∧ a.eval i = i'.den := by
  intro F H O a w hc hcs hon
  rw [AllCk.append] at hcs
  exact ⟨cV hc hx hcs.1 hon, ay hc hi hcs.2 hon⟩
 unfold qV at h
 split at h
 ·rename_i len elem cells hu
  simp only [Option.bind_eq_some_iff] at h
  obtain ⟨size, hs, h⟩ := h
  split at h
  ·rename_i n hn
   split at h
   ·rename_i hlt
    simp only [Option.bind_eq_some_iff] at h
    obtain ⟨v, hv, h⟩ := h
    refine aB hg hd h (fun hs' _ a ha => de hs' hx a (pu hv a ha)) ?_
    intro F H O a w hc hcs hon
    obtain ⟨e1, e2⟩ := ev hc hcs hon
    obtain ⟨k, hk⟩ := ej hn
    obtain ⟨m, hm⟩ := nz hv
    have hb : (0 : Int) ≤ n ∧ (n : Int) < len := by omega
    have e1' : a.eval x = .agg (cells.map At.den).toArray := e1
    simp only [execOp, hop, e1', e2, hk, Instr.index, asIntOf, Sem.run_bind, Sem.run_pure, Result.andThen_ok, al hu, if_pos hb, aE hs, Int.toNat_natCast, uv hv w hm]
   ·simp at h
  ·split at h
   ·rename_i hcond
    simp only [Bool.and_eq_true, decide_eq_true_eq, Bool.not_eq_true'] at hcond
    obtain ⟨⟨⟨⟨h1, hA⟩, hl⟩, hfit⟩, _⟩ := hcond
    subst h1
    simp only [Option.some.injEq, Prod.mk.injEq] at h
    obtain ⟨rfl, _⟩ := h
    refine aF hg hd ?_ ?_
    ·intro _
     by_cases hs' : s.Ok
     ·exact .inl (uG (by simpa using hfit) (de hs' hx))
     ·exact .inr hs'
    ·intro F H O a w v hc hcs hon he
     obtain ⟨e1, e2⟩ := ev hc hcs hon
     simp only [List.map_cons, af] at he
     have e1' : a.eval x = .agg (cells.map At.den).toArray := e1
     have hrun := uw hu hs hA (by simpa using hl) he w
     simp only [execOp, hop, e1', e2, Sem.run_bind, hrun, Result.andThen_ok, Sem.run_pure]
   ·split at h
    ·rename_i hcond
     simp only [Bool.and_eq_true, decide_eq_true_eq, Bool.not_eq_true', List.isEmpty_iff] at hcond
     obtain ⟨⟨⟨⟨⟨hgl, h1⟩, hA⟩, hl⟩, hkn⟩, _⟩ := hcond
     subst hgl
     subst h1
     simp only [Option.some.injEq, Prod.mk.injEq] at h
     obtain ⟨rfl, _⟩ := h
     have hmem : ∀ n : Nat, n < cells.length → cells.getD n .any ∈ cells := fun n hn => by simp [List.getD, hn]
     refine aR (gl := []) (X := fun vs => .at (cells.getD (match g vs 0 with | .int _ n => n.toNat | _ => 0) .any)) hg hd ?_ ?_
     ·rintro H O vs hs' _ ⟨kd, j, hj, h0, h2, rfl⟩
      refine cM (de hs' hx _ ?_)
      show cells.getD j.toNat .any ∈ cells
      exact hmem _ (by omega)
     ·rintro F H O a w vs hc hcs ⟨kd, j, hj, h0, h2, rfl⟩ hon
      obtain ⟨e1, e2⟩ := ev hc hcs hon
      have e1' : a.eval x = .agg (cells.map At.den).toArray := e1
      have he : af .aidx (i'.den :: cells.map At.den) = some ((cells.getD j.toNat .any).den) := by
       rw [hj]
       simp only [af, iR, List.length_map]
       rw [if_pos ⟨h0, by omega⟩, List.getElem?_map]
       have : j.toNat < cells.length := by omega
       simp [List.getD, this]
      have hrun := uw hu hs hA (by simpa using hl) he w
      simp only [execOp, hop, e1', e2, Sem.run_bind, hrun, Result.andThen_ok, Sem.run_pure]
      rfl
    ·simp at h
 ·rename_i x1 hu
  simp only [Option.some.injEq, Prod.mk.injEq] at h
  obtain ⟨rfl, _⟩ := h
  refine aF hg hd (by simp) ?_
  intro F H O a w v hc hcs hon he
  obtain ⟨e1, e2⟩ := ev hc hcs hon
  simp only [List.map_cons, List.map_nil, af] at he
  have e1' : a.eval x = x1.den := e1
  simp only [execOp, hop, e1', e2, Sem.run_bind, y5 hu he w, Result.andThen_ok, Sem.run_pure]
 ·simp at h
theorem q5 {x : Operand} {i : Nat} {z : NF} {fp : FP} (hop : o.op = .extract x i)
  (hg : ar (aJ ops) s o = .go gl) (hd : ∀ d, o.dst = some d → d < s.sz) (h : cQ s gl o.dst x i = some (z, fp)) : Sound P ops o s z := by
 cases x with
 | tmp t =>
  simp only [cQ] at h
  split at h
  ·rename_i l hl
   simp only [Option.bind_eq_some_iff] at h
   obtain ⟨v, hv, h⟩ := h
   split at h
   ·refine aB hg hd h (fun hs _ => ?_) ?_
    ·have := hs.1 t; rw [hl] at this; exact this v (List.mem_of_getElem? hv)
    ·intro F H O a w hc hcs hon
     have ht := hc.tm t
     rw [hl] at ht
     have e : a.eval (.tmp t) = .tuple (l.map S1.den).toArray := ht
     have hget : ((l.map S1.den).toArray)[i]? = some v.den := by simp [hv]
     simp only [execOp, hop, e, Instr.extract, hget, Sem.run_bind, Sem.run_pure, Result.andThen_ok]
   ·simp at h
  ·simp at h
 | const v => simp [cQ] at h
 | global n => simp [cQ] at h
 | func f => simp [cQ] at h
theorem fM {α : Type} {l : List α} {x : α} (h : Em l = some x) : l = [x] := by
 unfold Em at h; split at h
 ·simp only [Option.some.injEq] at h; rw [h]
 ·simp at h
theorem jO {α : Type} {l : List α} {x : α × α} (h : EY l = some x) : l = [x.1, x.2] := by
 unfold EY at h; split at h
 ·simp only [Option.some.injEq] at h; rw [← h]
 ·simp at h
theorem dm {c : Call} {b : Builtin} {a : Act} (hop : o.op = .call c) (hcal : c.callee = .builtin b) (hb : b ≠ .print) (hb' : b ≠ .println) (w : World) :
  (execOp a.eval o).run P w = (builtin b c.argTypes o.type #[] (c.args.map a.eval)).run P w := by
 simp only [execOp, hop, resolve, hcal, Sem.run_bind, Sem.run_pure, Result.andThen_ok, invoke]
 cases b <;> first | rfl | exact absurd rfl hb | exact absurd rfl hb'
theorem ri {c : Call} {b : Builtin} {z : NF} {fp : FP} (hop : o.op = .call c) (hcal : c.callee = .builtin b)
    (hg : ar (aJ ops) s o = .go gl) (hd : ∀ d, o.dst = some d → d < s.sz) (h : eN P s gl o.dst o.type b c.argTypes c.args.toList = some (z, fp)) : Sound P ops o s z := by
  unfold eN at h
  split at h
  · -- len
    simp only [Option.bind_eq_some_iff] at h
    obtain ⟨t, ht, x, hx, ⟨x', cs⟩, hx', h⟩ := h
    have ht' : c.argTypes = #[t] := by apply Array.ext'; simpa using fM ht
    have hargs : c.args = #[x] := by apply Array.ext'; simpa using fM hx
    have ex : ∀ {F H O a w}, Conc F s H O a w → AllCk cs → On (fc gl) → (execOp a.eval o).run P w = (Functor.map (fun v => Next.value v) (Builtin.len_ #[t] o.type #[x'.den])).run P w := by
      intro F H O a w hc hcs hon
      rw [dm hop hcal (by simp) (by simp), ht', hargs]
      have e := ay hc hx' hcs hon
      simp only [builtin, List.map_toArray, List.map_cons, List.map_nil, e]
      rfl
    unfold xp at h
    split at h
    · rename_i e hu
      split at h
      · rename_i n r off m cp hxe
        simp only [] at hxe
        subst hxe
        refine aB hg hd h (fun _ _ => jZ _) ?_
        intro F H O a w hc hcs hon
        rw [ex hc hcs hon, Sem.run_map, wK hu (x := (At.sl n r off m cp).den) (v := goInt m) rfl]; rfl
      · simp only [Option.some.injEq, Prod.mk.injEq] at h
        obtain ⟨rfl, _⟩ := h
        refine aF hg hd (by simp) ?_
        intro F H O a w v hc hcs hon he
        rw [ex hc hcs hon, Sem.run_map, wK hu he]; rfl
    · rename_i hu
      simp only [Option.some.injEq, Prod.mk.injEq] at h
      obtain ⟨rfl, _⟩ := h
      refine aF hg hd (by simp) ?_
      intro F H O a w v hc hcs hon he
      rw [ex hc hcs hon, Sem.run_map, y4 hu he]; rfl
    · rename_i n e hu
      refine aB hg hd h (fun _ _ => jZ _) ?_
      intro F H O a w hc hcs hon
      rw [ex hc hcs hon, Sem.run_map, y6 hu]; rfl
    · rename_i k e hu
      split at h
      · rename_i hgl
        have : gl = [] := by simpa using hgl
        subst this
        refine bM rfl hg hd h ?_
        intro F H O a w hc hcs H1 O1 R hT F1 hm next Q hn
        exact kX hT hm (by rw [ex hc hcs trivial]; rfl) hn
      · simp at h
    · simp at h
  · -- cap
    simp only [Option.bind_eq_some_iff] at h
    obtain ⟨t, ht, x, hx, ⟨x', cs⟩, hx', h⟩ := h
    have ht' : c.argTypes = #[t] := by apply Array.ext'; simpa using fM ht
    have hargs : c.args = #[x] := by apply Array.ext'; simpa using fM hx
    have ex : ∀ {F H O a w}, Conc F s H O a w → AllCk cs → On (fc gl) → (execOp a.eval o).run P w = (Functor.map (fun v => Next.value v) (Builtin.cap_ #[t] o.type #[x'.den])).run P w := by
      intro F H O a w hc hcs hon
      rw [dm hop hcal (by simp) (by simp), ht', hargs]
      have e := ay hc hx' hcs hon
      simp only [builtin, List.map_toArray, List.map_cons, List.map_nil, e]
      rfl
    unfold FT at h
    split at h
    · rename_i e hu
      split at h
      · rename_i n r off m cp hxe
        simp only [] at hxe
        subst hxe
        refine aB hg hd h (fun _ _ => jZ _) ?_
        intro F H O a w hc hcs hon
        rw [ex hc hcs hon, Sem.run_map, wM hu (x := (At.sl n r off m cp).den) (v := goInt cp) rfl]; rfl
      · simp only [Option.some.injEq, Prod.mk.injEq] at h
        obtain ⟨rfl, _⟩ := h
        refine aF hg hd (by simp) ?_
        intro F H O a w v hc hcs hon he
        rw [ex hc hcs hon, Sem.run_map, wM hu he]; rfl
    · simp at h
  · -- min
    simp only [Option.bind_eq_some_iff] at h
    obtain ⟨⟨x, y⟩, hxy, ⟨as, cs⟩, hx, h⟩ := h
    have hargs : c.args = #[x, y] := by apply Array.ext'; simpa using jO hxy
    obtain ⟨x', y', rfl⟩ := nA hx
    simp only [Option.some.injEq, Prod.mk.injEq] at h
    obtain ⟨rfl, _⟩ := h
    refine aF hg hd (by simp) ?_
    intro F H O a w v hc hcs hon he
    obtain ⟨e1, e2⟩ := mC hc hx hcs hon
    rw [dm hop hcal (by simp) (by simp), hargs]
    simp only [List.map_cons, List.map_nil] at he
    simp only [builtin, List.map_toArray, List.map_cons, List.map_nil, e1, e2]
    cases hv1 : x'.den <;> cases hv2 : y'.den <;> simp only [hv1, hv2, af, reduceCtorEq, Option.some.injEq] at he
    subst he
    rw [Sem.run_bind, run_min_int2]; rfl
  · -- max
    simp only [Option.bind_eq_some_iff] at h
    obtain ⟨⟨x, y⟩, hxy, ⟨as, cs⟩, hx, h⟩ := h
    have hargs : c.args = #[x, y] := by apply Array.ext'; simpa using jO hxy
    obtain ⟨x', y', rfl⟩ := nA hx
    simp only [Option.some.injEq, Prod.mk.injEq] at h
    obtain ⟨rfl, _⟩ := h
    refine aF hg hd (by simp) ?_
    intro F H O a w v hc hcs hon he
    obtain ⟨e1, e2⟩ := mC hc hx hcs hon
    rw [dm hop hcal (by simp) (by simp), hargs]
    simp only [List.map_cons, List.map_nil] at he
    simp only [builtin, List.map_toArray, List.map_cons, List.map_nil, e1, e2]
    cases hv1 : x'.den <;> cases hv2 : y'.den <;> simp only [hv1, hv2, af, reduceCtorEq, Option.some.injEq] at he
    subst he
    rw [Sem.run_bind, run_max_int2]; rfl
  all_goals first
    | (simp at h; done)
    | (split at h
       · rename_i hgl
         have : gl = [] := by simpa using hgl
         subst this
         simp only [Option.bind_eq_some_iff] at h
         obtain ⟨⟨as, cs⟩, hx, h⟩ := h
         refine bM rfl hg hd h ?_
         intro F H O a w hc hcs H1 O1 R hT F1 hm next Q hn
         refine kX hT hm ?_ hn
         rw [dm hop hcal (by simp) (by simp)]
         have e := bS hc hx hcs trivial
         have : c.args.map a.eval = (as.map At.den).toArray := by rw [← e]; apply Array.ext'; simp
         rw [this]; rfl
       · simp at h)

theorem dk {shp : Shp} {op : PrimOp} {xs : List Operand} {z : NF} {fp : FP}
  (hg : ar (aJ ops) s o = .go gl) (hd : ∀ d, o.dst = some d → d < s.sz) (h : cL s gl o.dst shp op xs = some (z, fp))
  (hex : ∀ (a : Act) (vs : List Value) (w : World), xs.map a.eval = vs → (execOp a.eval o).run P w = (op.sem vs).run P w) : Sound P ops o s z := by
 unfold cL at h
 split at h
 ·rename_i hgl
  have : gl = [] := by simpa using hgl
  subst this
  simp only [Option.bind_eq_some_iff] at h
  obtain ⟨⟨as, cs⟩, hx, h⟩ := h
  refine bM rfl hg hd h ?_
  intro F H O a w hc hcs H1 O1 R hT F1 hm next Q hn
  exact kX hT hm (hex a _ w (bS hc hx hcs trivial)) hn
 ·simp at h
theorem ie {t : TypeId} {m k x : Operand} {z : NF} {fp : FP} (hdst : o.dst = none) (hop : o.op = .mapUpdate t m k x ∨ o.op = .insert t m k x)
  (hg : ar (aJ ops) s o = .go gl) (hd : ∀ d, o.dst = some d → d < s.sz) (h : cL s gl o.dst .one (.mapUpdate t) [m, k, x] = some (z, fp)) : Sound P ops o s z := by
 unfold cL at h
 split at h
 ·rename_i hgl
  have : gl = [] := by simpa using hgl
  subst this
  simp only [Option.bind_eq_some_iff] at h
  obtain ⟨⟨as, cs⟩, hx, h⟩ := h
  refine bM rfl hg hd h ?_
  intro F H O a w hc hcs H1 O1 R hT F1 hm next Q hn
  have e := bS hc hx hcs trivial
  obtain ⟨v, w', H', O', hr, hR, hle, hm'⟩ := hT w F1 hm
  have hn' := hn v w' H' O' hR hle hm'
  rw [hdst] at hn'
  unfold Oper.wp
  have hs : (PrimOp.mapUpdate t).sem (as.map At.den) = (do Instr.mapUpdate t (a.eval m) (a.eval k) (a.eval x); pure (.value (.bool false)) : Sem Next) := by
   rw [← e]; rfl
  rw [hs, Sem.run_bind] at hr
  have hex : (execOp a.eval o).run P w = ((Instr.mapUpdate t (a.eval m) (a.eval k) (a.eval x)).run P w).andThen fun _ w' => .ok .skip w' := by
   rcases hop with hop | hop
   ·simp only [execOp, hop, Sem.run_bind, Sem.run_pure]
   ·simp only [execOp, hop, Sem.run_bind, Sem.run_pure]
  rw [hex]
  cases hmu : (Instr.mapUpdate t (a.eval m) (a.eval k) (a.eval x)).run P w with
  | ok u w1 =>
   rw [hmu] at hr
   simp only [Result.andThen_ok, Sem.run_pure, Result.ok.injEq] at hr
   obtain ⟨_, rfl⟩ := hr
   rw [Result.andThen_ok, Oper.upon_skip, hdst]
   exact hn'
  | halt u w1 => rw [hmu] at hr; simp at hr
 ·simp at h
theorem lG (vs : List Value) : ∀ (l : List At) (i : Nat), AllCk (qF vs l i) → ∀ j a, l[j]? = some a → g vs (i + j) = a.den
 | [], _, _, j, a, h => by simp at h
 | b :: r, i, hc, 0, a, h => by simp at h; subst h; exact hc.1
 | b :: r, i, hc, j + 1, a, h => by
  have := lG vs r (i + 1) hc.2 j a (by simpa using h)
  rwa [show i + 1 + j = i + (j + 1) by omega] at this
theorem nh {x : At} : ∀ {offs : List Nat} {l : List At}, ni x offs = some l → l.all (fun a => match a with | .p .. => true | _ => false) = true
 | [], l, h => by simp only [ni, Option.some.injEq] at h; subst h; rfl
 | o :: r, l, h => by
  simp only [ni] at h
  split at h
  ·rename_i hl
   simp only [Option.some.injEq] at h; subst h
   simp [nh hl]
  ·simp at h
theorem vB {c : Call} {x : Operand} {m : String} {x' : At} {as : List S1} {cx ca : List Ck} {z : NF} {fp : FP}
  (hop : o.op = .call c) (hcal : c.callee = .invoke x m) (hx : dh s [] x = some (x', cx)) (ha : fA s [] c.args.toList = some (as, ca))
  (hg : ar (aJ ops) s o = .go []) (hd : ∀ d, o.dst = some d → d < s.sz) (h : nL P s o.dst o.type m x' as (cx ++ ca) = some (z, fp)) : Sound P ops o s z := by
 have ev : ∀ {F H O a w}, Conc F s H O a w → AllCk (cx ++ ca) → a.eval x = x'.den ∧ c.args.map a.eval = (as.map S1.den).toArray := by
  intro F H O a w hc hcs
  rw [AllCk.append] at hcs
  have e := hP hc ha hcs.2 trivial
  exact ⟨ay hc hx hcs.1 trivial, by rw [← e]; apply Array.ext'; simp⟩
 unfold nL at h
 simp only [Option.bind_eq_some_iff] at h
 obtain ⟨shp, hshp, h⟩ := h
 have hv : ∀ {y : Value} {atoms : List At} {z : NF} {fp : FP}, x'.den = y → bD s o.dst shp (.callm m y (as.map S1.den)) atoms (cx ++ ca) = some (z, fp) → Sound P ops o s z := by
  intro y atoms z fp hy h
  refine bM rfl hg hd h ?_
  rintro F H O a w hc hcs H1 O1 R ⟨f, r, hfm, hokn, hT⟩ F1 hm next Q hn
  obtain ⟨e1, e2⟩ := ev hc hcs
  refine mr hT hm ?_ hn
  rw [Af hop hcal (by rw [e1, hy]) hfm hokn w, e2]
  congr 2
  apply Array.ext'; simp
 split at h
 ·exact hv rfl h
 ·exact hv rfl h
 ·simp at h
theorem vP {okf : FuncId → Bool} {rules : FuncId → Option (List Nat)} {c : Call} {f : Operand} {f' : At} {as : List S1} {cf ca : List Ck} {z : NF} {fp : FP} (hokf : ∀ f, okf f = true → gU P f)
  (hop : o.op = .call c) (hcal : c.callee = .value f) (hf : dh s [] f = some (f', cf)) (ha : fA s [] c.args.toList = some (as, ca))
  (hg : ar (aJ ops) s o = .go []) (hd : ∀ d, o.dst = some d → d < s.sz) (h : ox P okf rules s o.dst o.type f' as (cf ++ ca) = some (z, fp)) : Sound P ops o s z := by
 have ev : ∀ {F H O a w}, Conc F s H O a w → AllCk (cf ++ ca) → a.eval f = f'.den ∧ c.args.map a.eval = (as.map S1.den).toArray := by
  intro F H O a w hc hcs
  rw [AllCk.append] at hcs
  have e := hP hc ha hcs.2 trivial
  exact ⟨ay hc hf hcs.1 trivial, by rw [← e]; apply Array.ext'; simp⟩
 unfold ox at h
 simp only [Option.bind_eq_some_iff] at h
 obtain ⟨shp, hshp, h⟩ := h
 have hv : ∀ {x : Value} {atoms : List At} {z : NF} {fp : FP}, f'.den = x → bD s o.dst shp (.callv x (as.map S1.den)) atoms (cf ++ ca) = some (z, fp) → Sound P ops o s z := by
  intro x atoms z fp hx h
  refine bM rfl hg hd h ?_
  rintro F H O a w hc hcs H1 O1 R ⟨n, caps, hfv, hokn, hT⟩ F1 hm next Q hn
  obtain ⟨e1, e2⟩ := ev hc hcs
  have e1' : a.eval f = .func (.func n) #[] caps := by rw [e1, hx, hfv]
  refine mr hT hm ?_ hn
  rw [mG hop hcal e1' hokn w, e2]
  congr 2
  apply Array.ext'; simp
 split at h
 ·rename_i n caps
  split at h
  ·split at h
   ·rename_i hce
    have hcaps : caps = [] := by simpa using hce
    subst hcaps
    refine bM rfl hg hd h ?_
    intro F H O a w hc hcs H1 O1 R hT F1 hm next Q hn
    obtain ⟨e1, e2⟩ := ev hc hcs
    have e1' : a.eval f = .func (.func n) #[] #[] := e1
    refine kX hT hm ?_ hn
    simp only [execOp, hop, resolve, hcal, e1', Deferred.ofValue, Sem.run_bind, Sem.run_pure, Result.andThen_ok, invoke, Array.empty_append, Array.append_empty, PrimOp.sem, e2]
   ·simp at h
  ·rename_i hok
   have hokn : gU P n := hokf n (by simpa using hok)
   have hh : ∀ {atoms : List At} {z : NF} {fp : FP}, bD s o.dst shp (.call n (as.map S1.den ++ caps.map Cp.den)) atoms (cf ++ ca) = some (z, fp) → Sound P ops o s z := by
    intro atoms z fp h
    refine bM rfl hg hd h ?_
    intro F H O a w hc hcs H1 O1 R hT F1 hm next Q hn
    obtain ⟨e1, e2⟩ := ev hc hcs
    refine mr hT hm ?_ hn
    rw [mG hop hcal e1 hokn w, e2]
    congr 2
    apply Array.ext'; simp
   split at h
   ·rename_i offs x hce hru hone
    have hcaps : caps = [] := by simpa using hce
    subst hcaps
    have has := fM hone
    subst has
    simp only [Option.bind_eq_some_iff] at h
    obtain ⟨l, hl, h⟩ := h
    split at h
    ·rename_i hagg
     simp only [Option.some.injEq, Prod.mk.injEq] at h
     obtain ⟨rfl, _⟩ := h
     have hshape : shp = .agg l.length := by
      cases shp <;> simp [Shp.isAgg] at hagg
      rw [hagg]
     subst hshape
     refine ut (hk := .call n [x.den]) (frz := []) (own := []) (shp := .agg l.length) (post := fun vs => qF vs l 0) (cs := cf ++ ca) (sv := fun _ => .s (.agg l)) hg hd (by simp) (by simp) (by simp) ?_ ?_
     ·intro v vs _ hopn hones hpost
      have hallp := nh hl
      refine ⟨?_, ?_⟩
      ·show v = .agg (l.map At.den).toArray
       cases v with
       | agg cells =>
        simp only [Shp.open] at hopn
        split at hopn
        ·rename_i hsz
         simp only [Option.some.injEq] at hopn; subst hopn
         congr 1
         apply Array.ext'
         apply List.ext_getElem?
         intro j
         simp only [List.toList_toArray, List.getElem?_map]
         by_cases hj : j < l.length
         ·have hp := lG cells.toList l 0 hpost j l[j] (by simp [hj])
          simp only [Nat.zero_add, g] at hp
          rw [List.getElem?_eq_getElem (by simp; omega), List.getElem?_eq_getElem hj]
          simp only [Option.map_some]
          rw [← hp]
          have hjc : j < cells.size := by omega
          simp [List.getD, hjc]
         ·rw [List.getElem?_eq_none (by simp; omega), List.getElem?_eq_none (by omega)]; rfl
        ·simp at hopn
       | _ => simp [Shp.open] at hopn
      ·intro a ha'
       rw [List.all_eq_true] at hallp
       have := hallp a ha'
       cases a <;> simp at this
       trivial
     ·intro F H O a w hc hcs H1 O1 R hT F1 hm next Q hn
      obtain ⟨e1, e2⟩ := ev hc hcs
      refine mr hT hm ?_ hn
      rw [mG hop hcal e1 hokn w, e2]
      rfl
    ·simp at h
   ·exact hh h
 ·exact hv rfl h
 ·exact hv rfl h
 ·simp at h
theorem vy {okf : FuncId → Bool} {rules : FuncId → Option (List Nat)} {sp : Bool} {name : Nat} {y : NF} {fp : FP} (hokf : ∀ f, okf f = true → gU P f)
  (hg : ar (aJ ops) s o = .go gl) (hd : ∀ d, o.dst = some d → d < s.sz) (h : vW P okf rules sp name o gl s = some (y, fp)) : Sound P ops o s y := by
 unfold vW at h
 split at h
 ·rename_i x hop; exact pz (fun a w => by simp [execOp, hop]) hg hd h
 ·rename_i x hop; exact pz (fun a w => by simp [execOp, hop]) hg hd h
 ·rename_i c a b hop; exact vp hop hg hd h
 ·rename_i T hop
  simp only [Option.bind_eq_some_iff] at h
  obtain ⟨cells, hz, h⟩ := h
  obtain ⟨z, hzr, hzc, hzk, hzo⟩ := fE hz
  refine gB hg hd h (fun _ => trivial) (fun _ => rfl) (fun _ => hzo) ?_
  intro F H O a w hc hcs hgl
  refine ⟨cells.map At.den, CellsRel.map cells, ?_⟩
  have hzc' : z.cells = (cells.map At.den).toArray := by rw [← hzc]
  simp only [execOp, hop, Instr.alloc, Sem.run_bind, hzr, Result.andThen_ok, newVar, newRow, hzc', run_newObj, Sem.run_pure]
  rfl
 ·rename_i T x hop
  simp only [Option.bind_eq_some_iff] at h
  obtain ⟨⟨v, cs⟩, hx, h⟩ := h
  simp only [] at h
  split at h
  ·rename_i hfit
   refine gB hg hd h (fun _ => trivial) (fun _ => rfl) (fun hs => de hs hx) ?_
   intro F H O a w hc hcs hgl
   subst hgl
   refine ⟨v.cells.map At.den, CellsRel.map v.cells, ?_⟩
   have e := cV hc hx hcs trivial
   simp only [execOp, hop, e, Instr.box, Sem.run_bind, Result.andThen_ok, newVar, newRow, ot hfit (de hc.ok hx), run_newObj, Sem.run_pure]
   rfl
  ·simp at h
 ·rename_i T parts hop; exact uh hop hg hd h
 ·rename_i T len parts hop; exact mq hop hg hd h
 ·rename_i t x hop
  simp only [Option.bind_eq_some_iff] at h
  obtain ⟨⟨x', cs⟩, hx, h⟩ := h
  exact sy hop hx hg hd h
 ·rename_i t x y' hop
  split at h
  ·rename_i hcond
   simp only [Bool.and_eq_true, List.isEmpty_iff, Option.isNone_iff_eq_none] at hcond
   obtain ⟨rfl, hdst⟩ := hcond
   simp only [Option.bind_eq_some_iff] at h
   obtain ⟨⟨x', cs⟩, hx, ⟨y1, cs'⟩, hy, h⟩ := h
   exact qt hop hdst hx hy hg h
  ·simp at h
 ·rename_i x hop
  simp only [Option.bind_eq_some_iff] at h
  obtain ⟨⟨x', cs⟩, hx, h⟩ := h
  exact xe hop hx hg hd h
 ·rename_i op t x y' yt hop; exact yk hop hg hd h
 ·rename_i op t x hop
  simp only [Option.bind_eq_some_iff] at h
  obtain ⟨⟨x', cs⟩, hx, h⟩ := h
  exact yD hop hx hg hd h
 ·rename_i a b x hop
  simp only [Option.bind_eq_some_iff] at h
  obtain ⟨⟨x', cs⟩, hx, h⟩ := h
  exact vL hop hx hg hd h
 ·rename_i t x hop; exact tU hop hg hd h
 ·rename_i f first caps hop
  split at h
  ·rename_i hf
   simp only [Option.bind_eq_some_iff] at h
   obtain ⟨⟨as, cs⟩, hx, l, hl, h⟩ := h
   exact vH hop hf hx hl hg hd h
  ·simp at h
 ·rename_i t x f hop
  simp only [Option.bind_eq_some_iff] at h
  obtain ⟨fd, hfd, m, hm, h⟩ := h
  split at h
  ·simp at h
  ·rename_i hm0
   simp only [Option.bind_eq_some_iff] at h
   obtain ⟨⟨x', cs⟩, hx, ⟨a', c⟩, hmv, h⟩ := h
   obtain ⟨h1, h2⟩ := nJ hmv
   refine aB hg hd h (fun hs hcs => cM (h1 (AllCk.append.1 hcs).1 (nB hs hx))) ?_
   intro F H O a w hc hcs hon
   rw [AllCk.append] at hcs
   have e := ay hc hx hcs.2 hon
   obtain ⟨ad, hxd, had⟩ := h2 hcs.1 hon
   simp only [execOp, hop, e, hxd, Sem.run_bind, tw hfd hm hm0, Result.andThen_ok, Sem.run_pure, S1.den, had]
 ·rename_i t x f hop
  simp only [Option.bind_eq_some_iff] at h
  obtain ⟨fd, hfd, ⟨x', cs⟩, hx, v, hv, h⟩ := h
  split at h
  ·rename_i hagg
   obtain ⟨m, hm⟩ := nz hv
   refine aB hg hd h (fun hs _ a ha => de hs hx a (pu hv a ha)) ?_
   intro F H O a w hc hcs hon
   have e := cV hc hx hcs hon
   obtain ⟨fs, hu, hfs⟩ := lM hfd
   rcases x' with a' | l
   ·simp [S1.isAgg] at hagg
   ·have e' : a.eval x = .agg (l.map At.den).toArray := e
    have hp := uv hv w hm
    simp only [execOp, hop, e', Instr.field, Sem.run_bind, al hu, Result.andThen_ok, hfs, asAgg, Sem.run_pure]
    simp only [S1.cells] at hp
    rw [hp]; rfl
  ·simp at h
 ·rename_i t x i hop
  simp only [Option.bind_eq_some_iff] at h
  obtain ⟨⟨as, cs⟩, hx, ⟨x', i'⟩, h2, h⟩ := h
  have := jO h2
  subst this
  exact nX hop hx hg hd h
 ·rename_i t x i hop
  simp only [Option.bind_eq_some_iff] at h
  obtain ⟨⟨x', cs⟩, hx, ⟨i', cs'⟩, hi, h⟩ := h
  exact tR hop hx hi hg hd h
 ·rename_i t x lo hi mx hop
  simp only [Option.bind_eq_some_iff] at h
  obtain ⟨⟨x', c0⟩, h0, ⟨l, c1⟩, h1, ⟨h', c2⟩, h2, ⟨m, c3⟩, h3, h⟩ := h
  exact tq hop h0 h1 h2 h3 hg hd h
 ·rename_i x i hop; exact q5 hop hg hd h
 ·rename_i c hop
  split at h
  ·rename_i b hcal; exact ri hop hcal hg hd h
  ·rename_i f hcal
   split at h
   ·rename_i hgl
    have : gl = [] := by simpa using hgl
    subst this
    simp only [Option.bind_eq_some_iff] at h
    obtain ⟨⟨f', cf⟩, hf, ⟨as, ca⟩, ha, h⟩ := h
    exact vP hokf hop hcal hf ha hg hd h
   ·simp at h
  ·rename_i x m hcal
   split at h
   ·rename_i hgl
    have : gl = [] := by simpa using hgl
    subst this
    simp only [Option.bind_eq_some_iff] at h
    obtain ⟨⟨x', cx⟩, hx, ⟨as, ca⟩, ha, h⟩ := h
    exact vB hop hcal hx ha hg hd h
   ·simp at h
 ·rename_i t l c hop
  cases hl : jc l with
  | none =>
   unfold cD at h
   simp only [hl] at h
   refine dk hg hd h ?_
   rintro a vs w rfl
   simp only [execOp, hop, PrimOp.sem, List.map_cons, List.map_nil]
  | some n =>
   cases hc : jc c with
   | none =>
    unfold cD at h
    simp only [hl, hc] at h
    refine dk hg hd h ?_
    rintro a vs w rfl
    simp only [execOp, hop, PrimOp.sem, List.map_cons, List.map_nil]
   | some m =>
    by_cases hu : ∃ e, P.underlying t = some (.slice e)
    ·obtain ⟨e, hu⟩ := hu
     exact nN hop hg hd hl hc hu h
    ·unfold cD at h
     split at h
     ·rename_i e1 e2 hu'
      exact absurd ⟨_, hu'⟩ hu
     ·refine dk hg hd h ?_
      rintro a vs w rfl
      simp only [execOp, hop, PrimOp.sem, List.map_cons, List.map_nil]
 ·rename_i t r hop
  refine dk hg hd h ?_
  rintro a vs w rfl
  cases r <;> simp only [execOp, hop, PrimOp.sem, Option.toList, List.map_cons, List.map_nil, Option.isSome_none, Option.isSome_some, Option.map_none, Option.map_some]
 ·rename_i t x i ok hop
  refine dk hg hd h ?_
  rintro a vs w rfl
  simp only [execOp, hop, PrimOp.sem, List.map_cons, List.map_nil]
 ·rename_i t m k x hop
  split at h
  ·rename_i hdst
   exact ie (by simpa using hdst) (.inl hop) hg hd h
  ·simp at h
 ·rename_i t m k x hop
  split at h
  ·rename_i hdst
   exact ie (by simpa using hdst) (.inr hop) hg hd h
  ·simp at h
 ·rename_i t x hop
  refine dk hg hd h ?_
  rintro a vs w rfl
  simp only [execOp, hop, PrimOp.sem, List.map_cons, List.map_nil]
 ·rename_i x hop
  refine dk hg hd h ?_
  rintro a vs w rfl
  simp only [execOp, hop, PrimOp.sem, List.map_cons, List.map_nil]
 ·rename_i x str hop
  refine dk hg hd h ?_
  rintro a vs w rfl
  simp only [execOp, hop, PrimOp.sem, List.map_cons, List.map_nil]
 ·simp at h
theorem j1 {okf : FuncId → Bool} {rules : FuncId → Option (List Nat)} {sp : Bool} {name : Nat} {y : NF} {fp : FP} (hokf : ∀ f, okf f = true → gU P f)
  (h : nf P okf rules (aJ ops) sp name o s = some (y, fp)) : Sound P ops o s y := by
 unfold nf at h
 split at h
 ·simp at h
 ·rename_i hdst
  have hd : ∀ d, o.dst = some d → d < s.sz := by
   intro d hd
   simp only [hd, kh, Bool.not_eq_true', decide_eq_false_iff_not, Decidable.not_not] at hdst
   exact hdst
  split at h
  ·simp at h
  ·rename_i hg
   simp only [Option.some.injEq, Prod.mk.injEq] at h
   obtain ⟨rfl, _⟩ := h
   exact u9 hg hd
  ·rename_i gl hg
   exact vy hokf hg hd h
variable {P : Program} {s s' : SS} {gl : List (At × Bool)}
def Ea (s s' : SS) (x : Operand) : Prop := ∀ t, x = .tmp t → s'.tmps t = s.tmps t
theorem bR {x : Operand} (h : Ea s s' x) : gP s' gl x = gP s gl x := by
 cases x with
 | tmp t => simp only [gP, h t rfl]
 | _ => rfl
theorem aA {x : Operand} (h : Ea s s' x) : dh s' gl x = dh s gl x := by
 simp only [dh, bR h]
theorem aK : ∀ {xs : List Operand}, (∀ x ∈ xs, Ea s s' x) → bI s' gl xs = bI s gl xs
 | [], _ => rfl
 | x :: r, h => by simp only [bI, aA (h x (by simp)), aK (xs := r) (fun y hy => h y (by simp [hy]))]
theorem eH : ∀ {xs : List Operand}, (∀ x ∈ xs, Ea s s' x) → fA s' gl xs = fA s gl xs
 | [], _ => rfl
 | x :: r, h => by simp only [fA, bR (h x (by simp)), eH (xs := r) (fun y hy => h y (by simp [hy]))]
theorem eJ {place : Nat → Option (Nat × Nat)} : ∀ {parts : List (Nat × Operand)} {cells : List At}, (∀ p ∈ parts, Ea s s' p.2) →
  bV s' gl place parts cells = bV s gl place parts cells
 | [], _, _ => rfl
 | (i, x) :: r, cells, h => by
  have h1 := bR (gl := gl) (h (i, x) (by simp))
  simp only [] at h1
  simp only [bV, h1]
  split
  ·split
   ·rw [eJ (fun p hp => h p (by simp [hp]))]
   ·rfl
  ·rfl
theorem eF : ∀ (fuel : Nat) (r acc : List Nat), (∀ n ∈ acc, n ∈ cn s fuel r acc)
 | 0, r, acc, n, h => by cases r <;> simp [cn, h]
 | fuel + 1, [], acc, n, h => by simpa [cn] using h
 | fuel + 1, m :: r, acc, n, h => by
  simp only [cn]
  split
  ·exact eF fuel _ _ n h
  ·split
   ·exact eF fuel _ _ n (by simp [h])
   ·exact eF fuel _ _ n (by simp [h])
theorem ee : ∀ (fuel : Nat) (r acc : List Nat), (∀ n ∈ cn s fuel r acc, s'.mem n = s.mem n) → cn s' fuel r acc = cn s fuel r acc
 | 0, r, acc, _ => by cases r <;> simp [cn]
 | fuel + 1, [], acc, _ => by simp [cn]
 | fuel + 1, m :: r, acc, h => by
  simp only [cn] at h ⊢
  split
  ·rename_i hc
   simp only [hc, if_true] at h
   exact ee fuel _ _ h
  ·rename_i hc
   simp only [hc] at h
   have hm : s'.mem m = s.mem m := by
    apply h
    simp only [Bool.false_eq_true, if_false]
    split
    ·exact eF fuel _ _ m (by simp)
    ·exact eF fuel _ _ m (by simp)
   rw [hm]
   cases hs : s.mem m with
   | none => simp only [hs, Bool.false_eq_true, if_false] at h; exact ee fuel _ _ h
   | some b => simp only [hs, Bool.false_eq_true, if_false] at h; exact ee fuel _ _ h
theorem fL : ∀ (fuel : Nat) (r acc : List Nat), (∀ n ∈ acc, n ∈ cP s fuel r acc)
 | 0, r, acc, n, h => by cases r <;> simp [cP, h]
 | fuel + 1, [], acc, n, h => by simpa [cP] using h
 | fuel + 1, m :: r, acc, n, h => by
  simp only [cP]
  split
  ·exact fL fuel _ _ n h
  ·split
   ·exact fL fuel _ _ n (by simp [h])
   ·exact fL fuel _ _ n (by simp [h])
theorem eU : ∀ (fuel : Nat) (r acc : List Nat), (∀ n ∈ cP s fuel r acc, s'.mem n = s.mem n) → cP s' fuel r acc = cP s fuel r acc
 | 0, r, acc, _ => by cases r <;> simp [cP]
 | fuel + 1, [], acc, _ => by simp [cP]
 | fuel + 1, m :: r, acc, h => by
  simp only [cP] at h ⊢
  split
  ·rename_i hc
   simp only [hc, if_true] at h
   exact eU fuel _ _ h
  ·rename_i hc
   simp only [hc] at h
   have hm : s'.mem m = s.mem m := by
    apply h
    simp only [Bool.false_eq_true, if_false]
    split
    ·exact fL fuel _ _ m (by simp)
    ·exact fL fuel _ _ m (by simp)
   rw [hm]
   cases hs : s.mem m with
   | none => simp only [hs, Bool.false_eq_true, if_false] at h; exact eU fuel _ _ h
   | some b => simp only [hs, Bool.false_eq_true, if_false] at h; exact eU fuel _ _ h
theorem gW : ∀ (l acc : List Nat), (∀ n ∈ l, s'.mem n = s.mem n) → dU s' l acc = dU s l acc
 | [], _, _ => rfl
 | n :: r, acc, h => by
  simp only [dU, h n (by simp)]
  exact gW r _ (fun m hm => h m (by simp [hm]))
theorem ig {l : List Nat} (h : ∀ n ∈ l, s'.mem n = s.mem n) : dz s' l = dz s l := by
 unfold dz
 induction l with
 | nil => rfl
 | cons n r ih => simp only [List.filterMap_cons, h n (by simp), ih (fun m hm => h m (by simp [hm]))]
theorem aT {dst : Option Tmp} {shp : Shp} {hk : HK} {atoms : List At} {cs : List Ck} {y : NF} {fp : FP} (h : bD s dst shp hk atoms cs = some (y, fp))
  (hm : ∀ n ∈ fp.reads, s'.mem n = s.mem n) : bD s' dst shp hk atoms cs = some (y, fp) := by
 have hr : fp.reads = cP s 50 (dH atoms []) [] ++ cn s 50 (dU s (cP s 50 (dH atoms []) []) (dw atoms [])) [] := by
  unfold bD at h
  simp only [] at h
  split at h
  ·simp only [Option.some.injEq, Prod.mk.injEq] at h; rw [← h.2]
  ·simp at h
 rw [hr] at hm
 have h1 : cP s' 50 (dH atoms []) [] = cP s 50 (dH atoms []) [] := eU _ _ _ (fun n hn => hm n (by simp [hn]))
 have h2 := gW (s := s) (s' := s') (cP s 50 (dH atoms []) []) (dw atoms []) (fun n hn => hm n (by simp [hn]))
 have h3 := ee (s := s) (s' := s') 50 (dU s (cP s 50 (dH atoms []) []) (dw atoms [])) [] (fun n hn => hm n (by simp [hn]))
 rw [← h]
 unfold bD
 simp only [h1, h2, h3]
 rw [ig (s := s) (s' := s') (l := cn s 50 (dU s (cP s 50 (dH atoms []) []) (dw atoms [])) []) (fun n hn => hm n (by simp [hn]))]
 rw [ig (s := s) (s' := s') (l := List.filter _ _) (fun n hn => hm n (by simp only [List.mem_append]; exact .inl (List.mem_filter.1 hn).1))]
theorem sA {dst : Option Tmp} {t : TypeId} {x : At} {cs : List Ck} {y : NF} {fp : FP} (h : j7 P s gl dst t x cs = some (y, fp))
  (hm : ∀ n ∈ fp.reads, s'.mem n = s.mem n) : j7 P s' gl dst t x cs = some (y, fp) := by
 cases x with
 | p n r off =>
  have hn : s'.mem n = s.mem n := by
   apply hm
   unfold j7 at h
   simp only [Option.bind_eq_some_iff] at h
   obtain ⟨m, _, h⟩ := h
   split at h
   ·split at h
    ·simp only [Option.map_eq_some_iff, Prod.mk.injEq] at h
     obtain ⟨_, _, _, rfl⟩ := h
     simp
    ·simp at h
   ·split at h
    ·simp at h
    ·simp only [Option.some.injEq, Prod.mk.injEq] at h
     obtain ⟨_, rfl⟩ := h
     simp [wO]
  rw [← h]; simp only [j7, hn]
 | _ => rw [← h]; simp only [j7]
theorem qu {t : TypeId} {x : At} {z : S1} {cs : List Ck} {y : NF} {fp : FP} (h : ga P s t x z cs = some (y, fp))
  (hm : ∀ n ∈ fp.reads, s'.mem n = s.mem n) : ga P s' t x z cs = some (y, fp) := by
 cases x with
 | p n r off =>
  have hn : s'.mem n = s.mem n := by
   apply hm
   unfold ga at h
   simp only [Option.bind_eq_some_iff] at h
   obtain ⟨m, _, h⟩ := h
   split at h
   ·simp at h
   ·split at h
    ·split at h
     ·simp only [Option.some.injEq, Prod.mk.injEq] at h
      obtain ⟨_, rfl⟩ := h
      simp
     ·simp at h
    ·simp at h
  rw [← h]; simp only [ga, hn]
 | _ => rw [← h]; simp only [ga]
theorem eo {dst : Option Tmp} {name : Nat} {T : TypeId} {cells : List At} {val : Nat → At} {cs : List Ck} {y : NF} {fp : FP} (h : d5 s gl dst name T cells val cs = some (y, fp))
  (hm : ∀ n ∈ fp.reads, s'.mem n = s.mem n) : d5 s' gl dst name T cells val cs = some (y, fp) := by
 have hn : s'.mem name = s.mem name := by
  apply hm
  unfold d5 at h
  split at h
  ·simp only [Option.some.injEq, Prod.mk.injEq] at h; rw [← h.2]; simp
  ·simp at h
 rw [← h]; simp only [d5, hn]
theorem bZ {dst : Option Tmp} {shp : Shp} {op : PrimOp} {xs : List Operand} {y : NF} {fp : FP} (hx : ∀ x ∈ xs, Ea s s' x) (h : cL s gl dst shp op xs = some (y, fp))
  (hm : ∀ n ∈ fp.reads, s'.mem n = s.mem n) : cL s' gl dst shp op xs = some (y, fp) := by
 unfold cL at h ⊢
 split at h
 ·rename_i hg
  rw [if_pos hg, aK hx]
  simp only [Option.bind_eq_some_iff] at h ⊢
  obtain ⟨a, ha, h⟩ := h
  exact ⟨a, ha, aT h hm⟩
 ·simp at h
theorem ao {α β : Type} {x x' : Option α} {f f' : α → Option β} {y : β} (h : x.bind f = some y) (hx : x' = x) (hf : ∀ a, x = some a → f a = some y → f' a = some y) : x'.bind f' = some y := by
 subst hx
 simp only [Option.bind_eq_some_iff] at h ⊢
 obtain ⟨a, ha, h⟩ := h
 exact ⟨a, ha, hf a ha h⟩
theorem lH {dst : Option Tmp} {sp : Bool} {x : Operand} (hx : Ea s s' x) : ia s' gl dst sp x = ia s gl dst sp x := by
 unfold ia
 rw [aA hx, bR hx]
 cases x with
 | tmp t => simp only [hx t rfl]
 | _ => rfl
theorem sd {dst : Option Tmp} {c a b : Operand} (hc : Ea s s' c) (ha : Ea s s' a) (hb : Ea s s' b) : ny s' gl dst c a b = ny s gl dst c a b := by
 unfold ny
 rw [aA hc]
 simp only [aA ha, aA hb, bR ha, bR hb]
theorem od {dst : Option Tmp} {x : Operand} {i : Nat} (hx : Ea s s' x) : cQ s' gl dst x i = cQ s gl dst x i := by
 unfold cQ
 cases x with
 | tmp t => simp only [hx t rfl]
 | _ => rfl
theorem tP {dst : Option Tmp} {ty t : TypeId} {x : At} {cs : List Ck} {y : NF} {fp : FP} (h : xp P s gl dst ty t x cs = some (y, fp))
    (hm : ∀ n ∈ fp.reads, s'.mem n = s.mem n) : xp P s' gl dst ty t x cs = some (y, fp) := by
  unfold xp at h ⊢
  split at h <;> first
    | exact h
    | (split at h
       · exact h
       · exact h)
    | (split at h
       · rename_i hg; rw [if_pos hg]; exact aT h hm
       · simp at h; done)
    | (simp at h; done)
theorem oz {dst : Option Tmp} {ty : TypeId} {b : Builtin} {ats : Array TypeId} {args : List Operand} {y : NF} {fp : FP} (hx : ∀ x ∈ args, Ea s s' x)
    (h : eN P s gl dst ty b ats args = some (y, fp)) (hm : ∀ n ∈ fp.reads, s'.mem n = s.mem n) : eN P s' gl dst ty b ats args = some (y, fp) := by
  have heavy : ∀ (b : Builtin) (sh : Shp), (if gl.isEmpty then (bI s gl args).bind fun (as, cs) => bD s dst sh (.prim (.bi b ats ty) (as.map At.den)) as cs else none) = some (y, fp) →
      (if gl.isEmpty then (bI s' gl args).bind fun (as, cs) => bD s' dst sh (.prim (.bi b ats ty) (as.map At.den)) as cs else none) = some (y, fp) := by
    intro b sh h
    split at h
    · rename_i hg
      rw [if_pos hg]
      exact ao h (aK hx) fun _ _ h => aT h hm
    · simp at h
  cases b <;> simp only [eN] at h ⊢ <;> first
    | exact heavy _ _ h
    | (simp at h; done)
    | (refine ao h rfl fun t _ h => ao h rfl fun x hx' h => ?_
       have : args = [x] := fM hx'
       subst this
       refine ao h (aA (hx x (by simp))) fun a _ h => ?_
       first
         | exact tP h hm
         | exact h)
    | (refine ao h rfl fun p hp h => ?_
       obtain ⟨x, y⟩ := p
       have : args = [x, y] := jO hp
       subst this
       exact ao h (aK hx) fun a _ h => h)
theorem sY {okf : FuncId → Bool} {rules : FuncId → Option (List Nat)} {dst : Option Tmp} {ty : TypeId} {f : At} {as : List S1} {cs : List Ck} {y : NF} {fp : FP}
  (h : ox P okf rules s dst ty f as cs = some (y, fp)) (hm : ∀ n ∈ fp.reads, s'.mem n = s.mem n) : ox P okf rules s' dst ty f as cs = some (y, fp) := by
 unfold ox at h ⊢
 refine ao h rfl fun shp _ h => ?_
 cases f with
 | clo n caps =>
  simp only [] at h ⊢
  split at h
  ·rename_i hok
   rw [if_pos hok]
   split at h
   ·rename_i hc; rw [if_pos hc]; exact aT h hm
   ·simp at h
  ·rename_i hok
   rw [if_neg hok]
   split at h
   ·exact h
   ·exact aT h hm
 | v x => exact aT h hm
 | k x => exact aT h hm
 | _ => simp at h
theorem sq {dst : Option Tmp} {ty : TypeId} {m : String} {x : At} {as : List S1} {cs : List Ck} {y : NF} {fp : FP}
  (h : nL P s dst ty m x as cs = some (y, fp)) (hm : ∀ n ∈ fp.reads, s'.mem n = s.mem n) : nL P s' dst ty m x as cs = some (y, fp) := by
 unfold nL at h ⊢
 refine ao h rfl fun shp _ h => ?_
 cases x with
 | v x => exact aT h hm
 | k x => exact aT h hm
 | _ => simp at h
theorem uj {dst : Option Tmp} {op : BinOp} {t : TypeId} {x z : Operand} {y : NF} {fp : FP} (hx : ∀ u ∈ [x, z], Ea s s' u) (h : s4 P s gl dst op t x z = some (y, fp)) : s4 P s' gl dst op t x z = some (y, fp) := by
 rw [← h]
 simp only [s4, aK hx, eH hx]
theorem sR {dst : Option Tmp} {a b : TypeId} {x : At} {cs : List Ck} {y : NF} {fp : FP} (h : oq P s gl dst a b x cs = some (y, fp))
  (hm : ∀ n ∈ fp.reads, s'.mem n = s.mem n) : oq P s' gl dst a b x cs = some (y, fp) := by
 unfold oq at h ⊢
 split at h
 ·exact h
 ·split at h
  ·rename_i hg; rw [if_pos hg]; exact aT h hm
  ·simp at h
theorem qW {dst : Option Tmp} {t : TypeId} {x : Operand} {y : NF} {fp : FP} (hx : Ea s s' x) (h : jw P s gl dst t x = some (y, fp)) (hm : ∀ n ∈ fp.reads, s'.mem n = s.mem n) : jw P s' gl dst t x = some (y, fp) := by
 unfold jw at h ⊢
 split at h
 ·simp at h
 ·simp at h
 ·refine ao h (bR hx) fun v _ h => ?_
  obtain ⟨v, cs⟩ := v
  simp only at h ⊢
  by_cases hc : (dH v.cells (dw v.cells [])).isEmpty = true
  ·rw [if_pos hc] at h ⊢; exact h
  ·rw [if_neg hc] at h ⊢
   by_cases hg : gl.isEmpty = true
   ·rw [if_pos hg] at h ⊢; exact aT h hm
   ·rw [if_neg hg] at h; cases h
theorem rj {dst : Option Tmp} {T : TypeId} {parts : List (Nat × Operand)} (hx : ∀ p ∈ parts, Ea s s' p.2) : jI P s' gl dst T parts = jI P s gl dst T parts := by
 simp only [jI, eJ hx]
theorem ku {dst : Option Tmp} {name len : Nat} {T : TypeId} {parts : List (Nat × Operand)} {y : NF} {fp : FP} (hx : ∀ p ∈ parts, Ea s s' p.2) (h : cF P s gl dst name T len parts = some (y, fp))
  (hm : ∀ n ∈ fp.reads, s'.mem n = s.mem n) : cF P s' gl dst name T len parts = some (y, fp) := by
 unfold cF at h ⊢
 split at h
 ·refine ao h rfl fun size _ h => ao h rfl fun zero _ h => ?_
  split at h
  ·rename_i hc
   rw [if_pos hc]
   exact ao h (eJ hx) fun _ _ h => eo h hm
  ·simp at h
 ·simp at h
theorem vz {okf : FuncId → Bool} {rules : FuncId → Option (List Nat)} {sp : Bool} {name : Nat} {o : Oper} {y : NF} {fp : FP} (h : vW P okf rules sp name o gl s = some (y, fp))
  (hx : ∀ x ∈ o.op.operands.toList, Ea s s' x) (hm : ∀ n ∈ fp.reads, s'.mem n = s.mem n) : vW P okf rules sp name o gl s' = some (y, fp) := by
 unfold vW at h ⊢
 cases hop : o.op <;> simp only [hop, Op.operands] at h hx ⊢
 all_goals try (simp at h; done)
 case move x => rw [lH (hx x (by simp))]; exact h
 case assign x => rw [lH (hx x (by simp))]; exact h
 case pick c a b => rw [sd (hx c (by simp)) (hx a (by simp)) (hx b (by simp))]; exact h
 case alloc T => exact ao h rfl fun _ _ h => eo h hm
 case box T x =>
  refine ao h (bR (hx x (by simp))) fun a _ h => ?_
  obtain ⟨v, cs⟩ := a
  simp only [] at h ⊢
  split at h
  ·rename_i hc; rw [if_pos hc]; exact eo h hm
  ·simp at h
 case build T parts => rw [rj (fun p hp => hx p.2 (List.mem_map_of_mem hp))]; exact h
 case buildSlice T len parts => exact ku (fun p hp => hx p.2 (List.mem_map_of_mem hp)) h hm
 case load t x => exact ao h (aA (hx x (by simp))) fun _ _ h => sA h hm
 case store t x z =>
  split at h
  ·rename_i hc
   rw [if_pos hc]
   exact ao h (aA (hx x (by simp))) fun _ _ h => ao h (bR (hx z (by simp))) fun _ _ h => qu h hm
  ·simp at h
 case nilCheck x => exact ao h (aA (hx x (by simp))) fun _ _ h => h
 case binOp op t x z _ => exact uj (fun u hu => hx u (by simpa using hu)) h
 case unOp op t x => exact ao h (aA (hx x (by simp))) fun _ _ h => h
 case convert a b x => exact ao h (aA (hx x (by simp))) fun _ _ h => sR h hm
 case makeInterface t x => exact qW (hx x (by simp)) h hm
 case makeFunc f first caps =>
  cases f with
  | func f =>
   simp only [] at h ⊢
   split at h
   ·rename_i hc
    rw [if_pos hc]
    exact ao h (aK (fun x hx' => hx x (by simp at hx' ⊢; exact .inr hx'))) fun _ _ h => h
   ·simp at h
  | _ => simp at h
 case fieldAddr t x f =>
  refine ao h rfl fun _ _ h => ao h rfl fun m _ h => ?_
  split at h
  ·simp at h
  ·rename_i hc
   rw [if_neg hc]
   exact ao h (aA (hx x (by simp))) fun _ _ h => h
 case field t x f => exact ao h rfl fun _ _ h => ao h (bR (hx x (by simp))) fun _ _ h => h
 case indexAddr t x i => exact ao h (aK (fun u hu => hx u (by simpa using hu))) fun _ _ h => h
 case index t x i => exact ao h (bR (hx x (by simp))) fun _ _ h => ao h (aA (hx i (by simp))) fun _ _ h => h
 case slice t x lo hi mx =>
  refine ao h (aA (hx x (by simp))) fun _ _ h => ao h (aK (fun u hu => hx u (by simp at hu ⊢; simp [hu]))) fun _ _ h =>
   ao h (aK (fun u hu => hx u (by simp at hu ⊢; simp [hu]))) fun _ _ h => ao h (aK (fun u hu => hx u (by simp at hu ⊢; simp [hu]))) fun _ _ h => h
 case extract x i => rw [od (hx x (by simp))]; exact h
 case call c =>
  cases hc : c.callee with
  | builtin b =>
   simp only [hc] at h ⊢
   exact oz (fun x hx' => hx x (by simp only [Call.operands, hc]; simp at hx' ⊢; simp [hx'])) h hm
  | value f =>
   simp only [hc] at h ⊢
   split at h
   ·rename_i hg
    rw [if_pos hg]
    exact ao h (aA (hx f (by simp [Call.operands, hc]))) fun _ _ h => ao h (eH (fun x hx' => hx x (by simp only [Call.operands, hc]; simp at hx' ⊢; simp [hx']))) fun _ _ h => sY h hm
   ·simp at h
  | invoke f m =>
   simp only [hc] at h ⊢
   split at h
   ·rename_i hg
    rw [if_pos hg]
    exact ao h (aA (hx f (by simp [Call.operands, hc]))) fun _ _ h => ao h (eH (fun x hx' => hx x (by simp only [Call.operands, hc]; simp at hx' ⊢; simp [hx']))) fun _ _ h => sq h hm
   ·simp at h
 case makeSlice t l c =>
  unfold cD at h ⊢
  split at h
  ·refine ao h rfl fun size _ h => ao h rfl fun zero _ h => ?_
   split at h
   ·rename_i hc
    rw [if_pos hc]
    exact eo h hm
   ·simp at h
  ·exact bZ (fun x hx' => hx x (by simpa using hx')) h hm
 case makeMap t r => exact bZ (fun x hx' => hx x (by simpa using hx')) h hm
 case lookup t x i ok => exact bZ (fun u hu => hx u (by simpa using hu)) h hm
 case mapUpdate t m k x =>
  split at h
  ·rename_i hc; rw [if_pos hc]; exact bZ (fun u hu => hx u (by simpa using hu)) h hm
  ·simp at h
 case insert t m k x =>
  split at h
  ·rename_i hc; rw [if_pos hc]; exact bZ (fun u hu => hx u (by simpa using hu)) h hm
  ·simp at h
 case range t x => exact bZ (fun u hu => hx u (by simpa using hu)) h hm
 case entry x => exact bZ (fun u hu => hx u (by simpa using hu)) h hm
 case next x str => exact bZ (fun u hu => hx u (by simpa using hu)) h hm
theorem kb {tgt : Nat → Option Tmp} {o : Oper} (h : ∀ j want t, o.guard = some (j, want) → tgt j = some t → s'.tmps t = s.tmps t) : ar tgt s' o = ar tgt s o := by
 unfold ar
 cases hg : o.guard with
 | none => rfl
 | some p =>
  obtain ⟨j, want⟩ := p
  simp only []
  cases ht : tgt j with
  | none => rfl
  | some t => simp only [h j want t hg ht]
theorem qP {ops : Array Oper} {okf : FuncId → Bool} {rules : FuncId → Option (List Nat)} {sp : Bool} {name : Nat} {o : Oper} {y : NF} {fp : FP} (h : nf P okf rules (aJ ops) sp name o s = some (y, fp))
  (hz : s'.sz = s.sz) (ht : ∀ t ∈ o.looksAt ops, s'.tmps t = s.tmps t) (hm : ∀ n ∈ fp.reads, s'.mem n = s.mem n) : nf P okf rules (aJ ops) sp name o s' = some (y, fp) := by
 have hg : ar (aJ ops) s' o = ar (aJ ops) s o := by
  refine kb fun j want t h1 h2 => ht t ?_
  simp only [Oper.looksAt, h1, List.mem_append]
  right
  unfold aJ at h2
  simp [h2]
 have hx : ∀ x ∈ o.op.operands.toList, Ea s s' x := by
  rintro x hx t rfl
  refine ht t ?_
  simp only [Oper.looksAt, List.mem_append]
  left
  exact List.mem_filterMap.2 ⟨_, hx, rfl⟩
 unfold nf at h ⊢
 have hd : kh s' o.dst = kh s o.dst := by unfold kh; rw [hz]
 rw [hd, hg]
 split at h
 ·simp at h
 ·rename_i hc
  rw [if_neg hc]
  split at h
  ·simp at h
  ·exact h
  ·exact vz h hx hm
theorem SS.set_comm {s : SS} {a b : Option Nat} (h : ∀ d, a = some d → b ≠ some d) (x y : SV) : (s.set a x).set b y = (s.set b y).set a x := by
 cases a with
 | none => rfl
 | some i =>
  cases b with
  | none => rfl
  | some j =>
   have hij : i ≠ j := fun e => h i rfl (by rw [e])
   simp only [SS.set, SS.mk.injEq, true_and, and_true]
   funext t
   by_cases e : t = i
   ·subst e; simp [hij]
   ·simp [e]
theorem SS.set_setBox {s : SS} {a : Option Nat} {n : Nat} {b : Option Bx} {x : SV} : (s.set a x).setBox n b = (s.setBox n b).set a x := by
 cases a <;> rfl
theorem SS.setBox_comm {s : SS} {n m : Nat} (h : n ≠ m) (b c : Option Bx) : (s.setBox n b).setBox m c = (s.setBox m c).setBox n b := by
 simp only [SS.setBox, SS.mk.injEq, true_and, and_true]
 funext k
 by_cases e : k = n
 ·subst e; simp [h]
 ·simp [e]
theorem SS.set_tmps {s : SS} {a : Option Nat} {x : SV} {t : Nat} (h : ∀ d, a = some d → t ≠ d) : (s.set a x).tmps t = s.tmps t := by
 cases a with
 | none => rfl
 | some d => simp [SS.set, h d rfl]
theorem SS.set_mem {s : SS} {a : Option Nat} {x : SV} : (s.set a x).mem = s.mem := by cases a <;> rfl
theorem SS.set_sz {s : SS} {a : Option Nat} {x : SV} : (s.set a x).sz = s.sz := by cases a <;> rfl
theorem SS.setBox_mem {s : SS} {n m : Nat} {b : Option Bx} (h : m ≠ n) : (s.setBox n b).mem m = s.mem m := by simp [SS.setBox, h]
theorem lO : ∀ {l : List Nat} {s : SS} {a : Option Nat} {x : SV}, aU l (s.set a x) = (aU l s).set a x
 | [], _, _, _ => rfl
 | n :: r, s, a, x => by rw [aU, aU, SS.set_setBox, lO]
theorem uB : ∀ {l : List (Nat × Bx)} {css : List (List Value)} {s : SS} {a : Option Nat} {x : SV} {i : Nat}, rz i l css (s.set a x) = (rz i l css s).set a x
 | [], _, _, _, _, _ => rfl
 | (n, b) :: r, css, s, a, x, i => by rw [rz, rz, SS.set_setBox, uB]
theorem io : ∀ {l : List Nat} {s : SS} {n : Nat} {b : Option Bx}, n ∉ l → aU l (s.setBox n b) = (aU l s).setBox n b
 | [], _, _, _, _ => rfl
 | m :: r, s, n, b, h => by
  simp only [List.mem_cons, not_or] at h
  rw [aU, aU, SS.setBox_comm h.1, io h.2]
theorem nu : ∀ {l : List (Nat × Bx)} {css : List (List Value)} {s : SS} {n : Nat} {b : Option Bx} {i : Nat}, n ∉ l.map (·.1) → rz i l css (s.setBox n b) = (rz i l css s).setBox n b
 | [], _, _, _, _, _, _ => rfl
 | (m, b') :: r, css, s, n, b, i, h => by
  simp only [List.map_cons, List.mem_cons, not_or] at h
  rw [rz, rz, SS.setBox_comm h.1, nu h.2]
theorem uC : ∀ {l : List (Nat × Bx)} {css : List (List Value)} {s : SS} {n i : Nat}, n ∉ l.map (·.1) → (rz i l css s).mem n = s.mem n
 | [], _, _, _, _, _ => rfl
 | (m, b') :: r, css, s, n, i, h => by
  simp only [List.map_cons, List.mem_cons, not_or] at h
  rw [rz, uC h.2, SS.setBox_mem h.1]
section
variable {dst : Option Tmp} {frz own : List (Nat × Bx)} {sv : List Value → SV} {s : SS} {vs : List Value} {css : List (List Value)}
theorem sG {a : Option Nat} {x : SV} (h : ∀ d, a = some d → dst ≠ some d) : gp dst frz own sv (s.set a x) vs css = (gp dst frz own sv s vs css).set a x := by
 unfold gp
 rw [lO, uB, SS.set_comm h]
theorem lK {n : Nat} {b : Option Bx} (h : n ∉ (frz ++ own).map (·.1)) : gp dst frz own sv (s.setBox n b) vs css = (gp dst frz own sv s vs css).setBox n b := by
 unfold gp
 have h' : n ∉ own.map (·.1) := fun hn => h (by rw [List.map_append]; exact List.mem_append.2 (.inr hn))
 rw [io h, nu h', SS.set_setBox]
theorem xF {n : Nat} (h : n ∉ (frz ++ own).map (·.1)) : (gp dst frz own sv s vs css).mem n = s.mem n := by
 unfold gp
 have h' : n ∉ own.map (·.1) := fun hn => h (by rw [List.map_append]; exact List.mem_append.2 (.inr hn))
 rw [SS.set_mem, uC h', fg, if_neg h]
theorem vF {t : Nat} (h : ∀ d, dst = some d → t ≠ d) : (gp dst frz own sv s vs css).tmps t = s.tmps t := by
 unfold gp
 rw [SS.set_tmps h, nt.1, b8.1]
theorem Aj : (gp dst frz own sv s vs css).sz = s.sz := by
 unfold gp
 rw [SS.set_sz, nt.2, b8.2]
end
theorem eK {a b : List Nat} (h : sN a b = true) {n : Nat} (ha : n ∈ a) : n ∉ b := by
 unfold sN at h
 rw [List.all_eq_true] at h
 simpa using h n ha
theorem lx {a b : List Nat} (h : sN a b = true) {n : Nat} (hb : n ∈ b) : n ∉ a := fun ha => eK h ha hb
theorem NF.run_mono {P : Program} {d : Bool} {dst : Option Tmp} {x : NF} {s : SS} {K K' : SS → Heap → Own → Prop} {H : Heap} {O : Own} (hk : ∀ s H O, K s H O → K' s H O) (h : x.run P d dst s K H O) :
  x.run P d dst s K' H O := by
 cases x with
 | fl cs k X => obtain ⟨h1, vs, h2, h3⟩ := h; exact ⟨h1, vs, h2, hk _ _ _ h3⟩
 | box cs n T cells val => exact ⟨h.1, fun r => hk _ _ _ (h.2 r)⟩
 | stb cs n b => exact ⟨h.1, hk _ _ _ h.2⟩
 | hv cs k frz own shp post sv => exact ⟨h.1, f5 (fun _ _ _ x => x) (fun _ _ _ _ x => ⟨x.1, hk _ _ _ x.2⟩) h.2⟩
 | st cs p vs => obtain ⟨h1, O', h2, h3⟩ := h; exact ⟨h1, O', h2, hk _ _ _ h3⟩
theorem A7 {T : Heap → Own → (Value → Heap → Own → Prop) → Prop} {d d' : Bool} (hd : d' = true → d = true) {frz own : List BV} {shp : Shp} {K : List Value → List (List Value) → Heap → Own → Prop} {H : Heap} {O : Own}
  (h : er T d frz own shp K H O) : er T d' frz own shp K H O := by
 cases d' with
 | true => rw [hd rfl] at h; exact h
 | false =>
  cases d with
  | false => exact h
  | true =>
   intro hcons
   obtain ⟨H1, O1, O2, Q, hg, ht, hk⟩ := h hcons
   refine ⟨H1, O1, O2, Q, ?_, ht, hk⟩
   obtain ⟨rfl, hg⟩ := hg
   show Ghost _ O _ (O1 ++ O2)
   rcases hg with ⟨rfl, rfl⟩ | ⟨_, rfl, rfl, _⟩
   ·exact Ghost.refl _ _
   ·rw [List.append_nil]; exact Ghost.refl _ _
theorem NF.run_le {P : Program} {d d' : Bool} (hd : d' = true → d = true) {dst : Option Tmp} {x : NF} {s : SS} {K : SS → Heap → Own → Prop} {H : Heap} {O : Own} (h : x.run P d dst s K H O) : x.run P d' dst s K H O := by
 cases x with
 | hv cs k frz own shp post sv => exact ⟨h.1, A7 (fun e => by simp only [Bool.and_eq_true] at e ⊢; exact ⟨hd e.1, e.2⟩) h.2⟩
 | _ => exact h
theorem FK.pre_unique {P : Program} {k : FK} {H : Heap} {O : Own} {vs us : List Value} (hc : k.ch = false) (h : k.pre P H O vs) (h' : k.pre P H O us) : vs = us := by
 cases k with
 | sil => rw [h, h']
 | pure gd op args =>
  have hg : gd = [] := by simpa [FK.ch] using hc
  subst hg
  obtain ⟨v, rfl, h1, _⟩ := h
  obtain ⟨u, rfl, h2, _⟩ := h'
  have := (h1 trivial).symm.trans (h2 trivial)
  simp only [Option.some.injEq] at this; rw [this]
 | raw gd op args =>
  have hg : gd = [] := by simpa [FK.ch] using hc
  subst hg
  obtain ⟨v, rfl, h1, _⟩ := h
  obtain ⟨u, rfl, h2, _⟩ := h'
  have := (h1 trivial default).symm.trans (h2 trivial default)
  simp only [Result.ok.injEq, Next.value.injEq, and_true] at this; rw [this]
 | load gd p m => simp [FK.ch] at hc
 | split c =>
  obtain ⟨b, h1, rfl⟩ := h
  obtain ⟨b', h2, rfl⟩ := h'
  rw [h1] at h2; simp only [Value.bool.injEq] at h2; rw [h2]
 | isplit c n =>
  obtain ⟨kd, i, h1, _, _, rfl⟩ := h
  obtain ⟨kd', i', h2, _, _, rfl⟩ := h'
  rw [h1] at h2; simp only [Value.int.injEq] at h2; rw [h2.2]
theorem FK.pre_any {P : Program} {k : FK} {H H' : Heap} {O O' : Own} {vs : List Value} (hl : k.isLoad = false) (h : k.pre P H O vs) : k.pre P H' O' vs := by
 cases k <;> first | exact h | simp [FK.isLoad] at hl
theorem Reads.mono {H H' : Heap} {O O' : Own} {p : Value} {m : Nat} {vs : List Value} (hle : Heap.le H H') (hs : ∀ x, x ∈ O → x ∈ O') (h : Reads H O p m vs) : Reads H' O' p m vs := by
 rcases h with h | ⟨a, cs, T, h1, h2, h3, h4, h5⟩
 ·exact .inl (hle.read h)
 ·exact .inr ⟨a, cs, T, h1, h2, hs _ h3, h4, h5⟩
theorem FK.pre_mono {P : Program} {k : FK} {H H' : Heap} {O O' : Own} {vs : List Value} (hle : Heap.le H H') (hs : ∀ x, x ∈ O → x ∈ O') (h : k.pre P H O vs) : k.pre P H' O' vs := by
 cases k with
 | load gd p m => exact ⟨h.1, h.2.1, fun hg => (h.2.2 hg).mono hle hs⟩
 | _ => exact h
structure Near (d : Option Tmp) (W : List Nat) (s s' : SS) : Prop where
 sz : s'.sz = s.sz
 tm : ∀ t, (∀ e, d = some e → t ≠ e) → s'.tmps t = s.tmps t
 mm : ∀ n, n ∉ W → s'.mem n = s.mem n
theorem Near.symm {d : Option Tmp} {W : List Nat} {s s' : SS} (h : Near d W s s') : Near d W s' s :=
 ⟨h.sz.symm, fun t ht => (h.tm t ht).symm, fun n hn => (h.mm n hn).symm⟩
theorem gm (d : Option Tmp) (W : List Nat) (s : SS) (x : SV) : Near d W s (s.set d x) :=
 ⟨SS.set_sz, fun _ ht => SS.set_tmps ht, fun _ _ => by rw [SS.set_mem]⟩
theorem cX (d : Option Tmp) (s : SS) (n : Nat) (b : Option Bx) (x : SV) : Near d [n] s ((s.setBox n b).set d x) :=
 ⟨SS.set_sz, fun _ ht => SS.set_tmps ht, fun m hm => by rw [SS.set_mem, SS.setBox_mem (by simpa using hm)]⟩
theorem gk (d : Option Tmp) (s : SS) (n : Nat) (b : Option Bx) : Near d [n] s (s.setBox n b) :=
 ⟨rfl, fun _ _ => rfl, fun m hm => by rw [SS.setBox_mem (by simpa using hm)]⟩
theorem nI (d : Option Tmp) (frz own : List (Nat × Bx)) (sv : List Value → SV) (s : SS) (vs : List Value) (css : List (List Value)) : Near d ((frz ++ own).map (·.1)) s (gp d frz own sv s vs css) :=
 ⟨Aj, fun _ ht => vF ht, fun _ hn => xF hn⟩
theorem hZ (d : Option Tmp) (W : List Nat) (s : SS) : Near d W s s := ⟨rfl, fun _ _ => rfl, fun _ _ => rfl⟩
def Cong (N : SS → Option (NF × FP)) (l : List Tmp) : Prop :=
 ∀ s s' y fy, N s = some (y, fy) → s'.sz = s.sz → (∀ t ∈ l, s'.tmps t = s.tmps t) → (∀ n ∈ fy.reads, s'.mem n = s.mem n) → N s' = some (y, fy)
theorem Cong.near {N : SS → Option (NF × FP)} {l : List Tmp} (h : Cong N l) {d : Option Tmp} {W : List Nat} {s s' : SS} {y : NF} {fy : FP} (hn : Near d W s s') (hd : ∀ e, d = some e → e ∉ l)
  (hW : ∀ n ∈ fy.reads, n ∉ W) (hs : N s = some (y, fy)) : N s' = some (y, fy) :=
 h s s' y fy hs hn.sz (fun t ht => hn.tm t fun e he het => hd e he (het ▸ ht)) (fun n hr => hn.mm n (hW n hr))
def NF.isHv : NF → Bool
 | .hv .. => true
 | _ => false
theorem swap {P : Program} {da db : Option Tmp} {la lb : List Tmp} {Na Nb : SS → Option (NF × FP)} (Ca : Cong Na la) (Cb : Cong Nb lb)
  (h1 : ∀ d, da = some d → d ∉ lb) (h2 : ∀ d, da = some d → db ≠ some d) (h3 : ∀ d, db = some d → d ∉ la)
  {s : SS} {xa : NF} {fa : FP} (ha : Na s = some (xa, fa)) {dx dy : NF → Bool} (hdl : xa.isLd = true → ∀ y, dy y = true) {C : NF → FP → Prop} {K : SS → Heap → Own → Prop} {H : Heap} {O : Own}
  (hst : xa.isHv = true → ∃ y fy, Nb s = some (y, fy) ∧ jB xa fa y fy = true ∧ C y fy)
  (hb : xa.run P (dx xa) da s (fun s' H' O' => ∃ y fy, Nb s' = some (y, fy) ∧ jB xa fa y fy = true ∧ C y fy ∧ y.run P (dy y) db s' K H' O') H O) :
  ∃ y fy, Nb s = some (y, fy) ∧ jB xa fa y fy = true ∧ C y fy ∧
   y.run P (dy y) db s (fun s' H' O' => Na s' = some (xa, fa) ∧ Near db y.writes s s' ∧ xa.run P (dx xa) da s' K H' O') H O := by
 have back : ∀ {s' : SS} {y : NF} {fy : FP}, Near da xa.writes s s' → Nb s' = some (y, fy) → jB xa fa y fy = true → Nb s = some (y, fy) := by
  intro s' y fy hn hy he
  simp only [jB, Bool.and_eq_true] at he
  exact Cb.near hn.symm h1 (fun n hr => lx he.1.1.1 hr) hy
 have fwd : ∀ {s' : SS} {y : NF} {fy : FP}, jB xa fa y fy = true → Near db y.writes s s' → Na s' = some (xa, fa) := by
  intro s' y fy he hn
  simp only [jB, Bool.and_eq_true] at he
  exact Ca.near hn h3 (fun n hr => eK he.1.2 hr) ha
 have hww : ∀ {y : NF} {fy : FP}, jB xa fa y fy = true → ∀ n, n ∈ xa.writes → n ∉ y.writes := by
  intro y fy he n hn
  simp only [jB, Bool.and_eq_true] at he
  exact eK he.1.1.2 hn
 have kok : ∀ {y : NF} {fy : FP}, jB xa fa y fy = true → jb xa y = true := by
  intro y fy he
  simp only [jB, Bool.and_eq_true] at he
  exact he.2
 cases xa with
 | fl cs k X =>
  obtain ⟨hcs, vs, hp, y, fy, hy, he, hC, hr⟩ := hb
  refine ⟨y, fy, back (gm da _ s (X vs)) hy he, he, hC, ?_⟩
  have ko := kok he
  cases y with
  | fl cs' k' Y =>
   obtain ⟨hcs', us, hp', hk⟩ := hr
   refine ⟨hcs', us, hp', fwd he (gm db _ s (Y us)), gm db _ s _, hcs, vs, hp, ?_⟩
   rw [SS.set_comm h2] at hk; exact hk
  | box cs' n T cells val =>
   obtain ⟨hcs', hk⟩ := hr
   refine ⟨hcs', fun r => ⟨fwd he (cX db s n _ _), cX db s n _ _, hcs, vs, hp, ?_⟩⟩
   have := hk r
   rw [SS.set_setBox, SS.set_comm h2] at this; exact this
  | stb cs' n b =>
   obtain ⟨hcs', hk⟩ := hr
   refine ⟨hcs', fwd he (gk db s n _), gk db s n _, hcs, vs, hp, ?_⟩
   rw [SS.set_setBox] at hk; exact hk
  | hv cs' hk' frz own shp post sv =>
   obtain ⟨hcs', hr⟩ := hr
   refine ⟨hcs', fun hcons => ?_⟩
   obtain ⟨H1, O1, O2, R, hgh, hT, hk⟩ := hr hcons
   refine ⟨H1, O1, O2, R, hgh, hT, fun v H' O' hR hle => ?_⟩
   obtain ⟨us, css, O3, e1, e2, e3, e4, e5, e6⟩ := hk v H' O' hR hle
   refine ⟨us, css, O3, e1, e2, e3, e4, e5, fwd he (nI db frz own sv s us css), nI db frz own sv s us css, hcs, vs, ?_, ?_⟩
   ·cases hl : k.isLoad with
    | false => exact FK.pre_any hl hp
    | true =>
     have hcall : hk'.isCall' = true := by simpa [jb, hl] using ko
     simp only [hcall, hdl (by simpa [NF.isLd] using hl), Bool.and_true, if_true] at hgh
     obtain ⟨rfl, hgh⟩ := hgh
     rcases hgh with ⟨rfl, rfl⟩ | ⟨hown, rfl, rfl, hq⟩
     ·exact FK.pre_mono (Heap.le_trans (Heap.le_insAll _ _) hle) (fun x hx => by simp [hx]) hp
     ·have hO' := hq v H' O' hR
      rw [e4, hown] at hO'
      simp only [eW, List.map_nil, List.nil_append] at hO'
      exact FK.pre_mono (Heap.le_trans (Heap.le_insAll _ _) hle) (fun x hx => by simp [hO', hx]) hp
   ·rw [sG h2] at e6; exact e6
  | st cs' p ws =>
   obtain ⟨hcs', O', hst', hk⟩ := hr
   have hl : k.isLoad = false := by simpa [jb] using ko
   exact ⟨hcs', O', hst', fwd he (hZ db _ s), hZ db _ s, hcs, vs, FK.pre_any hl hp, hk⟩
 | box cs n T cells val =>
  obtain ⟨hcs, hk0⟩ := hb
  obtain ⟨y, fy, hy, he, hC, hr0⟩ := hk0 0
  have hys := back (cX da s n _ _) hy he
  have hall : ∀ r, y.run P (dy y) db ((s.setBox n (some ⟨r, T, cells⟩)).set da (.s (.at (val r)))) K H O := by
   intro r
   obtain ⟨y', fy', hy', he', _, hr'⟩ := hk0 r
   have := (back (cX da s n _ _) hy' he').symm.trans hys
   simp only [Option.some.injEq, Prod.mk.injEq] at this
   rw [← this.1]; exact hr'
  refine ⟨y, fy, hys, he, hC, ?_⟩
  have ko := kok he
  have hn : ∀ m, m ∈ y.writes → n ≠ m := fun m hm e => hww he n (by simp [NF.writes]) (e ▸ hm)
  cases y with
  | fl cs' k' Y =>
   have hch : k'.ch = false := by simpa [jb, NF.ch] using ko
   obtain ⟨hcs', us, hp', _⟩ := hr0
   refine ⟨hcs', us, hp', fwd he (gm db _ s (Y us)), gm db _ s _, hcs, fun r => ?_⟩
   obtain ⟨_, us', hp'', hk⟩ := hall r
   rw [← FK.pre_unique hch hp' hp'', SS.set_comm h2] at hk
   rw [SS.set_setBox]; exact hk
  | box cs' m T' cells' val' =>
   obtain ⟨hcs', _⟩ := hr0
   refine ⟨hcs', fun r' => ⟨fwd he (cX db s m _ _), cX db s m _ _, hcs, fun r => ?_⟩⟩
   have := (hall r).2 r'
   rw [SS.set_setBox, SS.set_comm h2, SS.setBox_comm (hn m (by simp [NF.writes]))] at this
   rw [SS.set_setBox]; exact this
  | stb cs' m b =>
   obtain ⟨hcs', _⟩ := hr0
   refine ⟨hcs', fwd he (gk db s m _), gk db s m _, hcs, fun r => ?_⟩
   have := (hall r).2
   rw [SS.set_setBox, SS.setBox_comm (hn m (by simp [NF.writes]))] at this
   exact this
  | hv _ _ _ _ _ _ _ => simp [jb] at ko
  | st _ _ _ => simp [jb] at ko
 | stb cs n b =>
  obtain ⟨hcs, y, fy, hy, he, hC, hr⟩ := hb
  refine ⟨y, fy, back (gk da s n _) hy he, he, hC, ?_⟩
  have hn : ∀ m, m ∈ y.writes → n ≠ m := fun m hm e => hww he n (by simp [NF.writes]) (e ▸ hm)
  cases y with
  | fl cs' k' Y =>
   obtain ⟨hcs', us, hp', hk⟩ := hr
   refine ⟨hcs', us, hp', fwd he (gm db _ s (Y us)), gm db _ s _, hcs, ?_⟩
   rw [SS.set_setBox]; exact hk
  | box cs' m T cells val =>
   obtain ⟨hcs', hk⟩ := hr
   refine ⟨hcs', fun r => ⟨fwd he (cX db s m _ _), cX db s m _ _, hcs, ?_⟩⟩
   have := hk r
   rw [SS.setBox_comm (hn m (by simp [NF.writes]))] at this
   rw [SS.set_setBox]; exact this
  | stb cs' m b' =>
   obtain ⟨hcs', hk⟩ := hr
   refine ⟨hcs', fwd he (gk db s m _), gk db s m _, hcs, ?_⟩
   rw [SS.setBox_comm (hn m (by simp [NF.writes]))] at hk; exact hk
  | hv cs' hk' frz own shp post sv =>
   obtain ⟨hcs', hr⟩ := hr
   refine ⟨hcs', fun hcons => ?_⟩
   obtain ⟨H1, O1, O2, R, hgh, hT, hk⟩ := hr hcons
   refine ⟨H1, O1, O2, R, hgh, hT, fun v H' O' hR hle => ?_⟩
   obtain ⟨us, css, O3, e1, e2, e3, e4, e5, e6⟩ := hk v H' O' hR hle
   refine ⟨us, css, O3, e1, e2, e3, e4, e5, fwd he (nI db frz own sv s us css), nI db frz own sv s us css, hcs, ?_⟩
   rw [lK (fun hm => hn n hm rfl)] at e6; exact e6
  | st cs' p ws =>
   obtain ⟨hcs', O', hst', hk⟩ := hr
   exact ⟨hcs', O', hst', fwd he (hZ db _ s), hZ db _ s, hcs, hk⟩
 | hv cs hk frz own shp post sv =>
  obtain ⟨y, fy, hys, he, hC⟩ := hst rfl
  refine ⟨y, fy, hys, he, hC, ?_⟩
  have ko := kok he
  cases y with
  | box cs' n T cells val =>
   have hcs' : cs' = [] := by simpa [jb] using ko
   subst hcs'
   obtain ⟨hcs, hb⟩ := hb
   refine ⟨trivial, fun r => ⟨fwd he (cX db s n _ _), cX db s n _ _, hcs, fun hcons => ?_⟩⟩
   obtain ⟨H1, O1, O2, R, hgh, hT, hk'⟩ := hb hcons
   refine ⟨H1, O1, O2, R, hgh, hT, fun v H' O' hR hle => ?_⟩
   obtain ⟨us, css, O3, e1, e2, e3, e4, e5, y', fy', hy', he', _, hr'⟩ := hk' v H' O' hR hle
   have := (back (nI da frz own sv s us css) hy' he').symm.trans hys
   simp only [Option.some.injEq, Prod.mk.injEq] at this
   obtain ⟨rfl, rfl⟩ := this
   refine ⟨us, css, O3, e1, e2, e3, e4, e5, ?_⟩
   have hn : n ∉ (frz ++ own).map (·.1) := fun hm => hww he n hm (by simp [NF.writes])
   rw [sG (fun d hd hd' => h2 d hd' hd), lK hn]
   exact hr'.2 r
  | _ => simp [jb] at ko
 | st cs p ws =>
  obtain ⟨hcs, O', hst', y, fy, hy, he, hC, hr⟩ := hb
  refine ⟨y, fy, back (hZ da _ s) hy he, he, hC, ?_⟩
  have ko := kok he
  cases y with
  | box cs' n T cells val =>
   obtain ⟨hcs', hk⟩ := hr
   exact ⟨hcs', fun r => ⟨fwd he (cX db s n _ _), cX db s n _ _, hcs, O', hst', hk r⟩⟩
  | _ => simp [jb] at ko
end Go.Sx
