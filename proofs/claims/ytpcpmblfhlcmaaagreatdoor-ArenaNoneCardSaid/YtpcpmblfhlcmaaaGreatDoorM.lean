/- Boards as plain data, and how they lie in memory. -/
import Derived.Test.YtpcpmblfhlcmaaaGreatDoorFw2
import Derived.Test.YtpcpmblfhlcmaaaGreatDoorFw3
import Derived.Test.YtpcpmblfhlcmaaaGreatDoorFw3
import Derived.Lib.Overlaps
import Derived.Lib.AppendZerosOnto
import Derived.Shelf.GgSortFunc.InsertionK
import Derived.Test.YtpcpmblfhlcmaaaGreatDoorBT5
import Derived.Test.YtpcpmblfhlcmaaaGreatDoorFw3
import Derived.Lib.ConvBytes
import Derived.Test.YtpcpmblfhlcmaaaGreatDoorFw2
import Derived.RangeFuncNested
import Derived.RangeFuncBound
import Derived.Shelf.Abstract
import Derived.Shelf.RegionOpen
import Derived.OwnWalkIn
import Derived.TacticsInMore
import Derived.LoopNIn
import Derived.LoopIn
import Derived.Test.YtpcpmblfhlcmaaaGreatDoorFw2
import Derived.Test.YtpcpmblfhlcmaaaGreatDoorFw2
namespace Go.Sx
open Go
abbrev iV (n : Int) : Value := .int .i64 n
def eY (l : List Int) : List (List Value) := l.map fun n => [iV n]
structure Ob where
 (id card owner power tough dmg cnt pp pt : Int)
 (tap sick doom : Bool)
deriving DecidableEq
def Ob.row (o : Ob) : List Value := [iV o.id, iV o.card, iV o.owner, iV o.power, iV o.tough, iV o.dmg, iV o.cnt, iV o.pp, iV o.pt, .bool o.tap, .bool o.sick, .bool o.doom]
structure Tg where
 (id player : Int)
deriving DecidableEq
def Tg.row (t : Tg) : List Value := [iV t.id, iV t.player]
structure It where
 (player id card trig : Int)
 tgs : List Tg
deriving DecidableEq
structure Bl where
 (blocker attacker : Int)
deriving DecidableEq
def Bl.row (b : Bl) : List Value := [iV b.blocker, iV b.attacker]
structure St where
 (life p0 p1 p2 p3 : Int)
 (lib hand field grave : List Int)
 (empty played kept : Bool)
 (mull acts : Int)
deriving DecidableEq
structure Bd where
 objs : List Ob
 (s0 s1 : St)
 (stack queue : List It)
 att : List Int
 blocks : List Bl
 (turn active phase holder passes : Int)
deriving DecidableEq
def ItR (H : Heap) (O : Go.Sx.Own) (row : List Value) (x : It) : Prop := ∃ s, row = [iV x.player, iV x.id, iV x.card, iV x.trig, s] ∧ RSl H O 2 s (x.tgs.map Tg.row)
def ItsR (H : Heap) (O : Go.Sx.Own) (v : Value) (l : List It) : Prop := ∃ rows, RSl H O 5 v rows ∧ rows.length = l.length ∧ ∀ (i : Nat) (r : List Value) (x : It), rows[i]? = some r → l[i]? = some x → ItR H O r x
structure StR (H : Heap) (O : Go.Sx.Own) (vl vh vf vg : Value) (s : St) : Prop where
 lib : RSl H O 1 vl (eY s.lib)
 hand : RSl H O 1 vh (eY s.hand)
 field : RSl H O 1 vf (eY s.field)
 grave : RSl H O 1 vg (eY s.grave)
structure jK where
 (o l0 h0 f0 g0 l1 h1 f1 g1 s q a b : Value)
def bq (v : jK) (b : Bd) : List Value :=
  [v.o, iV b.s0.life, iV b.s0.p0, iV b.s0.p1, iV b.s0.p2, iV b.s0.p3, v.l0, v.h0, v.f0, v.g0, .bool b.s0.empty, .bool b.s0.played, .bool b.s0.kept, iV b.s0.mull, iV b.s0.acts,
   iV b.s1.life, iV b.s1.p0, iV b.s1.p1, iV b.s1.p2, iV b.s1.p3, v.l1, v.h1, v.f1, v.g1, .bool b.s1.empty, .bool b.s1.played, .bool b.s1.kept, iV b.s1.mull, iV b.s1.acts,
   v.s, v.q, v.a, v.b, iV b.turn, iV b.active, iV b.phase, iV b.holder, iV b.passes]
structure BdR (H : Heap) (O : Go.Sx.Own) (v : jK) (b : Bd) : Prop where
 objs : RSl H O 12 v.o (b.objs.map Ob.row)
 s0 : StR H O v.l0 v.h0 v.f0 v.g0 b.s0
 s1 : StR H O v.l1 v.h1 v.f1 v.g1 b.s1
 stack : ItsR H O v.s b.stack
 queue : ItsR H O v.q b.queue
 att : RSl H O 1 v.a (eY b.att)
 blocks : RSl H O 2 v.b (b.blocks.map Bl.row)
theorem ItR.le {H H' : Heap} {O : Go.Sx.Own} {row : List Value} {x : It} (h : ItR H O row x) (hl : Heap.le H H') : ItR H' O row x := let ⟨s, h1, h2⟩ := h; ⟨s, h1, h2.le hl⟩
theorem ItsR.le {H H' : Heap} {O : Go.Sx.Own} {v : Value} {l : List It} (h : ItsR H O v l) (hl : Heap.le H H') : ItsR H' O v l :=
 let ⟨rows, h1, h2, h3⟩ := h; ⟨rows, h1.le hl, h2, fun i r x a b => (h3 i r x a b).le hl⟩
theorem StR.le {H H' : Heap} {O : Go.Sx.Own} {vl vh vf vg : Value} {s : St} (h : StR H O vl vh vf vg s) (hl : Heap.le H H') : StR H' O vl vh vf vg s := ⟨h.lib.le hl, h.hand.le hl, h.field.le hl, h.grave.le hl⟩
theorem BdR.le {H H' : Heap} {O : Go.Sx.Own} {v : jK} {b : Bd} (h : BdR H O v b) (hl : Heap.le H H') : BdR H' O v b :=
 ⟨h.objs.le hl, h.s0.le hl, h.s1.le hl, h.stack.le hl, h.queue.le hl, h.att.le hl, h.blocks.le hl⟩
def ap (a lo hi : Int) : Bool := decide (lo ≤ a ∧ a ≤ hi)
def oI (t : Tg) : Bool := ap t.id 0 500 && (ap t.player 0 1 && (t.id == 0 || t.player == 0))
def lq (x : It) (q : Bool) : Bool :=
 ap x.player 0 1 && (ap x.id 1 500 && (ap x.card 0 399 && (ap x.trig (-1) 1 && (!(decide ((x.tgs.length : Int) > 4) || (decide (x.trig ≥ 0) && decide ((x.tgs.length : Int) > 0)) || (q && decide (x.trig < 0))) && !x.tgs.any (fun t => !oI t)))))
def pd {α : Type} (p : α → Bool) : List α → Int → Int
 | [], _ => -1
 | a :: r, i => if p a then i else pd p r (i + 1)
theorem tV {α : Type} (p : α → Bool) : ∀ (l : List α) (i : Int), 0 ≤ i → decide (0 ≤ pd p l i) = l.any p
 | [], i, _ => by simp [pd]
 | a :: r, i, h => by
  simp only [pd, List.any_cons]
  by_cases hx : p a
  ·simp [hx, h]
  ·simp only [hx, Bool.false_eq_true, if_false, Bool.false_or]
   exact tV p r (i + 1) (by omega)
def cR (l : List (Int × Int)) : rx := l.map fun p => (p.1, iV p.2)
def bY (l : List (Int × Int)) (k : Int) : Option Int := (l.find? fun p => k == p.1).map (·.2)
theorem bC (l : List (Int × Int)) (k : Int) : aP (cR l) k = (bY l k).map iV := by
 induction l with
 | nil => rfl
 | cons p r ih =>
  by_cases h : k = p.1
  ·simp [aP, bY, cR, h]
  ·simp only [aP, bY, cR, List.map_cons, List.find?_cons] at ih ⊢
   have hb : (k == p.1) = false := by simpa using h
   simp only [hb]
   exact ih
theorem ew {l : List (Int × Int)} {k : Int} : bY l k = none ↔ k ∉ l.map (·.1) := by
 induction l with
 | nil => simp [bY]
 | cons p r ih =>
  by_cases h : k = p.1
  ·simp [bY, h]
  ·have hb : (k == p.1) = false := by simpa using h
   simp only [bY, List.find?_cons, hb, List.map_cons, List.mem_cons, not_or] at ih ⊢
   rw [ih]; simp [h]
theorem vD {l : List (Int × Int)} {k v : Int} (hn : (l.map (·.1)).Nodup) : bY l k = some v ↔ (k, v) ∈ l := by
 induction l with
 | nil => simp [bY]
 | cons p r ih =>
  simp only [List.map_cons, List.nodup_cons] at hn
  by_cases h : k = p.1
  ·simp only [bY, List.find?_cons, h, beq_self_eq_true, Option.map_some, Option.some.injEq, List.mem_cons]
   constructor
   ·rintro rfl; left; rfl
   ·rintro (h' | h')
    ·rw [← h']
    ·exact absurd (List.mem_map_of_mem (f := Prod.fst) h') hn.1
  ·have hb : (k == p.1) = false := by simpa using h
   have := ih hn.2
   simp only [bY, List.find?_cons, hb] at this ⊢
   rw [this]
   simp only [List.mem_cons]
   constructor
   ·exact .inr
   ·rintro (h' | h')
    ·exact absurd (congrArg Prod.fst h') h
    ·exact h'
theorem yC {m : rx} {k : Int} {v : Value} (h : aP m k = none) : kY m k v = m ++ [(k, v)] := by
 refine rE ?_
 rw [List.findIdx?_eq_none_iff]
 intro p hp
 simp only [aP, Option.map_eq_none_iff, List.find?_eq_none] at h
 simpa using h p hp
theorem qq {l : List (Int × Int)} {k v : Int} (h : k ∉ l.map (·.1)) : kY (cR l) k (iV v) = cR (l ++ [(k, v)]) := by
 rw [yC (by rw [bC, ew.2 h]; rfl)]
 simp [cR]
def eG (s : St) (p : Int) : List (Int × Int) := (s.lib ++ (s.hand ++ (s.field ++ s.grave))).map fun i => (i, p)
def dZ (l : List It) : List It := l.filter fun x => decide (x.trig < 0)
def dM (l : List It) : List (Int × Int) := (dZ l).map fun x => (x.id, x.player)
def bh (l : List It) : List (Int × Int) := (dZ l).map fun x => (x.id, x.card)
def aL (b : Bd) : List (Int × Int) := eG b.s0 0 ++ (eG b.s1 1 ++ dM b.stack)
def hG (prev : Option Int) (id : Int) : Bool := match prev with | some p => decide (p ≥ id) | none => false
def py (ps cs : List (Int × Int)) (prev : Option Int) (valid : Bool) (o : Ob) : Bool :=
 !valid || hG prev o.id || (bY ps o.id).isNone || ((bY ps o.id).getD 0 != o.owner) || ((bY cs o.id).isSome && ((bY cs o.id).getD 0 != o.card))
theorem hJ (l r : List It) : dM (l ++ r) = dM l ++ dM r := by simp only [dM, dZ, List.filter_append, List.map_append]
theorem km (l r : List It) : bh (l ++ r) = bh l ++ bh r := by simp only [bh, dZ, List.filter_append, List.map_append]
theorem wX {x : It} (h : x.trig < 0) : dM [x] = [(x.id, x.player)] := by simp only [dM, dZ, List.filter_cons, h, decide_true, if_true, List.filter_nil, List.map_cons, List.map_nil]
theorem vN {x : It} (h : x.trig < 0) : bh [x] = [(x.id, x.card)] := by simp only [bh, dZ, List.filter_cons, h, decide_true, if_true, List.filter_nil, List.map_cons, List.map_nil]
theorem vt {x : It} (h : ¬ x.trig < 0) : dM [x] = [] := by simp only [dM, dZ, List.filter_cons, h, decide_false, Bool.false_eq_true, if_false, List.filter_nil, List.map_nil]
theorem ud {x : It} (h : ¬ x.trig < 0) : bh [x] = [] := by simp only [bh, dZ, List.filter_cons, h, decide_false, Bool.false_eq_true, if_false, List.filter_nil, List.map_nil]
def fQ (val : Ob → Bool) (ps cs : List (Int × Int)) : Option Int → List Ob → Bool
 | _, [] => true
 | prev, o :: r => !py ps cs prev (val o) o && fQ val ps cs (some o.id) r
def cB (val : Ob → Bool) (b : Bd) : Bool := decide ((aL b).map (·.1)).Nodup && (fQ val (aL b) (bh b.stack) none b.objs && decide ((aL b).length = b.objs.length))
def jV (l : List Ob) (i : Nat) : Option Int := if i = 0 then none else (l[i - 1]?).map (·.id)
theorem rY {l : List Ob} {i : Nat} (h : i < l.length) : jV l (i + 1) = some l[i].id := by simp [jV, h]
def ui (att other : List Int) : List Int → List Int → List Bl → Bool
 | _, _, [] => true
 | ua, ub, x :: r => (!ua.contains x.attacker && att.contains x.attacker && (!ub.contains x.blocker && other.contains x.blocker)) && ui att other (x.attacker :: ua) (x.blocker :: ub) r
def jy (own other att : List Int) (bl : List Bl) : Bool := decide att.Nodup && (att.all (fun x => own.contains x) && ui att other [] [] bl)
def ge (att ua ub : List Int) (k : Int) : Bool := decide ((k ∈ att ∧ k ∉ ua) ∨ -k ∈ ub)
theorem y2 {att ua ub : List Int} {m : rx} {a c : Int} (h : ∀ k, (aP m k).getD (.bool false) = .bool (ge att ua ub k)) (hub : ∀ x ∈ ub, 0 < x) (ha : 0 < a) (hc : 0 < c) :
  ∀ k, (aP (kY (kY m a (.bool false)) (-c) (.bool true)) k).getD (.bool false) = .bool (ge att (a :: ua) (c :: ub) k) := by
 intro k
 rw [nO]
 by_cases h1 : k = -c
 ·rw [if_pos h1]
  have : ge att (a :: ua) (c :: ub) k = true := by
   simp only [ge, decide_eq_true_eq]
   right
   rw [h1]; simp
  rw [this]; rfl
 ·rw [if_neg h1, nO]
  by_cases h2 : k = a
  ·rw [if_pos h2]
   have : ge att (a :: ua) (c :: ub) k = false := by
    simp only [ge, decide_eq_false_iff_not, not_or, not_and]
    refine ⟨fun _ hn => hn (by rw [h2]; simp), ?_⟩
    rw [h2, List.mem_cons]
    rintro (h3 | h3)
    ·omega
    ·have := hub _ h3; omega
   rw [this]; rfl
  ·rw [if_neg h2, h k]
   congr 1
   simp only [ge, List.mem_cons, not_or]
   have : ¬ (-k = c) := by omega
   simp [this, h2]
def ItsS (H : Heap) (v : Value) (l : List It) : Prop := ∃ rows, Sl H 5 v rows ∧ rows.length = l.length ∧ ∀ (i : Nat) (r : List Value) (x : It), rows[i]? = some r → l[i]? = some x → ∃ s, r = [iV x.player, iV x.id, iV x.card, iV x.trig, s] ∧ Sl H 2 s (x.tgs.map Tg.row)
structure StS (H : Heap) (vl vh vf vg : Value) (s : St) : Prop where
 lib : Sl H 1 vl (eY s.lib)
 hand : Sl H 1 vh (eY s.hand)
 field : Sl H 1 vf (eY s.field)
 grave : Sl H 1 vg (eY s.grave)
structure BdS (H : Heap) (v : jK) (b : Bd) : Prop where
 objs : Sl H 12 v.o (b.objs.map Ob.row)
 s0 : StS H v.l0 v.h0 v.f0 v.g0 b.s0
 s1 : StS H v.l1 v.h1 v.f1 v.g1 b.s1
 stack : ItsS H v.s b.stack
 queue : ItsS H v.q b.queue
 att : Sl H 1 v.a (eY b.att)
 blocks : Sl H 2 v.b (b.blocks.map Bl.row)
theorem ItsS.le {H H' : Heap} {v : Value} {l : List It} (h : ItsS H v l) (hl : Heap.le H H') : ItsS H' v l :=
 let ⟨rows, h1, h2, h3⟩ := h; ⟨rows, h1.le hl, h2, fun i r x a b => let ⟨s, e, k⟩ := h3 i r x a b; ⟨s, e, k.le hl⟩⟩
theorem StS.le {H H' : Heap} {vl vh vf vg : Value} {s : St} (h : StS H vl vh vf vg s) (hl : Heap.le H H') : StS H' vl vh vf vg s := ⟨h.lib.le hl, h.hand.le hl, h.field.le hl, h.grave.le hl⟩
theorem BdS.le {H H' : Heap} {v : jK} {b : Bd} (h : BdS H v b) (hl : Heap.le H H') : BdS H' v b :=
 ⟨h.objs.le hl, h.s0.le hl, h.s1.le hl, h.stack.le hl, h.queue.le hl, h.att.le hl, h.blocks.le hl⟩
theorem ItsS.r {H : Heap} {v : Value} {l : List It} (h : ItsS H v l) (O : Go.Sx.Own) : ItsR H O v l :=
 let ⟨rows, h1, h2, h3⟩ := h; ⟨rows, h1.rsl O, h2, fun i r x a b => let ⟨s, e, k⟩ := h3 i r x a b; ⟨s, e, k.rsl O⟩⟩
theorem StS.r {H : Heap} {vl vh vf vg : Value} {s : St} (h : StS H vl vh vf vg s) (O : Go.Sx.Own) : StR H O vl vh vf vg s := ⟨h.lib.rsl O, h.hand.rsl O, h.field.rsl O, h.grave.rsl O⟩
theorem BdS.r {H : Heap} {v : jK} {b : Bd} (h : BdS H v b) (O : Go.Sx.Own) : BdR H O v b := ⟨h.objs.rsl O, h.s0.r O, h.s1.r O, h.stack.r O, h.queue.r O, h.att.rsl O, h.blocks.rsl O⟩
def OSlE (e : TypeId) (size : Nat) (v : Value) (rows : List (List Value)) (O : Go.Sx.Own) : Prop := OSl e size v rows O ∨ ((∃ a c, v = .slice a 0 c ∧ c < 2 ^ 63) ∧ rows = [] ∧ O = [])
theorem OSlE.one {e : TypeId} {size : Nat} {v : Value} {rows : List (List Value)} {O : Go.Sx.Own} (h : OSlE e size v rows O) : v.oneCell' = true := by
 rcases h with h | ⟨⟨a, c, rfl, _⟩, _⟩
 ·exact h.one
 ·rfl
theorem OSlE.len {e : TypeId} {size : Nat} {v : Value} {rows : List (List Value)} {O : Go.Sx.Own} (h : OSlE e size v rows O) : af .len [v] = some (.int .i64 rows.length) := by
 rcases h with h | ⟨⟨a, c, rfl, _⟩, rfl, _⟩
 ·exact h.len
 ·rfl
theorem OSlE.lenB {e : TypeId} {size : Nat} {v : Value} {rows : List (List Value)} {O : Go.Sx.Own} (h : OSlE e size v rows O) : rows.length < 2 ^ 63 := by
 rcases h with h | ⟨_, rfl, _⟩
 ·exact h.lenB
 ·simp
theorem OSlE.rsl {e : TypeId} {size : Nat} {v : Value} {rows : List (List Value)} {O1 O : Go.Sx.Own} (h : OSlE e size v rows O1) (hO : ∀ p ∈ O1, p ∈ O) (H : Heap) : RSl H O size v rows := by
 rcases h with h | ⟨⟨a, c, rfl, hc⟩, rfl, _⟩
 ·exact h.rsl hO H
 ·exact Sl.rsl ⟨a, c, rfl, Nat.zero_le _, hc, fun h => absurd rfl h⟩ O
theorem OSlE.idx {e : TypeId} {size : Nat} {v : Value} {rows : List (List Value)} {O1 O : Go.Sx.Own} (h : OSlE e size v rows O1) (hO : ∀ p ∈ O1, p ∈ O) (H : Heap) {k : IntKind} {i : Nat} {row : List Value} (hr : rows[i]? = some row) :
  ∃ a, af (.idx size) [v, .int k i] = some (.pointer (some a)) ∧ a.spot = none ∧ Reads H O (.pointer (some a)) size row ∧ ∀ off m, off + m ≤ size → Reads H O (dq (.pointer (some a)) off) m ((row.drop off).take m) := by
 rcases h with h | ⟨_, rfl, _⟩
 ·exact h.idx hO H hr
 ·simp at hr
theorem OSlE.store {e : TypeId} {size : Nat} {v : Value} {rows : List (List Value)} {O1 O2 O : Go.Sx.Own} (h : OSlE e size v rows O1) (hO : O.Perm (O1 ++ O2)) {k : IntKind} {i : Nat} {row : List Value} (hr : rows[i]? = some row) :
  ∃ a, af (.idx size) [v, .int k i] = some (.pointer (some a)) ∧ ∀ off ys, off + ys.length ≤ size → Ones ys → ∃ O1', mJ O (dq (.pointer (some a)) off) ys (O1' ++ O2) ∧ OSlE e size v (rows.set i (cd row off ys)) O1' := by
 rcases h with h | ⟨_, rfl, _⟩
 ·obtain ⟨a, h1, h2⟩ := h.store hO hr
  exact ⟨a, h1, fun off ys h3 h4 => let ⟨O1', h5, h6⟩ := h2 off ys h3 h4; ⟨O1', h5, .inl h6⟩⟩
 ·simp at hr
theorem OSlE.freeze {e : TypeId} {size : Nat} {v : Value} {rows : List (List Value)} {O1 X : Go.Sx.Own} {H : Heap} (h : OSlE e size v rows O1) (hc : Cons H (O1 ++ X)) : ∃ H', Ghost H (O1 ++ X) H' X ∧ Sl H' size v rows ∧ Heap.le H H' := by
 rcases h with h | ⟨⟨a, c, rfl, hb⟩, rfl, rfl⟩
 ·exact h.freeze hc
 ·exact ⟨H, Ghost.refl _ _, ⟨a, c, rfl, Nat.zero_le _, hb, fun h => absurd rfl h⟩, Heap.le_refl H⟩
theorem OSlE.empty {e : TypeId} {size : Nat} {H : Heap} {v : Value} (h : Sl H size v []) : OSlE e size v [] [] := by
 obtain ⟨a, c, rfl, _, hc, _⟩ := h
 exact .inr ⟨⟨a, c, rfl, hc⟩, rfl, rfl⟩
def OIts (te ti : TypeId) (v : Value) (l : List It) (O : Go.Sx.Own) : Prop := ∃ rows A Ts, O.Perm (A ++ List.flatten Ts) ∧ OSl ti 5 v rows A ∧ rows.length = l.length ∧ Ts.length = l.length ∧
 ∀ (i : Nat) (r : List Value) (x : It) (T : Go.Sx.Own), rows[i]? = some r → l[i]? = some x → Ts[i]? = some T → ∃ s, r = [iV x.player, iV x.id, iV x.card, iV x.trig, s] ∧ OSlE te 2 s (x.tgs.map Tg.row) T
def OItsS (te ti : TypeId) (v : Value) (l : List It) (O : Go.Sx.Own) : Prop := ∃ rows A Ts, O.Perm (A ++ List.flatten Ts) ∧ OSl ti 5 v rows A ∧ rows.length = l.length ∧ Ts.length = l.length ∧
 ∀ (i : Nat) (r : List Value) (x : It) (T : Go.Sx.Own), rows[i]? = some r → l[i]? = some x → Ts[i]? = some T → ∃ s, r = [iV x.player, iV x.id, iV x.card, iV x.trig, s] ∧ OSl te 2 s (x.tgs.map Tg.row) T
theorem OItsS.one {te ti : TypeId} {v : Value} {l : List It} {O : Go.Sx.Own} (h : OItsS te ti v l O) : v.oneCell' = true := by
 obtain ⟨rows, A, Ts, _, h1, _⟩ := h; exact h1.one
structure Tys where
 (int ob bl it tg : TypeId)
structure OBd (t : Tys) (w : jK) (b : Bd) (Oo A0 B0 C0 D0 A1 B1 C1 D1 Os Oq Oa Obk : Go.Sx.Own) : Prop where
 objs : OSl t.ob 12 w.o (b.objs.map Ob.row) Oo
 l0 : OSl t.int 1 w.l0 (eY b.s0.lib) A0
 h0 : OSl t.int 1 w.h0 (eY b.s0.hand) B0
 f0 : OSl t.int 1 w.f0 (eY b.s0.field) C0
 g0 : OSl t.int 1 w.g0 (eY b.s0.grave) D0
 l1 : OSl t.int 1 w.l1 (eY b.s1.lib) A1
 h1 : OSl t.int 1 w.h1 (eY b.s1.hand) B1
 f1 : OSl t.int 1 w.f1 (eY b.s1.field) C1
 g1 : OSl t.int 1 w.g1 (eY b.s1.grave) D1
 stack : OIts t.tg t.it w.s b.stack Os
 queue : OIts t.tg t.it w.q b.queue Oq
 att : OSl t.int 1 w.a (eY b.att) Oa
 blocks : OSl t.bl 2 w.b (b.blocks.map Bl.row) Obk
def OwnB (t : Tys) (w : jK) (b : Bd) (O : Go.Sx.Own) : Prop := ∃ Oo A0 B0 C0 D0 A1 B1 C1 D1 Os Oq Oa Obk, O.Perm (Oo ++ (A0 ++ (B0 ++ (C0 ++ (D0 ++ (A1 ++ (B1 ++ (C1 ++ (D1 ++ (Os ++ (Oq ++ (Oa ++ Obk)))))))))))) ∧ OBd t w b Oo A0 B0 C0 D0 A1 B1 C1 D1 Os Oq Oa Obk
theorem OIts.r {te ti : TypeId} {v : Value} {l : List It} {O O' : Go.Sx.Own} (h : OIts te ti v l O) (hO : ∀ p ∈ O, p ∈ O') (H : Heap) : ItsR H O' v l := by
 obtain ⟨rows, A, Ts, hp, h1, h2, h3, h4⟩ := h
 refine ⟨rows, h1.rsl (fun p hp' => hO p (hp.mem_iff.2 (by simp [hp']))) H, h2, fun i r x hr hx => ?_⟩
 have hlt : i < Ts.length := by rw [h3]; exact (List.getElem?_eq_some_iff.1 hx).1
 obtain ⟨s, e, k⟩ := h4 i r x Ts[i] hr hx (List.getElem?_eq_getElem hlt)
 exact ⟨s, e, k.rsl (fun p hp' => hO p (hp.mem_iff.2 (List.mem_append_right _ (List.mem_flatten.2 ⟨Ts[i], List.getElem_mem hlt, hp'⟩)))) H⟩
theorem OwnB.r {t : Tys} {w : jK} {b : Bd} {O O' : Go.Sx.Own} (h : OwnB t w b O) (hO : ∀ p ∈ O, p ∈ O') (H : Heap) : BdR H O' w b := by
 obtain ⟨Oo, A0, B0, C0, D0, A1, B1, C1, D1, Os, Oq, Oa, Obk, hp, h⟩ := h
 have m : ∀ p, p ∈ Oo ++ (A0 ++ (B0 ++ (C0 ++ (D0 ++ (A1 ++ (B1 ++ (C1 ++ (D1 ++ (Os ++ (Oq ++ (Oa ++ Obk))))))))))) → p ∈ O' := fun p h => hO p (hp.mem_iff.2 h)
 refine ⟨h.objs.rsl (fun p k => m p (by simp [k])) H, ⟨h.l0.rsl (fun p k => m p (by simp [k])) H, h.h0.rsl (fun p k => m p (by simp [k])) H, h.f0.rsl (fun p k => m p (by simp [k])) H, h.g0.rsl (fun p k => m p (by simp [k])) H⟩,
  ⟨h.l1.rsl (fun p k => m p (by simp [k])) H, h.h1.rsl (fun p k => m p (by simp [k])) H, h.f1.rsl (fun p k => m p (by simp [k])) H, h.g1.rsl (fun p k => m p (by simp [k])) H⟩,
  h.stack.r (fun p k => m p (by simp [k])) H, h.queue.r (fun p k => m p (by simp [k])) H, h.att.rsl (fun p k => m p (by simp [k])) H, h.blocks.rsl (fun p k => m p (by simp [k])) H⟩
theorem Cons.ghost {H H' : Heap} {O O' : Go.Sx.Own} (h : Cons H O) (g : Ghost H O H' O') : Cons H' O' := by
 obtain ⟨w, F, hm⟩ := h
 exact ⟨w, F, (g w F hm).1⟩
theorem Cons.perm {H : Heap} {O O' : Go.Sx.Own} (h : Cons H O) (hp : O.Perm O') : Cons H O' := h.ghost (Ghost.perm hp)
theorem Triple.ghost {P : Program} {f : FuncId} {args : List Value} {H : Heap} {O : Go.Sx.Own} {Q Q' : Value → Heap → Go.Sx.Own → Prop} (h : Triple P f args H O Q)
  (hq : ∀ v H' O', Heap.le H H' → Cons H' O' → Q v H' O' → ∃ H'' O'', Ghost H' O' H'' O'' ∧ Q' v H'' O'') : Triple P f args H O Q' :=
 fun w F hm => (h w F hm).mono fun _ w' ⟨v, H', O', he, q, hle, hm'⟩ =>
  let ⟨H'', O'', g, q'⟩ := hq v H' O' hle ⟨w', F, hm'⟩ q
  ⟨v, H'', O'', he, q', Heap.le_trans hle (g _ _ hm').2, (g _ _ hm').1⟩
theorem pF {te : TypeId} : ∀ (l : List It) (rows : List (List Value)) (Ts : List Go.Sx.Own) (H : Heap) (X : Go.Sx.Own), rows.length = l.length → Ts.length = l.length →
  (∀ (i : Nat) (r : List Value) (x : It) (T : Go.Sx.Own), rows[i]? = some r → l[i]? = some x → Ts[i]? = some T → ∃ s, r = [iV x.player, iV x.id, iV x.card, iV x.trig, s] ∧ OSlE te 2 s (x.tgs.map Tg.row) T) →
  Cons H (List.flatten Ts ++ X) → ∃ H', Ghost H (List.flatten Ts ++ X) H' X ∧ Heap.le H H' ∧
   ∀ (i : Nat) (r : List Value) (x : It), rows[i]? = some r → l[i]? = some x → ∃ s, r = [iV x.player, iV x.id, iV x.card, iV x.trig, s] ∧ Sl H' 2 s (x.tgs.map Tg.row)
 | [], [], [], H, X, _, _, _, _ => ⟨H, Ghost.refl _ _, Heap.le_refl _, fun i r x h => by simp at h⟩
 | x :: l, r :: rows, T :: Ts, H, X, h1, h2, hs, hc => by
  obtain ⟨s, e, hT⟩ := hs 0 r x T rfl rfl rfl
  rw [List.flatten_cons, List.append_assoc] at hc
  obtain ⟨H1, g1, k1, l1⟩ := hT.freeze hc
  obtain ⟨H2, g2, l2, k2⟩ := pF l rows Ts H1 X (by simpa using h1) (by simpa using h2) (fun i r x T a b c => hs (i + 1) r x T (by simpa using a) (by simpa using b) (by simpa using c)) (hc.ghost g1)
  refine ⟨H2, ?_, Heap.le_trans l1 l2, fun i r' x' a b => ?_⟩
  ·rw [List.flatten_cons, List.append_assoc]; exact g1.trans g2
  ·cases i with
   | zero => simp at a b; subst a; subst b; exact ⟨s, e, k1.le l2⟩
   | succ i => exact k2 i r' x' (by simpa using a) (by simpa using b)
 | [], _ :: _, _, _, _, h, _, _, _ => by simp at h
 | _ :: _, [], _, _, _, h, _, _, _ => by simp at h
 | [], [], _ :: _, _, _, _, h, _, _ => by simp at h
 | _ :: _, _ :: _, [], _, _, _, h, _, _ => by simp at h
theorem OIts.freeze {te ti : TypeId} {v : Value} {l : List It} {O1 X : Go.Sx.Own} {H : Heap} (h : OIts te ti v l O1) (hc : Cons H (O1 ++ X)) : ∃ H', Ghost H (O1 ++ X) H' X ∧ ItsS H' v l ∧ Heap.le H H' := by
 obtain ⟨rows, A, Ts, hp, h1, h2, h3, h4⟩ := h
 have hp' : (O1 ++ X).Perm (A ++ (List.flatten Ts ++ X)) := (hp.append_right X).trans (List.Perm.of_eq (List.append_assoc _ _ _))
 obtain ⟨H1, g1, k1, l1⟩ := h1.freeze (hc.perm hp')
 obtain ⟨H2, g2, l2, k2⟩ := pF l rows Ts H1 X h2 h3 h4 ((hc.perm hp').ghost g1)
 exact ⟨H2, (Ghost.perm hp').trans (g1.trans g2), ⟨rows, k1.le l2, h2, k2⟩, Heap.le_trans l1 l2⟩
theorem OwnB.freeze {t : Tys} {w : jK} {b : Bd} {O X : Go.Sx.Own} {H : Heap} (h : OwnB t w b O) (hc : Cons H (O ++ X)) : ∃ H', Ghost H (O ++ X) H' X ∧ BdS H' w b ∧ Heap.le H H' := by
 obtain ⟨Oo, A0, B0, C0, D0, A1, B1, C1, D1, Os, Oq, Oa, Obk, hp, h⟩ := h
 have hp' : (O ++ X).Perm (Oo ++ (A0 ++ (B0 ++ (C0 ++ (D0 ++ (A1 ++ (B1 ++ (C1 ++ (D1 ++ (Os ++ (Oq ++ (Oa ++ (Obk ++ X))))))))))))) := by
  refine (hp.append_right X).trans (List.Perm.of_eq ?_)
  simp only [List.append_assoc]
 replace hc := hc.perm hp'
 obtain ⟨H1, g1, k1, l1⟩ := h.objs.freeze hc
 replace hc := hc.ghost g1
 obtain ⟨H2, g2, k2, l2⟩ := h.l0.freeze hc
 replace hc := hc.ghost g2
 obtain ⟨H3, g3, k3, l3⟩ := h.h0.freeze hc
 replace hc := hc.ghost g3
 obtain ⟨H4, g4, k4, l4⟩ := h.f0.freeze hc
 replace hc := hc.ghost g4
 obtain ⟨H5, g5, k5, l5⟩ := h.g0.freeze hc
 replace hc := hc.ghost g5
 obtain ⟨H6, g6, k6, l6⟩ := h.l1.freeze hc
 replace hc := hc.ghost g6
 obtain ⟨H7, g7, k7, l7⟩ := h.h1.freeze hc
 replace hc := hc.ghost g7
 obtain ⟨H8, g8, k8, l8⟩ := h.f1.freeze hc
 replace hc := hc.ghost g8
 obtain ⟨H9, g9, k9, l9⟩ := h.g1.freeze hc
 replace hc := hc.ghost g9
 obtain ⟨H10, g10, k10, l10⟩ := h.stack.freeze hc
 replace hc := hc.ghost g10
 obtain ⟨H11, g11, k11, l11⟩ := h.queue.freeze hc
 replace hc := hc.ghost g11
 obtain ⟨H12, g12, k12, l12⟩ := h.att.freeze hc
 replace hc := hc.ghost g12
 obtain ⟨H13, g13, k13, l13⟩ := h.blocks.freeze hc
 have m12 := l13
 have m11 := Heap.le_trans l12 m12
 have m10 := Heap.le_trans l11 m11
 have m9 := Heap.le_trans l10 m10
 have m8 := Heap.le_trans l9 m9
 have m7 := Heap.le_trans l8 m8
 have m6 := Heap.le_trans l7 m7
 have m5 := Heap.le_trans l6 m6
 have m4 := Heap.le_trans l5 m5
 have m3 := Heap.le_trans l4 m4
 have m2 := Heap.le_trans l3 m3
 have m1 := Heap.le_trans l2 m2
 exact ⟨H13, (Ghost.perm hp').trans (g1.trans (g2.trans (g3.trans (g4.trans (g5.trans (g6.trans (g7.trans (g8.trans (g9.trans (g10.trans (g11.trans (g12.trans g13)))))))))))),
  ⟨k1.le m1, ⟨k2.le m2, k3.le m3, k4.le m4, k5.le m5⟩, ⟨k6.le m6, k7.le m7, k8.le m8, k9.le m9⟩, k10.le m10, k11.le m11, k12.le m12, k13⟩, Heap.le_trans l1 m1⟩
theorem RetO.frame {P : Program} {f : FuncId} {args : List Value} {H : Heap} {O : Go.Sx.Own} {r : Value} (h : RetO P f args H O r) (X : Go.Sx.Own) : RetO P f args H (O ++ X) r :=
 (Triple.frame h X).mono fun _ _ _ _ ⟨O'', e, e1, e2⟩ => ⟨e1, by rw [e, e2]⟩
theorem RetO.perm {P : Program} {f : FuncId} {args : List Value} {H : Heap} {O O' : Go.Sx.Own} {r : Value} (h : RetO P f args H O r) (hp : O.Perm O') : RetO P f args H O' r :=
 fun w F hm => (h w F (hm.perm (hp.symm.append_right F))).mono fun _ _ ⟨v, H', O1, he, ⟨q1, q2⟩, hle, hm'⟩ => ⟨v, H', O', he, ⟨q1, rfl⟩, hle, hm'.perm (by rw [q2]; exact hp.append_right F)⟩
theorem xT {P : Program} {f : FuncId} {args : List Value} {H : Heap} {O O1 O2 : Go.Sx.Own} {own : List BV} {shp : Shp} {K : List Value → List (List Value) → Heap → Go.Sx.Own → Prop} {R : Value → Heap → Go.Sx.Own → Prop}
  (hO : O.Perm (O1 ++ O2)) (h : Triple P f args H (own.map BV.obj ++ O1) fun v H' O' => ∃ O3, O' = own.map BV.obj ++ O3 ∧ R v H' O3) (hf : EX own (own.map (·.vs)))
  (hk : ∀ v H' O3, R v H' O3 → Heap.le H H' → ∃ vs, shp.open v = some vs ∧ Ones vs ∧ K vs (own.map (·.vs)) H' (O3 ++ O2)) :
  er (fun H1 O1 R => Triple P f args H1 O1 R) false [] own shp K H O := by
 intro _
 refine ⟨H, O1, O2, _, Ghost.perm hO, h, ?_⟩
 rintro v H' O' ⟨O3, rfl, hr⟩ hle
 obtain ⟨vs, h1, h2, h3⟩ := hk v H' O3 hr hle
 exact ⟨vs, own.map (·.vs), O3, h1, h2, hf, by rw [j2], h3⟩
theorem Sl.from {H : Heap} {size : Nat} {v : Value} {rows : List (List Value)} (h : Sl H size v rows) {i : Nat} (hi : i ≤ rows.length) : ∃ u, af (.slc size true false false) [v, .int .i64 i] = some u ∧ Sl H size u (rows.drop i) := by
 obtain ⟨a, cap, rfl, h1, h2, h3⟩ := h
 have hb : cO rows.length cap (some (.int .i64 (i : Int))) none none = some (i, rows.length, cap) := by
  simp [cO, bO, dF, qe, asI, hi]
 have hm : (rows.drop i).length = rows.length - i := List.length_drop
 refine ⟨.slice (if cap = i then a else a.map (·.add (i * size))) (rows.length - i) (cap - i), ?_, _, cap - i, by rw [hm], by rw [hm]; omega, by omega, fun hne => ?_⟩
 ·simp only [af, eR, jA, hb, Option.map_some]
 ·have hne2 : rows ≠ [] := by rintro rfl; simp at hne
  have hlt : i < rows.length := by
   rcases Nat.lt_or_ge i rows.length with h | h
   ·exact h
   ·rw [List.drop_of_length_le h] at hne; exact absurd rfl hne
  obtain ⟨ad, rfl, hA⟩ := h3 hne2
  refine ⟨ad.add (i * size), ?_, fun j r hr => ?_⟩
  ·rw [if_neg (by omega)]; rfl
  ·rw [List.getElem?_drop] at hr
   have := hA (i + j) r hr
   rw [oJ, ← Nat.add_mul]; exact this
def KindS (H : Heap) (v : Value) (ks : List Int) : Prop := ∃ rows, Sl H 14 v rows ∧ rows.length = ks.length ∧ ∀ (i : Nat) (r : List Value) (k : Int), rows[i]? = some r → ks[i]? = some k → g r 1 = iV k
theorem KindS.le {H H' : Heap} {v : Value} {ks : List Int} (h : KindS H v ks) (hl : Heap.le H H') : KindS H' v ks := let ⟨rows, h1, h2, h3⟩ := h; ⟨rows, h1.le hl, h2, h3⟩
theorem KindS.one {H : Heap} {v : Value} {ks : List Int} (h : KindS H v ks) : v.oneCell' = true := let ⟨_, h1, _⟩ := h; h1.one
end Go.Sx
namespace Go.Sx
open Go
set_option maxRecDepth 100000
set_option maxHeartbeats 1000000
end Go.Sx
namespace Go.Sx
open Go
structure Cd where
 kind : Int
 tg : List Int
 tr : List Nat
def EffsS (H : Heap) (v : Value) (tg : List Int) : Prop := ∃ rows, Sl H 5 v rows ∧ rows.length = tg.length ∧ ∀ (i : Nat) (r : List Value) (t : Int), rows[i]? = some r → tg[i]? = some t → g r 1 = iV t
def TrigR (H : Heap) (r : List Value) (n : Nat) : Prop := ∃ erows, Sl H 5 (g r 1) erows ∧ erows.length = n
def TrigsS (H : Heap) (v : Value) (tr : List Nat) : Prop := ∃ rows, Sl H 2 v rows ∧ rows.length = tr.length ∧ ∀ (i : Nat) (r : List Value) (n : Nat), rows[i]? = some r → tr[i]? = some n → TrigR H r n
structure CdR (H : Heap) (r : List Value) (c : Cd) : Prop where
 kind : g r 1 = iV c.kind
 eff : EffsS H (g r 11) c.tg
 trig : TrigsS H (g r 12) c.tr
def CardsS (H : Heap) (v : Value) (cs : List Cd) : Prop := ∃ rows, Sl H 14 v rows ∧ rows.length = cs.length ∧ ∀ (i : Nat) (r : List Value) (c : Cd), rows[i]? = some r → cs[i]? = some c → CdR H r c
theorem EffsS.le {H H' : Heap} {v : Value} {l : List Int} (h : EffsS H v l) (hl : Heap.le H H') : EffsS H' v l := let ⟨rows, h1, h2, h3⟩ := h; ⟨rows, h1.le hl, h2, h3⟩
theorem TrigR.le {H H' : Heap} {r : List Value} {n : Nat} (h : TrigR H r n) (hl : Heap.le H H') : TrigR H' r n := let ⟨rows, h1, h2⟩ := h; ⟨rows, h1.le hl, h2⟩
theorem TrigsS.le {H H' : Heap} {v : Value} {l : List Nat} (h : TrigsS H v l) (hl : Heap.le H H') : TrigsS H' v l := let ⟨rows, h1, h2, h3⟩ := h; ⟨rows, h1.le hl, h2, fun i r n a b => (h3 i r n a b).le hl⟩
theorem CdR.le {H H' : Heap} {r : List Value} {c : Cd} (h : CdR H r c) (hl : Heap.le H H') : CdR H' r c := ⟨h.kind, h.eff.le hl, h.trig.le hl⟩
theorem CardsS.le {H H' : Heap} {v : Value} {cs : List Cd} (h : CardsS H v cs) (hl : Heap.le H H') : CardsS H' v cs := let ⟨rows, h1, h2, h3⟩ := h; ⟨rows, h1.le hl, h2, fun i r c a b => (h3 i r c a b).le hl⟩
theorem CardsS.one {H : Heap} {v : Value} {cs : List Cd} (h : CardsS H v cs) : v.oneCell' = true := let ⟨_, h1, _⟩ := h; h1.one
theorem CardsS.len {H : Heap} {v : Value} {cs : List Cd} (h : CardsS H v cs) : af .len [v] = some (iV cs.length) := by
 obtain ⟨rows, h1, h2, _⟩ := h
 have := h1.len; rwa [h2] at this
theorem EffsS.one {H : Heap} {v : Value} {l : List Int} (h : EffsS H v l) : v.oneCell' = true := let ⟨_, h1, _⟩ := h; h1.one
theorem EffsS.len {H : Heap} {v : Value} {l : List Int} (h : EffsS H v l) : af .len [v] = some (iV l.length) := by
 obtain ⟨rows, h1, h2, _⟩ := h
 have := h1.len; rwa [h2] at this
theorem TrigsS.one {H : Heap} {v : Value} {l : List Nat} (h : TrigsS H v l) : v.oneCell' = true := let ⟨_, h1, _⟩ := h; h1.one
theorem TrigsS.len {H : Heap} {v : Value} {l : List Nat} (h : TrigsS H v l) : af .len [v] = some (iV l.length) := by
 obtain ⟨rows, h1, h2, _⟩ := h
 have := h1.len; rwa [h2] at this
theorem EffsS.nil (H : Heap) : EffsS H (.slice none 0 0) [] := ⟨[], Sl.nil H 5, rfl, fun i r t h => by simp at h⟩
theorem TrigsS.nil (H : Heap) : TrigsS H (.slice none 0 0) [] := ⟨[], Sl.nil H 2, rfl, fun i r t h => by simp at h⟩
def tgs (l : List Int) : List Tg := l.map fun n => ⟨n, 0⟩
structure Eff where
 (code target n m colour : Int)
deriving DecidableEq
def Eff.row (e : Eff) : List Value := [iV e.code, iV e.target, iV e.n, iV e.m, iV e.colour]
def kg (l : List Eff) : List (List Value) := l.map Eff.row
theorem vI (l : List Eff) : (kg l).length = l.length := by simp [kg]
theorem vJ {l : List Eff} {i : Nat} (h : i < l.length) : (kg l)[i]? = some l[i].row := by simp [kg, h]
structure CdX where
 kind : Int
 effs : List Eff
 trs : List (List Eff)
def CdX.base (c : CdX) : Cd := ⟨c.kind, c.effs.map (·.target), c.trs.map List.length⟩
def TrsX (H : Heap) (v : Value) (trs : List (List Eff)) : Prop := ∃ rows, Sl H 2 v rows ∧ rows.length = trs.length ∧ ∀ (i : Nat) (r : List Value) (l : List Eff), rows[i]? = some r → trs[i]? = some l → Sl H 5 (g r 1) (kg l)
structure CdRX (H : Heap) (r : List Value) (c : CdX) : Prop where
 kind : g r 1 = iV c.kind
 eff : Sl H 5 (g r 11) (kg c.effs)
 trig : TrsX H (g r 12) c.trs
def CardsX (H : Heap) (v : Value) (cs : List CdX) : Prop := ∃ rows, Sl H 14 v rows ∧ rows.length = cs.length ∧ ∀ (i : Nat) (r : List Value) (c : CdX), rows[i]? = some r → cs[i]? = some c → CdRX H r c
theorem TrsX.le {H H' : Heap} {v : Value} {l : List (List Eff)} (h : TrsX H v l) (hl : Heap.le H H') : TrsX H' v l := let ⟨rows, h1, h2, h3⟩ := h; ⟨rows, h1.le hl, h2, fun i r n a b => (h3 i r n a b).le hl⟩
theorem CdRX.le {H H' : Heap} {r : List Value} {c : CdX} (h : CdRX H r c) (hl : Heap.le H H') : CdRX H' r c := ⟨h.kind, h.eff.le hl, h.trig.le hl⟩
theorem CardsX.le {H H' : Heap} {v : Value} {cs : List CdX} (h : CardsX H v cs) (hl : Heap.le H H') : CardsX H' v cs := let ⟨rows, h1, h2, h3⟩ := h; ⟨rows, h1.le hl, h2, fun i r c a b => (h3 i r c a b).le hl⟩
theorem xN {H : Heap} {v : Value} {l : List Eff} (h : Sl H 5 v (kg l)) : EffsS H v (l.map (·.target)) := by
 refine ⟨_, h, by simp [kg], fun i r t a b => ?_⟩
 have hi : i < l.length := by
  have := (List.getElem?_eq_some_iff.1 a).1
  simpa [kg] using this
 rw [vJ hi] at a
 rw [List.getElem?_map, List.getElem?_eq_getElem hi] at b
 obtain rfl := Option.some.inj a
 obtain rfl := Option.some.inj b
 rfl
theorem CdRX.base {H : Heap} {r : List Value} {c : CdX} (h : CdRX H r c) : CdR H r c.base := by
 refine ⟨h.kind, xN h.eff, ?_⟩
 obtain ⟨rows, h1, h2, h3⟩ := h.trig
 refine ⟨rows, h1, by simp [CdX.base, h2], fun i r n a b => ?_⟩
 have hi : i < c.trs.length := by
  have := (List.getElem?_eq_some_iff.1 a).1
  omega
 simp only [CdX.base] at b
 rw [List.getElem?_map, List.getElem?_eq_getElem hi] at b
 obtain rfl := Option.some.inj b
 exact ⟨_, h3 i r _ a (List.getElem?_eq_getElem hi), vI _⟩
theorem CardsX.base {H : Heap} {v : Value} {cs : List CdX} (h : CardsX H v cs) : CardsS H v (cs.map CdX.base) := by
 obtain ⟨rows, h1, h2, h3⟩ := h
 refine ⟨rows, h1, by simp [h2], fun i r c a b => ?_⟩
 have hi : i < cs.length := by
  have := (List.getElem?_eq_some_iff.1 a).1
  omega
 rw [List.getElem?_map, List.getElem?_eq_getElem hi] at b
 obtain rfl := Option.some.inj b
 exact (h3 i r _ a (List.getElem?_eq_getElem hi)).base
theorem CardsX.one {H : Heap} {v : Value} {cs : List CdX} (h : CardsX H v cs) : v.oneCell' = true := let ⟨_, h1, _⟩ := h; h1.one
theorem CardsX.len {H : Heap} {v : Value} {cs : List CdX} (h : CardsX H v cs) : af .len [v] = some (iV cs.length) := by
 obtain ⟨rows, h1, h2, _⟩ := h
 have := h1.len; rwa [h2] at this
end Go.Sx
namespace Go.Sx
open Go
set_option maxRecDepth 100000
set_option maxHeartbeats 1000000
end Go.Sx
namespace Go.Proofs.YtpcpmblfhlcmaaaGreatDoor
open Go Go.Sx
set_option maxRecDepth 100000
set_option maxHeartbeats 1000000
theorem Gs {w w' : World} {H : Heap} {O : Go.Sx.Own} (hm : Models w H O) (ho : ∀ j, j < w.heap.size → w'.heap[j]? = w.heap[j]?) (he : dA w' = dA w) : Models w' H O := by
 have hlt : ∀ b (o : Obj), w.heap[b]? = some o → b < w.heap.size := fun b o hb => (Array.getElem?_eq_some_iff.1 hb).1
 exact ⟨fun b o hb => (ho b (hlt b o (hm.pers b o hb))).trans (hm.pers b o hb), fun p hp => ⟨(ho _ (hlt _ _ (hm.own p hp).1)).trans (hm.own p hp).1, (hm.own p hp).2⟩, hm.nodup, he.trans hm.env⟩
theorem Gq {w w' : World} {H : Heap} {O : Go.Sx.Own} (hm : Models w H O) (ho : ∀ j, j < w.heap.size → w'.heap[j]? = w.heap[j]?) (he : dA w' = dA w) {r : Nat} {o : Obj} (hr : w.heap.size ≤ r) (hn : w'.heap[r]? = some o) : Models w' H ((r, o) :: O) := by
 have hlt : ∀ b (o : Obj), w.heap[b]? = some o → b < w.heap.size := fun b o hb => (Array.getElem?_eq_some_iff.1 hb).1
 have h := Gs hm ho he
 refine ⟨h.pers, fun p hp => ?_, ?_, h.env⟩
 ·rcases List.mem_cons.1 hp with rfl | hp
  ·refine ⟨hn, ?_⟩
   cases hH : H r with
   | none => rfl
   | some x => have := hlt _ _ (hm.pers _ _ hH); omega
  ·exact h.own p hp
 ·rw [List.map_cons, List.nodup_cons]
  refine ⟨fun hx => ?_, h.nodup⟩
  obtain ⟨p, hp, e⟩ := List.mem_map.1 hx
  have := hlt _ _ (hm.own p hp).1
  have : p.1 = r := e
  omega
theorem za {H : Heap} {r : Nat} {c : Array Value} {T : TypeId} {mk : Nat × Nat} (h : H r = some (.cells c T mk)) {i : Nat} {v : Value} (hi : c[i]? = some v) : H.read (.pointer (some ⟨r, i, none⟩)) 1 = some [v] := by
 simp [Heap.read, Heap.cell?, aZ, h, hi]
def iU (l : List UInt8) : List (List Value) := l.map fun b => [Value.int .u8 (b.toNat : Int)]
theorem fk (l : List UInt8) : (iU l).length = l.length := by simp [iU]
theorem lV {l : List UInt8} {i : Nat} (h : i < l.length) : (iU l)[i]? = some [Value.int .u8 (l[i].toNat : Int)] := by simp [iU, h]
theorem IA : PP.underlying 9 = some .string := by kernel_rfl
theorem Gf : PP.underlying 376 = some (.slice 5) := by kernel_rfl
theorem IB : PP.underlying 5 = some (.int .u8) := by kernel_rfl
theorem sW {l : List UInt8} {H : Heap} {O : Go.Sx.Own} {K : List Value → List (List Value) → Heap → Go.Sx.Own → Prop} (hl : l.length < 2 ^ 62)
  (hk : ∀ v H', Heap.le H H' → Sl H' 1 v (iU l) → K [v] [] H' O) : er (fun H1 O1 R => b9 PP ((PrimOp.convert 9 376).sem [Str l]) H1 O1 R) false [] [] .one K H O := by
 intro _
 refine ⟨H, [], O, fun v H' O' => Sl H' 1 v (iU l) ∧ O' = [], Ghost.refl _ _, fun w F hm => ?_, ?_⟩
 ·have hr := Go.Lib.run_convert_string_bytes (P := PP) w 9 376 5 ⟨l.toArray⟩ IA Gf IB
  have hn := Go.Lib.bytesWorld_at_new w 5 ⟨l.toArray⟩
  have hm' : Models w H F := by simpa using hm
  have hm2 := Gq hm' (w' := Go.Lib.bytesWorld w 5 ⟨l.toArray⟩) (fun j hj => Go.Lib.bytesWorld_at_old w _ _ j hj) rfl (Nat.le_refl _) hn
  have hH : H w.heap.size = none := (hm2.own _ List.mem_cons_self).2
  have hr2 : ((PrimOp.convert 9 376).sem [Str l]).run PP w = .ok (.value (.slice (some ⟨w.heap.size, 0, none⟩) (⟨l.toArray⟩ : ByteArray).size (grownCap w (⟨l.toArray⟩ : ByteArray).size 0 5))) (Go.Lib.bytesWorld w 5 ⟨l.toArray⟩) := by
   simp only [PrimOp.sem, Sem.run_bind, hr, Result.andThen_ok]; rfl
  refine ⟨_, _, H.ins w.heap.size _, [], hr2, ⟨?_, rfl⟩, Heap.le_ins H _ _, by simpa using hm2.freeze⟩
  have hsz : (⟨l.toArray⟩ : ByteArray).size = l.length := by simp [ByteArray.size]
  have hcap : l.length ≤ grownCap w (⟨l.toArray⟩ : ByteArray).size 0 5 ∧ grownCap w (⟨l.toArray⟩ : ByteArray).size 0 5 < 2 ^ 63 := by
   rw [hsz]
   have h1 := grownCap_ge w l.length 0 5
   have h2 := grownCap_le_maxLen w l.length 0 5 (by simp only [maxLen]; omega)
   simp only [maxLen] at h2
   exact ⟨h1, by omega⟩
  refine ⟨_, _, by rw [hsz, fk], by rw [fk]; exact hcap.1, hcap.2, fun _ => ⟨_, rfl, fun i row hrow => ?_⟩⟩
  have hi : i < l.length := by have := (List.getElem?_eq_some_iff.1 hrow).1; rwa [fk] at this
  rw [lV hi, Option.some.injEq] at hrow
  subst hrow
  refine ⟨?_, rfl, rfl, trivial⟩
  rw [aZ, Nat.zero_add, Nat.mul_one]
  refine za (c := Go.Lib.bytesCells w 5 ⟨l.toArray⟩) (by simp only [Heap.ins, hH, if_true]; rfl) ?_
  simp [Go.Lib.bytesCells, Array.getElem?_append, hi]
 ·rintro v H' O' ⟨hs, rfl⟩ hle
  exact ⟨[v], [], [], rfl, ⟨hs.one, trivial⟩, trivial, rfl, hk v H' hle hs⟩
def wi (n a b : Int) : Bool := decide (n ≥ a) && decide (n ≤ b)
theorem yd (n a b : Int) (H : Heap) (O : Go.Sx.Own) : RetO PP kS [iV n, iV a, iV b] H O (.bool (wi n a b)) := by
 refine mZ (vs := [iV n, iV a, iV b]) (by kernel_rfl) ⟨rfl, rfl, rfl, trivial⟩ ?_
 simp only [kE]
 refine ab _ (ik _ _) ?_
 refine ai (ai ?_)
 refine ab _ (nR _ _) ?_
 refine ai ?_
 refine ab _ (dt _ _) ?_
 exact ak ⟨rfl, rfl⟩
theorem FG (a b : Int) : af (.bin .lss .int) [.int .u8 a, .int .u8 b] = some (.bool (decide (a < b))) := by simp [af, ct, bW]
theorem FM (a b : Int) : af (.bin .gtr .int) [.int .u8 a, .int .u8 b] = some (.bool (decide (a > b))) := by simp [af, ct, bW]
def uc (b : UInt8) : Bool := wi b.toNat 32 126
abbrev wordsN : List (List UInt8) := [[115, 101, 116, 117, 112], [117, 110, 116, 97, 112], [117, 112, 107, 101, 101, 112], [100, 114, 97, 119], [109, 97, 105, 110], [97, 116, 116, 97, 99, 107], [98, 108, 111, 99, 107], [102, 105, 103, 104, 116], [100, 97, 109, 97, 103, 101], [115, 101, 99, 111, 110, 100], [101, 110, 100]]
def dp : Bw := fun n => if Nat.beq n 0 = true then some (wordsN.map Str) else none
noncomputable def cfgN : Cfg := ⟨PP, fun f => okL.contains f, dp, fun f => Nat.beq f 94, 621922031509908443576790398935426515279225205642713071932644885373239211602623875922036801178230889080421822188030150945718272771602816910262268⟩
def isS (l : List UInt8) (r : SV × CS) : Bool := match r.1 with | .s (.at (.k (.string s))) => s.data.toList == l | _ => false
structure TrimN (l : List UInt8) : Prop where
 h : (gV cfgN (fun _ _ _ _ _ => none) 10 40 281 [.at (.k (Str l)), .at (.k (.string ⟨#[32]⟩))] [] 0 ⟨[], []⟩).den fun r => isS l r = true
theorem TrimN.c {l : List UInt8} (h : TrimN l) {H : Heap} (hg : GlobOk dp H) (O : Go.Sx.Own) : RetO PP 281 [Str l, .string ⟨#[32]⟩] H O (Str l) := by
 have := (jq (c := cfgN) qR (fun _ h => eI fP h) hg (sum := fun _ _ _ _ _ => none) (fun f args mem next h g F w K _ hs => by cases hs) (f := 281) (args := [.at (.k (Str l)), .at (.k (.string ⟨#[32]⟩))]) (by kernel_rfl) (by
  intro s hs
  simp only [List.mem_cons, List.not_mem_nil, or_false] at hs
  rcases hs with rfl | rfl <;> exact jZ _) h.h).frame O
 refine this.mono ?_
 rintro v H' O' _ ⟨O'', rfl, rfl, rfl, sv, y, hrel, hk⟩
 refine ⟨?_, rfl⟩
 unfold isS at hk
 simp only at hk
 split at hk
 ·rename_i s
  have hrel : v = .string s := hrel
  have hs : s.data.toList = l := by simpa using hk
  rw [hrel, ← hs]
 ·cases hk
theorem f8 {l : List UInt8} (h : ((G.exN 6 (gV cfgN (fun _ _ _ _ _ => none) 10 40 281 [.at (.k (Str l)), .at (.k (.string ⟨#[32]⟩))] [] 0 ⟨[], []⟩) []).x, (G.exN 6 (gV cfgN (fun _ _ _ _ _ => none) 10 40 281 [.at (.k (Str l)), .at (.k (.string ⟨#[32]⟩))] [] 0 ⟨[], []⟩) []).fine (isS l)) = ((G.exN 6 (gV cfgN (fun _ _ _ _ _ => none) 10 40 281 [.at (.k (Str l)), .at (.k (.string ⟨#[32]⟩))] [] 0 ⟨[], []⟩) []).y, true)) : TrimN l := by
 refine ⟨G.reckon (p := isS l) (fun _ h => h) 6 0 _ ?_⟩
 intro k
 rw [Prod.mk.injEq] at h
 exact h
abbrev Bn : List UInt8 := [102, 105, 101, 108, 100]
abbrev Iw : List UInt8 := [102, 111, 120]
abbrev E4 : List UInt8 := [119, 101, 108, 108]
abbrev HC : List UInt8 := [105, 109, 112]
theorem u4 : TrimN Bn := f8 (by kernel_rfl)
theorem yF : TrimN Iw := f8 (by kernel_rfl)
theorem wj : TrimN E4 := f8 (by kernel_rfl)
theorem yE : TrimN HC := f8 (by kernel_rfl)
theorem mH {l : List UInt8} (hT : TrimN l) (hw : wi l.length 1 32 = true) (hall : l.all uc = true) {H : Heap} (hg : GlobOk dp H) (O : Go.Sx.Own) : RetO PP fw [Str l] H O (.bool true) := by
 refine oY (vs := [Str l]) (by kernel_rfl) ⟨rfl, trivial⟩ ?_
 simp only [lZ]
 refine ab _ (BI l) ?_
 refine am (yd l.length 1 32 _ _) rfl ⟨rfl, trivial⟩ fun H1 l1 => ?_
 refine ab _ (aI _) (au (fun hd => ?_) (fun hd => ?_))
 ·rw [hw] at hd; cases hd
 have hl : l.length ≤ 32 := by
  have := hw
  simp only [wi, Bool.and_eq_true, decide_eq_true_eq] at this
  omega
 refine am (hT.c (hg.le l1) _) rfl ⟨rfl, trivial⟩ fun H2 l2 => ?_
 refine ab _ (BH _ _) (au (fun hd => ?_) (fun hd => ?_))
 ·simp at hd
 refine sW (by omega) fun v H3 l3 hs => ?_
 have hlen := hs.len
 rw [fk] at hlen
 refine ab _ hlen ?_
 refine cT l.length (fun i H' O' => O' = O ∧ Heap.le H3 H' ∧ l.all uc = (l.drop i).all uc) ⟨rfl, Heap.le_refl _, by simp⟩ ?_
 rintro i H4 O4 hi - ⟨rfl, l4, hor⟩
 refine ab _ (bJ _ _) (au (fun hb => ?_) (fun hb => ?_))
 ·have hlt : i < l.length := by have := of_decide_eq_true hb; omega
  obtain ⟨a, k1, k2, _, k3, k4⟩ := ((hs.le l4).rsl O4).idx .i64 i _ (lV hlt)
  refine ab _ k1 (ba k2 k3 k4 ?_)
  refine ab _ (FG _ _) ?_
  refine ai ?_
  refine ab _ (FM _ _) ?_
  refine ai ?_
  refine ab _ (bQ _ _) (au (fun hd => ?_) (fun hd => ?_))
  ·have hc : uc l[i] = false := by
    simp only [Bool.or_eq_true, decide_eq_true_eq] at hd
    simp only [uc, wi, Bool.and_eq_false_iff, decide_eq_false_iff_not]
    omega
   exact absurd (hor.symm.trans hall) (by rw [List.drop_eq_getElem_cons hlt, List.all_cons, hc]; simp)
  ·have hc : uc l[i] = true := by
    simp only [Bool.or_eq_false_iff, decide_eq_false_iff_not] at hd
    simp only [uc, wi, Bool.and_eq_true, decide_eq_true_eq]
    omega
   refine ab _ (bX (by omega)) (cK (by simp [Eqs, E]) hlt ⟨rfl, l4, ?_⟩)
   rw [hor, List.drop_eq_getElem_cons hlt, List.all_cons, hc, Bool.true_and]
 ·have hge : l.length ≤ i := by have := of_decide_eq_false hb; omega
  exact ak ⟨rfl, rfl⟩
theorem Sl.block19 {H : Heap} {r size : Nat} {row : List Value} {T : TypeId} (h : H r = some (.cells row.toArray T (0, 0))) (hl : row.length = size) (ho : Ones row) : Sl H size (.slice (some ⟨r, 0, none⟩) 1 1) [row] := by
 refine ⟨_, _, rfl, Nat.le_refl _, by simp, fun _ => ⟨_, rfl, ?_⟩⟩
 intro i x hx
 cases i with
 | succ i => simp at hx
 | zero =>
  simp at hx
  subst hx
  refine ⟨?_, hl, ho⟩
  rw [aZ, Nat.zero_mul, Nat.add_zero, iN h (by omega)]
  simp [← hl]
end Go.Proofs.YtpcpmblfhlcmaaaGreatDoor
namespace Go.Proofs.YtpcpmblfhlcmaaaGreatDoor
open Go Go.Sx
open Go.Sx (Own)
set_option maxRecDepth 100000
set_option maxHeartbeats 1000000
def ve : Code → Code | .seq x _ => x | c => c
def qx : Code → Code | .seq _ x => x | c => c
def Ge : Code → Code | .block _ c => c | c => c
def rfA : Code → Code | .rangeFunc _ _ a _ => a | c => c
def rfB : Code → Code | .rangeFunc _ _ _ b => b | c => c
def rOf (s : SS) (t : Nat) : Nat := match s.tmps t with | .s (.at (.p _ r _)) => r | _ => 0
abbrev opK : vZ := uI okL [] [] []
theorem uF : ∀ f, opK.okf f = true → gU PP f := nK fP _ _ _
noncomputable def tj : Code := (Tryz.f245.body).getD .skip
def E0 (r : Nat) (fv : Value) : SS := { sz := 13, tmps := fun t => if t = 2 then .s (.at (.p 0 r 0)) else if t = 6 then .s (.at (.v fv)) else .s (.at .any), mem := fun n => if n = 0 then some ⟨r, 27, [.any]⟩ else none, next := 50 }
abbrev Am (r : Nat) : List (Nat × Bx × List Nat × Nat) := [(0, ⟨r, 27, [.any]⟩, [0], 0)]
noncomputable def Bc (vs : List Value) (C : List Value → Heap → Go.Sx.Own → Prop) : Tree := sx PP opK (ve tj) (gy PP Tryz.f245 vs) (fun s => sx PP opK (ve (ve (qx tj))) s (fun s => ep 0 C [] [2, 6] (Am (rOf s 2)) (E0 (rOf s 2) (g vs 1)) s) (fun _ => none) (fun _ => .stuck 1)) (fun _ => none) (fun _ => .stuck 1)
noncomputable def Iz (r : Nat) (fv : Value) (Rel : List Int → List Value → Heap → Go.Sx.Own → Prop) : RangeLoop PP opK Int := { h := E0 r fv, keep := [2, 6], hb := Am r, p := 7, enc := fun x => .int .i64 x, assign := rfA (Ge (qx (ve (qx tj)))), body := rfB (Ge (qx (ve (qx tj)))), Rel, RelX := fun _ _ _ => False }
noncomputable def wW (r : Nat) (fv : Value) (v : List Value) : Tree := sx PP opK (qx (qx tj)) (gQ (E0 r fv) [] [2, 6] (Am r) v) (js PP Tryz.f245) (fun _ => none) (js PP Tryz.f245)
theorem wV (vs : List Value) (C : List Value → Heap → Go.Sx.Own → Prop) : Bc vs C = .newbox fun r => .cont 0 C [g vs 0] [([.pointer (some ⟨r, 0, none⟩)], [.pointer (some ⟨r, 0, none⟩)]), ([g vs 1], [g vs 1]), ([.pointer (some ⟨r, 0, none⟩), .tuple #[]], [.pointer (some ⟨r, 0, none⟩), .tuple #[]])] := by kernel_rfl
theorem tA (r : Nat) (fv : Value) (Rel : List Int → List Value → Heap → Go.Sx.Own → Prop) (pre : List Int) (x : Int) (v : List Value) : (Iz r fv Rel).round pre x v = .chk (.eqN r r) (.newbox fun q => .prim (.bi .append #[27, 27] 27) [g v 0, .slice (some ⟨q, 0, none⟩) 1 1] [⟨q, 3, [iV x]⟩] [] .one fun l _ =>
  .chk (.eqN r r) (.cont 0 (fun vs H O => Cons H O → ∃ H3 O3, Ghost H O H3 O3 ∧ Rel (pre ++ [x]) vs H3 O3) [g l 0] [([.pointer (some ⟨r, 0, none⟩)], [.pointer (some ⟨r, 0, none⟩)]), ([fv], [fv]), ([.pointer (some ⟨r, 0, none⟩), .tuple #[]], [.pointer (some ⟨r, 0, none⟩), .tuple #[]])])) := by kernel_rfl
theorem vk (r : Nat) (fv : Value) (v : List Value) : wW r fv v = .chk (.eqN r r) (.ret (g v 0) []) := by kernel_rfl
def EH : Code → Code → Code → Code → Code → Code := fun A B ax bd post => .seq A (.seq (.seq B (.block 0 (.rangeFunc (.tmp 6) #[7] ax bd))) post)
theorem EQ : tj = EH (ve tj) (ve (ve (qx tj))) (rfA (Ge (qx (ve (qx tj))))) (rfB (Ge (qx (ve (qx tj))))) (qx (qx tj)) := by kernel_rfl
section
open Go.RowKit Go.Shelf
attribute [local go_sem] Oper.semAt_some
set_option maxHeartbeats 2000000 in
theorem yB (l k1 len cap b off : Nat) (f : Nat → Int) (h8 : len * 8 ≤ 140737488351232) (K : Nat → World → Prop) (Kx : World → Prop)
  (hbox : ∀ k W, K k W → W.cell? ⟨k1, 0, none⟩ = some (.slice (some ⟨b, off, none⟩) len cap)) (hc : ∀ k0 W, K k0 W → ∀ k, k < len → W.cell? ⟨b, off + k, none⟩ = some (.int .i64 (f k)))
  (hY : ∀ k W, k < len → K k W → YieldAt Fence.wide (1 - 1) Tryz.prog l #[.int .i64 (f k)] W fun e W' => (e = .returned (.bool true) ∧ K (k + 1) W') ∨ (e = .returned (.bool false) ∧ Kx W')) (W : World) (h0 : K 0 W) :
  CallsIn Fence.wide 1 Tryz.prog 177 #[.func (.yield l) #[] #[], .pointer (some ⟨k1, 0, none⟩)] W fun e W' => (∃ v, e = .returned v) ∧ (K len W' ∨ Kx W') := by
 have hn : 1 ≤ 1 := Nat.le_refl 1
 have hb0 := hbox 0 W h0
 refine callsIn_of_wp Tryz.func177 rfl trivial ?_ rfl
 simp only [Tryz.ntmps177, List.size_toArray, List.length_cons, List.length_nil, Nat.reduceAdd, Nat.reduceSub, Array.replicate_succ, Array.replicate_zero, List.push_toArray, List.append_toArray, List.nil_append, List.cons_append]
 gi_wp2
 gi_loopw [7] (fun i wr => ∃ k : Nat, k ≤ len ∧ i = .int .i64 k ∧ K k wr)
  (fun i _ => len - (intOf i).toNat)
 case atStart => exact ⟨0, Nat.zero_le _, rfl, h0⟩
 case round =>
  obtain ⟨k, hk, rfl, hJs⟩ := hrel
  have hcx : k < len → wr.cell? ⟨b, off + k, none⟩ = some (.int .i64 (f k)) := fun h => hc _ wr hJs k h
  by_cases hlt : k < len
  ·obtain ⟨fn, tmps, assign, body, hy, hR⟩ := hY k wr hlt hJs
   have hcx' := hcx hlt
   gi_wp2
   refine hR.mono ?_
   rintro e W3 (⟨rfl, hJ3⟩ | ⟨rfl, hJx3⟩)
   ·gi_wp2
    go_roundw
    case rel => exact ⟨k + 1, by omega, by simp, hJ3⟩
    case measure => simp [intOf]; omega
   ·gi_wp2
    refine bodyPost_ret (results_none rfl _ _ _) rfl ?_
    exact ⟨⟨_, rfl⟩, .inr hJx3⟩
  ·obtain rfl : k = len := by omega
   gi_wp2
   go_end0
   exact ⟨⟨_, rfl⟩, .inl hJs⟩
set_option maxHeartbeats 2000000 in
theorem wd (l k1 cap : Nat) (a : Option Addr) (K : Nat → World → Prop) (hbox : ∀ k W, K k W → W.cell? ⟨k1, 0, none⟩ = some (.slice a 0 cap)) (W : World) (h0 : K 0 W) :
  CallsIn Fence.wide 1 Tryz.prog 177 #[.func (.yield l) #[] #[], .pointer (some ⟨k1, 0, none⟩)] W fun e W' => (∃ v, e = .returned v) ∧ K 0 W' := by
 have hb0 := hbox 0 W h0
 refine callsIn_of_wp Tryz.func177 rfl trivial ?_ rfl
 simp only [Tryz.ntmps177, List.size_toArray, List.length_cons, List.length_nil, Nat.reduceAdd, Nat.reduceSub, Array.replicate_succ, Array.replicate_zero, List.push_toArray, List.append_toArray, List.nil_append, List.cons_append]
 gi_wp2
 gi_loopw [7] (fun i wr => i = .int .i64 0 ∧ K 0 wr) (fun _ _ => 0)
 case atStart => exact ⟨rfl, h0⟩
 case round =>
  obtain ⟨rfl, hJs⟩ := hrel
  gi_wp2
  go_end0
  exact ⟨⟨_, rfl⟩, hJs⟩
end
theorem EI {H H' : Heap} {a : Addr} {v : Value} (hl : Heap.le H H') (h : H.cell? a = some v) : H'.cell? a = some v := by
 simp only [Heap.cell?] at h ⊢
 split at h
 ·rename_i heq
  rw [hl.1 _ _ heq]
  exact h
 ·cases h
theorem sQ {f : FuncId} {args : Array Value} {w : World} {R : Ending → World → Prop} {n m : Nat} (h : CallsIn Fence.wide n PP f args w R) : CallsIn (Fr none) m PP f args w R := kp (callsIn_wide.1 h)
def SlC (H : Heap) (sv : Value) (zs : List Int) : Prop :=
 (zs = [] ∧ ∃ a cap, sv = .slice a 0 cap) ∨ ∃ b off cap, sv = .slice (some ⟨b, off, none⟩) zs.length cap ∧ ∀ k, k < zs.length → H.cell? ⟨b, off + k, none⟩ = some (.int .i64 (zs[k]?.getD 0))
theorem s3 {H0 : Heap} {sv : Value} {zs : List Int} (hs : SlC H0 sv zs) (hlen : zs.length ≤ 1000) (k1 : Nat) (T : TypeId) :
  Triple PP 245 [.slice none 0 0, .func (.func 177) #[] #[.pointer (some ⟨k1, 0, none⟩)]] H0 [(k1, .cells #[sv] T (0, 0))] fun r _ O' => OSl ec 1 r (eY zs) O' ∧ (zs = [] → r = .slice none 0 0) := by
 intro w F hm
 refine (callsIn_wide (n := 0)).1 ?_
 let fv : Value := .func (.func 177) #[] #[.pointer (some ⟨k1, 0, none⟩)]
 let vs : List Value := [.slice none 0 0, fv]
 let o0 : Obj := .cells #[sv] T (0, 0)
 refine callsIn_of_wp_marks (F := Fr none) Tryz.func245 (c := tj) rfl trivial ?_ rfl
 have hC : Conc F (gy PP Tryz.f245 vs) H0 [(k1, o0)] (Act.mk (vs.toArray ++ Array.replicate (Tryz.f245.ntmps - vs.toArray.size) undef) []) w := pW (args := vs) (vs := vs) (by kernel_rfl) ⟨rfl, rfl, trivial⟩ hm
 have hpre : (Bc vs fun v H O => v = [.slice none 0 0] ∧ H = H0 ∧ O = [(k1, o0)]).den PP (fun _ _ _ => True) H0 [(k1, o0)] := by
  rw [wV]
  exact fun r => ⟨by simp [Eqs], rfl, rfl, rfl⟩
 have hout : ∀ a w', ¬ bodyPostM (Fr none) 0 PP Tryz.f245 (fun e w' => ∃ v H' O', e = .returned v ∧ (OSl ec 1 v (eY zs) O' ∧ (zs = [] → v = .slice none 0 0)) ∧ Heap.le H0 H' ∧ Models w' H' (O' ++ F)) .outgrown a w' := by
  rintro a w' ⟨v, H', O', e, _⟩
  cases e
 rw [EQ]
 refine wpIn_seq ?_
 rw [← mP (Act.mk _ _)]
 refine fF (ro := none) (d := []) qR uF (ve tj) (by kernel_rfl) (fun a w h => hout a w h) hpre hC ⟨?_⟩ (fun id kx he => by cases he) ⟨fun s' H' O' a' w' _ _ hd' => hd'.elim⟩
 intro s1 H1 O1 a1 w1 hC1 l1 hd1
 refine wpIn_seq (wpIn_seq ?_)
 refine fF (ro := none) (d := []) qR uF (ve (ve (qx tj))) (by kernel_rfl) (fun a w h => hout a w h) hd1 hC1 ⟨?_⟩ (fun id kx he => by cases he) ⟨fun s' H' O' a' w' _ _ hd' => hd'.elim⟩
 intro s2 H2 O2 a2 w2 hC2 l2 hd2
 have hokh : ∀ r, (E0 r fv).Ok := fun r => ⟨fun t => by
   simp only [E0]
   split
   ·intro b hb; simp [S1.cells] at hb; subst hb; trivial
   ·split
    ·intro b hb; simp [S1.cells] at hb; subst hb; rfl
    ·intro b hb; simp [S1.cells] at hb; subst hb; trivial, fun n b hb a ha => by
   simp only [E0] at hb
   split at hb
   ·cases hb; simp at ha; subst ha; trivial
   ·cases hb⟩
 obtain ⟨⟨b1, rfl, rfl⟩, b2, b3, b4⟩ := eA hd2 hC2 (hokh _) (by
  intro n b cells i hmem
  simp only [List.mem_singleton, Prod.mk.injEq] at hmem
  obtain ⟨rfl, rfl, rfl, rfl⟩ := hmem
  rfl)
 let r := rOf s2 2
 have hrow1 : ∀ x : Int, Ones [iV x] := fun _ => ⟨rfl, trivial⟩
 rw [b1] at b2
 have hCL := xP b2
 let R := Iz r fv fun pre v H O => ∃ x, v = [x] ∧ OSl ec 1 x (eY pre) O ∧ (pre = [] → x = .slice none 0 0)
 have hg : a2.eval (.tmp 6) = fv := by
  have h6 : SV.rel (.s (.at (.v fv))) (a2.tmps.getD 6 undef) := hCL.tm 6
  exact h6
 rw [mP]
 refine wpIn_block (wQ (opts := opK) qR uF R (fun _ _ _ => True) (by kernel_rfl) (by kernel_rfl) (hokh r) ?_ (by show 7 < 13; omega) (fun _ => rfl) (F := F) (k1 := k1) (o0 := o0) (H0 := H2) (O0 := []) (v0 := [.slice none 0 0]) hCL ⟨_, rfl, OSl.nil _ _, fun _ => rfl⟩ (Nx := fun pre x => ∃ k, k < zs.length ∧ pre = zs.take k ∧ x = zs[k]?.getD 0) ?_ ⟨⟨rfl, trivial⟩, rfl⟩ hg (enters_of Tryz.func177 (by kernel_rfl) rfl) (S := fun xs => xs = zs) ?_ ?_ ?_)
 ·intro n b cells i hmem
  have hmem : (n, b, cells, i) ∈ Am r := hmem
  simp only [List.mem_singleton, Prod.mk.injEq] at hmem
  obtain ⟨rfl, rfl, rfl, rfl⟩ := hmem
  rfl
 ·
  rintro pre x v H O ⟨k, hk, rfl, rfl⟩ hv1 hv2 hle ⟨y, rfl, hy, _⟩
  rw [tA]
  have hkl : (eY (zs.take k)).length = k := by simp [eY]; omega
  refine ae (an fun q => ?_)
  refine jG (rows := eY (zs.take k)) (news := [[iV (zs[k]?.getD 0)]]) (O1 := O) (O2 := []) (e := ec) (size := 1) (bytes := 8) (by kernel_rfl) (by simp) hy (fun Hf _ hf => Sl.block19 (hf _ List.mem_cons_self) rfl ⟨rfl, trivial⟩) (by rw [hkl]; simp; omega) (by rw [hkl]; simp; omega) ?_
  intro v' O1' H' l' hO
  refine ae ⟨by simp [Eqs], fun _ => ⟨H', O1' ++ [], Ghost.refl _ _, v', rfl, ?_⟩⟩
  rw [List.append_nil]
  have e : eY (zs.take k ++ [zs[k]?.getD 0]) = eY (zs.take k) ++ [[iV (zs[k]?.getD 0)]] := by simp [eY]
  rw [e]; exact ⟨hO, fun e => by simp at e⟩
 ·
  intro l K Kx hput hmod hY W hK0
  have hbox : ∀ pre o W, K pre o W → W.heap[k1]? = some o := fun pre o W hK => by
   obtain ⟨H, O, _, hm', hin⟩ := hmod pre o W hK
   exact (hm'.own _ hin).1
  rcases hs with ⟨hne, a, cap, rfl⟩ | ⟨b, off, cap, rfl, hcs⟩
  ·subst hne
   refine (sQ (wd l k1 cap a (fun _ W => K [] o0 W) (fun k W hK => by simp [World.cell?, hbox _ _ _ hK, o0]) W hK0)).mono ?_
   rintro e W' ⟨he, hK⟩
   exact ⟨he, .inl ⟨_, _, rfl, hK⟩⟩
  ·refine (sQ (yB l k1 zs.length cap b off (fun k => zs[k]?.getD 0) (by omega) (fun k W => K (zs.take k) o0 W) Kx (fun k W hK => by simp [World.cell?, hbox _ _ _ hK, o0]) (fun k0 W hK k hk => by
    obtain ⟨H, O, hle, hm', _⟩ := hmod _ _ _ hK
    exact hm'.cell? (EI hle (hcs k hk))) (fun k W hk hK => by
    obtain ⟨fn, tmps, asg, bod, hy, hR⟩ := hY (zs.take k) (zs[k]?.getD 0) o0 W ⟨k, hk, rfl, rfl⟩ hK
    refine ⟨fn, tmps, asg, bod, hy, RoundIn.mono hR ?_⟩
    have e : zs.take (k + 1) = zs.take k ++ [zs[k]?.getD 0] := by rw [List.take_add_one, List.getElem?_eq_getElem hk]; rfl
    rw [e]
    exact fun _ _ h => h) W (by simpa using hK0))).mono ?_
   rintro e W' ⟨he, hK | hK⟩
   ·exact ⟨he, .inl ⟨_, _, rfl, by simpa using hK⟩⟩
   ·exact ⟨he, .inr hK⟩
 ·
  rintro D xs v H O W F' hS hv1 hv2 hle ⟨y, rfl, hy, hy0⟩ hCd
  rw [hS] at hy hy0
  have hpost : (wW r fv [y]).den PP (fun r _ O' => OSl ec 1 r (eY zs) O' ∧ (zs = [] → r = .slice none 0 0)) H O := by
   rw [vk]
   exact ae (ak ⟨hy, hy0⟩)
  refine (show (qx (qx tj)).wpIn (Fr none) 0 PP _ (shift [Go.Sx.mark D] a2) W from ?_)
  refine fF (ro := none) (d := [Go.Sx.mark D]) qR uF (qx (qx tj)) (by kernel_rfl) hout hpost hCd ⟨?_⟩ (fun id kx he => by cases he) ⟨?_⟩
  ·intro s' H' O' a' w' hC' hle' hd'
   refine nS hC' hd' ?_
   intro v H'' O'' w'' hq hl' hm'
   exact ⟨v, H'', O'', rfl, hq, Heap.le_trans hle (Heap.le_trans hle' hl'), hm'.sub (List.Sublist.append_left (List.sublist_append_right _ _) _)⟩
  ·intro s' H' O' a' w' hC' hle' hd'
   refine nS hC' hd' ?_
   intro v H'' O'' w'' hq hl' hm'
   exact ⟨v, H'', O'', rfl, hq, Heap.le_trans hle (Heap.le_trans hle' hl'), hm'.sub (List.Sublist.append_left (List.sublist_append_right _ _) _)⟩
 ·rintro D v H O W F' _ _ _ h
  exact h.elim
def sE : List At → Option (List Int)
 | [] => some []
 | a :: r => match a with
  | .k (.int .i64 n) => match sE r with | some l => some (n :: l) | none => none
  | _ => none
theorem nW : ∀ {l : List At} {zs : List Int}, sE l = some zs → l = zs.map fun n => .k (iV n)
 | [], zs, h => by simp only [sE, Option.some.injEq] at h; subst h; rfl
 | a :: r, zs, h => by
  simp only [sE] at h
  split at h
  ·split at h
   ·rename_i l hl
    simp only [Option.some.injEq] at h
    subst h
    rw [nW hl]; rfl
   ·cases h
  ·cases h
theorem xJ (l : List Int) : (l.map fun n => [iV n]).flatten = l.map (At.den ∘ fun n => At.k (iV n)) := by
 induction l with
 | nil => rfl
 | cons x r ih => simp only [List.map_cons, List.flatten_cons, ih]; rfl
def slI (mem : List (Nat × Option Bx)) (n : Nat) : At → Option (List Ck × List Int × Option (Nat × Bx))
 | .k (.slice _ 0 _) => some ([], [], none)
 | .v (.slice _ 0 _) => some ([], [], none)
 | .sl n2 r2 off len _ =>
  if Nat.beq n2 n = true then none else
  match aO mem n2 with
  | some (some b) =>
   match sE ((b.cs.drop off).take len) with
   | some l => if (Nat.beq l.length len && Nat.ble len 1000) = true then some ([.eqN r2 b.r], l, some (n2, b)) else none
   | none => none
  | _ => none
 | _ => none
def ID (Ti : Nat) (mem : List (Nat × Option Bx)) (next : Nat) (h : HS) (n : Nat) : List Int → G (SV × CS)
 | [] => .done (.s (.at (.k (.slice none 0 0))), cC ((n, none) :: mem) next h)
 | x :: l => .box fun r => .box fun c => .done (.s (.at (.sl next r 0 (l.length + 1) (c + (l.length + 1)))),
   cC ((next, some ⟨r, Ti, wide ((x :: l).map fun n => .k (iV n)) c 1⟩) :: (n, none) :: mem) (next + 1) { h with gr := (next, l.length + 1, c) :: h.gr })
def wv (fs fv Ti : Nat) : SumG := fun f args mem next h =>
 if Nat.beq f fs = true then
  match args with
  | [.at (.k (.slice none 0 0)), .at (.clo g [.b n r 0])] =>
   if Nat.beq g fv = true then
    match aO mem n with
    | some (some b) => match b.cs with
     | [a] => match slI mem n a with
      | some (k, l, _) => some (G.mchk (.eqN r b.r :: k) (ID Ti mem next h n l))
      | none => none
     | _ => none
    | _ => none
   else none
  | _ => none
 else none
theorem yZ {mem : List (Nat × Option Bx)} {n : Nat} {a : At} {k : List Ck} {l : List Int} {bx : Option (Nat × Bx)} (h : slI mem n a = some (k, l, bx)) (hk : AllCk k) {L : Go.Sx.Own}
  (hB : Boxes (fun m => if m = n then none else (aO mem m).getD none) L) {w : World} {H : Heap} {X : Go.Sx.Own} (hm : Models w H (L ++ X)) :
  a.known = true ∧ l.length ≤ 1000 ∧ ∃ (Y : Go.Sx.Own) (H1 : Heap), Models w H1 (Y ++ X) ∧ SlC H1 a.den l ∧ ∀ w' H' Z X', Heap.le H1 H' → Models w' H' (Z ++ (Y ++ X')) → Models w' H (Z ++ (L ++ X')) := by
 unfold slI at h
 split at h
 ·simp only [Option.some.injEq, Prod.mk.injEq] at h
  obtain ⟨rfl, rfl, rfl⟩ := h
  exact ⟨rfl, by simp, L, H, hm, .inl ⟨rfl, _, _, rfl⟩, fun w' H' Z X' hl hm' => hm'.less hl⟩
 ·simp only [Option.some.injEq, Prod.mk.injEq] at h
  obtain ⟨rfl, rfl, rfl⟩ := h
  exact ⟨rfl, by simp, L, H, hm, .inl ⟨rfl, _, _, rfl⟩, fun w' H' Z X' hl hm' => hm'.less hl⟩
 ·rename_i n2 r2 off len cap
  split at h
  ·cases h
  ·rename_i hne
   have hne : n2 ≠ n := fun e => hne (by rw [e]; exact Nat.beq_refl n)
   split at h
   ·rename_i b hb
    split at h
    ·rename_i l' hl
     split at h
     ·rename_i hc
      simp only [Option.some.injEq, Prod.mk.injEq] at h
      obtain ⟨rfl, rfl, rfl⟩ := h
      rw [Bool.and_eq_true] at hc
      have hlen : l'.length = len := Nat.eq_of_beq_eq_true hc.1
      have hsm : len ≤ 1000 := Nat.le_of_ble_eq_true hc.2
      have hr : r2 = b.r := hk.1
      subst hr
      obtain ⟨vs, L2, hrel, hp, _⟩ := hB.take (n := n2) (b := b) (by simp [hne, hb])
      have hm1 : Models w H ((b.r, .cells vs.toArray b.T (0, 0)) :: (L2 ++ X)) := by
       refine hm.perm ?_
       have := hp.append_right X
       simpa using this
      have hnone : H b.r = none := (hm1.own _ List.mem_cons_self).2
      refine ⟨rfl, by omega, L2, H.ins b.r (.cells vs.toArray b.T (0, 0)), hm1.freeze, ?_, ?_⟩
      ·refine .inr ⟨b.r, off, cap, by simp [At.den, hlen], fun i hi => ?_⟩
       have hcell : ((vs.drop off).take len)[i]? = some (iV (l'[i]?.getD 0)) := by
        have h1 := (hrel.drop off).take len
        rw [nW hl] at h1
        have h2 := h1.known (by simp [At.known])
        rw [h2]
        simp [At.den, hi]
       have hget : vs[off + i]? = some (iV (l'[i]?.getD 0)) := by
        rw [List.getElem?_take] at hcell
        split at hcell
        ·rw [List.getElem?_drop] at hcell; exact hcell
        ·cases hcell
       simp only [Heap.cell?, Heap.ins, hnone, if_true]
       simpa using hget
      ·intro w' H' Z X' hl' hm'
       have h1 := hm'.thaw hnone hl'
       refine h1.perm ?_
       have h3 := hp.append_right X'
       have h4 := (h3.append_left Z).symm
       refine List.Perm.trans ?_ h4
       rw [List.cons_append]
       exact List.perm_middle.symm
     ·cases h
    ·cases h
   ·cases h
 ·cases h
theorem sumSeq_ok {ok : FuncId → Bool} {H : Heap} : SumOkG PP ok H (wv 245 177 ec) := by
 intro f args mem next h g F w K _ hs hden hargs hmem
 unfold wv at hs
 split at hs
 ·rename_i hf
  have hf := Nat.eq_of_beq_eq_true hf
  split at hs
  ·rename_i g' n r
   split at hs
   ·rename_i hg
    have hg := Nat.eq_of_beq_eq_true hg
    split at hs
    ·rename_i b hb
     split at hs
     ·rename_i a hba
      split at hs
      ·rename_i k l bx hsl
       simp only [Option.some.injEq] at hs
       subst hs
       obtain ⟨hck, hden2⟩ := G.den_mchk hden
       obtain ⟨hr, hck⟩ := hck
       have hr : r = b.r := hr
       subst hr
       obtain ⟨L, O, hB, hok, hM, hmod, hfr⟩ := hmem
       obtain ⟨vs, L1, hrel, hp, hB1⟩ := hB.take (n := n) (b := b) (by simp [cC, hb])
       have hm1 : Models w H (L1 ++ ((b.r, .cells vs.toArray b.T (0, 0)) :: (O ++ F))) := by
        refine hmod.perm ((hp.append_right _).trans ?_)
        simpa using List.perm_middle.symm
       obtain ⟨hkn, hlen, Y, H1, hm2, hsc, hback⟩ := yZ hsl hck hB1 hm1
       have hvs : vs = [a.den] := by
        have := hrel.known (by simp [hba, hkn])
        rw [this, hba]; rfl
       subst hvs
       have hT := s3 hsc hlen b.r b.T w (Y ++ (O ++ F)) (hm2.perm (by simp [List.perm_middle]))
       have e : (([S1.at (.k (.slice none 0 0)), .at (.clo g' [.b n b.r 0])] : List S1).map S1.den).toArray = [.slice none 0 0, .func (.func 177) #[] #[.pointer (some ⟨b.r, 0, none⟩)]].toArray := by
        rw [← hg]; simp [S1.den, At.den, Cp.den]
       rw [hf, e]
       refine hT.mono ?_
       rintro e' w' ⟨v, H', O', he, ⟨hO, h0⟩, hle, hm'⟩
       have hm3 := hback w' H' O' (O ++ F) hle hm'
       have hbx : Boxes (fun k => (aO ((n, none) :: mem) k).getD none) L1 := by
        refine (congrArg (fun m => Boxes m L1) (funext fun k => ?_)).mp hB1
        simp only [aO, cC]
        by_cases e : k = n <;> simp [e]
       have hok1 : ∀ m b', (aO ((n, none) :: mem) m).getD none = some b' → ∀ a, a ∈ b'.cs → a.ok := by
        intro m b' hb'
        simp only [aO] at hb'
        by_cases e : m = n
        ·simp [e] at hb'
        ·rw [if_neg e] at hb'; exact hok m b' hb'
       have hfr1 : ∀ m, next ≤ m → (aO ((n, none) :: mem) m).getD none = none := by
        intro m hm
        simp only [aO]
        by_cases e : m = n
        ·simp [e]
        ·rw [if_neg e]; exact hfr m hm
       cases l with
       | nil =>
        have hv := h0 rfl
        subst hv
        have hO' : O' = [] := by
         rcases hO with ⟨_, _, rfl⟩ | ⟨r', cs, cap, hx, _⟩
         ·rfl
         ·cases hx
        subst hO'
        exact ⟨_, .s (.at (.k (.slice none 0 0))), cC ((n, none) :: mem) next h, he, rfl, jZ _, hden2, L1, O, hbx, hok1, hM, by simpa using hm3, hfr1⟩
       | cons x l =>
        rcases hO with ⟨_, hx, _⟩ | ⟨r', cs, cap, hv, hO', hcl, hlc, hcap, hrl, hro, htk⟩
        ·simp [eY] at hx
        ·have hil : (eY (x :: l)).length = l.length + 1 := by simp [eY]
         rw [hil] at hlc htk hv
         obtain ⟨c, rfl⟩ : ∃ c, cap = c + (l.length + 1) := ⟨cap - (l.length + 1), by omega⟩
         subst hv; subst hO'
         have hcs : cs = ((x :: l).map fun n => At.k (iV n)).map At.den ++ cs.drop (l.length + 1) := by
          have h1 := List.take_append_drop (l.length + 1) cs
          rw [Nat.mul_one] at htk
          rw [htk] at h1
          rw [← h1]
          have h2 : (eY (x :: l)).flatten = ((x :: l).map fun n => At.k (iV n)).map At.den := by
           rw [List.map_map]; exact xJ (x :: l)
          have h3 : ((x :: l).map fun n => At.k (iV n)).map At.den = ((x :: l).map fun n => At.k (iV n)).map At.den := rfl
          rw [h2]
          have h4 : (((x :: l).map fun n => At.k (iV n)).map At.den ++ cs.drop (l.length + 1)).drop (l.length + 1) = cs.drop (l.length + 1) := by
           rw [List.drop_left' (by simp)]
          rw [h4]
         have hrel' : CellsRel (wide ((x :: l).map fun n => .k (iV n)) c 1) cs := by
          rw [hcs]
          exact iJ (CellsRel.map _) (by rw [List.length_drop, hcl]; omega)
         have hput := hbx.put (n := next) (b := ⟨r', ec, wide ((x :: l).map fun n => .k (iV n)) c 1⟩) (hfr1 next (Nat.le_refl _)) hrel'
         refine ⟨_, .s (.at (.sl next r' 0 (l.length + 1) (c + (l.length + 1)))), cC ((next, some ⟨r', ec, wide ((x :: l).map fun n => .k (iV n)) c 1⟩) :: (n, none) :: mem) (next + 1) { h with gr := (next, l.length + 1, c) :: h.gr }, he, rfl, cM trivial, hden2 r' c, (r', .cells cs.toArray ec (0, 0)) :: L1, O, ?_, ?_, hM, by simpa using hm3, ?_⟩
         ·refine (congrArg (fun m => Boxes m _) (funext fun k => ?_)).mp hput
          simp only [cC, aO]
          by_cases e : k = next <;> simp [e]
         ·intro m b' hb' a' ha'
          simp only [cC] at hb'
          rw [aO] at hb'
          by_cases e : m = next
          ·rw [if_pos e] at hb'
           simp only [Option.getD_some, Option.some.injEq] at hb'
           subst hb'
           simp only [wide, List.mem_append] at ha'
           rcases ha' with ha' | ha'
           ·obtain ⟨z, _, rfl⟩ := List.mem_map.1 ha'; trivial
           ·rw [List.eq_of_mem_replicate ha']; trivial
          ·rw [if_neg e] at hb'; exact hok1 m b' hb' a' ha'
         ·intro m hm
          simp only [cC] at hm ⊢
          rw [aO, if_neg (by omega)]
          exact hfr1 m (by omega)
      ·cases hs
     ·cases hs
    ·cases hs
   ·cases hs
  ·cases hs
 ·cases hs
end Go.Proofs.YtpcpmblfhlcmaaaGreatDoor
namespace Go.Proofs.YtpcpmblfhlcmaaaGreatDoor
open Go Go.Sx
set_option maxRecDepth 100000
set_option maxHeartbeats 1000000
abbrev I (n : Int) : Value := .int .i64 n
theorem bL (a lo hi : Int) (H : Heap) (O : Go.Sx.Own) : RetO PP jk [I a, I lo, I hi] H O (.bool (decide (lo ≤ a ∧ a ≤ hi))) := by
 refine mh (vs := [I a, I lo, I hi]) (by kernel_rfl) ⟨rfl, rfl, rfl, trivial⟩ ?_
 unfold jf
 refine ab _ (ik _ _) (ai (ai (ab _ (nR _ _) (ai (ab _ (dt _ _) (ak ⟨?_, rfl⟩))))))
 simp [Bool.decide_and]
def Ai : List Int → Int → Int → Int
 | [], _, _ => -1
 | a :: r, x, i => if x == a then i else Ai r x (i + 1)
theorem xC : ∀ (l : List Int) (x i : Int), 0 ≤ i → (decide (0 ≤ Ai l x i) = l.contains x)
 | [], x, i, _ => by simp [Ai]
 | a :: r, x, i, h => by
  simp only [Ai, List.contains_cons]
  by_cases hx : x = a
  ·simp [hx, h]
  ·simp only [beq_iff_eq, hx, if_false]
   rw [xC r x (i + 1) (by omega)]
   simp [hx]
theorem uf {H : Heap} {O : Go.Sx.Own} {v : Value} {l : List Int} (h : RSl H O 1 v (l.map fun n => [I n])) (x : Int) : RetO PP dK [v, I x] H O (I (Ai l x 0)) := by
 refine fH (vs := [v, I x]) (by kernel_rfl) ⟨h.one, rfl, trivial⟩ ?_
 simp only [dJ]
 refine ab _ h.len ?_
 refine cT l.length (fun i H' O' => O' = O ∧ Heap.le H H' ∧ Ai l x 0 = Ai (l.drop i) x i) ⟨rfl, Heap.le_refl H, by simp⟩ ?_
 rintro i H' O' hi - ⟨rfl, hle, hor⟩
 refine ab _ (bJ _ _) (au (fun hb => ?_) (fun hb => ?_))
 ·have hlt : i < l.length := by simpa using hb
  obtain ⟨a, h1, h2, _, h3, h4⟩ := (h.le hle).idx .i64 i [I l[i]] (by simp [hlt])
  refine ab _ h1 (ba h2 h3 h4 (ab _ (fU _ _) (au (fun hb => ?_) (fun hb => ?_))))
  ·refine ak ⟨?_, rfl⟩
   rw [hor, List.drop_eq_getElem_cons hlt, Ai, if_pos hb]; rfl
  ·refine ab _ (bX (by have := h.lenB; simp at this; omega)) (cK (by simp [Eqs]) hlt ⟨rfl, hle, ?_⟩)
   rw [hor, List.drop_eq_getElem_cons hlt, Ai, if_neg (by rw [hb]; simp)]; rfl
 ·have hge : l.length ≤ i := by simpa using hb
  refine ak ⟨?_, rfl⟩
  rw [hor, List.drop_of_length_le hge]; rfl
theorem bN {H : Heap} {O : Go.Sx.Own} {v : Value} {l : List Int} (h : RSl H O 1 v (l.map fun n => [I n])) (x : Int) : RetO PP aM [v, I x] H O (.bool (l.contains x)) := by
 refine eD (vs := [v, I x]) (by kernel_rfl) ⟨h.one, rfl, trivial⟩ ?_
 simp only [cU]
 refine am (uf h x) rfl ⟨rfl, trivial⟩ fun H1 _ => ab _ (ik _ _) (ak ⟨?_, rfl⟩)
 rw [← xC l x 0 (by omega)]
theorem EM (t : Tg) (H : Heap) (O : Go.Sx.Own) : RetO PP kU [.agg #[iV t.id, iV t.player]] H O (.bool (oI t)) := by
 refine nc (vs := [iV t.id, iV t.player]) (by kernel_rfl) ⟨rfl, rfl, trivial⟩ ?_
 simp only [kH]
 refine fun r0 => ae (am (bL t.id 0 500 H O) rfl ⟨rfl, trivial⟩ fun H1 _ => au (fun hb => ae ?_) (fun hb => ak ⟨?_, rfl⟩))
 ·refine am (bL t.player 0 1 H1 O) rfl ⟨rfl, trivial⟩ fun H2 _ => ?_
  refine ae (ai (ai (ab _ (fU _ _) (ai (ae (ai (ai (ai (ai (ab _ (fU _ _) (ai (ai (ai (ab _ (bQ _ _) (ai (ab _ (dt _ _) ?_))))))))))))))))
  refine ak ⟨?_, rfl⟩
  simp only [oI, ap, hb, Bool.true_and]
 ·simp only [oI, ap, hb, Bool.false_and]
theorem AP (t : Tg) (H : Heap) (O : Go.Sx.Own) : RetO PP jm [.agg #[iV t.id, iV t.player]] H O (.bool (!oI t)) := by
 refine mj (vs := [iV t.id, iV t.player]) (by kernel_rfl) ⟨rfl, rfl, trivial⟩ ?_
 simp only [jh]
 exact fun r0 => ae (am (EM t H O) rfl ⟨rfl, trivial⟩ fun H1 _ => ab _ (aI _) (ak ⟨rfl, rfl⟩))
theorem kr {H : Heap} {O : Go.Sx.Own} {v fv : Value} {l : List Tg} {p : Tg → Bool} (h : RSl H O 2 v (l.map Tg.row)) {f : FuncId} (hf : fv = .func (.func f) #[] #[]) (hok : gU PP f)
  (hp : ∀ H', Heap.le H H' → ∀ t, RetO PP f [.agg #[iV t.id, iV t.player]] H' O (.bool (p t))) : RetO PP be [v, fv] H O (iV (pd p l 0)) := by
 subst hf
 refine ce (vs := [v, .func (.func f) #[] #[]]) (by kernel_rfl) ⟨h.one, rfl, trivial⟩ ?_
 simp only [bc]
 refine ab _ h.len ?_
 rw [List.length_map]
 refine cT l.length (fun i H' O' => O' = O ∧ Heap.le H H' ∧ pd p l 0 = pd p (l.drop i) i) ⟨rfl, Heap.le_refl H, by simp⟩ ?_
 rintro i H' O' hi - ⟨rfl, hle, hor⟩
 refine ab _ (bJ _ _) (au (fun hb => ?_) (fun hb => ?_))
 ·have hlt : i < l.length := by simpa using hb
  obtain ⟨a, h1, h2, _, h3, h4⟩ := (h.le hle).idx .i64 i (Tg.row l[i]) (by simp [hlt])
  refine ab _ h1 (ba h2 h3 h4 (fW rfl hok (hp H' hle l[i]) rfl ⟨rfl, trivial⟩ fun H2 hle2 => au (fun hb => ?_) (fun hb => ?_)))
  ·refine ak ⟨?_, rfl⟩
   rw [hor, List.drop_eq_getElem_cons hlt, pd, if_pos hb]; rfl
  ·refine ab _ (bX (by have := h.lenB; simp at this; omega)) (cK (by simp [Eqs, E]) hlt ⟨rfl, Heap.le_trans hle hle2, ?_⟩)
   rw [hor, List.drop_eq_getElem_cons hlt, pd, if_neg (by rw [hb]; simp)]; rfl
 ·have hge : l.length ≤ i := by simpa using hb
  refine ak ⟨?_, rfl⟩
  rw [hor, List.drop_of_length_le hge]; rfl
theorem iw {H : Heap} {O : Go.Sx.Own} {v fv : Value} {l : List Tg} {p : Tg → Bool} (h : RSl H O 2 v (l.map Tg.row)) {f : FuncId} (hf : fv = .func (.func f) #[] #[]) (hok : gU PP f)
  (hp : ∀ H', Heap.le H H' → ∀ t, RetO PP f [.agg #[iV t.id, iV t.player]] H' O (.bool (p t))) : RetO PP aW [v, fv] H O (.bool (l.any p)) := by
 have hone : fv.oneCell' = true := by subst hf; rfl
 refine bP (vs := [v, fv]) (by kernel_rfl) ⟨h.one, hone, trivial⟩ ?_
 simp only [aV]
 refine am (kr h hf hok hp) rfl ⟨rfl, trivial⟩ fun H1 _ => ab _ (ik _ _) (ak ⟨?_, rfl⟩)
 rw [← tV p l 0 (by omega)]
theorem Bv {H : Heap} {O : Go.Sx.Own} {row : List Value} {x : It} (h : ItR H O row x) (q : Bool) : RetO PP mf [.agg row.toArray, .bool q] H O (.bool (lq x q)) := by
 obtain ⟨s, rfl, hs⟩ := h
 refine oZ (vs := [iV x.player, iV x.id, iV x.card, iV x.trig, s, .bool q]) (by kernel_rfl) ⟨rfl, rfl, rfl, rfl, hs.one, rfl, trivial⟩ ?_
 simp only [ma]
 have hlen : af .len [s] = some (iV x.tgs.length) := by have := hs.len; rwa [List.length_map] at this
 refine fun r0 => ae (am (bL x.player 0 1 H O) rfl ⟨rfl, trivial⟩ fun H1 l1 => au (fun h1 => ae ?_) (fun h1 => ak ⟨by simp only [lq, ap, h1, Bool.false_and], rfl⟩))
 refine am (bL x.id 1 500 H1 O) rfl ⟨rfl, trivial⟩ fun H2 l2 => au (fun h2 => ae ?_) (fun h2 => ak ⟨by simp only [lq, ap, h1, h2, Bool.false_and, Bool.true_and], rfl⟩)
 refine am (bL x.card 0 399 H2 O) rfl ⟨rfl, trivial⟩ fun H3 l3 => au (fun h3 => ae ?_) (fun h3 => ak ⟨by simp only [lq, ap, h1, h2, h3, Bool.false_and, Bool.true_and], rfl⟩)
 refine am (bL x.trig (-1) 1 H3 O) rfl ⟨rfl, trivial⟩ fun H4 l4 => ?_
 repeat (first | refine ae ?_ | refine ai ?_ | refine ab _ hlen ?_ | refine ab _ (bJ _ _) ?_ | refine ab _ (ij _ _) ?_ | refine ab _ (ik _ _) ?_ | refine ab _ (dt _ _) ?_ | refine ab _ (bQ _ _) ?_ | refine ab _ (aI _) ?_)
 have hle := Heap.le_trans (Heap.le_trans (Heap.le_trans l1 l2) l3) l4
 have hfb : lq x q = (!(!decide (-1 ≤ x.trig ∧ x.trig ≤ 1) || decide ((x.tgs.length : Int) > 4) || (decide (x.trig ≥ 0) && decide ((x.tgs.length : Int) > 0)) || (q && decide (x.trig < 0))) && !x.tgs.any (fun t => !oI t)) := by
  simp only [lq, ap, h1, h2, h3, Bool.true_and]
  cases decide (-1 ≤ x.trig ∧ x.trig ≤ 1) <;> simp
 refine au (fun hb => ak ⟨?_, rfl⟩) (fun hb => ae ?_)
 ·rw [hfb, hb]; simp
 ·refine am (iw (p := fun t => !oI t) (hs.le hle) rfl (eI fP (by decide)) fun H' _ t => AP t H' O) rfl ⟨rfl, trivial⟩ fun H5 _ => ab _ (aI _) (ak ⟨?_, rfl⟩)
  rw [hfb, hb]; simp
theorem mo {H : Heap} {O : Go.Sx.Own} {v fv : Value} {l : List It} {p : It → Bool} (h : ItsR H O v l) {f : FuncId} {caps : Array Value} (hf : fv = .func (.func f) #[] caps) (hok : gU PP f)
  (hp : ∀ H', Heap.le H H' → ∀ row x, ItR H' O row x → RetO PP f ([.agg row.toArray] ++ caps.toList) H' O (.bool (p x))) : RetO PP bA [v, fv] H O (iV (pd p l 0)) := by
 subst hf
 obtain ⟨rows, hr, hlen, hit⟩ := h
 refine cH (vs := [v, .func (.func f) #[] caps]) (by kernel_rfl) ⟨hr.one, rfl, trivial⟩ ?_
 simp only [bw]
 refine ab _ hr.len ?_
 rw [hlen]
 refine cT l.length (fun i H' O' => O' = O ∧ Heap.le H H' ∧ pd p l 0 = pd p (l.drop i) i) ⟨rfl, Heap.le_refl H, by simp⟩ ?_
 rintro i H' O' hi - ⟨rfl, hle, hor⟩
 refine ab _ (bJ _ _) (au (fun hb => ?_) (fun hb => ?_))
 ·have hlt : i < l.length := by simpa using hb
  have hlt' : i < rows.length := by omega
  obtain ⟨a, h1, h2, _, h3, h4⟩ := (hr.le hle).idx .i64 i rows[i] (by simp [hlt'])
  have hx := (hit i rows[i] l[i] (by simp [hlt']) (by simp [hlt])).le hle
  have hx' := hx
  obtain ⟨s, hrow, hs⟩ := hx
  have hcall := hp H' hle rows[i] l[i] hx'
  rw [hrow] at h2 h3 h4 hcall
  refine ab _ h1 (ba h2 h3 h4 (fW rfl hok hcall rfl ⟨rfl, trivial⟩ fun H2 hle2 => au (fun hb => ?_) (fun hb => ?_)))
  ·refine ak ⟨?_, rfl⟩
   rw [hor, List.drop_eq_getElem_cons hlt, pd, if_pos hb]; rfl
  ·refine ab _ (bX (by have := hr.lenB; omega)) (cK (by simp [Eqs, E]) hlt ⟨rfl, Heap.le_trans hle hle2, ?_⟩)
   rw [hor, List.drop_eq_getElem_cons hlt, pd, if_neg (by rw [hb]; simp)]; rfl
 ·have hge : l.length ≤ i := by simpa using hb
  refine ak ⟨?_, rfl⟩
  rw [hor, List.drop_of_length_le hge]; rfl
theorem ItsR.one {H : Heap} {O : Go.Sx.Own} {v : Value} {l : List It} (h : ItsR H O v l) : v.oneCell' = true := by
 obtain ⟨_, h, _⟩ := h
 exact h.one
theorem ItsR.len {H : Heap} {O : Go.Sx.Own} {v : Value} {l : List It} (h : ItsR H O v l) : af .len [v] = some (iV l.length) := by
 obtain ⟨rows, h1, h2, _⟩ := h
 rw [h1.len, h2]
theorem eM {H : Heap} {O : Go.Sx.Own} {v fv : Value} {l : List It} {p : It → Bool} (h : ItsR H O v l) {f : FuncId} {caps : Array Value} (hf : fv = .func (.func f) #[] caps) (hok : gU PP f)
  (hp : ∀ H', Heap.le H H' → ∀ row x, ItR H' O row x → RetO PP f ([.agg row.toArray] ++ caps.toList) H' O (.bool (p x))) : RetO PP bn [v, fv] H O (.bool (l.any p)) := by
 have hone : fv.oneCell' = true := by subst hf; rfl
 refine cj (vs := [v, fv]) (by kernel_rfl) ⟨ItsR.one h, hone, trivial⟩ ?_
 simp only [bm]
 refine am (mo h hf hok hp) rfl ⟨rfl, trivial⟩ fun H1 _ => ab _ (ik _ _) (ak ⟨?_, rfl⟩)
 rw [← tV p l 0 (by omega)]
theorem yf {H : Heap} {O : Go.Sx.Own} {row : List Value} {x : It} (h : ItR H O row x) : RetO PP iH [.agg row.toArray] H O (.bool (!lq x false)) := by
 have hf := Bv h false
 obtain ⟨s, rfl, hs⟩ := h
 refine lh (vs := [iV x.player, iV x.id, iV x.card, iV x.trig, s]) (by kernel_rfl) ⟨rfl, rfl, rfl, rfl, hs.one, trivial⟩ ?_
 simp only [iC]
 exact fun r0 => ae (am hf rfl ⟨rfl, trivial⟩ fun H1 _ => ab _ (aI _) (ak ⟨rfl, rfl⟩))
theorem ye {H : Heap} {O : Go.Sx.Own} {row : List Value} {x : It} (h : ItR H O row x) : RetO PP iG [.agg row.toArray] H O (.bool (!lq x true)) := by
 have hf := Bv h true
 obtain ⟨s, rfl, hs⟩ := h
 refine lg (vs := [iV x.player, iV x.id, iV x.card, iV x.trig, s]) (by kernel_rfl) ⟨rfl, rfl, rfl, rfl, hs.one, trivial⟩ ?_
 simp only [iz]
 exact fun r0 => ae (am hf rfl ⟨rfl, trivial⟩ fun H1 _ => ab _ (aI _) (ak ⟨rfl, rfl⟩))
theorem yo {l : List Value} {i : Nat} {v : Value} (h : l[i]? = some v) : af .aidx (iV i :: l) = some v := by
 have hlt := (List.getElem?_eq_some_iff.1 h).1
 simp only [af, iR]
 rw [if_pos ⟨by omega, by omega⟩]
 simpa using h
theorem rh (a b c d m : Int) (H : Heap) (O : Go.Sx.Own) : RetO PP kR [.agg #[iV a, iV b, iV c, iV d], iV m] H O (.bool ([a, b, c, d].all fun n => ap n 0 m)) := by
 refine mX (vs := [iV a, iV b, iV c, iV d, iV m]) (by kernel_rfl) ⟨rfl, rfl, rfl, rfl, rfl, trivial⟩ ?_
 simp only [kD]
 refine fun r0 => ae (cT 4 (fun i H' O' => O' = O ∧ ([a, b, c, d].all fun n => ap n 0 m) = (([a, b, c, d].drop i).all fun n => ap n 0 m)) ⟨rfl, rfl⟩ ?_)
 rintro i H' O' hi - ⟨rfl, hor⟩
 refine ab _ (bJ _ _) (au (fun hb => ?_) (fun hb => ?_))
 ·have hlt : i < 4 := by have := of_decide_eq_true hb; omega
  have hlt' : i < [a, b, c, d].length := hlt
  have hv : [iV a, iV b, iV c, iV d][i]? = some (iV [a, b, c, d][i]) := by
   have : [iV a, iV b, iV c, iV d] = [a, b, c, d].map iV := rfl
   rw [this, List.getElem?_map, List.getElem?_eq_getElem hlt']; rfl
  refine ab _ (yo hv) (ab _ (bJ _ _) (ai (ai (ab _ (ij _ _) (ai (ab _ (bQ _ _) (au (fun hb => ak ⟨?_, rfl⟩) (fun hb => ab _ (bX (by omega)) (cK (by simp [Eqs, E]) hlt ⟨rfl, ?_⟩)))))))))
  ·rw [hor, List.drop_eq_getElem_cons hlt', List.all_cons]
   have : ap [a, b, c, d][i] 0 m = false := by simp [ap] at hb ⊢; omega
   rw [this]; rfl
  ·rw [hor, List.drop_eq_getElem_cons hlt', List.all_cons]
   have : ap [a, b, c, d][i] 0 m = true := by simp [ap] at hb ⊢; omega
   rw [this]; rfl
 ·have : i = 4 := by have := of_decide_eq_false hb; omega
  subst this
  exact ak ⟨by rw [hor]; rfl, rfl⟩
theorem lT (a b c d : Int) (H : Heap) (O : Go.Sx.Own) : RetO PP me [.agg #[iV a, iV b, iV c, iV d]] H O (.bool ([a, b, c, d].all fun n => ap n 0 99)) := by
 refine oW (vs := [iV a, iV b, iV c, iV d]) (by kernel_rfl) ⟨rfl, rfl, rfl, rfl, trivial⟩ ?_
 simp only [lY]
 exact fun r0 => ae (am (rh a b c d 99 H O) rfl ⟨rfl, trivial⟩ fun H1 _ => ak ⟨rfl, rfl⟩)
def bG (o : Ob) : Bool := ([o.power, o.tough, o.dmg, o.cnt, o.pp, o.pt].all fun n => ap n 0 99) &&
 ((((((o.card == -1) || ((o.power == 0) && (o.tough == 0))) && decide (o.id ≥ 1)) && decide (o.id ≤ 500)) && decide (o.card ≥ -1)) && decide (o.card < 400)) && ((o.owner == 0) || (o.owner == 1))
theorem pg (o : Ob) (H : Heap) (O : Go.Sx.Own) : RetO PP jj [.agg o.row.toArray] H O (.bool (bG o)) := by
 refine mg (vs := o.row) (by kernel_rfl) (by simp [Ob.row, Ones, Value.oneCell']) ?_
 simp only [je]
 refine fun r0 => ae (ae (ae (ae (ae (ae (cT 6 (fun i H' O' => O' = O ∧ ([o.power, o.tough, o.dmg, o.cnt, o.pp, o.pt].all fun n => ap n 0 99) = (([o.power, o.tough, o.dmg, o.cnt, o.pp, o.pt].drop i).all fun n => ap n 0 99)) ⟨rfl, rfl⟩ ?_))))))
 rintro i H' O' hi - ⟨rfl, hor⟩
 refine ab _ (bJ _ _) (au (fun hb => ?_) (fun hb => ?_))
 ·have hlt : i < 6 := by have := of_decide_eq_true hb; omega
  have hlt' : i < [o.power, o.tough, o.dmg, o.cnt, o.pp, o.pt].length := hlt
  have hv : [iV o.power, iV o.tough, iV o.dmg, iV o.cnt, iV o.pp, iV o.pt][i]? = some (iV [o.power, o.tough, o.dmg, o.cnt, o.pp, o.pt][i]) := by
   have : [iV o.power, iV o.tough, iV o.dmg, iV o.cnt, iV o.pp, iV o.pt] = [o.power, o.tough, o.dmg, o.cnt, o.pp, o.pt].map iV := rfl
   rw [this, List.getElem?_map, List.getElem?_eq_getElem hlt']; rfl
  refine ab _ (yo hv) (ab _ (bJ _ _) (ai (ab _ (ij _ _) (ai (ab _ (bQ _ _) (au (fun hb => ak ⟨?_, rfl⟩) (fun hb => ab _ (bX (by omega)) (cK (by simp [Eqs, E]) hlt ⟨rfl, ?_⟩))))))))
  ·have hf : ([o.power, o.tough, o.dmg, o.cnt, o.pp, o.pt].all fun n => ap n 0 99) = false := by
    rw [hor, List.drop_eq_getElem_cons hlt', List.all_cons]
    have : ap [o.power, o.tough, o.dmg, o.cnt, o.pp, o.pt][i] 0 99 = false := by simp [ap] at hb ⊢; omega
    rw [this]; rfl
   unfold bG; rw [hf]; rfl
  ·rw [hor, List.drop_eq_getElem_cons hlt', List.all_cons]
   have : ap [o.power, o.tough, o.dmg, o.cnt, o.pp, o.pt][i] 0 99 = true := by simp [ap] at hb ⊢; omega
   rw [this]; rfl
 ·have : i = 6 := by have := of_decide_eq_false hb; omega
  subst this
  repeat (first | refine ae ?_ | refine ai ?_ | refine an fun _ => ?_ | refine ab _ (bJ _ _) ?_ | refine ab _ (ij _ _) ?_ | refine ab _ (nR _ _) ?_ | refine ab _ (ik _ _) ?_ | refine ab _ (fU _ _) ?_ | refine ab _ (sn _ _) ?_ | refine ab _ (dt _ _) ?_ | refine ab _ (bQ _ _) ?_ | refine ab _ (aI _) ?_ | refine ab _ (yl _ _) ?_ | refine ab _ (yj _ _) ?_)
  refine ak ⟨?_, rfl⟩
  have hall : ([o.power, o.tough, o.dmg, o.cnt, o.pp, o.pt].all fun n => ap n 0 99) = true := by rw [hor]; rfl
  unfold bG; rw [hall, Bool.true_and]
theorem uq {H : Heap} {O : Go.Sx.Own} {vl vh vf vg : Value} {s : St} (h : StR H O vl vh vf vg s) : vl.oneCell' = true ∧ vh.oneCell' = true ∧ vf.oneCell' = true ∧ vg.oneCell' = true := ⟨h.lib.one, h.hand.one, h.field.one, h.grave.one⟩
theorem bE {H : Heap} {O : Go.Sx.Own} {v : jK} {b : Bd} (h : BdR H O v b) : Ones (bq v b) := by
 obtain ⟨a1, a2, a3, a4⟩ := uq h.s0
 obtain ⟨b1, b2, b3, b4⟩ := uq h.s1
 exact ⟨h.objs.one, rfl, rfl, rfl, rfl, rfl, a1, a2, a3, a4, rfl, rfl, rfl, rfl, rfl, rfl, rfl, rfl, rfl, rfl, b1, b2, b3, b4, rfl, rfl, rfl, rfl, rfl, ItsR.one h.stack, ItsR.one h.queue, h.att.one, h.blocks.one, rfl, rfl, rfl, rfl, rfl, trivial⟩
theorem eV : ∀ {a b : List Value}, Ones a → Ones b → Ones (a ++ b)
 | [], _, _, h => h
 | _ :: _, _, h, h' => ⟨h.1, eV h.2 h'⟩
abbrev IX (n : Nat) (R : Nat → List Value → Heap → Go.Sx.Own → Prop) : List Value → Heap → Go.Sx.Own → Prop := fun vs H O => ∃ (i : Nat) (xs : List Value), vs = iV i :: xs ∧ i ≤ n ∧ R i xs H O
abbrev MX (n : Nat) : List Value → Heap → Go.Sx.Own → Nat := fun vs _ _ => match g vs 0 with | .int _ k => n - k.toNat | _ => 0
theorem qa {P : Program} {lab key : Nat} {init : List Value} {body : (List Value → Heap → Go.Sx.Own → Prop) → List Value → Tree} {H : Heap} {O : Go.Sx.Own} {Q : Value → Heap → Go.Sx.Own → Prop} (n : Nat) (R : Nat → List Value → Heap → Go.Sx.Own → Prop)
  (h0 : R 0 init H O) (step : ∀ i xs H' O', i ≤ n → xs.length = init.length → Ones xs → Heap.le H H' → R i xs H' O' → (body (By (IX n R) (MX n) (n - i)) (iV i :: xs)).den P Q H' O') :
  (Tree.loop lab key (iV 0 :: init) body).den P Q H O := by
 refine mA (IX n R) (MX n) ⟨0, init, rfl, Nat.zero_le _, h0⟩ ?_
 rintro vs H' O' hl ho hle ⟨i, xs, rfl, hi, hr⟩
 exact step i xs H' O' hi (by simpa using hl) ho.2 hle hr
theorem jC {P : Program} {lab n i : Nat} {R : Nat → List Value → Heap → Go.Sx.Own → Prop} {xs : List Value} {eqs : List (List Value × List Value)} {H : Heap} {O : Go.Sx.Own} {Q : Value → Heap → Go.Sx.Own → Prop} (he : Eqs eqs) (hi : i < n) (hr : R (i + 1) xs H O) :
  (Tree.cont lab (By (IX n R) (MX n) (n - i)) (iV ((i + 1 : Nat) : Int) :: xs) eqs).den P Q H O := by
 refine kj he ⟨i + 1, xs, rfl, hi, hr⟩ ?_
 show n - ((i + 1 : Nat) : Int).toNat < n - i
 simp; omega
theorem Sl.block1 {H : Heap} {r size : Nat} {row : List Value} {T : TypeId} (h : H r = some (.cells row.toArray T (0, 0))) (hl : row.length = size) (ho : Ones row) : Sl H size (.slice (some ⟨r, 0, none⟩) 1 1) [row] := by
 refine ⟨_, _, rfl, Nat.le_refl _, by simp, fun _ => ⟨_, rfl, ?_⟩⟩
 intro i x hx
 cases i with
 | succ i => simp at hx
 | zero =>
  simp at hx
  subst hx
  refine ⟨?_, hl, ho⟩
  rw [aZ, Nat.zero_mul, Nat.add_zero, iN h (by omega)]
  simp [← hl]
def zSt (life : Int) (lib : List Int) : St := ⟨life, 0, 0, 0, 0, lib, [], [], [], false, false, false, 0, 0⟩
def zBd : Bd := ⟨[], zSt 0 [], zSt 0 [], [], [], [], [], 0, 0, 0, 0, 0⟩
abbrev vw : Value := .slice none 0 0
def IG : jK := ⟨vw, vw, vw, vw, vw, vw, vw, vw, vw, vw, vw, vw, vw⟩
end Go.Proofs.YtpcpmblfhlcmaaaGreatDoor
