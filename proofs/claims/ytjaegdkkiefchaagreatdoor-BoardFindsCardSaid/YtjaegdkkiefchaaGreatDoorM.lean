/- Boards as plain data, and how they lie in memory. -/
import Derived.Test.YtjaegdkkiefchaaGreatDoorFw2
namespace Go.Sx
open Go

abbrev iV (n : Int) : Value := .int .i64 n
def ints (l : List Int) : List (List Value) := l.map fun n => [iV n]
structure Ob where
  (id card owner power tough dmg cnt pp pt : Int)
  (tap sick doom : Bool)
deriving DecidableEq
def Ob.row (o : Ob) : List Value := [iV o.id, iV o.card, iV o.owner, iV o.power, iV o.tough, iV o.dmg, iV o.cnt, iV o.pp, iV o.pt, .bool o.tap, .bool o.sick, .bool o.doom]
structure Tg where
  (id player : Int)
deriving DecidableEq
def Tg.row (t : Tg) : List Value := [iV t.id, iV t.player]
structure It where
  (player id card trig : Int)
  tgs : List Tg
deriving DecidableEq
structure Bl where
  (blocker attacker : Int)
deriving DecidableEq
def Bl.row (b : Bl) : List Value := [iV b.blocker, iV b.attacker]
structure St where
  (life p0 p1 p2 p3 : Int)
  (lib hand field grave : List Int)
  (empty played kept : Bool)
  (mull acts : Int)
deriving DecidableEq
structure Bd where
  objs : List Ob
  (s0 s1 : St)
  (stack queue : List It)
  att : List Int
  blocks : List Bl
  (turn active phase holder passes : Int)
deriving DecidableEq

/-- An item's row. -/
def ItR (H : Heap) (O : Own) (row : List Value) (x : It) : Prop := ∃ s, row = [iV x.player, iV x.id, iV x.card, iV x.trig, s] ∧ RSl H O 2 s (x.tgs.map Tg.row)
def ItsR (H : Heap) (O : Own) (v : Value) (l : List It) : Prop := ∃ rows, RSl H O 5 v rows ∧ rows.length = l.length ∧ ∀ (i : Nat) (r : List Value) (x : It), rows[i]? = some r → l[i]? = some x → ItR H O r x
structure StR (H : Heap) (O : Own) (vl vh vf vg : Value) (s : St) : Prop where
  lib : RSl H O 1 vl (ints s.lib)
  hand : RSl H O 1 vh (ints s.hand)
  field : RSl H O 1 vf (ints s.field)
  grave : RSl H O 1 vg (ints s.grave)
def seatC (vl vh vf vg : Value) (s : St) : List Value := [iV s.life, iV s.p0, iV s.p1, iV s.p2, iV s.p3, vl, vh, vf, vg, .bool s.empty, .bool s.played, .bool s.kept, iV s.mull, iV s.acts]
/-- The values of a board's slices. -/
structure BV12 where
  (o l0 h0 f0 g0 l1 h1 f1 g1 s q a b : Value)
def boardC (v : BV12) (b : Bd) : List Value :=
  [v.o, iV b.s0.life, iV b.s0.p0, iV b.s0.p1, iV b.s0.p2, iV b.s0.p3, v.l0, v.h0, v.f0, v.g0, .bool b.s0.empty, .bool b.s0.played, .bool b.s0.kept, iV b.s0.mull, iV b.s0.acts,
   iV b.s1.life, iV b.s1.p0, iV b.s1.p1, iV b.s1.p2, iV b.s1.p3, v.l1, v.h1, v.f1, v.g1, .bool b.s1.empty, .bool b.s1.played, .bool b.s1.kept, iV b.s1.mull, iV b.s1.acts,
   v.s, v.q, v.a, v.b, iV b.turn, iV b.active, iV b.phase, iV b.holder, iV b.passes]
structure BdR (H : Heap) (O : Own) (v : BV12) (b : Bd) : Prop where
  objs : RSl H O 12 v.o (b.objs.map Ob.row)
  s0 : StR H O v.l0 v.h0 v.f0 v.g0 b.s0
  s1 : StR H O v.l1 v.h1 v.f1 v.g1 b.s1
  stack : ItsR H O v.s b.stack
  queue : ItsR H O v.q b.queue
  att : RSl H O 1 v.a (ints b.att)
  blocks : RSl H O 2 v.b (b.blocks.map Bl.row)
theorem ItR.le {H H' : Heap} {O : Own} {row : List Value} {x : It} (h : ItR H O row x) (hl : Heap.le H H') : ItR H' O row x := let ⟨s, h1, h2⟩ := h; ⟨s, h1, h2.le hl⟩
theorem ItsR.le {H H' : Heap} {O : Own} {v : Value} {l : List It} (h : ItsR H O v l) (hl : Heap.le H H') : ItsR H' O v l :=
  let ⟨rows, h1, h2, h3⟩ := h; ⟨rows, h1.le hl, h2, fun i r x a b => (h3 i r x a b).le hl⟩
theorem StR.le {H H' : Heap} {O : Own} {vl vh vf vg : Value} {s : St} (h : StR H O vl vh vf vg s) (hl : Heap.le H H') : StR H' O vl vh vf vg s := ⟨h.lib.le hl, h.hand.le hl, h.field.le hl, h.grave.le hl⟩
theorem BdR.le {H H' : Heap} {O : Own} {v : BV12} {b : Bd} (h : BdR H O v b) (hl : Heap.le H H') : BdR H' O v b :=
  ⟨h.objs.le hl, h.s0.le hl, h.s1.le hl, h.stack.le hl, h.queue.le hl, h.att.le hl, h.blocks.le hl⟩

/-! What is valid -/
def withinB (a lo hi : Int) : Bool := decide (lo ≤ a ∧ a ≤ hi)
def aimedB (t : Tg) : Bool := withinB t.id 0 500 && (withinB t.player 0 1 && (t.id == 0 || t.player == 0))
def fineB (x : It) (q : Bool) : Bool :=
  withinB x.player 0 1 && (withinB x.id 1 500 && (withinB x.card 0 399 && (withinB x.trig (-1) 1 && (!(decide ((x.tgs.length : Int) > 4) || (decide (x.trig ≥ 0) && decide ((x.tgs.length : Int) > 0)) || (q && decide (x.trig < 0))) && !x.tgs.any (fun t => !aimedB t)))))
/-- The place of the first element of which p holds. -/
def idxP {α : Type} (p : α → Bool) : List α → Int → Int
  | [], _ => -1
  | a :: r, i => if p a then i else idxP p r (i + 1)
theorem idxP_ge {α : Type} (p : α → Bool) : ∀ (l : List α) (i : Int), 0 ≤ i → decide (0 ≤ idxP p l i) = l.any p
  | [], i, _ => by simp [idxP]
  | a :: r, i, h => by
    simp only [idxP, List.any_cons]
    by_cases hx : p a
    · simp [hx, h]
    · simp only [hx, Bool.false_eq_true, if_false, Bool.false_or]
      exact idxP_ge p r (i + 1) (by omega)
end Go.Sx
