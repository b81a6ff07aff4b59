/- Boards as plain data, and how they lie in memory. -/
import Derived.Test.YtamgiojcbdbokaaGreatDoorFw2
import Derived.Test.YtamgiojcbdbokaaGreatDoorFw2
import Derived.Test.YtamgiojcbdbokaaGreatDoorFw2
import Derived.Lib.Overlaps
import Derived.Lib.AppendZerosOnto
import Derived.Shelf.GgSortFunc.InsertionK
import Derived.Test.YtamgiojcbdbokaaGreatDoorBT1
namespace Go.Sx
open Go
abbrev iV (n : Int) : Value := .int .i64 n
def bK (l : List Int) : List (List Value) := l.map fun n => [iV n]
structure Ob where
 (id card owner power tough dmg cnt pp pt : Int)
 (tap sick doom : Bool)
deriving DecidableEq
def Ob.row (o : Ob) : List Value := [iV o.id, iV o.card, iV o.owner, iV o.power, iV o.tough, iV o.dmg, iV o.cnt, iV o.pp, iV o.pt, .bool o.tap, .bool o.sick, .bool o.doom]
structure Tg where
 (id player : Int)
deriving DecidableEq
def Tg.row (t : Tg) : List Value := [iV t.id, iV t.player]
structure It where
 (player id card trig : Int)
 tgs : List Tg
deriving DecidableEq
structure Bl where
 (blocker attacker : Int)
deriving DecidableEq
def Bl.row (b : Bl) : List Value := [iV b.blocker, iV b.attacker]
structure St where
 (life p0 p1 p2 p3 : Int)
 (lib hand field grave : List Int)
 (empty played kept : Bool)
 (mull acts : Int)
deriving DecidableEq
structure Bd where
 objs : List Ob
 (s0 s1 : St)
 (stack queue : List It)
 att : List Int
 blocks : List Bl
 (turn active phase holder passes : Int)
deriving DecidableEq
def ItR (H : Heap) (O : Go.Sx.Own) (row : List Value) (x : It) : Prop := ∃ s, row = [iV x.player, iV x.id, iV x.card, iV x.trig, s] ∧ RSl H O 2 s (x.tgs.map Tg.row)
def ItsR (H : Heap) (O : Go.Sx.Own) (v : Value) (l : List It) : Prop := ∃ rows, RSl H O 5 v rows ∧ rows.length = l.length ∧ ∀ (i : Nat) (r : List Value) (x : It), rows[i]? = some r → l[i]? = some x → ItR H O r x
structure StR (H : Heap) (O : Go.Sx.Own) (vl vh vf vg : Value) (s : St) : Prop where
 lib : RSl H O 1 vl (bK s.lib)
 hand : RSl H O 1 vh (bK s.hand)
 field : RSl H O 1 vf (bK s.field)
 grave : RSl H O 1 vg (bK s.grave)
structure zb where
 (o l0 h0 f0 g0 l1 h1 f1 g1 s q a b : Value)
structure BdR (H : Heap) (O : Go.Sx.Own) (v : zb) (b : Bd) : Prop where
 objs : RSl H O 12 v.o (b.objs.map Ob.row)
 s0 : StR H O v.l0 v.h0 v.f0 v.g0 b.s0
 s1 : StR H O v.l1 v.h1 v.f1 v.g1 b.s1
 stack : ItsR H O v.s b.stack
 queue : ItsR H O v.q b.queue
 att : RSl H O 1 v.a (bK b.att)
 blocks : RSl H O 2 v.b (b.blocks.map Bl.row)
theorem ItR.le {H H' : Heap} {O : Go.Sx.Own} {row : List Value} {x : It} (h : ItR H O row x) (hl : Heap.le H H') : ItR H' O row x := let ⟨s, h1, h2⟩ := h; ⟨s, h1, h2.le hl⟩
theorem ItsR.le {H H' : Heap} {O : Go.Sx.Own} {v : Value} {l : List It} (h : ItsR H O v l) (hl : Heap.le H H') : ItsR H' O v l :=
 let ⟨rows, h1, h2, h3⟩ := h; ⟨rows, h1.le hl, h2, fun i r x a b => (h3 i r x a b).le hl⟩
theorem StR.le {H H' : Heap} {O : Go.Sx.Own} {vl vh vf vg : Value} {s : St} (h : StR H O vl vh vf vg s) (hl : Heap.le H H') : StR H' O vl vh vf vg s := ⟨h.lib.le hl, h.hand.le hl, h.field.le hl, h.grave.le hl⟩
theorem BdR.le {H H' : Heap} {O : Go.Sx.Own} {v : zb} {b : Bd} (h : BdR H O v b) (hl : Heap.le H H') : BdR H' O v b :=
 ⟨h.objs.le hl, h.s0.le hl, h.s1.le hl, h.stack.le hl, h.queue.le hl, h.att.le hl, h.blocks.le hl⟩
def jG (a lo hi : Int) : Bool := decide (lo ≤ a ∧ a ≤ hi)
def ru {α : Type} (p : α → Bool) : List α → Int → Int
 | [], _ => -1
 | a :: r, i => if p a then i else ru p r (i + 1)
theorem rq {α : Type} (p : α → Bool) : ∀ (l : List α) (i : Int), 0 ≤ i → decide (0 ≤ ru p l i) = l.any p
 | [], i, _ => by simp [ru]
 | a :: r, i, h => by
  simp only [ru, List.any_cons]
  by_cases hx : p a
  ·simp [hx, h]
  ·simp only [hx, Bool.false_eq_true, if_false, Bool.false_or]
   exact rq p r (i + 1) (by omega)
theorem bn {P : Program} {f : FuncId} {args : List Value} {H : Heap} {O : Go.Sx.Own} {R : Value → Heap → Go.Sx.Own → Prop} {d : Bool} {shp : Shp} {K : List Value → List (List Value) → Heap → Go.Sx.Own → Prop}
  (h : Triple P f args H [] R) (hk : ∀ v H' O1, R v H' O1 → Heap.le H H' → ∃ vs, shp.open v = some vs ∧ Ones vs ∧ K vs [] H' (O1 ++ O)) :
  cX (fun H1 O1 R => Triple P f args H1 O1 R) d [] [] shp K H O := by
 intro _
 refine ⟨H, [], O, R, ?_, by simpa using h, fun v H' O' hr hle => ?_⟩
 ·cases d
  ·exact Ghost.refl _ _
  ·exact ⟨rfl, .inl ⟨rfl, rfl⟩⟩
 ·obtain ⟨vs, h1, h2, h3⟩ := hk v H' O' hr hle
  exact ⟨vs, [], O', h1, h2, trivial, rfl, h3⟩
def ItsS (H : Heap) (v : Value) (l : List It) : Prop := ∃ rows, Sl H 5 v rows ∧ rows.length = l.length ∧ ∀ (i : Nat) (r : List Value) (x : It), rows[i]? = some r → l[i]? = some x → ∃ s, r = [iV x.player, iV x.id, iV x.card, iV x.trig, s] ∧ Sl H 2 s (x.tgs.map Tg.row)
structure StS (H : Heap) (vl vh vf vg : Value) (s : St) : Prop where
 lib : Sl H 1 vl (bK s.lib)
 hand : Sl H 1 vh (bK s.hand)
 field : Sl H 1 vf (bK s.field)
 grave : Sl H 1 vg (bK s.grave)
structure BdS (H : Heap) (v : zb) (b : Bd) : Prop where
 objs : Sl H 12 v.o (b.objs.map Ob.row)
 s0 : StS H v.l0 v.h0 v.f0 v.g0 b.s0
 s1 : StS H v.l1 v.h1 v.f1 v.g1 b.s1
 stack : ItsS H v.s b.stack
 queue : ItsS H v.q b.queue
 att : Sl H 1 v.a (bK b.att)
 blocks : Sl H 2 v.b (b.blocks.map Bl.row)
theorem ItsS.le {H H' : Heap} {v : Value} {l : List It} (h : ItsS H v l) (hl : Heap.le H H') : ItsS H' v l :=
 let ⟨rows, h1, h2, h3⟩ := h; ⟨rows, h1.le hl, h2, fun i r x a b => let ⟨s, e, k⟩ := h3 i r x a b; ⟨s, e, k.le hl⟩⟩
theorem StS.le {H H' : Heap} {vl vh vf vg : Value} {s : St} (h : StS H vl vh vf vg s) (hl : Heap.le H H') : StS H' vl vh vf vg s := ⟨h.lib.le hl, h.hand.le hl, h.field.le hl, h.grave.le hl⟩
theorem BdS.le {H H' : Heap} {v : zb} {b : Bd} (h : BdS H v b) (hl : Heap.le H H') : BdS H' v b :=
 ⟨h.objs.le hl, h.s0.le hl, h.s1.le hl, h.stack.le hl, h.queue.le hl, h.att.le hl, h.blocks.le hl⟩
theorem ItsS.r {H : Heap} {v : Value} {l : List It} (h : ItsS H v l) (O : Go.Sx.Own) : ItsR H O v l :=
 let ⟨rows, h1, h2, h3⟩ := h; ⟨rows, h1.rsl O, h2, fun i r x a b => let ⟨s, e, k⟩ := h3 i r x a b; ⟨s, e, k.rsl O⟩⟩
theorem StS.r {H : Heap} {vl vh vf vg : Value} {s : St} (h : StS H vl vh vf vg s) (O : Go.Sx.Own) : StR H O vl vh vf vg s := ⟨h.lib.rsl O, h.hand.rsl O, h.field.rsl O, h.grave.rsl O⟩
theorem BdS.r {H : Heap} {v : zb} {b : Bd} (h : BdS H v b) (O : Go.Sx.Own) : BdR H O v b := ⟨h.objs.rsl O, h.s0.r O, h.s1.r O, h.stack.r O, h.queue.r O, h.att.rsl O, h.blocks.rsl O⟩
def OSlE (e : TypeId) (size : Nat) (v : Value) (rows : List (List Value)) (O : Go.Sx.Own) : Prop := OSl e size v rows O ∨ ((∃ a c, v = .slice a 0 c ∧ c < 2 ^ 63) ∧ rows = [] ∧ O = [])
theorem OSlE.one {e : TypeId} {size : Nat} {v : Value} {rows : List (List Value)} {O : Go.Sx.Own} (h : OSlE e size v rows O) : v.oneCell' = true := by
 rcases h with h | ⟨⟨a, c, rfl, _⟩, _⟩
 ·exact h.one
 ·rfl
theorem OSlE.len {e : TypeId} {size : Nat} {v : Value} {rows : List (List Value)} {O : Go.Sx.Own} (h : OSlE e size v rows O) : ah .len [v] = some (.int .i64 rows.length) := by
 rcases h with h | ⟨⟨a, c, rfl, _⟩, rfl, _⟩
 ·exact h.len
 ·rfl
theorem OSlE.lenB {e : TypeId} {size : Nat} {v : Value} {rows : List (List Value)} {O : Go.Sx.Own} (h : OSlE e size v rows O) : rows.length < 2 ^ 63 := by
 rcases h with h | ⟨_, rfl, _⟩
 ·exact h.lenB
 ·simp
theorem OSlE.rsl {e : TypeId} {size : Nat} {v : Value} {rows : List (List Value)} {O1 O : Go.Sx.Own} (h : OSlE e size v rows O1) (hO : ∀ p ∈ O1, p ∈ O) (H : Heap) : RSl H O size v rows := by
 rcases h with h | ⟨⟨a, c, rfl, hc⟩, rfl, _⟩
 ·exact h.rsl hO H
 ·exact Sl.rsl ⟨a, c, rfl, Nat.zero_le _, hc, fun h => absurd rfl h⟩ O
theorem OSlE.idx {e : TypeId} {size : Nat} {v : Value} {rows : List (List Value)} {O1 O : Go.Sx.Own} (h : OSlE e size v rows O1) (hO : ∀ p ∈ O1, p ∈ O) (H : Heap) {k : IntKind} {i : Nat} {row : List Value} (hr : rows[i]? = some row) :
  ∃ a, ah (.idx size) [v, .int k i] = some (.pointer (some a)) ∧ a.spot = none ∧ Reads H O (.pointer (some a)) size row ∧ ∀ off m, off + m ≤ size → Reads H O (bH (.pointer (some a)) off) m ((row.drop off).take m) := by
 rcases h with h | ⟨_, rfl, _⟩
 ·exact h.idx hO H hr
 ·simp at hr
theorem OSlE.store {e : TypeId} {size : Nat} {v : Value} {rows : List (List Value)} {O1 O2 O : Go.Sx.Own} (h : OSlE e size v rows O1) (hO : O.Perm (O1 ++ O2)) {k : IntKind} {i : Nat} {row : List Value} (hr : rows[i]? = some row) :
  ∃ a, ah (.idx size) [v, .int k i] = some (.pointer (some a)) ∧ ∀ off ys, off + ys.length ≤ size → Ones ys → ∃ O1', nX O (bH (.pointer (some a)) off) ys (O1' ++ O2) ∧ OSlE e size v (rows.set i (bO row off ys)) O1' := by
 rcases h with h | ⟨_, rfl, _⟩
 ·obtain ⟨a, h1, h2⟩ := h.store hO hr
  exact ⟨a, h1, fun off ys h3 h4 => let ⟨O1', h5, h6⟩ := h2 off ys h3 h4; ⟨O1', h5, .inl h6⟩⟩
 ·simp at hr
theorem OSlE.freeze {e : TypeId} {size : Nat} {v : Value} {rows : List (List Value)} {O1 X : Go.Sx.Own} {H : Heap} (h : OSlE e size v rows O1) (hc : Cons H (O1 ++ X)) : ∃ H', Ghost H (O1 ++ X) H' X ∧ Sl H' size v rows ∧ Heap.le H H' := by
 rcases h with h | ⟨⟨a, c, rfl, hb⟩, rfl, rfl⟩
 ·exact h.freeze hc
 ·exact ⟨H, Ghost.refl _ _, ⟨a, c, rfl, Nat.zero_le _, hb, fun h => absurd rfl h⟩, Heap.le_refl H⟩
theorem OSlE.empty {e : TypeId} {size : Nat} {H : Heap} {v : Value} (h : Sl H size v []) : OSlE e size v [] [] := by
 obtain ⟨a, c, rfl, _, hc, _⟩ := h
 exact .inr ⟨⟨a, c, rfl, hc⟩, rfl, rfl⟩
def OIts (te ti : TypeId) (v : Value) (l : List It) (O : Go.Sx.Own) : Prop := ∃ rows A Ts, O.Perm (A ++ List.flatten Ts) ∧ OSl ti 5 v rows A ∧ rows.length = l.length ∧ Ts.length = l.length ∧
 ∀ (i : Nat) (r : List Value) (x : It) (T : Go.Sx.Own), rows[i]? = some r → l[i]? = some x → Ts[i]? = some T → ∃ s, r = [iV x.player, iV x.id, iV x.card, iV x.trig, s] ∧ OSlE te 2 s (x.tgs.map Tg.row) T
def OItsS (te ti : TypeId) (v : Value) (l : List It) (O : Go.Sx.Own) : Prop := ∃ rows A Ts, O.Perm (A ++ List.flatten Ts) ∧ OSl ti 5 v rows A ∧ rows.length = l.length ∧ Ts.length = l.length ∧
 ∀ (i : Nat) (r : List Value) (x : It) (T : Go.Sx.Own), rows[i]? = some r → l[i]? = some x → Ts[i]? = some T → ∃ s, r = [iV x.player, iV x.id, iV x.card, iV x.trig, s] ∧ OSl te 2 s (x.tgs.map Tg.row) T
theorem OItsS.one {te ti : TypeId} {v : Value} {l : List It} {O : Go.Sx.Own} (h : OItsS te ti v l O) : v.oneCell' = true := by
 obtain ⟨rows, A, Ts, _, h1, _⟩ := h; exact h1.one
structure Tys where
 (int ob bl it tg : TypeId)
structure OBd (t : Tys) (w : zb) (b : Bd) (Oo A0 B0 C0 D0 A1 B1 C1 D1 Os Oq Oa Obk : Go.Sx.Own) : Prop where
 objs : OSl t.ob 12 w.o (b.objs.map Ob.row) Oo
 l0 : OSl t.int 1 w.l0 (bK b.s0.lib) A0
 h0 : OSl t.int 1 w.h0 (bK b.s0.hand) B0
 f0 : OSl t.int 1 w.f0 (bK b.s0.field) C0
 g0 : OSl t.int 1 w.g0 (bK b.s0.grave) D0
 l1 : OSl t.int 1 w.l1 (bK b.s1.lib) A1
 h1 : OSl t.int 1 w.h1 (bK b.s1.hand) B1
 f1 : OSl t.int 1 w.f1 (bK b.s1.field) C1
 g1 : OSl t.int 1 w.g1 (bK b.s1.grave) D1
 stack : OIts t.tg t.it w.s b.stack Os
 queue : OIts t.tg t.it w.q b.queue Oq
 att : OSl t.int 1 w.a (bK b.att) Oa
 blocks : OSl t.bl 2 w.b (b.blocks.map Bl.row) Obk
def OwnB (t : Tys) (w : zb) (b : Bd) (O : Go.Sx.Own) : Prop := ∃ Oo A0 B0 C0 D0 A1 B1 C1 D1 Os Oq Oa Obk, O.Perm (Oo ++ (A0 ++ (B0 ++ (C0 ++ (D0 ++ (A1 ++ (B1 ++ (C1 ++ (D1 ++ (Os ++ (Oq ++ (Oa ++ Obk)))))))))))) ∧ OBd t w b Oo A0 B0 C0 D0 A1 B1 C1 D1 Os Oq Oa Obk
theorem OIts.r {te ti : TypeId} {v : Value} {l : List It} {O O' : Go.Sx.Own} (h : OIts te ti v l O) (hO : ∀ p ∈ O, p ∈ O') (H : Heap) : ItsR H O' v l := by
 obtain ⟨rows, A, Ts, hp, h1, h2, h3, h4⟩ := h
 refine ⟨rows, h1.rsl (fun p hp' => hO p (hp.mem_iff.2 (by simp [hp']))) H, h2, fun i r x hr hx => ?_⟩
 have hlt : i < Ts.length := by rw [h3]; exact (List.getElem?_eq_some_iff.1 hx).1
 obtain ⟨s, e, k⟩ := h4 i r x Ts[i] hr hx (List.getElem?_eq_getElem hlt)
 exact ⟨s, e, k.rsl (fun p hp' => hO p (hp.mem_iff.2 (List.mem_append_right _ (List.mem_flatten.2 ⟨Ts[i], List.getElem_mem hlt, hp'⟩)))) H⟩
theorem OwnB.r {t : Tys} {w : zb} {b : Bd} {O O' : Go.Sx.Own} (h : OwnB t w b O) (hO : ∀ p ∈ O, p ∈ O') (H : Heap) : BdR H O' w b := by
 obtain ⟨Oo, A0, B0, C0, D0, A1, B1, C1, D1, Os, Oq, Oa, Obk, hp, h⟩ := h
 have m : ∀ p, p ∈ Oo ++ (A0 ++ (B0 ++ (C0 ++ (D0 ++ (A1 ++ (B1 ++ (C1 ++ (D1 ++ (Os ++ (Oq ++ (Oa ++ Obk))))))))))) → p ∈ O' := fun p h => hO p (hp.mem_iff.2 h)
 refine ⟨h.objs.rsl (fun p k => m p (by simp [k])) H, ⟨h.l0.rsl (fun p k => m p (by simp [k])) H, h.h0.rsl (fun p k => m p (by simp [k])) H, h.f0.rsl (fun p k => m p (by simp [k])) H, h.g0.rsl (fun p k => m p (by simp [k])) H⟩,
  ⟨h.l1.rsl (fun p k => m p (by simp [k])) H, h.h1.rsl (fun p k => m p (by simp [k])) H, h.f1.rsl (fun p k => m p (by simp [k])) H, h.g1.rsl (fun p k => m p (by simp [k])) H⟩,
  h.stack.r (fun p k => m p (by simp [k])) H, h.queue.r (fun p k => m p (by simp [k])) H, h.att.rsl (fun p k => m p (by simp [k])) H, h.blocks.rsl (fun p k => m p (by simp [k])) H⟩
def CX (l : List It) : Prop := l.length ≤ 1000000 ∧ ∀ x ∈ l, x.tgs.length ≤ 1000000
theorem Cons.ghost {H H' : Heap} {O O' : Go.Sx.Own} (h : Cons H O) (g : Ghost H O H' O') : Cons H' O' := by
 obtain ⟨w, F, hm⟩ := h
 exact ⟨w, F, (g w F hm).1⟩
theorem Cons.perm {H : Heap} {O O' : Go.Sx.Own} (h : Cons H O) (hp : O.Perm O') : Cons H O' := h.ghost (Ghost.perm hp)
theorem Triple.ghost {P : Program} {f : FuncId} {args : List Value} {H : Heap} {O : Go.Sx.Own} {Q Q' : Value → Heap → Go.Sx.Own → Prop} (h : Triple P f args H O Q)
  (hq : ∀ v H' O', Heap.le H H' → Cons H' O' → Q v H' O' → ∃ H'' O'', Ghost H' O' H'' O'' ∧ Q' v H'' O'') : Triple P f args H O Q' :=
 fun w F hm => (h w F hm).mono fun _ w' ⟨v, H', O', he, q, hle, hm'⟩ =>
  let ⟨H'', O'', g, q'⟩ := hq v H' O' hle ⟨w', F, hm'⟩ q
  ⟨v, H'', O'', he, q', Heap.le_trans hle (g _ _ hm').2, (g _ _ hm').1⟩
theorem qE {te : TypeId} : ∀ (l : List It) (rows : List (List Value)) (Ts : List Go.Sx.Own) (H : Heap) (X : Go.Sx.Own), rows.length = l.length → Ts.length = l.length →
  (∀ (i : Nat) (r : List Value) (x : It) (T : Go.Sx.Own), rows[i]? = some r → l[i]? = some x → Ts[i]? = some T → ∃ s, r = [iV x.player, iV x.id, iV x.card, iV x.trig, s] ∧ OSlE te 2 s (x.tgs.map Tg.row) T) →
  Cons H (List.flatten Ts ++ X) → ∃ H', Ghost H (List.flatten Ts ++ X) H' X ∧ Heap.le H H' ∧
   ∀ (i : Nat) (r : List Value) (x : It), rows[i]? = some r → l[i]? = some x → ∃ s, r = [iV x.player, iV x.id, iV x.card, iV x.trig, s] ∧ Sl H' 2 s (x.tgs.map Tg.row)
 | [], [], [], H, X, _, _, _, _ => ⟨H, Ghost.refl _ _, Heap.le_refl _, fun i r x h => by simp at h⟩
 | x :: l, r :: rows, T :: Ts, H, X, h1, h2, hs, hc => by
  obtain ⟨s, e, hT⟩ := hs 0 r x T rfl rfl rfl
  rw [List.flatten_cons, List.append_assoc] at hc
  obtain ⟨H1, g1, k1, l1⟩ := hT.freeze hc
  obtain ⟨H2, g2, l2, k2⟩ := qE l rows Ts H1 X (by simpa using h1) (by simpa using h2) (fun i r x T a b c => hs (i + 1) r x T (by simpa using a) (by simpa using b) (by simpa using c)) (hc.ghost g1)
  refine ⟨H2, ?_, Heap.le_trans l1 l2, fun i r' x' a b => ?_⟩
  ·rw [List.flatten_cons, List.append_assoc]; exact g1.trans g2
  ·cases i with
   | zero => simp at a b; subst a; subst b; exact ⟨s, e, k1.le l2⟩
   | succ i => exact k2 i r' x' (by simpa using a) (by simpa using b)
 | [], _ :: _, _, _, _, h, _, _, _ => by simp at h
 | _ :: _, [], _, _, _, h, _, _, _ => by simp at h
 | [], [], _ :: _, _, _, _, h, _, _ => by simp at h
 | _ :: _, _ :: _, [], _, _, _, h, _, _ => by simp at h
theorem OIts.freeze {te ti : TypeId} {v : Value} {l : List It} {O1 X : Go.Sx.Own} {H : Heap} (h : OIts te ti v l O1) (hc : Cons H (O1 ++ X)) : ∃ H', Ghost H (O1 ++ X) H' X ∧ ItsS H' v l ∧ Heap.le H H' := by
 obtain ⟨rows, A, Ts, hp, h1, h2, h3, h4⟩ := h
 have hp' : (O1 ++ X).Perm (A ++ (List.flatten Ts ++ X)) := (hp.append_right X).trans (List.Perm.of_eq (List.append_assoc _ _ _))
 obtain ⟨H1, g1, k1, l1⟩ := h1.freeze (hc.perm hp')
 obtain ⟨H2, g2, l2, k2⟩ := qE l rows Ts H1 X h2 h3 h4 ((hc.perm hp').ghost g1)
 exact ⟨H2, (Ghost.perm hp').trans (g1.trans g2), ⟨rows, k1.le l2, h2, k2⟩, Heap.le_trans l1 l2⟩
theorem OwnB.freeze {t : Tys} {w : zb} {b : Bd} {O X : Go.Sx.Own} {H : Heap} (h : OwnB t w b O) (hc : Cons H (O ++ X)) : ∃ H', Ghost H (O ++ X) H' X ∧ BdS H' w b ∧ Heap.le H H' := by
 obtain ⟨Oo, A0, B0, C0, D0, A1, B1, C1, D1, Os, Oq, Oa, Obk, hp, h⟩ := h
 have hp' : (O ++ X).Perm (Oo ++ (A0 ++ (B0 ++ (C0 ++ (D0 ++ (A1 ++ (B1 ++ (C1 ++ (D1 ++ (Os ++ (Oq ++ (Oa ++ (Obk ++ X))))))))))))) := by
  refine (hp.append_right X).trans (List.Perm.of_eq ?_)
  simp only [List.append_assoc]
 replace hc := hc.perm hp'
 obtain ⟨H1, g1, k1, l1⟩ := h.objs.freeze hc
 replace hc := hc.ghost g1
 obtain ⟨H2, g2, k2, l2⟩ := h.l0.freeze hc
 replace hc := hc.ghost g2
 obtain ⟨H3, g3, k3, l3⟩ := h.h0.freeze hc
 replace hc := hc.ghost g3
 obtain ⟨H4, g4, k4, l4⟩ := h.f0.freeze hc
 replace hc := hc.ghost g4
 obtain ⟨H5, g5, k5, l5⟩ := h.g0.freeze hc
 replace hc := hc.ghost g5
 obtain ⟨H6, g6, k6, l6⟩ := h.l1.freeze hc
 replace hc := hc.ghost g6
 obtain ⟨H7, g7, k7, l7⟩ := h.h1.freeze hc
 replace hc := hc.ghost g7
 obtain ⟨H8, g8, k8, l8⟩ := h.f1.freeze hc
 replace hc := hc.ghost g8
 obtain ⟨H9, g9, k9, l9⟩ := h.g1.freeze hc
 replace hc := hc.ghost g9
 obtain ⟨H10, g10, k10, l10⟩ := h.stack.freeze hc
 replace hc := hc.ghost g10
 obtain ⟨H11, g11, k11, l11⟩ := h.queue.freeze hc
 replace hc := hc.ghost g11
 obtain ⟨H12, g12, k12, l12⟩ := h.att.freeze hc
 replace hc := hc.ghost g12
 obtain ⟨H13, g13, k13, l13⟩ := h.blocks.freeze hc
 have m12 := l13
 have m11 := Heap.le_trans l12 m12
 have m10 := Heap.le_trans l11 m11
 have m9 := Heap.le_trans l10 m10
 have m8 := Heap.le_trans l9 m9
 have m7 := Heap.le_trans l8 m8
 have m6 := Heap.le_trans l7 m7
 have m5 := Heap.le_trans l6 m6
 have m4 := Heap.le_trans l5 m5
 have m3 := Heap.le_trans l4 m4
 have m2 := Heap.le_trans l3 m3
 have m1 := Heap.le_trans l2 m2
 exact ⟨H13, (Ghost.perm hp').trans (g1.trans (g2.trans (g3.trans (g4.trans (g5.trans (g6.trans (g7.trans (g8.trans (g9.trans (g10.trans (g11.trans (g12.trans g13)))))))))))),
  ⟨k1.le m1, ⟨k2.le m2, k3.le m3, k4.le m4, k5.le m5⟩, ⟨k6.le m6, k7.le m7, k8.le m8, k9.le m9⟩, k10.le m10, k11.le m11, k12.le m12, k13⟩, Heap.le_trans l1 m1⟩
theorem RetO.perm {P : Program} {f : FuncId} {args : List Value} {H : Heap} {O O' : Go.Sx.Own} {r : Value} (h : RetO P f args H O r) (hp : O.Perm O') : RetO P f args H O' r :=
 fun w F hm => (h w F (hm.perm (hp.symm.append_right F))).mono fun _ _ ⟨v, H', O1, he, ⟨q1, q2⟩, hle, hm'⟩ => ⟨v, H', O', he, ⟨q1, rfl⟩, hle, hm'.perm (by rw [q2]; exact hp.append_right F)⟩
theorem OSl.upto {e : TypeId} {size : Nat} {v : Value} {rows : List (List Value)} {O : Go.Sx.Own} (h : OSl e size v rows O) {i : Nat} (hi : i ≤ rows.length) :
  ∃ u, ah (.slc size false true false) [v, .int .i64 i] = some u ∧ OSl e size u (rows.take i) O := by
 rcases h with ⟨⟨a, rfl⟩, rfl, rfl⟩ | ⟨r, cs, cap, rfl, rfl, hcl, hlc, hcap, hl, ho, ht⟩
 ·have h0 : i = 0 := by simpa using hi
  subst h0
  refine ⟨.slice a 0 0, ?_, .inl ⟨⟨a, rfl⟩, rfl, rfl⟩⟩
  simp [ah, dO, hM, bA, bp, cP, mf, asI]
 ·have hb : bA rows.length cap none (some (.int .i64 (i : Int))) none = some (0, i, cap) := by
   have : i ≤ cap := by omega
   simp [bA, bp, cP, mf, asI, this]
  refine ⟨.slice (some ⟨r, 0, none⟩) i cap, ?_, .inr ⟨r, cs, cap, ?_, rfl, hcl, ?_, hcap, fun x hx => hl x (List.mem_of_mem_take hx), fun x hx => ho x (List.mem_of_mem_take hx), ?_⟩⟩
  ·simp only [ah, dO, hM, hb, Option.map_some]
   simp [Addr.add]
  ·simp [Nat.min_eq_left hi]
  ·rw [List.length_take]; omega
  ·have h1 : (rows.take i).length = i := by rw [List.length_take]; omega
   have h2 := congrArg (fun l => l.take (i * size)) ht
   simp only [List.take_take] at h2
   have h3 : i * size ≤ rows.length * size := Nat.mul_le_mul_right _ hi
   rw [Nat.min_eq_left h3] at h2
   rw [h1, h2]
   have h4 : rows.flatten = (rows.take i).flatten ++ (rows.drop i).flatten := by rw [← List.flatten_append, List.take_append_drop]
   have h5 := aF (rows := rows.take i) (size := size) fun x hx => hl x (List.mem_of_mem_take hx)
   rw [h1] at h5
   rw [h4, ← h5, List.take_left]
theorem sY {P : Program} {f : FuncId} {args : List Value} {H : Heap} {O O1 O2 : Go.Sx.Own} {own : List BV} {shp : Shp} {K : List Value → List (List Value) → Heap → Go.Sx.Own → Prop} {R : Value → Heap → Go.Sx.Own → Prop}
  (hO : O.Perm (O1 ++ O2)) (h : Triple P f args H (own.map BV.obj ++ O1) fun v H' O' => ∃ O3, O' = own.map BV.obj ++ O3 ∧ R v H' O3) (hf : A9 own (own.map (·.vs)))
  (hk : ∀ v H' O3, R v H' O3 → Heap.le H H' → ∃ vs, shp.open v = some vs ∧ Ones vs ∧ K vs (own.map (·.vs)) H' (O3 ++ O2)) :
  cX (fun H1 O1 R => Triple P f args H1 O1 R) false [] own shp K H O := by
 intro _
 refine ⟨H, O1, O2, _, Ghost.perm hO, h, ?_⟩
 rintro v H' O' ⟨O3, rfl, hr⟩ hle
 obtain ⟨vs, h1, h2, h3⟩ := hk v H' O3 hr hle
 exact ⟨vs, own.map (·.vs), O3, h1, h2, hf, by rw [lS], h3⟩
theorem cw {P : Program} {f : FuncId} {args : List Value} {H : Heap} {O O1 O2 : Go.Sx.Own} {shp : Shp} {K : List Value → List (List Value) → Heap → Go.Sx.Own → Prop} {R : Value → Heap → Go.Sx.Own → Prop}
  (hO : O.Perm (O1 ++ O2)) (h : Triple P f args H O1 R) (hk : ∀ v H' O3, R v H' O3 → Heap.le H H' → ∃ vs, shp.open v = some vs ∧ Ones vs ∧ K vs [] H' (O3 ++ O2)) :
  cX (fun H1 O1 R => Triple P f args H1 O1 R) false [] [] shp K H O := by
 intro _
 refine ⟨H, O1, O2, R, Ghost.perm hO, by simpa using h, ?_⟩
 intro v H' O' hr hle
 obtain ⟨vs, h1, h2, h3⟩ := hk v H' O' hr hle
 exact ⟨vs, [], O', h1, h2, trivial, rfl, h3⟩
theorem Sl.upto {H : Heap} {size : Nat} {v : Value} {rows : List (List Value)} (h : Sl H size v rows) {i : Nat} (hi : i ≤ rows.length) : ∃ u, ah (.slc size false true false) [v, .int .i64 i] = some u ∧ Sl H size u (rows.take i) := by
 obtain ⟨a, cap, rfl, h1, h2, h3⟩ := h
 have hb : bA rows.length cap none (some (.int .i64 (i : Int))) none = some (0, i, cap) := by
  have : i ≤ cap := by omega
  simp [bA, bp, cP, mf, asI, this]
 have hm : (rows.take i).length = i := by rw [List.length_take]; omega
 refine ⟨.slice a i cap, ?_, a, cap, by rw [hm], by rw [hm]; omega, h2, fun hne => ?_⟩
 ·simp only [ah, dO, hM, hb, Option.map_some]
  cases a <;> simp [Addr.add]
 ·have hne2 : rows ≠ [] := by rintro rfl; simp at hne
  obtain ⟨ad, e, hA⟩ := h3 hne2
  refine ⟨ad, e, fun j r hr => hA j r ?_⟩
  rw [List.getElem?_take] at hr
  split at hr
  ·exact hr
  ·cases hr
theorem Sl.from {H : Heap} {size : Nat} {v : Value} {rows : List (List Value)} (h : Sl H size v rows) {i : Nat} (hi : i ≤ rows.length) : ∃ u, ah (.slc size true false false) [v, .int .i64 i] = some u ∧ Sl H size u (rows.drop i) := by
 obtain ⟨a, cap, rfl, h1, h2, h3⟩ := h
 have hb : bA rows.length cap (some (.int .i64 (i : Int))) none none = some (i, rows.length, cap) := by
  simp [bA, bp, cP, mf, asI, hi]
 have hm : (rows.drop i).length = rows.length - i := List.length_drop
 refine ⟨.slice (if cap = i then a else a.map (·.add (i * size))) (rows.length - i) (cap - i), ?_, _, cap - i, by rw [hm], by rw [hm]; omega, by omega, fun hne => ?_⟩
 ·simp only [ah, dO, hM, hb, Option.map_some]
 ·have hne2 : rows ≠ [] := by rintro rfl; simp at hne
  have hlt : i < rows.length := by
   rcases Nat.lt_or_ge i rows.length with h | h
   ·exact h
   ·rw [List.drop_of_length_le h] at hne; exact absurd rfl hne
  obtain ⟨ad, rfl, hA⟩ := h3 hne2
  refine ⟨ad.add (i * size), ?_, fun j r hr => ?_⟩
  ·rw [if_neg (by omega)]; rfl
  ·rw [List.getElem?_drop] at hr
   have := hA (i + j) r hr
   rw [mN, ← Nat.add_mul]; exact this
def KindS (H : Heap) (v : Value) (ks : List Int) : Prop := ∃ rows, Sl H 14 v rows ∧ rows.length = ks.length ∧ ∀ (i : Nat) (r : List Value) (k : Int), rows[i]? = some r → ks[i]? = some k → g r 1 = iV k
theorem KindS.le {H H' : Heap} {v : Value} {ks : List Int} (h : KindS H v ks) (hl : Heap.le H H') : KindS H' v ks := let ⟨rows, h1, h2, h3⟩ := h; ⟨rows, h1.le hl, h2, h3⟩
theorem KindS.one {H : Heap} {v : Value} {ks : List Int} (h : KindS H v ks) : v.oneCell' = true := let ⟨_, h1, _⟩ := h; h1.one
theorem mR {H : Heap} {O : Go.Sx.Own} {p : Value} {m : Nat} {vs : List Value} (h : H.read p m = some vs) : Reads H O p m vs := .inl h
theorem zf {P : Program} {t e : TypeId} (hu : P.underlying t = some (.slice e)) {size : Nat} (h0 : 0 < size) {H : Heap} {x : Value} {news : List (List Value)} (hs : Sl H size x news) {w : World} {O : Go.Sx.Own} (hm : Models w H O) :
  Src P size t x news.length news.flatten w ∧ news.flatten.length = news.length * size ∧ (∀ row ∈ news, row.length = size) ∧ ∀ row ∈ news, Ones row := by
 obtain ⟨xa, cap, rfl, h1, h2, h3⟩ := hs
 by_cases hne : news = []
 ·subst hne
  refine ⟨?_, by simp, by simp, by simp⟩
  cases xa with
  | none => exact Src.ofNil w hu cap
  | some ad => exact Src.ofSlice w hu ad 0 cap [] (by simp) (fun j u h => by simp at h) (by simp)
 ·obtain ⟨a, rfl, hA⟩ := h3 hne
  obtain ⟨hnl, hcells⟩ := rW (H := H) h0 (fun _ => hA) hm
  have hfl := aF fun r hr => (hnl r hr).1
  refine ⟨Src.ofSlice w hu a _ cap _ hfl hcells fun u hu' => ?_, hfl, fun r hr => (hnl r hr).1, fun r hr => (hnl r hr).2⟩
  obtain ⟨r, hr, hur⟩ := List.mem_flatten.1 hu'
  exact iS (hnl r hr).2 u hur
theorem xB {P : Program} {t tx ty e : TypeId} {i : TypeInfo} {z : Value} {size : Nat} (ht : P.underlying t = some (.slice e)) (hi : P.info? e = some i) (hz : i.zero = some z) (hsz : i.size = size) (hzs : z.cells.size = size) (hby : jg P e = i.bytes) {w : World}
  {base : Option Addr} {len cap m : Nat} {olds news : List Value} {x : Value} (hold : (Builtin.firstCells i.size len (.slice base len cap)).run P w.drew = .ok olds.toArray w.drew) (hs : Src P size tx x m news w)
  (hg : cap < len + m) (hb : (len + m) * jg P e ≤ 140737488355328) (h63 : len + m < 2 ^ 63) :
  ∃ zs cc, zs.length = cc * size ∧ cc + (len + m) < 2 ^ 63 ∧ (Builtin.append_ #[t, tx] ty #[.slice base len cap, x]).run P w = .ok (.slice (some ⟨w.heap.size, 0, none⟩) (len + m) (cc + (len + m))) (w.drew.alloc (.cells (olds ++ news ++ zs).toArray e)) := by
 subst hsz
 have hge := grownCap_ge w (len + m) cap e
 have hle := grownCap_le_maxLen w (len + m) cap e (by unfold maxLen; omega)
 unfold maxLen at hle
 refine ⟨(Builtin.zeroCells z.cells (grownCap w (len + m) cap e - (len + m))).toList, grownCap w (len + m) cap e - (len + m), ?_, by omega, ?_⟩
 ·rw [Array.length_toList, size_zeroCells, hzs]
 ·rw [run_append_grow_src (P := P) w t tx ty e i z ht hi hz base len cap olds hold x m news hs hg (by omega) (growslice_fits hg (by rw [← hby]; exact hb))]
  have e1 : grownCap w (len + m) cap e - (len + m) + (len + m) = grownCap w (len + m) cap e := by omega
  rw [e1]
  congr 3
  apply Array.ext'
  simp
theorem wv {P : Program} {t ty e : TypeId} {size : Nat} (ha : vt P t e size = true) {ad : Addr} {rows news : List (List Value)} {x : Value} {H : Heap} (hr : Sl H size (.slice (some ad) rows.length rows.length) rows) (hx : Sl H size x news)
  (hb : (rows.length + news.length) * jg P e ≤ 140737488355328) (h63 : rows.length + news.length < 2 ^ 63) :
  bJ P ((PrimOp.bi .append #[t, t] ty).sem [.slice (some ad) rows.length rows.length, x]) H [] fun v' H' O' => O' = [] ∧ Heap.le H H' ∧ Sl H' size v' (rows ++ news) := by
 obtain ⟨hu, i, z, hi, hsz, hz, hzs, h0, hby⟩ := ww ha
 intro w F hm
 simp only [List.nil_append] at hm
 obtain ⟨src, s1, s2, s3⟩ := zf hu h0 hx hm
 by_cases hne : news = []
 ·subst hne
  have hs' : Src P i.size t x 0 [] w := by rw [hsz]; exact src
  have hrun := q8 (ty := ty) hu hi (base := some ad) (cap := rows.length) hs' (Nat.le_refl _)
  refine ⟨_, w, H, [], ?_, ⟨rfl, Heap.le_refl H, by rw [List.append_nil]; exact hr⟩, Heap.le_refl H, by simpa using hm⟩
  simp only [PrimOp.sem, builtin, Sem.run_bind]
  rw [hrun]; rfl
 ·have hpos : 0 < news.length := List.length_pos_iff.2 hne
  obtain ⟨osrc, o1, o2, o3⟩ := zf hu h0 hr hm
  obtain ⟨zs, cc, z1, zc, hrun⟩ := xB (ty := ty) hu hi hz hsz hzs hby (w := w) (base := some ad) (len := rows.length) (cap := rows.length) (m := news.length) (olds := rows.flatten) (news := news.flatten) (x := x)
   (by rw [hsz]; exact osrc.cellsD) src (by omega) hb h63
  have hm2 := sA hm (rows.flatten ++ news.flatten ++ zs).toArray e
  have ho : OSl e size (.slice (some ⟨w.heap.size, 0, none⟩) (rows.length + news.length) (cc + (rows.length + news.length))) (rows ++ news) [(w.heap.size, .cells (rows.flatten ++ news.flatten ++ zs).toArray e (0, 0))] := by
   refine .inr ⟨w.heap.size, rows.flatten ++ news.flatten ++ zs, cc + (rows.length + news.length), by rw [List.length_append], rfl, ?_, ?_, ?_, ?_, ?_, ?_⟩
   ·rw [List.length_append, List.length_append, o1, s1, z1, ← Nat.add_mul, ← Nat.add_mul]; congr 1; omega
   ·rw [List.length_append]; omega
   ·exact zc
   ·intro r hr'
    rcases List.mem_append.1 hr' with h | h
    ·exact o2 r h
    ·exact s2 r h
   ·intro r hr'
    rcases List.mem_append.1 hr' with h | h
    ·exact o3 r h
    ·exact s3 r h
   ·rw [List.flatten_append, List.length_append, Nat.add_mul, ← o1, ← s1, ← List.length_append, List.take_left]
  obtain ⟨H', g, k1, k2⟩ := ho.freeze (X := []) ⟨w.drew.alloc (.cells (rows.flatten ++ news.flatten ++ zs).toArray e), F, hm2⟩
  refine ⟨_, w.drew.alloc (.cells (rows.flatten ++ news.flatten ++ zs).toArray e), H', [], ?_, ⟨rfl, k2, k1⟩, k2, (g _ F hm2).1⟩
  simp only [PrimOp.sem, builtin, Sem.run_bind]
  rw [hrun]; rfl
theorem ku : ∀ {l r : List Int}, l.Pairwise (· < ·) → r.Pairwise (· < ·) → (∀ x, x ∈ l ↔ x ∈ r) → l = r
 | [], [], _, _, _ => rfl
 | [], b :: r, _, _, h => by have := (h b).2 (by simp); cases this
 | a :: l, [], _, _, h => by have := (h a).1 (by simp); cases this
 | a :: l, b :: r, hl, hr, h => by
  rw [List.pairwise_cons] at hl hr
  have e : a = b := by
   have h1 := (h a).1 (by simp)
   have h2 := (h b).2 (by simp)
   rcases List.mem_cons.1 h1 with e | h1
   ·exact e
   rcases List.mem_cons.1 h2 with e | h2
   ·exact e.symm
   have := hl.1 b h2
   have := hr.1 a h1
   omega
  subst e
  congr 1
  refine ku hl.2 hr.2 fun x => ⟨fun hx => ?_, fun hx => ?_⟩
  ·rcases List.mem_cons.1 ((h x).1 (by simp [hx])) with e | h'
   ·have := hl.1 x hx; omega
   ·exact h'
  ·rcases List.mem_cons.1 ((h x).2 (by simp [hx])) with e | h'
   ·have := hr.1 x hx; omega
   ·exact h'
end Go.Sx
namespace Go.Sx
open Go
set_option maxRecDepth 100000
set_option maxHeartbeats 1000000
end Go.Sx
namespace Go.Sx
open Go
structure Cd where
 kind : Int
 tg : List Int
 tr : List Nat
def EffsS (H : Heap) (v : Value) (tg : List Int) : Prop := ∃ rows, Sl H 5 v rows ∧ rows.length = tg.length ∧ ∀ (i : Nat) (r : List Value) (t : Int), rows[i]? = some r → tg[i]? = some t → g r 1 = iV t
def TrigR (H : Heap) (r : List Value) (n : Nat) : Prop := ∃ erows, Sl H 5 (g r 1) erows ∧ erows.length = n
def TrigsS (H : Heap) (v : Value) (tr : List Nat) : Prop := ∃ rows, Sl H 2 v rows ∧ rows.length = tr.length ∧ ∀ (i : Nat) (r : List Value) (n : Nat), rows[i]? = some r → tr[i]? = some n → TrigR H r n
structure CdR (H : Heap) (r : List Value) (c : Cd) : Prop where
 kind : g r 1 = iV c.kind
 eff : EffsS H (g r 11) c.tg
 trig : TrigsS H (g r 12) c.tr
def CardsS (H : Heap) (v : Value) (cs : List Cd) : Prop := ∃ rows, Sl H 14 v rows ∧ rows.length = cs.length ∧ ∀ (i : Nat) (r : List Value) (c : Cd), rows[i]? = some r → cs[i]? = some c → CdR H r c
theorem EffsS.le {H H' : Heap} {v : Value} {l : List Int} (h : EffsS H v l) (hl : Heap.le H H') : EffsS H' v l := let ⟨rows, h1, h2, h3⟩ := h; ⟨rows, h1.le hl, h2, h3⟩
theorem TrigR.le {H H' : Heap} {r : List Value} {n : Nat} (h : TrigR H r n) (hl : Heap.le H H') : TrigR H' r n := let ⟨rows, h1, h2⟩ := h; ⟨rows, h1.le hl, h2⟩
theorem TrigsS.le {H H' : Heap} {v : Value} {l : List Nat} (h : TrigsS H v l) (hl : Heap.le H H') : TrigsS H' v l := let ⟨rows, h1, h2, h3⟩ := h; ⟨rows, h1.le hl, h2, fun i r n a b => (h3 i r n a b).le hl⟩
theorem CdR.le {H H' : Heap} {r : List Value} {c : Cd} (h : CdR H r c) (hl : Heap.le H H') : CdR H' r c := ⟨h.kind, h.eff.le hl, h.trig.le hl⟩
theorem CardsS.le {H H' : Heap} {v : Value} {cs : List Cd} (h : CardsS H v cs) (hl : Heap.le H H') : CardsS H' v cs := let ⟨rows, h1, h2, h3⟩ := h; ⟨rows, h1.le hl, h2, fun i r c a b => (h3 i r c a b).le hl⟩
theorem CardsS.one {H : Heap} {v : Value} {cs : List Cd} (h : CardsS H v cs) : v.oneCell' = true := let ⟨_, h1, _⟩ := h; h1.one
theorem CardsS.len {H : Heap} {v : Value} {cs : List Cd} (h : CardsS H v cs) : ah .len [v] = some (iV cs.length) := by
 obtain ⟨rows, h1, h2, _⟩ := h
 have := h1.len; rwa [h2] at this
theorem EffsS.one {H : Heap} {v : Value} {l : List Int} (h : EffsS H v l) : v.oneCell' = true := let ⟨_, h1, _⟩ := h; h1.one
theorem EffsS.len {H : Heap} {v : Value} {l : List Int} (h : EffsS H v l) : ah .len [v] = some (iV l.length) := by
 obtain ⟨rows, h1, h2, _⟩ := h
 have := h1.len; rwa [h2] at this
theorem TrigsS.one {H : Heap} {v : Value} {l : List Nat} (h : TrigsS H v l) : v.oneCell' = true := let ⟨_, h1, _⟩ := h; h1.one
theorem TrigsS.len {H : Heap} {v : Value} {l : List Nat} (h : TrigsS H v l) : ah .len [v] = some (iV l.length) := by
 obtain ⟨rows, h1, h2, _⟩ := h
 have := h1.len; rwa [h2] at this
theorem EffsS.nil (H : Heap) : EffsS H (.slice none 0 0) [] := ⟨[], Sl.nil H 5, rfl, fun i r t h => by simp at h⟩
theorem TrigsS.nil (H : Heap) : TrigsS H (.slice none 0 0) [] := ⟨[], Sl.nil H 2, rfl, fun i r t h => by simp at h⟩
theorem Models.grown {w : World} {H : Heap} {O : Go.Sx.Own} (h : Models w H O) (os : Array Obj) : Models (Sort.grow w os) H O := by
 have keep : ∀ b (x : Obj), w.heap[b]? = some x → (w.heap ++ os)[b]? = some x := fun b x hb => by
  have hlt : b < w.heap.size := by
   rcases Nat.lt_or_ge b w.heap.size with h | h
   ·exact h
   ·rw [Array.getElem?_eq_none h] at hb; cases hb
  rw [Array.getElem?_append_left hlt]; exact hb
 exact ⟨fun b x hb => keep b x (h.pers b x hb), fun p hp => ⟨keep _ _ (h.own p hp).1, (h.own p hp).2⟩, h.nodup, h.env⟩
def tgs (l : List Int) : List Tg := l.map fun n => ⟨n, 0⟩
theorem DD {x y : Int} (h1 : -9223372036854775808 ≤ x - y) (h2 : x - y < 9223372036854775808) : ah (.bin .sub .int) [iV x, iV y] = some (iV (x - y)) := by
 simp only [ah, bZ, bY, if_true]
 rw [li (by omega) (by omega)]
structure Eff where
 (code target n m colour : Int)
deriving DecidableEq
def Eff.row (e : Eff) : List Value := [iV e.code, iV e.target, iV e.n, iV e.m, iV e.colour]
def bP (l : List Eff) : List (List Value) := l.map Eff.row
theorem iw (l : List Eff) : (bP l).length = l.length := by simp [bP]
theorem fM {l : List Eff} {i : Nat} (h : i < l.length) : (bP l)[i]? = some l[i].row := by simp [bP, h]
theorem hN (e : Eff) : Ones e.row := ⟨rfl, rfl, rfl, rfl, rfl, trivial⟩
structure CdX where
 kind : Int
 effs : List Eff
 trs : List (List Eff)
def CdX.base (c : CdX) : Cd := ⟨c.kind, c.effs.map (·.target), c.trs.map List.length⟩
def TrsX (H : Heap) (v : Value) (trs : List (List Eff)) : Prop := ∃ rows, Sl H 2 v rows ∧ rows.length = trs.length ∧ ∀ (i : Nat) (r : List Value) (l : List Eff), rows[i]? = some r → trs[i]? = some l → Sl H 5 (g r 1) (bP l)
structure CdRX (H : Heap) (r : List Value) (c : CdX) : Prop where
 kind : g r 1 = iV c.kind
 eff : Sl H 5 (g r 11) (bP c.effs)
 trig : TrsX H (g r 12) c.trs
def CardsX (H : Heap) (v : Value) (cs : List CdX) : Prop := ∃ rows, Sl H 14 v rows ∧ rows.length = cs.length ∧ ∀ (i : Nat) (r : List Value) (c : CdX), rows[i]? = some r → cs[i]? = some c → CdRX H r c
theorem TrsX.le {H H' : Heap} {v : Value} {l : List (List Eff)} (h : TrsX H v l) (hl : Heap.le H H') : TrsX H' v l := let ⟨rows, h1, h2, h3⟩ := h; ⟨rows, h1.le hl, h2, fun i r n a b => (h3 i r n a b).le hl⟩
theorem CdRX.le {H H' : Heap} {r : List Value} {c : CdX} (h : CdRX H r c) (hl : Heap.le H H') : CdRX H' r c := ⟨h.kind, h.eff.le hl, h.trig.le hl⟩
theorem CardsX.le {H H' : Heap} {v : Value} {cs : List CdX} (h : CardsX H v cs) (hl : Heap.le H H') : CardsX H' v cs := let ⟨rows, h1, h2, h3⟩ := h; ⟨rows, h1.le hl, h2, fun i r c a b => (h3 i r c a b).le hl⟩
theorem xI {H : Heap} {v : Value} {l : List Eff} (h : Sl H 5 v (bP l)) : EffsS H v (l.map (·.target)) := by
 refine ⟨_, h, by simp [bP], fun i r t a b => ?_⟩
 have hi : i < l.length := by
  have := (List.getElem?_eq_some_iff.1 a).1
  simpa [bP] using this
 rw [fM hi] at a
 rw [List.getElem?_map, List.getElem?_eq_getElem hi] at b
 obtain rfl := Option.some.inj a
 obtain rfl := Option.some.inj b
 rfl
theorem CdRX.base {H : Heap} {r : List Value} {c : CdX} (h : CdRX H r c) : CdR H r c.base := by
 refine ⟨h.kind, xI h.eff, ?_⟩
 obtain ⟨rows, h1, h2, h3⟩ := h.trig
 refine ⟨rows, h1, by simp [CdX.base, h2], fun i r n a b => ?_⟩
 have hi : i < c.trs.length := by
  have := (List.getElem?_eq_some_iff.1 a).1
  omega
 simp only [CdX.base] at b
 rw [List.getElem?_map, List.getElem?_eq_getElem hi] at b
 obtain rfl := Option.some.inj b
 exact ⟨_, h3 i r _ a (List.getElem?_eq_getElem hi), iw _⟩
theorem CardsX.base {H : Heap} {v : Value} {cs : List CdX} (h : CardsX H v cs) : CardsS H v (cs.map CdX.base) := by
 obtain ⟨rows, h1, h2, h3⟩ := h
 refine ⟨rows, h1, by simp [h2], fun i r c a b => ?_⟩
 have hi : i < cs.length := by
  have := (List.getElem?_eq_some_iff.1 a).1
  omega
 rw [List.getElem?_map, List.getElem?_eq_getElem hi] at b
 obtain rfl := Option.some.inj b
 exact (h3 i r _ a (List.getElem?_eq_getElem hi)).base
theorem CardsX.one {H : Heap} {v : Value} {cs : List CdX} (h : CardsX H v cs) : v.oneCell' = true := let ⟨_, h1, _⟩ := h; h1.one
theorem CardsX.len {H : Heap} {v : Value} {cs : List CdX} (h : CardsX H v cs) : ah .len [v] = some (iV cs.length) := by
 obtain ⟨rows, h1, h2, _⟩ := h
 have := h1.len; rwa [h2] at this
end Go.Sx
namespace Go.Sx
open Go
set_option maxRecDepth 100000
set_option maxHeartbeats 1000000
end Go.Sx
namespace Go.Proofs.YtamgiojcbdbokaaGreatDoor
open Go Go.Sx
set_option maxRecDepth 100000
set_option maxHeartbeats 1000000
theorem Sl.block1 {H : Heap} {r size : Nat} {row : List Value} {T : TypeId} (h : H r = some (.cells row.toArray T (0, 0))) (hl : row.length = size) (ho : Ones row) : Sl H size (.slice (some ⟨r, 0, none⟩) 1 1) [row] := by
 refine ⟨_, _, rfl, Nat.le_refl _, by simp, fun _ => ⟨_, rfl, ?_⟩⟩
 intro i x hx
 cases i with
 | succ i => simp at hx
 | zero =>
  simp at hx
  subst hx
  refine ⟨?_, hl, ho⟩
  rw [bq, Nat.zero_mul, Nat.add_zero, fL h (by omega)]
  simp [← hl]
theorem Bt {b : Bool} (h : (!b) = true) : b = false := by simpa using h
theorem Ba {b : Bool} (h : (!b) = false) : b = true := by simpa using h
abbrev IY (n : Nat) (R : Nat → Value → Heap → Go.Sx.Own → Prop) : List Value → Heap → Go.Sx.Own → Prop := fun vs H O => ∃ (i : Nat) (x : Value), vs = [x, iV i] ∧ i ≤ n ∧ R i x H O
abbrev MY (n : Nat) : List Value → Heap → Go.Sx.Own → Nat := fun vs _ _ => match g vs 1 with | .int _ k => n - k.toNat | _ => 0
theorem kF {P : Program} {lab key : Nat} {x0 : Value} {body : (List Value → Heap → Go.Sx.Own → Prop) → List Value → Tree} {H : Heap} {O : Go.Sx.Own} {Q : Value → Heap → Go.Sx.Own → Prop} (n : Nat) (R : Nat → Value → Heap → Go.Sx.Own → Prop)
  (h0 : R 0 x0 H O) (step : ∀ i x H' O', i ≤ n → Heap.le H H' → R i x H' O' → (body (zC (IY n R) (MY n) (n - i)) [x, iV i]).den P Q H' O') :
  (Tree.loop lab key [x0, .int .i64 0] body).den P Q H O := by
 refine iY (IY n R) (MY n) ⟨0, x0, rfl, Nat.zero_le _, h0⟩ ?_
 rintro vs H' O' _ _ hle ⟨i, x, rfl, hi, hr⟩
 exact step i x H' O' hi hle hr
theorem dE {P : Program} {lab n i : Nat} {R : Nat → Value → Heap → Go.Sx.Own → Prop} {x : Value} {eqs : List (List Value × List Value)} {H : Heap} {O : Go.Sx.Own} {Q : Value → Heap → Go.Sx.Own → Prop} (he : Eqs eqs) (hi : i < n) (hr : R (i + 1) x H O) :
  (Tree.cont lab (zC (IY n R) (MY n) (n - i)) [x, iV ((i + 1 : Nat) : Int)] eqs).den P Q H O := by
 refine fF he ⟨i + 1, x, rfl, hi, hr⟩ ?_
 show n - ((i + 1 : Nat) : Int).toNat < n - i
 simp; omega
theorem eT {H : Heap} {v : Value} {l : List Eff} (h : Sl H 5 v (bP l)) : ah .len [v] = some (iV l.length) ∧ l.length < 2 ^ 63 := by
 have := h.len; rw [iw] at this
 have hB := h.lenB; rw [iw] at hB
 exact ⟨this, hB⟩
theorem lP : ∀ {a b : List Value}, Ones a → Ones b → Ones (a ++ b)
 | [], _, _, h => h
 | _ :: _, _, h, h' => ⟨h.1, lP h.2 h'⟩
theorem Bo (a : Addr) : bH (.pointer (some a)) 0 = .pointer (some a) := by simp [bH, Addr.add]
theorem rR {x y : Int} (h1 : -9223372036854775808 ≤ x + y) (h2 : x + y < 9223372036854775808) : ah (.bin .add .int) [iV x, iV y] = some (iV (x + y)) := by
 simp only [ah, bZ, bY, if_true]
 rw [li (by omega) (by omega)]
def wx (q : Int × Int) : Value := .tuple #[iV q.1, iV q.2]
end Go.Proofs.YtamgiojcbdbokaaGreatDoor
namespace Go.Sx
open Go
set_option maxRecDepth 100000
set_option maxHeartbeats 1000000
abbrev vx := List (List UInt8 × Value)
def fW (m : vx) (k : List UInt8) : Option Value := (m.find? fun p => k == p.1).map (·.2)
def Dp (es : Array MapEntry) (m : vx) : Prop := es.toList.map (fun e => (e.key, e.val)) = m.map fun p => (Str p.1, p.2)
def OMapS (v : Value) (m : vx) (O : Go.Sx.Own) : Prop := ∃ r es clock, v = .map (some r) ∧ O = [(r, .map es clock)] ∧ Dp es m
def FMapS (H : Heap) (v : Value) (m : vx) : Prop := ∃ r es clock, v = .map (some r) ∧ H r = some (.map es clock) ∧ Dp es m
theorem OMapS.one {v : Value} {m : vx} {O : Go.Sx.Own} (h : OMapS v m O) : v.oneCell' = true := by obtain ⟨r, es, c, rfl, _⟩ := h; rfl
theorem FMapS.one {H : Heap} {v : Value} {m : vx} (h : FMapS H v m) : v.oneCell' = true := by obtain ⟨r, es, c, rfl, _⟩ := h; rfl
theorem FMapS.le {H H' : Heap} {v : Value} {m : vx} (h : FMapS H v m) (hl : Heap.le H H') : FMapS H' v m := let ⟨r, es, c, h1, h2, h3⟩ := h; ⟨r, es, c, h1, hl.1 _ _ h2, h3⟩
theorem OMapS.freeze {v : Value} {m : vx} {O X : Go.Sx.Own} {H : Heap} (h : OMapS v m O) (hc : Cons H (O ++ X)) : ∃ H', Ghost H (O ++ X) H' X ∧ FMapS H' v m ∧ Heap.le H H' := by
 obtain ⟨r, es, c, rfl, rfl, he⟩ := h
 have hn : H r = none := hc.none (p := (r, .map es c)) (by simp)
 exact ⟨H.ins r (.map es c), Ghost.freeze H r _ X, ⟨r, es, c, rfl, by simp only [Heap.ins, hn, if_true], he⟩, Heap.le_ins H r _⟩
theorem zF (a b : List UInt8) : ((⟨a.toArray⟩ : ByteArray) == ⟨b.toArray⟩) = (a == b) := by
 show (a.toArray == b.toArray) = _
 rw [Bool.eq_iff_iff, beq_iff_eq, beq_iff_eq]
 exact ⟨fun h => by simpa using congrArg Array.toList h, fun h => by rw [h]⟩
theorem lv {x : List UInt8} : ∀ {es : List MapEntry} {m : vx} {i : Nat}, es.map (fun e => (e.key, e.val)) = m.map (fun p => (Str p.1, p.2)) →
  (Instr.findNow .string (Str x) es i = some none ∧ fW m x = none) ∨ ∃ j v, Instr.findNow .string (Str x) es i = some (some (i + j, v)) ∧ fW m x = some v
 | [], [], i, _ => .inl ⟨rfl, rfl⟩
 | [], _ :: _, _, h => by simp at h
 | _ :: _, [], _, h => by simp at h
 | e :: es, p :: m, i, h => by
  simp only [List.map_cons, List.cons.injEq, Prod.mk.injEq] at h
  obtain ⟨⟨h1, h2⟩, h3⟩ := h
  have hs : Instr.sameNow .string (Str x) e.key = some (x == p.1) := by
   rw [h1]
   show some ((⟨x.toArray⟩ : ByteArray) == ⟨p.1.toArray⟩) = _
   rw [zF]
  simp only [Instr.findNow, hs]
  by_cases hx : x = p.1
  ·right
   refine ⟨0, p.2, ?_, ?_⟩
   ·simp [hx, h2]
   ·simp [fW, hx]
  ·have hb : (x == p.1) = false := by simpa using hx
   rw [hb]
   rcases lv (i := i + 1) h3 with ⟨a, b⟩ | ⟨j, v, a, b⟩
   ·left
    refine ⟨by simpa using a, ?_⟩
    simp only [fW, List.find?_cons, hb]; exact b
   ·right
    refine ⟨j + 1, v, ?_, ?_⟩
    ·simp only; rw [a]; congr 3; omega
    ·simp only [fW, List.find?_cons, hb]; exact b
theorem ni {P : Program} {kt : TypeId} (hk : P.underlying kt = some .string) (em : Bool) (v : Value) (w : World) : (Instr.checkKey em 10000 kt v).run P w = .ok () w := by
 show (Instr.checkKey em (9999 + 1) kt v).run P w = _
 unfold Instr.checkKey
 rw [Sem.run_bind, ak hk]
 rfl
theorem oi {P : Program} {t kt et : TypeId} (ht : P.underlying t = some (.map kt et)) (hk : P.underlying kt = some .string) {z : Value} (hz : ∀ w, (zeroValue et).run P w = .ok z w)
  {r : Nat} {es : Array MapEntry} {clock : Nat} {m : vx} (he : Dp es m) {w : World} (hrow : w.heap[r]? = some (.map es clock)) (x : List UInt8) :
  ((PrimOp.lookup t true).sem [.map (some r), Str x]).run P w = .ok (.value (.tuple #[(fW m x).getD z, .bool (fW m x).isSome])) w := by
 have hg : (getObj r).run P w = .ok (.map es clock) w := by simp [getObj, Sem.run, hrow]
 simp only [PrimOp.sem, Instr.lookup, Sem.run_bind, ak ht, Result.andThen_ok, hg, Sem.run_pure, ni hk, Instr.findKey, ak hk]
 rcases lv (x := x) (i := 0) he with ⟨a, b⟩ | ⟨j, u, a, b⟩
 ·rw [a, b]
  simp only [Sem.run_pure, Result.andThen_ok, hz, Option.getD_none, Option.isSome_none, Sem.run_bind]
  rfl
 ·rw [a, b]
  simp only [Sem.run_pure, Result.andThen_ok, Option.getD_some, Option.isSome_some, Sem.run_bind]
  rfl
theorem sZ {P : Program} {t kt et : TypeId} (ht : P.underlying t = some (.map kt et)) (hk : P.underlying kt = some .string) {z : Value} (hz : ∀ w, (zeroValue et).run P w = .ok z w)
  {v : Value} {m : vx} {O1 O : Go.Sx.Own} (h : OMapS v m O1) (hO : ∀ p ∈ O1, p ∈ O) {H : Heap} (x : List UInt8) {K : List Value → List (List Value) → Heap → Go.Sx.Own → Prop}
  (h1 : ((fW m x).getD z).oneCell' = true) (hK : K [(fW m x).getD z, .bool (fW m x).isSome] [] H O) :
  cX (fun H1 O1 R => bJ P ((PrimOp.lookup t true).sem [v, Str x]) H1 O1 R) false [] [] (.tup [none, none]) K H O := by
 obtain ⟨r, es, c, rfl, rfl, he⟩ := h
 exact ra (fun w F hm => oi ht hk hz he (hm.own (r, .map es c) (List.mem_append_left _ (hO _ (by simp)))).1 x) rfl ⟨h1, rfl, trivial⟩ hK
theorem s4 {P : Program} {t kt et : TypeId} (ht : P.underlying t = some (.map kt et)) (hk : P.underlying kt = some .string) {z : Value} (hz : ∀ w, (zeroValue et).run P w = .ok z w)
  {v : Value} {m : vx} {H : Heap} {O : Go.Sx.Own} (h : FMapS H v m) (x : List UInt8) {K : List Value → List (List Value) → Heap → Go.Sx.Own → Prop}
  (h1 : ((fW m x).getD z).oneCell' = true) (hK : K [(fW m x).getD z, .bool (fW m x).isSome] [] H O) :
  cX (fun H1 O1 R => bJ P ((PrimOp.lookup t true).sem [v, Str x]) H1 O1 R) false [] [] (.tup [none, none]) K H O := by
 obtain ⟨r, es, c, rfl, hr, he⟩ := h
 exact ra (fun w F hm => oi ht hk hz he (hm.pers _ _ hr) x) rfl ⟨h1, rfl, trivial⟩ hK
theorem sW {P : Program} {t kt et : TypeId} (ht : P.underlying t = some (.map kt et)) (hk : P.underlying kt = some .string) {v : Value} {m : vx} {O O1 O2 : Go.Sx.Own} (h : OMapS v m O1) (hO : O.Perm (O1 ++ O2)) {H : Heap} (x : List UInt8) (u : Value) (hx : fW m x = none)
  {K : List Value → List (List Value) → Heap → Go.Sx.Own → Prop} (hK : ∀ r O1', OMapS v (m ++ [(x, u)]) O1' → r.oneCell' = true → K [r] [] H (O1' ++ O2)) :
  cX (fun H1 O1 R => bJ P ((PrimOp.mapUpdate t).sem [v, Str x, u]) H1 O1 R) false [] [] .one K H O := by
 intro _
 refine ⟨H, O1, O2, fun r H' O' => r = .bool false ∧ H' = H ∧ OMapS v (m ++ [(x, u)]) O', Ghost.perm hO, fun w F hm => ?_, ?_⟩
 ·obtain ⟨r, es, clock, rfl, rfl, he⟩ := h
  have hrow := (hm.own (r, .map es clock) (by simp)).1
  have hlt : r < w.heap.size := (Array.getElem?_eq_some_iff.1 hrow).1
  have hg : (getObj r).run P w = .ok (.map es clock) w := by simp [getObj, Sem.run, hrow]
  have hset : ∀ o, (setObj r o).run P w = .ok () { w with heap := w.heap.setIfInBounds r o } := fun o => by
   simp only [setObj, Sem.run, hrow]
  rcases lv (x := x) (i := 0) he with ⟨a, _⟩ | ⟨j, u', _, b⟩
  case inr => rw [hx] at b; cases b
  have hm0 : Models w H ((r, .map es clock) :: F) := by simpa using hm
  refine ⟨.bool false, { w with heap := w.heap.setIfInBounds r (.map (es.push { key := Str x, val := u, born := clock }) (clock + 1)) }, H, [(r, .map (es.push { key := Str x, val := u, born := clock }) (clock + 1))], ?_, ⟨rfl, rfl, r, _, _, rfl, rfl, ?_⟩, Heap.le_refl H, ?_⟩
  ·simp only [PrimOp.sem, Instr.mapUpdate, Sem.run_bind, ak ht, Result.andThen_ok, hg, ni hk, Instr.findKey, ak hk]
   rw [a]
   simp only [Sem.run_pure, Result.andThen_ok, hset, Sem.run_bind]
  ·have he : es.toList.map (fun e => (e.key, e.val)) = m.map fun p => (Str p.1, p.2) := he
   show (es.push _).toList.map _ = _
   simp [he]
  ·exact hm0.update (fun b hb => by simp [Ne.symm hb]) (by simp [hlt]) rfl
 ·rintro r H' O' ⟨rfl, rfl, ho⟩ _
  exact ⟨[.bool false], [], O', rfl, ⟨rfl, trivial⟩, trivial, rfl, hK _ O' ho rfl⟩
theorem we {P : Program} {t : TypeId} {H : Heap} {O : Go.Sx.Own} {K : List Value → List (List Value) → Heap → Go.Sx.Own → Prop} (hK : ∀ v O1, OMapS v [] O1 → K [v] [] H (O1 ++ O)) :
  cX (fun H1 O1 R => bJ P ((PrimOp.makeMap t false).sem []) H1 O1 R) false [] [] .one K H O := by
 intro _
 refine ⟨H, [], O, fun v H' O' => H' = H ∧ OMapS v [] O', Ghost.refl _ _, fun w F hm => ?_, ?_⟩
 ·refine ⟨.map (some w.heap.size), { w with heap := w.heap.push (.map #[] 0) }, H, [(w.heap.size, .map #[] 0)], ?_, ⟨rfl, _, _, _, rfl, rfl, rfl⟩, Heap.le_refl H, ?_⟩
  ·simp only [PrimOp.sem, Instr.makeMap, Sem.run_bind, Sem.run_pure, Result.andThen_ok, run_newObj]
  ·simpa using Models.push (by simpa using hm) (.map #[] 0)
 ·rintro v H' O' ⟨rfl, ho⟩ _
  exact ⟨[v], [], O', rfl, ⟨ho.one, trivial⟩, trivial, rfl, hK v O' ho⟩
end Go.Sx
namespace Go.Proofs.YtamgiojcbdbokaaGreatDoor
open Go Go.Sx
set_option maxRecDepth 100000
set_option maxHeartbeats 1000000
structure CdF where
 nm : List UInt8
 (kind c0 c1 c2 c3 any makes pw tn ks : Int)
 effs : List Eff
 trs : List (Int × List Eff)
 rar : Int
def TrR (H : Heap) (r : List Value) (t : Int × List Eff) : Prop := ∃ s, r = [iV t.1, s] ∧ Sl H 5 s (bP t.2)
def TrsF (H : Heap) (v : Value) (trs : List (Int × List Eff)) : Prop := ∃ rows, Sl H 2 v rows ∧ rows.length = trs.length ∧ ∀ (i : Nat) (r : List Value) (t : Int × List Eff), rows[i]? = some r → trs[i]? = some t → TrR H r t
def lY (c : CdF) (es ts : Value) : List Value := [Str c.nm, iV c.kind, iV c.c0, iV c.c1, iV c.c2, iV c.c3, iV c.any, iV c.makes, iV c.pw, iV c.tn, iV c.ks, es, ts, iV c.rar]
def CdRF (H : Heap) (r : List Value) (c : CdF) : Prop := ∃ es ts, r = lY c es ts ∧ Sl H 5 es (bP c.effs) ∧ TrsF H ts c.trs
def RowsF (H : Heap) (rows : List (List Value)) (cs : List CdF) : Prop := rows.length = cs.length ∧ ∀ (i : Nat) (r : List Value) (c : CdF), rows[i]? = some r → cs[i]? = some c → CdRF H r c
def CardsF (H : Heap) (v : Value) (cs : List CdF) : Prop := ∃ rows, Sl H 14 v rows ∧ RowsF H rows cs
theorem TrsF.le {H H' : Heap} {v : Value} {l : List (Int × List Eff)} (h : TrsF H v l) (hl : Heap.le H H') : TrsF H' v l := let ⟨rows, h1, h2, h3⟩ := h; ⟨rows, h1.le hl, h2, fun i r t a b => let ⟨s, e, k⟩ := h3 i r t a b; ⟨s, e, k.le hl⟩⟩
theorem CdRF.le {H H' : Heap} {r : List Value} {c : CdF} (h : CdRF H r c) (hl : Heap.le H H') : CdRF H' r c := let ⟨es, ts, e, h1, h2⟩ := h; ⟨es, ts, e, h1.le hl, h2.le hl⟩
theorem RowsF.le {H H' : Heap} {rows : List (List Value)} {cs : List CdF} (h : RowsF H rows cs) (hl : Heap.le H H') : RowsF H' rows cs := ⟨h.1, fun i r c a b => (h.2 i r c a b).le hl⟩
theorem CardsF.le {H H' : Heap} {v : Value} {cs : List CdF} (h : CardsF H v cs) (hl : Heap.le H H') : CardsF H' v cs := let ⟨rows, h1, h2⟩ := h; ⟨rows, h1.le hl, h2.le hl⟩
theorem CardsF.one {H : Heap} {v : Value} {cs : List CdF} (h : CardsF H v cs) : v.oneCell' = true := let ⟨_, h1, _⟩ := h; h1.one
theorem CardsF.len {H : Heap} {v : Value} {cs : List CdF} (h : CardsF H v cs) : ah .len [v] = some (iV cs.length) := by
 obtain ⟨rows, h1, h2, _⟩ := h
 have := h1.len; rwa [h2] at this
theorem CardsF.lenB {H : Heap} {v : Value} {cs : List CdF} (h : CardsF H v cs) : cs.length < 2 ^ 63 := by
 obtain ⟨rows, h1, h2, _⟩ := h
 have := h1.lenB; rwa [h2] at this
theorem TrsF.len {H : Heap} {v : Value} {l : List (Int × List Eff)} (h : TrsF H v l) : ah .len [v] = some (iV l.length) ∧ v.oneCell' = true ∧ l.length < 2 ^ 63 := by
 obtain ⟨rows, h1, h2, _⟩ := h
 have := h1.len; rw [h2] at this
 have hB := h1.lenB; rw [h2] at hB
 exact ⟨this, h1.one, hB⟩
theorem kc {c : CdF} {es ts : Value} (h1 : es.oneCell' = true) (h2 : ts.oneCell' = true) : Ones (lY c es ts) := ⟨rfl, rfl, rfl, rfl, rfl, rfl, rfl, rfl, rfl, rfl, rfl, h1, h2, rfl, trivial⟩
theorem CdRF.ones {H : Heap} {r : List Value} {c : CdF} (h : CdRF H r c) : Ones r := by
 obtain ⟨es, ts, rfl, h1, h2⟩ := h
 exact kc h1.one h2.len.2.1
theorem ke {H : Heap} (O : Go.Sx.Own) {v : Value} {cs : List CdF} (h : CardsF H v cs) {i : Nat} (hi : i < cs.length) :
  ∃ a r, ah (.idx 14) [v, iV i] = some (.pointer (some a)) ∧ Reads H O (.pointer (some a)) 14 r ∧ (∀ off m, off + m ≤ 14 → Reads H O (bH (.pointer (some a)) off) m ((r.drop off).take m)) ∧ r.length = 14 ∧ Ones r ∧ CdRF H r cs[i] := by
 obtain ⟨rows, h1, h2, h3⟩ := h
 have hlt : i < rows.length := by omega
 obtain ⟨a, k1, k2, k3, k4, k5⟩ := (h1.rsl O).idx .i64 i rows[i] (by simp [hlt])
 exact ⟨a, rows[i], k1, k2, k3, k4, k5, h3 i _ _ (List.getElem?_eq_getElem hlt) (List.getElem?_eq_getElem hi)⟩
theorem vq {H : Heap} {v : Value} {l : List (List Value)} (h : Sl H 5 v l) (hb : l.length ≤ 2 ^ 30) : Triple PP bw [v] H [] fun v' H' O' => OSl cn 5 v' l O' := by
 refine cZ (vs := [v]) (by kernel_rfl) ⟨h.one, trivial⟩ ?_
 simp only [bu]
 obtain ⟨a, cap, rfl, h1, h2, h3⟩ := h
 have hev : ah (.bin .eql .slice) [.slice a l.length cap, .slice none 0 0] = some (.bool a.isNone) := by cases a <;> rfl
 refine aa _ hev (ai (fun hn => af ?_) (fun hn => fun r0 => ?_))
 ·have hl : l = [] := by
   by_cases hl : l = []
   ·exact hl
   ·obtain ⟨ad, rfl, _⟩ := h3 hl; cases hn
  subst hl
  exact OSl.nil cn 5
 ·refine dF (rows := []) (news := l) (O1 := []) (O2 := []) (e := cn) (size := 5) (bytes := 40) (by kernel_rfl) (List.Perm.refl _) (.inl ⟨⟨_, rfl⟩, rfl, rfl⟩) (fun Hf hl _ => Sl.le hl ⟨a, cap, rfl, h1, h2, h3⟩) (by simp; omega) (by simp; omega) ?_
  intro v' O1' H' _ ho
  refine af ?_
  rw [List.append_nil]
  exact ho
theorem y6 {H : Heap} {v : Value} {l : List (List Value)} (h : Sl H 2 v l) (hb : l.length ≤ 2 ^ 30) : Triple PP bh [v] H [] fun v' H' O' => OSl dq 2 v' l O' := by
 refine cI (vs := [v]) (by kernel_rfl) ⟨h.one, trivial⟩ ?_
 simp only [bf]
 obtain ⟨a, cap, rfl, h1, h2, h3⟩ := h
 have hev : ah (.bin .eql .slice) [.slice a l.length cap, .slice none 0 0] = some (.bool a.isNone) := by cases a <;> rfl
 refine aa _ hev (ai (fun hn => af ?_) (fun hn => fun r0 => ?_))
 ·have hl : l = [] := by
   by_cases hl : l = []
   ·exact hl
   ·obtain ⟨ad, rfl, _⟩ := h3 hl; cases hn
  subst hl
  exact OSl.nil dq 2
 ·refine dF (rows := []) (news := l) (O1 := []) (O2 := []) (e := dq) (size := 2) (bytes := 32) (by kernel_rfl) (List.Perm.refl _) (.inl ⟨⟨_, rfl⟩, rfl, rfl⟩) (fun Hf hl _ => Sl.le hl ⟨a, cap, rfl, h1, h2, h3⟩) (by simp; omega) (by simp; omega) ?_
  intro v' O1' H' _ ho
  refine af ?_
  rw [List.append_nil]
  exact ho
def OTrsF (v : Value) (trs : List (Int × List Eff)) (O : Go.Sx.Own) : Prop := ∃ rows A Ts, O.Perm (A ++ List.flatten Ts) ∧ OSl dq 2 v rows A ∧ rows.length = trs.length ∧ Ts.length = trs.length ∧
 ∀ (i : Nat) (r : List Value) (t : Int × List Eff) (T : Go.Sx.Own), rows[i]? = some r → trs[i]? = some t → Ts[i]? = some T → ∃ s, r = [iV t.1, s] ∧ OSl cn 5 s (bP t.2) T
theorem qp : ∀ (l : List (Int × List Eff)) (rows : List (List Value)) (Ts : List Go.Sx.Own) (H : Heap) (X : Go.Sx.Own), rows.length = l.length → Ts.length = l.length →
  (∀ (i : Nat) (r : List Value) (t : Int × List Eff) (T : Go.Sx.Own), rows[i]? = some r → l[i]? = some t → Ts[i]? = some T → ∃ s, r = [iV t.1, s] ∧ OSl cn 5 s (bP t.2) T) →
  Cons H (List.flatten Ts ++ X) → ∃ H', Ghost H (List.flatten Ts ++ X) H' X ∧ Heap.le H H' ∧ ∀ (i : Nat) (r : List Value) (t : Int × List Eff), rows[i]? = some r → l[i]? = some t → TrR H' r t
 | [], [], [], H, X, _, _, _, _ => ⟨H, Ghost.refl _ _, Heap.le_refl _, fun i r x h => by simp at h⟩
 | x :: l, r :: rows, T :: Ts, H, X, h1, h2, hs, hc => by
  obtain ⟨s, e, hT⟩ := hs 0 r x T rfl rfl rfl
  rw [List.flatten_cons, List.append_assoc] at hc
  obtain ⟨H1, g1, k1, l1⟩ := hT.freeze hc
  obtain ⟨H2, g2, l2, k2⟩ := qp l rows Ts H1 X (by simpa using h1) (by simpa using h2) (fun i r x T a b c => hs (i + 1) r x T (by simpa using a) (by simpa using b) (by simpa using c)) (hc.ghost g1)
  refine ⟨H2, ?_, Heap.le_trans l1 l2, fun i r' x' a b => ?_⟩
  ·rw [List.flatten_cons, List.append_assoc]; exact g1.trans g2
  ·cases i with
   | zero => simp at a b; subst a; subst b; exact ⟨s, e, k1.le l2⟩
   | succ i => exact k2 i r' x' (by simpa using a) (by simpa using b)
 | [], _ :: _, _, _, _, h, _, _, _ => by simp at h
 | _ :: _, [], _, _, _, h, _, _, _ => by simp at h
 | [], [], _ :: _, _, _, _, h, _, _ => by simp at h
 | _ :: _, _ :: _, [], _, _, _, h, _, _ => by simp at h
theorem OTrsF.freeze {v : Value} {l : List (Int × List Eff)} {O1 X : Go.Sx.Own} {H : Heap} (h : OTrsF v l O1) (hc : Cons H (O1 ++ X)) : ∃ H', Ghost H (O1 ++ X) H' X ∧ TrsF H' v l ∧ Heap.le H H' := by
 obtain ⟨rows, A, Ts, hp, h1, h2, h3, h4⟩ := h
 have hp' : (O1 ++ X).Perm (A ++ (List.flatten Ts ++ X)) := (hp.append_right X).trans (List.Perm.of_eq (List.append_assoc _ _ _))
 obtain ⟨H1, g1, k1, l1⟩ := h1.freeze (hc.perm hp')
 obtain ⟨H2, g2, l2, k2⟩ := qp l rows Ts H1 X h2 h3 h4 ((hc.perm hp').ghost g1)
 exact ⟨H2, (Ghost.perm hp').trans (g1.trans g2), ⟨rows, k1.le l2, h2, k2⟩, Heap.le_trans l1 l2⟩
def yM (c : CdF) : Prop := c.effs.length ≤ 1000 ∧ c.trs.length ≤ 1000 ∧ ∀ t ∈ c.trs, t.2.length ≤ 1000
theorem AM {H : Heap} {cells : List Value} {c : CdF} (h : CdRF H cells c) (hli : yM c) :
  Triple PP lA [.agg cells.toArray] H [] fun r _ O' => ∃ x y A B, r = .agg (lY c x y).toArray ∧ OSl cn 5 x (bP c.effs) A ∧ OTrsF y c.trs B ∧ O'.Perm (A ++ B) := by
 obtain ⟨b1, b2, b3⟩ := hli
 obtain ⟨es, ts, rfl, he, ⟨trows, t1, t2, t3⟩⟩ := h
 refine q7 (vs := lY c es ts) (by kernel_rfl) (kc he.one t1.one) ?_
 simp only [pQ]
 refine aj fun r0 => aj fun r1 => ?_
 refine ae (ae ?_)
 refine bn (vq he (by rw [iw]; omega)) fun x H1 O1 hx l1 => ⟨[x], rfl, ⟨hx.one, trivial⟩, ?_⟩
 refine bn (y6 (t1.le l1) (by omega)) fun y H2 O2 hy l2 => ⟨[y], rfl, ⟨hy.one, trivial⟩, ?_⟩
 have ylen := hy.len
 rw [t2] at ylen
 refine ae (ae (ae ?_))
 refine aa _ ylen ?_
 refine aK c.trs.length (fun i H' O' => Heap.le H2 H' ∧ ∃ rows' A Ts, O'.Perm (A ++ (List.flatten Ts ++ O1)) ∧ OSl dq 2 y rows' A ∧ rows'.length = c.trs.length ∧ Ts.length = i ∧
  (∀ (j : Nat) (r : List Value) (t : Int × List Eff) (T : Go.Sx.Own), rows'[j]? = some r → c.trs[j]? = some t → Ts[j]? = some T → ∃ s, r = [iV t.1, s] ∧ OSl cn 5 s (bP t.2) T) ∧ ∀ j, i ≤ j → rows'[j]? = trows[j]?)
  ⟨Heap.le_refl _, trows, O2, [], by simp, hy, t2, rfl, fun j r l T _ _ h => by simp at h, fun _ _ => rfl⟩ ?_
 rintro i H' O' hi - ⟨hle, rows', A, Ts, hp, hA, hrl, htl, hspec, hrest⟩
 refine aa _ (aC _ _) (ai (fun hb => ?_) (fun hb => ?_))
 ·have hlt : i < c.trs.length := by simpa using hb
  have hri : rows'[i]? = some trows[i] := by rw [hrest i (Nat.le_refl _)]; exact List.getElem?_eq_getElem (by omega)
  obtain ⟨s1, er, k1⟩ := t3 i trows[i] c.trs[i] (List.getElem?_eq_getElem (by omega)) (List.getElem?_eq_getElem hlt)
  have hb3 := b3 _ (List.getElem_mem hlt)
  obtain ⟨a, i1, i2, i3, i4⟩ := hA.idx (fun p h => hp.mem_iff.2 (List.mem_append_left _ h)) H' (k := .i64) hri
  obtain ⟨w1, w2⟩ := hA.rows_ok hri
  rw [er] at i3 w1 w2
  refine aa _ i1 (ao i3 w1 w2 (aj fun r2 => ?_))
  refine ae (ae (ae ?_))
  refine bn (vq (k1.le (Heap.le_trans l1 (Heap.le_trans l2 hle))) (by rw [iw]; omega)) fun z H3 T hz l3 => ⟨[z], rfl, ⟨hz.one, trivial⟩, ?_⟩
  have hp2 : (T ++ O').Perm (A ++ (T ++ (List.flatten Ts ++ O1))) := (hp.append_left T).trans (List.perm_append_comm_assoc _ _ _)
  obtain ⟨a2, j1, j2⟩ := hA.store hp2 (k := .i64) hri
  obtain ⟨A', hst, hA'⟩ := j2 1 [z] (by simp) ⟨hz.one, trivial⟩
  have hsp : bO trows[i] 1 [z] = [iV c.trs[i].1, z] := by rw [er]; rfl
  rw [hsp] at hA'
  refine aa _ j1 ?_
  refine au rfl (au rfl ?_)
  refine ⟨_, hst, ?_⟩
  refine aa _ (aG (by omega)) (ay (by simp [Eqs]) hlt ⟨Heap.le_trans hle l3, _, A', Ts ++ [T], ?_, hA', by simp [hrl], by simp [htl], ?_, ?_⟩)
  ·refine List.Perm.append_left A' ?_
   rw [List.flatten_append, ← List.append_assoc]
   refine List.Perm.append_right O1 ?_
   simpa using List.perm_append_comm
  ·intro j r x T' h1 h2 h3
   by_cases hj : j = i
   ·subst hj
    rw [List.getElem?_set_self (by omega)] at h1
    rw [List.getElem?_eq_getElem hlt] at h2
    rw [List.getElem?_append_right (by omega), htl, Nat.sub_self] at h3
    simp only [Option.some.injEq, List.getElem?_cons_zero] at h1 h2 h3
    subst h1; subst h2; subst h3
    exact ⟨z, rfl, hz⟩
   ·rw [List.getElem?_set_ne (by omega)] at h1
    have hjlt : j < Ts.length := by
     have := (List.getElem?_eq_some_iff.1 h3).1
     simp at this; omega
    rw [List.getElem?_append_left hjlt] at h3
    exact hspec j r x T' h1 h2 h3
  ·intro j hj
   rw [List.getElem?_set_ne (by omega)]
   exact hrest j (by omega)
 ·have hie : i = c.trs.length := by
   have : ¬ ((i : Int) < (c.trs.length : Int)) := by simpa using hb
   omega
  subst hie
  refine ae (ae (ae ?_))
  refine af ⟨x, y, O1, A ++ List.flatten Ts, rfl, hx, ⟨rows', A, Ts, List.Perm.refl _, hA, hrl, htl, hspec⟩, ?_⟩
  refine hp.trans ?_
  rw [← List.append_assoc]
  exact List.perm_append_comm
def CpQ (c : CdF) (r : Value) (H' : Heap) (O' : Go.Sx.Own) : Prop := (∃ cells, r = .agg cells.toArray ∧ cells.length = 14 ∧ CdRF H' cells c) ∧ O' = []
theorem zz {H : Heap} {cells : List Value} {c : CdF} (h : CdRF H cells c) (hli : yM c) : Triple PP lA [.agg cells.toArray] H [] (CpQ c) := by
 refine Triple.ghost (AM h hli) ?_
 rintro r H' O' _ hc ⟨x, y, A, B, rfl, hx, hy, hp⟩
 have hc := hc.perm hp
 obtain ⟨H1, g1, k1, l1⟩ := hx.freeze hc
 have hc := hc.ghost g1
 obtain ⟨H2, g2, k2, l2⟩ := hy.freeze (X := []) (by simpa using hc)
 exact ⟨H2, [], (Ghost.perm hp).trans (g1.trans (by simpa using g2)), ⟨lY c x y, rfl, rfl, x, y, rfl, k1.le l2, k2⟩, rfl⟩
def gz (cs : List CdF) : vx := cs.zipIdx.map fun p => (p.1.nm, iV (p.2 : Nat))
def PoolF (H : Heap) (p : Value) (cs : List CdF) : Prop := ∃ r cv mv T, p = .pointer (some ⟨r, 0, none⟩) ∧ H r = some (.cells #[cv, mv] T (0, 0)) ∧ CardsF H cv cs ∧ FMapS H mv (gz cs) ∧ (cs.map (·.nm)).Nodup ∧ ∀ c ∈ cs, yM c
theorem PoolF.le {H H' : Heap} {p : Value} {cs : List CdF} (h : PoolF H p cs) (hl : Heap.le H H') : PoolF H' p cs := by
 obtain ⟨r, cv, mv, T, e, h1, h2, h3, h4, h5⟩ := h
 exact ⟨r, cv, mv, T, e, hl.1 _ _ h1, h2.le hl, h3.le hl, h4, h5⟩
theorem PoolF.one {H : Heap} {p : Value} {cs : List CdF} (h : PoolF H p cs) : p.oneCell' = true := by obtain ⟨r, cv, mv, T, rfl, _⟩ := h; rfl
theorem mB {H : Heap} (O : Go.Sx.Own) {r : Nat} {cv mv : Value} {T : TypeId} (h : H r = some (.cells #[cv, mv] T (0, 0))) : Reads H O (.pointer (some ⟨r, 0, none⟩)) 1 [cv] ∧ Reads H O (bH (.pointer (some ⟨r, 0, none⟩)) 1) 1 [mv] := by
 refine ⟨mR ?_, mR ?_⟩
 ·have := fL (r := r) (off := 0) (m := 1) (T := T) (cs := [cv, mv]) h (by simp)
  simpa using this
 ·have := fL (r := r) (off := 1) (m := 1) (T := T) (cs := [cv, mv]) h (by simp)
  simpa [bH, Addr.add] using this
theorem zw {H : Heap} {O : Go.Sx.Own} {p : Value} {cs : List CdF} (h : PoolF H p cs) : RetO PP jq [p] H O (.bool false) := by
 obtain ⟨r, cv, mv, T, rfl, h1, h2, h3, _⟩ := h
 refine lG (vs := [.pointer (some ⟨r, 0, none⟩)]) (by kernel_rfl) ⟨rfl, trivial⟩ ?_
 simp only [jl]
 obtain ⟨_, q2⟩ := mB O h1
 refine aa (.bool false) rfl ?_
 refine au rfl (ab (au rfl (ab (ab ?_))))
 refine ⟨[mv], rfl, ⟨h3.one, trivial⟩, fun _ => q2, ?_⟩
 refine ab ?_
 obtain ⟨r', es, c, rfl, _⟩ := h3
 refine aa (.bool false) rfl ?_
 refine ab ?_
 exact aa _ (av _ _) (af ⟨rfl, rfl⟩)
def CJ : CdF := ⟨[], 0, 0, 0, 0, 0, 0, 0, 0, 0, 0, [], [], 0⟩
def inP (cs : List CdF) (i : Int) : Prop := 0 ≤ i ∧ i < (cs.length : Int)
instance (cs : List CdF) (i : Int) : Decidable (inP cs i) := by unfold inP; infer_instance
def hU (cs : List CdF) (i : Int) : CdF := if inP cs i then cs.getD i.toNat CJ else CJ
def fH (cs : List CdF) (i : Int) : Int := if inP cs i then 0 else 3
def Dq (c : CdF) (e : Int) (r : Value) (H' : Heap) (O' : Go.Sx.Own) : Prop := (∃ cells, r = .tuple #[.agg cells.toArray, iV e] ∧ cells.length = 14 ∧ CdRF H' cells c) ∧ O' = []
theorem nT {cells : List Value} {e : Value} (h : cells.length = 14) : (Shp.tup [some 14, none]).open (.tuple #[.agg cells.toArray, e]) = some (cells ++ [e]) := by
 match cells, h with
 | [_, _, _, _, _, _, _, _, _, _, _, _, _, _], _ => rfl
theorem Bm {cells : List Value} {e : Value} (h : cells.length = 14) : g (cells ++ [e]) 14 = e := by
 match cells, h with
 | [_, _, _, _, _, _, _, _, _, _, _, _, _, _], _ => rfl
theorem wU {cells : List Value} {e : Value} (h : cells.length = 14) {n : Nat} (hn : n < 14) : g (cells ++ [e]) n = g cells n := by
 rw [g, g, List.getD_eq_getElem?_getD, List.getD_eq_getElem?_getD, List.getElem?_append_left (by omega)]
theorem CdRF.nm {H : Heap} {r : List Value} {c : CdF} (h : CdRF H r c) : g r 0 = Str c.nm ∧ g r 1 = iV c.kind := by
 obtain ⟨es, ts, rfl, _⟩ := h
 exact ⟨rfl, rfl⟩
theorem rK {H : Heap} {p : Value} {cs : List CdF} (h : PoolF H p cs) (i : Int) : Triple PP js [p, iV i] H [] (Dq (hU cs i) (fH cs i)) := by
 refine lI (vs := [p, iV i]) (by kernel_rfl) ⟨h.one, rfl, trivial⟩ ?_
 simp only [jn]
 refine aj fun r0 => ?_
 refine al (zw h) rfl ⟨rfl, trivial⟩ fun H1 l1 => ai (fun hd => by cases hd) (fun _ => ?_)
 obtain ⟨r, cv, mv, T, rfl, h1, h2, h3, h4, h5⟩ := h.le l1
 obtain ⟨q1, _⟩ := mB [] h1
 refine aa _ (aC _ _) ?_
 refine au rfl (ab (au rfl (ab (ab ?_))))
 refine ⟨[cv], rfl, ⟨h2.one, trivial⟩, fun _ => q1, ?_⟩
 refine ab ?_
 refine aa _ h2.len ?_
 refine ab (ab ?_)
 refine aa _ (gB _ _) ?_
 refine ab ?_
 refine aa _ (av _ _) (ai (fun hc => ?_) (fun hc => ?_))
 ·have hc : (decide (i < 0) || decide (i ≥ (cs.length : Int))) = true := hc
  have hn : ¬ inP cs i := by
   rw [Bool.or_eq_true, decide_eq_true_eq, decide_eq_true_eq] at hc
   rintro ⟨a, b⟩; omega
  rw [hU, fH, if_neg hn, if_neg hn]
  refine ae (ae ?_)
  exact af ⟨⟨lY CJ (.slice none 0 0) (.slice none 0 0), rfl, rfl, _, _, rfl, Sl.nil _ _, [], Sl.nil _ _, rfl, fun i r t a => by simp at a⟩, rfl⟩
 ·have hc : (decide (i < 0) || decide (i ≥ (cs.length : Int))) = false := hc
  rw [Bool.or_eq_false_iff, decide_eq_false_iff_not, decide_eq_false_iff_not] at hc
  have hin : inP cs i := ⟨by omega, by omega⟩
  have hlt : i.toNat < cs.length := by omega
  have ecast : ((i.toNat : Nat) : Int) = i := by omega
  have ec : hU cs i = cs[i.toNat] := by rw [hU, if_pos hin, List.getD_eq_getElem?_getD, List.getElem?_eq_getElem hlt]; rfl
  rw [ec, fH, if_pos hin]
  obtain ⟨a, row, k1, k2, _, k4, k5, k6⟩ := ke [] h2 hlt
  rw [ecast] at k1
  refine au rfl (au rfl ?_)
  refine ao q1 rfl ⟨h2.one, trivial⟩ ?_
  refine aa _ k1 (ao k2 k4 k5 ?_)
  have erow : (.agg #[g row 0, g row 1, g row 2, g row 3, g row 4, g row 5, g row 6, g row 7, g row 8, g row 9, g row 10, g row 11, g row 12, g row 13] : Value) = .agg row.toArray := by
   match row, k4 with
   | [_, _, _, _, _, _, _, _, _, _, _, _, _, _], _ => rfl
  rw [show (ag (G14 row 0) : Value) = .agg row.toArray from erow]
  refine bn (zz k6 (h5 _ (List.getElem_mem hlt))) ?_
  rintro _ H2 _ ⟨⟨cells, rfl, c1, c2⟩, rfl⟩ l2
  refine ⟨cells, by simp [Shp.open, c1], c2.ones, ?_⟩
  have ecell : (.agg #[g cells 0, g cells 1, g cells 2, g cells 3, g cells 4, g cells 5, g cells 6, g cells 7, g cells 8, g cells 9, g cells 10, g cells 11, g cells 12, g cells 13] : Value) = .agg cells.toArray := by
   match cells, c1 with
   | [_, _, _, _, _, _, _, _, _, _, _, _, _, _], _ => rfl
  refine ae (ae ?_)
  refine af ⟨⟨cells, ?_, c1, c2⟩, rfl⟩
  rw [← ecell]
theorem zx {H : Heap} {p : Value} {cs : List CdF} (h : PoolF H p cs) : RetO PP pV [p] H [] (.bool false) := by
 refine qZ (vs := [p]) (by kernel_rfl) ⟨h.one, trivial⟩ ?_
 simp only [pD]
 refine bn (rK h 0) ?_
 rintro _ H1 _ ⟨⟨cells, rfl, c1, c2⟩, rfl⟩ l1
 refine ⟨cells ++ [iV (fH cs 0)], nT c1, lP c2.ones ⟨rfl, trivial⟩, aj fun r0 => ?_⟩
 refine ae ?_
 refine aa (.bool (fH cs 0 == 1)) (by rw [Bm c1]; exact an _ _) ?_
 refine af ⟨?_, rfl⟩
 rw [fH]; split <;> rfl
structure Cp where
 (card n : Int)
deriving DecidableEq
def Cp.row (c : Cp) : List Value := [iV c.card, iV c.n]
abbrev nR (H : Heap) (v : Value) (l : List Cp) : Prop := Sl H 2 v (l.map Cp.row)
theorem ly {H : Heap} {v : Value} {l : List Cp} (h : nR H v l) : ah .len [v] = some (iV l.length) ∧ l.length < 2 ^ 63 := by
 have h1 := h.len
 have h2 := h.lenB
 rw [List.length_map] at h1 h2
 exact ⟨h1, h2⟩
theorem uc {H : Heap} (O : Go.Sx.Own) {v : Value} {l : List Cp} (h : nR H v l) {i : Nat} (hi : i < l.length) :
  ∃ a, ah (.idx 2) [v, iV i] = some (.pointer (some a)) ∧ Reads H O (.pointer (some a)) 2 l[i].row ∧ Reads H O (.pointer (some a)) 1 [iV l[i].card] ∧ Reads H O (bH (.pointer (some a)) 1) 1 [iV l[i].n] := by
 obtain ⟨a, k1, k2, k3, k4, k5⟩ := (h.rsl O).idx .i64 i l[i].row (by rw [List.getElem?_map, List.getElem?_eq_getElem hi]; rfl)
 refine ⟨a, k1, k2, ?_, k3 1 1 (by omega)⟩
 have := k3 0 1 (by omega)
 rw [Bo] at this
 exact this
def dI (cs : List CdF) (x : Cp) (before : Int) : Int := if fH cs x.card ≠ 0 then fH cs x.card else if ((decide (x.n < 1) || decide (x.n > 60)) || decide (x.card ≤ before)) = true then 2 else if ((hU cs x.card).kind != 1 && decide (x.n > 4)) = true then 7 else 0
theorem As {H : Heap} {p : Value} {cs : List CdF} (h : PoolF H p cs) (x : Cp) (before : Int) : RetO PP nD [p, .agg x.row.toArray, iV before] H [] (iV (dI cs x before)) := by
 refine qd (vs := p :: (x.row ++ [iV before])) (by kernel_rfl) ⟨h.one, rfl, rfl, rfl, trivial⟩ ?_
 simp only [nr]
 refine aj fun r0 => ?_
 refine ae ?_
 refine bn (rK h x.card) ?_
 rintro _ H1 _ ⟨⟨cells, rfl, c1, c2⟩, rfl⟩ l1
 refine ⟨cells ++ [iV (fH cs x.card)], nT c1, lP c2.ones ⟨rfl, trivial⟩, aj fun r1 => ?_⟩
 have e14 : g (cells ++ [iV (fH cs x.card)]) 14 = iV (fH cs x.card) := Bm c1
 have e1 : g (cells ++ [iV (fH cs x.card)]) 1 = iV (hU cs x.card).kind := by rw [wU c1 (by omega)]; exact c2.nm.2
 simp only [e14, e1]
 refine ae ?_
 refine aa _ (eH _ _) (ai (fun hc => ?_) (fun hc => ?_))
 ·have hc : fH cs x.card ≠ 0 := by simpa using hc
  exact af ⟨by rw [dI, if_pos hc], rfl⟩
 have hc0 : ¬ fH cs x.card ≠ 0 := by simpa using hc
 refine ae ?_
 refine aa _ (aC _ _) ?_
 refine ae (ab (ab ?_))
 refine aa _ (bW _ _) ?_
 refine ab ?_
 refine aa _ (av _ _) ?_
 refine ae (ab (ab (ab ?_)))
 refine aa _ (ir _ _) ?_
 refine ab ?_
 refine aa _ (av _ _) (ai (fun hc => ?_) (fun hc => ?_))
 ·exact af ⟨by rw [dI, if_neg hc0, if_pos hc], rfl⟩
 refine ae ?_
 refine aa _ (eH _ _) ?_
 refine ae (ab (ab ?_))
 refine aa _ (bW _ _) ?_
 refine ab ?_
 refine aa _ (ap _ _) (ai (fun hd => ?_) (fun hd => ?_))
 ·exact af ⟨by rw [dI, if_neg hc0, if_neg (by rw [hc]; simp), if_pos hd], rfl⟩
 ·exact af ⟨by rw [dI, if_neg hc0, if_neg (by rw [hc]; simp), if_neg (by rw [hd]; simp)], rfl⟩
def nP (cs : List CdF) : List Cp → Nat → Int → Int → Int × Int
 | [], _, n, _ => if n < 20 then (-1, 4) else if n > 60 then (-1, 5) else (-1, 0)
 | x :: l, i, n, b => if dI cs x b ≠ 0 then ((i : Int), dI cs x b) else nP cs l (i + 1) (n + x.n) x.card
def aJ (cs : List CdF) (l : List Cp) : Int × Int := nP cs l 0 0 (-1)
theorem qQ {cs : List CdF} {x : Cp} {b : Int} (h : ¬ dI cs x b ≠ 0) : inP cs x.card ∧ 1 ≤ x.n ∧ x.n ≤ 60 ∧ b < x.card ∧ ((hU cs x.card).kind = 1 ∨ x.n ≤ 4) := by
 rw [dI] at h
 by_cases h1 : inP cs x.card
 ·rw [fH, if_pos h1, if_neg (by simp)] at h
  split at h
  ·simp at h
  rename_i h2
  split at h
  ·simp at h
  rename_i h3
  simp only [Bool.or_eq_true, decide_eq_true_eq, not_or] at h2
  simp only [Bool.and_eq_true, decide_eq_true_eq, bne_iff_ne, not_and] at h3
  refine ⟨h1, by omega, by omega, by omega, ?_⟩
  by_cases hk : (hU cs x.card).kind = 1
  ·exact .inl hk
  ·exact .inr (by have := h3 hk; omega)
 ·rw [fH, if_neg h1] at h; simp at h
theorem rM {H : Heap} {p : Value} {cs : List CdF} (h : PoolF H p cs) {v : Value} {l : List Cp} (hl : nR H v l) (hb : l.length ≤ 1000000) : RetO PP nF [p, v] H [] (.tuple #[iV (aJ cs l).1, iV (aJ cs l).2]) := by
 refine qf (vs := [p, v]) (by kernel_rfl) ⟨h.one, hl.one, trivial⟩ ?_
 simp only [nu]
 obtain ⟨vlen, _⟩ := ly hl
 refine al (zx h) rfl ⟨rfl, trivial⟩ fun H1 l1 => ai (fun hd => by cases hd) (fun _ => ?_)
 refine aa _ vlen ?_
 refine iY (fun vs H' O' => ∃ (i : Nat) (n b : Int), vs = [iV n, iV b, iV i] ∧ i ≤ l.length ∧ Heap.le H H' ∧ O' = [] ∧ 0 ≤ n ∧ n ≤ 60 * i ∧ aJ cs l = nP cs (l.drop i) i n b) (fun vs _ _ => match g vs 2 with | .int _ k => l.length + 1 - k.toNat | _ => 0) ⟨0, 0, -1, rfl, Nat.zero_le _, l1, rfl, by omega, by omega, rfl⟩ ?_
 rintro _ H2 O2 _ _ _ ⟨i, n, b, rfl, hi, hle, rfl, hn0, hn1, hgo⟩
 have h := h.le hle
 have hl := hl.le hle
 refine aa _ (aC _ _) (ai (fun hlt => ?_) (fun hge => ?_))
 ·have hlt : i < l.length := by have := of_decide_eq_true hlt; omega
  obtain ⟨a, k1, k2, _, _⟩ := uc [] hl hlt
  rw [List.drop_eq_getElem_cons hlt, nP] at hgo
  generalize l[i] = x at *
  refine aa _ k1 (ao k2 rfl ⟨rfl, rfl, trivial⟩ (aj fun r0 => ?_))
  refine ae (ae ?_)
  refine al (As h x b) rfl ⟨rfl, trivial⟩ fun H3 l3 => ?_
  refine aa _ (eH _ _) (ai (fun hc => ?_) (fun hc => ?_))
  ·have hc : dI cs x b ≠ 0 := by simpa using hc
   rw [if_pos hc] at hgo
   exact af ⟨(congrArg wx hgo).symm, rfl⟩
  ·have hc : ¬ dI cs x b ≠ 0 := by simpa using hc
   rw [if_neg hc] at hgo
   obtain ⟨_, w1, w2, _⟩ := qQ hc
   refine ae ?_
   refine aa _ (rR (by omega) (by omega)) ?_
   refine ae ?_
   refine aa _ (aG (by omega)) (fF (by simp [Eqs, E]) ⟨i + 1, n + x.n, x.card, rfl, hlt, Heap.le_trans hle l3, rfl, by omega, by omega, hgo⟩ ?_)
   show l.length + 1 - ((i + 1 : Nat) : Int).toNat < l.length + 1 - (i : Int).toNat
   omega
 ·have hge : l.length ≤ i := by have := of_decide_eq_false hge; omega
  rw [List.drop_of_length_le hge, nP] at hgo
  refine aa _ (aC _ _) (ai (fun hc => ?_) (fun hc => ?_))
  ·exact af ⟨by rw [if_pos (of_decide_eq_true hc)] at hgo; exact (congrArg wx hgo).symm, rfl⟩
  have hc := of_decide_eq_false hc
  refine aa _ (bW _ _) (ai (fun hd => ?_) (fun hd => ?_))
  ·exact af ⟨by rw [if_neg hc, if_pos (of_decide_eq_true hd)] at hgo; exact (congrArg wx hgo).symm, rfl⟩
  ·exact af ⟨by rw [if_neg hc, if_neg (of_decide_eq_false hd)] at hgo; exact (congrArg wx hgo).symm, rfl⟩
theorem zN {H : Heap} {cv : Value} {cs : List CdF} (h : CardsF H cv cs) {v : Value} {l : List Cp} (hl : nR H v l) (hb : l.length ≤ 1000000) (O : Go.Sx.Own) : RetO PP fj [cv, v] H O (.tuple #[iV (aJ cs l).1, iV (aJ cs l).2]) := by
 refine jv (vs := [cv, v]) (by kernel_rfl) ⟨h.one, hl.one, trivial⟩ ?_
 simp only [eW]
 obtain ⟨vlen, _⟩ := ly hl
 have clen := h.len
 refine iY (fun vs H' O' => ∃ (i : Nat) (n b : Int), vs = [iV n, iV i] ∧ i ≤ l.length ∧ Heap.le H H' ∧ O' = O ∧ 0 ≤ n ∧ n ≤ 60 * i ∧ (i = 0 → b = -1) ∧ (∀ j, i = j + 1 → (l[j]?).map (·.card) = some b) ∧ aJ cs l = nP cs (l.drop i) i n b) (fun vs _ _ => match g vs 1 with | .int _ k => l.length + 1 - k.toNat | _ => 0) ⟨0, 0, -1, rfl, Nat.zero_le _, Heap.le_refl _, rfl, by omega, by omega, fun _ => rfl, fun j hj => by omega, rfl⟩ ?_
 rintro _ H2 O2 _ _ _ ⟨i, n, b, rfl, hi, hle, rfl, hn0, hn1, hb0, hb1, hgo⟩
 have h := h.le hle
 have hl := hl.le hle
 refine aa _ vlen ?_
 refine aa _ (aC _ _) (ai (fun hlt => ?_) (fun hge => ?_))
 ·have hlt : i < l.length := by have := of_decide_eq_true hlt; omega
  obtain ⟨a, k1, k2, _, _⟩ := uc O2 hl hlt
  have hpre : ∃ q, (i > 0 → ah (.idx 2) [v, iV ((i : Int) - 1)] = some q ∧ Reads H2 O2 q 1 [iV b]) ∧ t7 q = true ∧ q.oneCell' = true := by
   cases i with
   | zero => exact ⟨.pointer (some ⟨0, 0, none⟩), fun h => absurd h (by omega), rfl, rfl⟩
   | succ j =>
    obtain ⟨a', j1, _, j3, _⟩ := uc O2 hl (i := j) (by omega)
    have := hb1 j rfl
    rw [List.getElem?_eq_getElem (by omega), Option.map_some] at this
    have := Option.some.inj this
    refine ⟨.pointer (some a'), fun _ => ⟨?_, ?_⟩, rfl, rfl⟩
    ·rw [show (((j + 1 : Nat) : Int) - 1) = (j : Int) by omega]; exact j1
    ·rw [← this]; exact j3
  have hx : l.drop i = l[i] :: l.drop (i + 1) := List.drop_eq_getElem_cons hlt
  have hnx : (l[i]?).map (·.card) = some l[i].card := by rw [List.getElem?_eq_getElem hlt]; rfl
  rw [hx, nP] at hgo
  generalize l[i] = x at *
  refine aa _ k1 (ao k2 rfl ⟨rfl, rfl, trivial⟩ (aj fun r0 => ?_))
  refine ae (ae ?_)
  refine aa _ (aC _ _) ?_
  refine ae (ab (ab ?_))
  refine aa _ clen ?_
  refine ab (ab ?_)
  refine aa _ (gB _ _) ?_
  refine ab ?_
  refine aa _ (av _ _) (ai (fun hc => ?_) (fun hc => ?_))
  ·have hc : (decide (x.card < 0) || decide (x.card ≥ (cs.length : Int))) = true := hc
   have hn : ¬ inP cs x.card := by
    rw [Bool.or_eq_true, decide_eq_true_eq, decide_eq_true_eq] at hc
    rintro ⟨p, q⟩; omega
   have ew : dI cs x b = 3 := by rw [dI, fH, if_neg hn, if_pos (by simp)]
   rw [ew, if_pos (by simp)] at hgo
   exact af ⟨(congrArg wx hgo).symm, rfl⟩
  have hc : (decide (x.card < 0) || decide (x.card ≥ (cs.length : Int))) = false := hc
  rw [Bool.or_eq_false_iff, decide_eq_false_iff_not, decide_eq_false_iff_not] at hc
  have hin : inP cs x.card := ⟨by omega, by omega⟩
  obtain ⟨q, q1, q2, q3⟩ := hpre
  refine ae ?_
  refine aa _ (aC _ _) ?_
  refine ae (ab (ab ?_))
  refine aa _ (bW _ _) ?_
  refine ab ?_
  refine aa _ (av _ _) ?_
  refine ab ?_
  refine aa _ (bW _ _) ?_
  refine ab (ae (ab (ab (ab (ab ?_)))))
  refine aa _ (DD (by omega) (by omega)) ?_
  refine ab (ab (ab (ab ?_)))
  refine ⟨q, fun hg => ?_, .inr q3, ?_⟩
  ·exact (q1 (by have := hg.1; simpa using this)).1
  repeat (first | refine ae ?_ | refine ab ?_ | refine ⟨fun _ => q2, ?_⟩)
  refine ⟨[iV b], rfl, ⟨rfl, trivial⟩, fun hg => ?_, ?_⟩
  ·exact (q1 (by have := hg.1; simpa using this)).2
  refine ab (ab (ab (ab ?_)))
  refine aa _ (ir _ _) ?_
  refine ab (ab (ab ?_))
  refine aa _ (ap _ _) ?_
  refine ab ?_
  have ebool : ((decide (x.n < 1) || decide (x.n > 60)) || (decide ((i : Int) > 0) && decide (x.card ≤ b))) = ((decide (x.n < 1) || decide (x.n > 60)) || decide (x.card ≤ b)) := by
   congr 1
   cases i with
   | zero => rw [hb0 rfl, decide_eq_false (by omega : ¬ x.card ≤ -1)]; rfl
   | succ j => rw [decide_eq_true (by omega : ((j + 1 : Nat) : Int) > 0)]; rfl
  refine aa _ (av _ _) (ai (fun hd => ?_) (fun hd => ?_))
  ·have hd : ((decide (x.n < 1) || decide (x.n > 60)) || (decide ((i : Int) > 0) && decide (x.card ≤ b))) = true := hd
   rw [ebool] at hd
   have ew : dI cs x b = 2 := by rw [dI, fH, if_pos hin, if_neg (by simp), if_pos hd]
   rw [ew, if_pos (by simp)] at hgo
   exact af ⟨(congrArg wx hgo).symm, rfl⟩
  have hd : ((decide (x.n < 1) || decide (x.n > 60)) || (decide ((i : Int) > 0) && decide (x.card ≤ b))) = false := hd
  rw [ebool] at hd
  have hlc : x.card.toNat < cs.length := by omega
  have ecast : ((x.card.toNat : Nat) : Int) = x.card := by omega
  obtain ⟨a2, row, m1, _, m3, m4, m5, m6⟩ := ke O2 h hlc
  rw [ecast] at m1
  have ec : hU cs x.card = cs[x.card.toNat] := by rw [hU, if_pos hin, List.getD_eq_getElem?_getD, List.getElem?_eq_getElem hlc]; rfl
  have hkind : (row.drop 1).take 1 = [iV (hU cs x.card).kind] := by
   rw [ec]
   obtain ⟨es, ts, rfl, _⟩ := m6
   rfl
  have m7 := m3 1 1 (by omega)
  rw [hkind] at m7
  refine ae ?_
  refine aa _ m1 ?_
  refine au rfl ?_
  refine ao m7 rfl ⟨rfl, trivial⟩ ?_
  refine aa _ (eH _ _) ?_
  refine ae (ab (ab ?_))
  refine aa _ (bW _ _) ?_
  refine ab ?_
  refine aa _ (ap _ _) (ai (fun he => ?_) (fun he => ?_))
  ·have he : ((hU cs x.card).kind != 1 && decide (x.n > 4)) = true := he
   have ew : dI cs x b = 7 := by rw [dI, fH, if_pos hin, if_neg (by simp), if_neg (by rw [hd]; simp), if_pos he]
   rw [ew, if_pos (by simp)] at hgo
   exact af ⟨(congrArg wx hgo).symm, rfl⟩
  ·have he : ((hU cs x.card).kind != 1 && decide (x.n > 4)) = false := he
   have ew : dI cs x b = 0 := by rw [dI, fH, if_pos hin, if_neg (by simp), if_neg (by rw [hd]; simp), if_neg (by rw [he]; simp)]
   obtain ⟨_, w1, w2, _⟩ := qQ (cs := cs) (x := x) (b := b) (by rw [ew]; simp)
   rw [ew, if_neg (by simp)] at hgo
   refine ae ?_
   refine aa _ (rR (by omega) (by omega)) ?_
   refine aa _ (aG (by omega)) (fF (by simp [Eqs, E]) ⟨i + 1, n + x.n, x.card, rfl, hlt, hle, rfl, by omega, by omega, fun h => by omega, fun j hj => ?_, hgo⟩ ?_)
   ·obtain rfl : j = i := by omega
    exact hnx
   ·show l.length + 1 - ((i + 1 : Nat) : Int).toNat < l.length + 1 - (i : Int).toNat
    omega
 ·have hge : l.length ≤ i := by have := of_decide_eq_false hge; omega
  rw [List.drop_of_length_le hge, nP] at hgo
  refine aa _ (aC _ _) (ai (fun hc => ?_) (fun hc => ?_))
  ·exact af ⟨by rw [if_pos (of_decide_eq_true hc)] at hgo; exact (congrArg wx hgo).symm, rfl⟩
  have hc := of_decide_eq_false hc
  refine aa _ (bW _ _) (ai (fun hd => ?_) (fun hd => ?_))
  ·exact af ⟨by rw [if_neg hc, if_pos (of_decide_eq_true hd)] at hgo; exact (congrArg wx hgo).symm, rfl⟩
  ·exact af ⟨by rw [if_neg hc, if_neg (of_decide_eq_false hd)] at hgo; exact (congrArg wx hgo).symm, rfl⟩
theorem A2 {r : List Value} (h : r.length = 14) : (.agg #[g r 0, g r 1, g r 2, g r 3, g r 4, g r 5, g r 6, g r 7, g r 8, g r 9, g r 10, g r 11, g r 12, g r 13] : Value) = .agg r.toArray := by
 match r, h with
 | [_, _, _, _, _, _, _, _, _, _, _, _, _, _], _ => rfl
theorem g14 {r : List Value} (h : r.length = 14) : G14 r 0 = r := by
 match r, h with
 | [_, _, _, _, _, _, _, _, _, _, _, _, _, _], _ => rfl
def gu (cs : List CdF) (k : List UInt8) : Option Nat := cs.findIdx? fun c => k == c.nm
theorem sC (k : List UInt8) : ∀ (cs : List CdF) (o : Nat), fW ((cs.zipIdx o).map fun p => (p.1.nm, iV (p.2 : Nat))) k = (gu cs k).map fun j => iV ((o + j : Nat) : Int)
 | [], o => rfl
 | c :: cs, o => by
  rw [List.zipIdx_cons, List.map_cons, gu, List.findIdx?_cons]
  by_cases h : k = c.nm
  ·simp [fW, h]
  ·have hb : (k == c.nm) = false := by simpa using h
   have ih := sC k cs (o + 1)
   rw [hb]
   simp only [fW, List.find?_cons, hb] at ih ⊢
   rw [ih, gu]
   cases cs.findIdx? fun c => k == c.nm with
   | none => rfl
   | some j => simp only [Option.map_some, Bool.false_eq_true, if_false]; congr 2; omega
theorem oS (cs : List CdF) (k : List UInt8) : fW (gz cs) k = (gu cs k).map fun j : Nat => iV (j : Int) := by
 rw [gz, sC k cs 0]
 congr 1
 funext j
 rw [Nat.zero_add]
theorem vZ (c : CdF) (cs : List CdF) (k : List UInt8) : gu (c :: cs) k = if (k == c.nm) = true then some 0 else (gu cs k).map (· + 1) := by rw [gu, List.findIdx?_cons]; rfl
theorem vY {cs : List CdF} {k : List UInt8} : gu cs k = none ↔ k ∉ cs.map (·.nm) := by
 rw [gu, List.findIdx?_eq_none_iff]
 simp only [List.mem_map, not_exists, not_and, beq_eq_false_iff_ne]
 exact ⟨fun h c hc e => h c hc e.symm, fun h c hc e => h c hc e.symm⟩
theorem vX {cs : List CdF} {k : List UInt8} {j : Nat} (h : gu cs k = some j) : ∃ hj : j < cs.length, cs[j].nm = k := by
 rw [gu, List.findIdx?_eq_some_iff_getElem] at h
 obtain ⟨h1, h2, _⟩ := h
 exact ⟨h1, (by simpa using h2 : k = cs[j].nm).symm⟩
theorem vP {cs : List CdF} {i : Nat} (h : i < cs.length) : gz (cs.take (i + 1)) = gz (cs.take i) ++ [(cs[i].nm, iV (i : Nat))] := by
 have hm : (cs.take i).length = i := by rw [List.length_take]; omega
 rw [gz, gz, List.take_add_one, List.getElem?_eq_getElem h, Option.toList_some, List.zipIdx_append, List.map_append, hm]
 simp
theorem Ac : PP.underlying 103 = some (.map tj gP) := by kernel_rfl
theorem CO : PP.underlying tj = some .string := by kernel_rfl
theorem Bg : ∀ w, (zeroValue gP).run PP w = .ok (iV 0) w := by
 intro w
 have : (PP.info? gP).bind (·.zero) = some (iV 0) := by kernel_rfl
 simp only [Option.bind_eq_some_iff] at this
 obtain ⟨i, hi, hz⟩ := this
 simp [zeroValue, typeInfo, hi, hz]
def Eb (cs : List CdF) (V : Nat → Bool → Prop) (r : Value) (H' : Heap) (O' : Go.Sx.Own) : Prop :=
 (∃ r1 T x mv rows Om Ox, r = .tuple #[.pointer (some ⟨r1, 0, none⟩), iV 0] ∧ H' r1 = some (.cells #[x, mv] T (0, 0)) ∧ OMapS mv (gz cs) Om ∧ OSl lz 14 x rows Ox ∧ RowsF H' rows cs ∧ (cs.map (·.nm)).Nodup ∧ O'.Perm (Om ++ Ox) ∧ ∀ j, j < cs.length → V j true) ∨
 (∃ e, r = .tuple #[.pointer none, iV e] ∧ e ≠ 0 ∧ (400 < cs.length ∨ (∃ i, i < cs.length ∧ V i false) ∨ ¬ (cs.map (·.nm)).Nodup))
def Ec (cs : List CdF) (V : Nat → Bool → Prop) (r : Value) (H' : Heap) (O' : Go.Sx.Own) : Prop :=
 ((∃ p, r = .tuple #[p, iV 0] ∧ PoolF H' p cs ∧ ∀ j, j < cs.length → V j true) ∨ (∃ e, r = .tuple #[.pointer none, iV e] ∧ e ≠ 0 ∧ (400 < cs.length ∨ (∃ i, i < cs.length ∧ V i false) ∨ ¬ (cs.map (·.nm)).Nodup))) ∧ O' = []
def yf (H : Heap) (cs : List CdF) (V : Nat → Bool → Prop) : Prop := ∀ (i : Nat) (hi : i < cs.length) (H' : Heap) (r : List Value), Heap.le H H' → r.length = 14 → CdRF H' r cs[i] → Triple PP kp [.agg r.toArray] H' [] fun x _ O' => (∃ b, x = .bool b ∧ V i b) ∧ O' = []
theorem wT {H H' : Heap} {rows : List (List Value)} {cs : List CdF} {i : Nat} (h : RowsF H rows (cs.take i)) (hl : Heap.le H H') (hi : i < cs.length) {r : List Value} (hr : CdRF H' r cs[i]) : RowsF H' (rows ++ [r]) (cs.take (i + 1)) := by
 have hm : (cs.take i).length = i := by rw [List.length_take]; omega
 have hrl : rows.length = i := h.1.trans hm
 have hm2 : (cs.take (i + 1)).length = i + 1 := by rw [List.length_take]; omega
 refine ⟨by rw [List.length_append, hrl, hm2]; rfl, fun j q c a b => ?_⟩
 have hj : j < i + 1 := by have := (List.getElem?_eq_some_iff.1 b).1; omega
 rw [List.getElem?_take_of_lt hj] at b
 by_cases hji : j < i
 ·rw [List.getElem?_append_left (by omega)] at a
  exact (h.2 j q c a (by rw [List.getElem?_take_of_lt hji]; exact b)).le hl
 ·obtain rfl : j = i := by omega
  rw [List.getElem?_append_right (by omega), hrl, Nat.sub_self] at a
  simp only [List.getElem?_cons_zero, Option.some.injEq] at a
  rw [List.getElem?_eq_getElem hi] at b
  rw [← Option.some.inj b, ← a]; exact hr
theorem BL {H : Heap} {cv : Value} {cs : List CdF} (h : CardsF H cv cs) (hlit : ∀ c ∈ cs, yM c) {V : Nat → Bool → Prop} (hval : yf H cs V) : Triple PP iC [cv] H [] (Eb cs V) := by
 refine sa (vs := [cv]) (by kernel_rfl) ⟨h.one, trivial⟩ ?_
 simp only [qM]
 have clen := h.len
 refine aa _ clen ?_
 refine aa _ (bW _ _) (ai (fun hc => ?_) (fun hc => ?_))
 ·exact af (.inr ⟨5, rfl, by omega, .inl (by have := of_decide_eq_true hc; omega)⟩)
 have h400 : cs.length ≤ 400 := by have := of_decide_eq_false hc; omega
 refine aa _ clen ?_
 refine aK cs.length (fun i H' O' => O' = [] ∧ Heap.le H H' ∧ ∀ j, j < i → V j true) ⟨rfl, Heap.le_refl _, fun j hj => by omega⟩ ?_
 rintro i H1 O1 hi - ⟨rfl, l1, hV⟩
 refine aa _ (aC _ _) (ai (fun hlt => ?_) (fun hfin => ?_))
 ·have hlt : i < cs.length := by have := of_decide_eq_true hlt; omega
  obtain ⟨a, row, k1, k2, _, k4, k5, k6⟩ := ke [] (h.le l1) hlt
  refine aa _ k1 (ao k2 k4 k5 (aj fun r0 => ?_))
  refine ae (ae ?_)
  rw [show (ag (G14 row 0) : Value) = .agg row.toArray from A2 k4]
  refine bn (hval i hlt H1 row l1 k4 k6) ?_
  rintro _ H2 _ ⟨⟨b, rfl, hb⟩, rfl⟩ l2
  refine ⟨[.bool b], rfl, ⟨rfl, trivial⟩, ?_⟩
  refine aa _ (aA _) (ai (fun hd => ?_) (fun hd => ?_))
  ·exact af (.inr ⟨2, rfl, by omega, .inr (.inl ⟨i, hlt, by rw [Bt hd] at hb; exact hb⟩)⟩)
  ·refine aa _ (aG (by omega)) (ay (by simp [Eqs, E]) hlt ⟨rfl, Heap.le_trans l1 l2, fun j hj => ?_⟩)
   rcases Nat.lt_succ_iff_lt_or_eq.1 hj with hj | rfl
   ·exact hV j hj
   ·rw [Ba hd] at hb; exact hb
 have hV : ∀ j, j < cs.length → V j true := fun j hj => hV j (by have := of_decide_eq_false hfin; omega)
 refine we fun mv Om hm => ?_
 rw [List.append_nil]
 refine aj fun r1 => ?_
 refine aa _ clen ?_
 refine iY (fun vs H' O' => ∃ (i : Nat) (x : Value) (rows : List (List Value)) (Om Ox : Go.Sx.Own), vs = [iV i, x] ∧ i ≤ cs.length ∧ Heap.le H H' ∧ OMapS mv (gz (cs.take i)) Om ∧ OSl lz 14 x rows Ox ∧ RowsF H' rows (cs.take i) ∧ ((cs.take i).map (·.nm)).Nodup ∧ O'.Perm (Om ++ Ox)) (fun vs _ _ => match g vs 0 with | .int _ k => cs.length + 1 - k.toNat | _ => 0)
  ⟨0, .slice none 0 0, [], Om, [], rfl, Nat.zero_le _, l1, hm, OSl.nil _ _, ⟨rfl, fun i r c a => by simp at a⟩, List.nodup_nil, by simp⟩ ?_
 rintro _ H2 O2 _ _ _ ⟨i, x, rows, Om, Ox, rfl, hi, hle, hm, hx, hrows, hnd, hp⟩
 refine aa _ (aC _ _) (ai (fun hlt => ?_) (fun hge => ?_))
 ·have hlt : i < cs.length := by have := of_decide_eq_true hlt; omega
  obtain ⟨a, row, k1, k2, _, k4, k5, k6⟩ := ke O2 (h.le hle) hlt
  have hnm : g row 0 = Str cs[i].nm := k6.nm.1
  have hmm : ∀ p ∈ Om, p ∈ O2 := fun p hp' => hp.mem_iff.2 (List.mem_append_left _ hp')
  refine aa _ k1 (ao k2 k4 k5 (aj fun r2 => ?_))
  refine ae (ae (ae ?_))
  rw [hnm]
  have hlook := oS (cs.take i) cs[i].nm
  refine sZ Ac CO Bg hm hmm cs[i].nm (by rw [hlook]; cases gu (cs.take i) cs[i].nm <;> rfl) ?_
  refine ai (fun hd => ?_) (fun hd => ?_)
  ·refine af (.inr ⟨11, rfl, by omega, .inr (.inr fun hn => ?_)⟩)
   have hd : (fW (gz (cs.take i)) cs[i].nm).isSome = true := hd
   rw [hlook] at hd
   cases hf : gu (cs.take i) cs[i].nm with
   | none => rw [hf] at hd; cases hd
   | some j =>
    obtain ⟨hj, hjn⟩ := vX hf
    have hjl : j < i := by rw [List.length_take] at hj; omega
    rw [List.getElem_take] at hjn
    refine (List.pairwise_iff_getElem.1 hn) j i (by rw [List.length_map]; omega) (by rw [List.length_map]; exact hlt) hjl ?_
    rw [List.getElem_map, List.getElem_map]; exact hjn
  have hd : (fW (gz (cs.take i)) cs[i].nm).isSome = false := hd
  have hnone : fW (gz (cs.take i)) cs[i].nm = none := by simpa using hd
  have hnot : cs[i].nm ∉ (cs.take i).map (·.nm) := by
   rw [hlook, Option.map_eq_none_iff] at hnone
   exact vY.1 hnone
  refine ae (ae ?_)
  refine sW Ac CO hm hp cs[i].nm (iV i) hnone fun rr Om' hm' _ => ?_
  rw [← vP hlt] at hm'
  refine ae (ae ?_)
  rw [show (ag (G14 row 0) : Value) = .agg row.toArray from A2 k4]
  refine bn (zz k6 (hlit _ (List.getElem_mem hlt))) ?_
  rintro _ H3 _ ⟨⟨cells, rfl, c1, c2⟩, rfl⟩ l3
  rw [List.nil_append]
  refine ⟨cells, by simp [Shp.open, c1], c2.ones, aj fun r3 => ?_⟩
  have hrl : rows.length = i := by have := hrows.1; rw [List.length_take] at this; omega
  rw [g14 c1]
  refine dF (rows := rows) (news := [cells]) (O1 := Ox) (O2 := Om') (e := lz) (size := 14) (bytes := 152) (by kernel_rfl) List.perm_append_comm hx (fun Hf _ hf => Sl.block1 (hf _ List.mem_cons_self) c1 c2.ones) (by rw [hrl, List.length_singleton]; omega) (by rw [hrl, List.length_singleton]; omega) ?_
  intro v' A' H6 l6 hA'
  refine ae ?_
  refine aa _ (aG (by omega)) (fF (by simp [Eqs, E]) ⟨i + 1, v', rows ++ [cells], Om', A', rfl, hlt, Heap.le_trans hle (Heap.le_trans l3 l6), hm', hA', wT hrows (Heap.le_trans l3 l6) hlt (c2.le l6), ?_, List.perm_append_comm⟩ ?_)
  ·rw [List.take_add_one, List.getElem?_eq_getElem hlt, Option.toList_some, List.map_append, List.nodup_append]
   refine ⟨hnd, by simp, fun y hy z hz e => ?_⟩
   obtain rfl : z = cs[i].nm := by simpa using hz
   exact hnot (e ▸ hy)
  ·show cs.length + 1 - ((i + 1 : Nat) : Int).toNat < cs.length + 1 - (i : Int).toNat
   omega
 ·have hge : cs.length ≤ i := by have := of_decide_eq_false hge; omega
  rw [List.take_of_length_le hge] at hm hrows hnd
  refine wV fun H' l hf => .inl ⟨r1, _, x, mv, rows, Om, Ox, rfl, hf _ List.mem_cons_self, hm, hx, hrows.le l, hnd, hp, hV⟩
theorem Di {H : Heap} {cv : Value} {cs : List CdF} (h : CardsF H cv cs) (hlit : ∀ c ∈ cs, yM c) {V : Nat → Bool → Prop} (hval : yf H cs V) : Triple PP iC [cv] H [] (Ec cs V) := by
 refine Triple.ghost (BL h hlit hval) ?_
 rintro r H' O' _ hc (⟨r1, T, x, mv, rows, Om, Ox, rfl, h1, hm, hx, hrows, hnd, hp, hV⟩ | ⟨e, rfl, he, hw⟩)
 ·have hc := hc.perm hp
  obtain ⟨H1, g1, k1, l1⟩ := hm.freeze hc
  have hc := hc.ghost g1
  obtain ⟨H2, g2, k2, l2⟩ := hx.freeze (X := []) (by simpa using hc)
  exact ⟨H2, [], (Ghost.perm hp).trans (g1.trans (by simpa using g2)), .inl ⟨_, rfl, ⟨r1, x, mv, T, rfl, l2.1 _ _ (l1.1 _ _ h1), ⟨rows, k2, hrows.le (Heap.le_trans l1 l2)⟩, k1.le l2, hnd, hlit⟩, hV⟩, rfl⟩
 ·exact ⟨H', [], Ghost.drop _ _, .inr ⟨e, rfl, he, hw⟩, rfl⟩
def o6 (cs : List CdF) (k : List UInt8) : Int × Int := match gu cs k with | some j => ((j : Int), 0) | none => (0, 9)
theorem BO {H : Heap} {p : Value} {cs : List CdF} (h : PoolF H p cs) (k : List UInt8) (O : Go.Sx.Own) : RetO PP jr [p, Str k] H O (wx (o6 cs k)) := by
 refine lH (vs := [p, Str k]) (by kernel_rfl) ⟨h.one, rfl, trivial⟩ ?_
 simp only [jm]
 refine al (zw h) rfl ⟨rfl, trivial⟩ fun H1 l1 => ai (fun hd => by cases hd) (fun _ => ?_)
 obtain ⟨r, cv, mv, T, rfl, h1, h2, h3, h4, h5⟩ := h.le l1
 obtain ⟨_, q2⟩ := mB O h1
 have hlook := oS cs k
 refine au rfl (au rfl ?_)
 refine ao q2 rfl ⟨h3.one, trivial⟩ ?_
 refine s4 Ac CO Bg h3 k (by rw [hlook]; cases gu cs k <;> rfl) ?_
 refine aa _ (aA _) (ai (fun hd => ?_) (fun hd => ?_))
 ·have hd : (fW (gz cs) k).isSome = false := Bt hd
  rw [hlook] at hd
  have hn : gu cs k = none := by simpa using hd
  exact af ⟨by rw [o6, hn]; rfl, rfl⟩
 ·have hd : (fW (gz cs) k).isSome = true := Ba hd
  rw [hlook] at hd ⊢
  cases hf : gu cs k with
  | none => rw [hf] at hd; cases hd
  | some j =>
   exact af ⟨by rw [o6, hf]; rfl, rfl⟩
def xG (cs : List CdF) (k : List UInt8) : Value := match gu cs k with | some j => .tuple #[iV (j : Int), .bool true] | none => .tuple #[iV 0, .bool false]
theorem Bn {H : Heap} {cv : Value} {cs : List CdF} (h : CardsF H cv cs) (k : List UInt8) (O : Go.Sx.Own) : RetO PP gn [cv, Str k] H O (xG cs k) := by
 refine jN (vs := [cv, Str k]) (by kernel_rfl) ⟨h.one, rfl, trivial⟩ ?_
 simp only [gh]
 have clen := h.len
 have hcB := h.lenB
 refine aK cs.length (fun i H' O' => O' = O ∧ Heap.le H H' ∧ gu cs k = (gu (cs.drop i) k).map (· + i)) ⟨rfl, Heap.le_refl _, by simp⟩ ?_
 rintro i H1 O1 hi - ⟨rfl, l1, hg⟩
 refine aa _ clen ?_
 refine aa _ (aC _ _) (ai (fun hlt => ?_) (fun hge => ?_))
 ·have hlt : i < cs.length := by have := of_decide_eq_true hlt; omega
  obtain ⟨a, row, k1, k2, k3, k4, k5, k6⟩ := ke O1 (h.le l1) hlt
  have hnm := k6.nm.1
  have q0 : Reads H1 O1 (.pointer (some a)) 1 [Str cs[i].nm] := by
   have := k3 0 1 (by omega)
   rw [Bo] at this
   obtain ⟨es, ts, rfl, _⟩ := k6
   exact this
  rw [List.drop_eq_getElem_cons hlt, vZ] at hg
  refine aa _ k1 ?_
  refine au rfl ?_
  refine ao q0 rfl ⟨rfl, trivial⟩ ?_
  refine aa _ (tA _ _) (ai (fun hd => ?_) (fun hd => ?_))
  ·have hd : (cs[i].nm == k) = true := hd
   rw [if_pos (show (k == cs[i].nm) = true from by simpa using (beq_iff_eq.1 hd).symm), Option.map_some, Nat.zero_add] at hg
   exact af ⟨by rw [xG, hg]; rfl, rfl⟩
  ·have hd : (cs[i].nm == k) = false := hd
   rw [if_neg (show ¬ (k == cs[i].nm) = true from by rw [beq_eq_false_iff_ne] at hd; rw [beq_iff_eq]; exact fun e => hd e.symm)] at hg
   refine aa _ (aG (by omega)) (ay (by simp [Eqs, E]) hlt ⟨rfl, l1, ?_⟩)
   rw [hg]
   cases gu (cs.drop (i + 1)) k with
   | none => rfl
   | some j => simp only [Option.map_some]; congr 1; omega
 ·have hge : cs.length ≤ i := by have := of_decide_eq_false hge; omega
  rw [List.drop_of_length_le hge] at hg
  exact af ⟨by rw [xG, hg]; rfl, rfl⟩
end Go.Proofs.YtamgiojcbdbokaaGreatDoor
