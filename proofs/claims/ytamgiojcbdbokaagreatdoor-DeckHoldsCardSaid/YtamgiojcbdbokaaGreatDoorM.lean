/- Boards as plain data, and how they lie in memory. -/
import Derived.Test.YtamgiojcbdbokaaGreatDoorFw2
import Derived.Test.YtamgiojcbdbokaaGreatDoorFw2
import Derived.Test.YtamgiojcbdbokaaGreatDoorFw2
import Derived.Lib.Overlaps
import Derived.Lib.AppendZerosOnto
import Derived.Shelf.GgSortFunc.InsertionK
import Derived.Test.YtamgiojcbdbokaaGreatDoorBT1
namespace Go.Sx
open Go
abbrev iV (n : Int) : Value := .int .i64 n
def aO (l : List Int) : List (List Value) := l.map fun n => [iV n]
structure Ob where
 (id card owner power tough dmg cnt pp pt : Int)
 (tap sick doom : Bool)
deriving DecidableEq
def Ob.row (o : Ob) : List Value := [iV o.id, iV o.card, iV o.owner, iV o.power, iV o.tough, iV o.dmg, iV o.cnt, iV o.pp, iV o.pt, .bool o.tap, .bool o.sick, .bool o.doom]
structure Tg where
 (id player : Int)
deriving DecidableEq
def Tg.row (t : Tg) : List Value := [iV t.id, iV t.player]
structure It where
 (player id card trig : Int)
 tgs : List Tg
deriving DecidableEq
structure Bl where
 (blocker attacker : Int)
deriving DecidableEq
def Bl.row (b : Bl) : List Value := [iV b.blocker, iV b.attacker]
structure St where
 (life p0 p1 p2 p3 : Int)
 (lib hand field grave : List Int)
 (empty played kept : Bool)
 (mull acts : Int)
deriving DecidableEq
structure Bd where
 objs : List Ob
 (s0 s1 : St)
 (stack queue : List It)
 att : List Int
 blocks : List Bl
 (turn active phase holder passes : Int)
deriving DecidableEq
def ItR (H : Heap) (O : Go.Sx.Own) (row : List Value) (x : It) : Prop := ∃ s, row = [iV x.player, iV x.id, iV x.card, iV x.trig, s] ∧ RSl H O 2 s (x.tgs.map Tg.row)
def ItsR (H : Heap) (O : Go.Sx.Own) (v : Value) (l : List It) : Prop := ∃ rows, RSl H O 5 v rows ∧ rows.length = l.length ∧ ∀ (i : Nat) (r : List Value) (x : It), rows[i]? = some r → l[i]? = some x → ItR H O r x
structure StR (H : Heap) (O : Go.Sx.Own) (vl vh vf vg : Value) (s : St) : Prop where
 lib : RSl H O 1 vl (aO s.lib)
 hand : RSl H O 1 vh (aO s.hand)
 field : RSl H O 1 vf (aO s.field)
 grave : RSl H O 1 vg (aO s.grave)
structure AE where
 (o l0 h0 f0 g0 l1 h1 f1 g1 s q a b : Value)
structure BdR (H : Heap) (O : Go.Sx.Own) (v : AE) (b : Bd) : Prop where
 objs : RSl H O 12 v.o (b.objs.map Ob.row)
 s0 : StR H O v.l0 v.h0 v.f0 v.g0 b.s0
 s1 : StR H O v.l1 v.h1 v.f1 v.g1 b.s1
 stack : ItsR H O v.s b.stack
 queue : ItsR H O v.q b.queue
 att : RSl H O 1 v.a (aO b.att)
 blocks : RSl H O 2 v.b (b.blocks.map Bl.row)
theorem ItR.le {H H' : Heap} {O : Go.Sx.Own} {row : List Value} {x : It} (h : ItR H O row x) (hl : Heap.le H H') : ItR H' O row x := let ⟨s, h1, h2⟩ := h; ⟨s, h1, h2.le hl⟩
theorem ItsR.le {H H' : Heap} {O : Go.Sx.Own} {v : Value} {l : List It} (h : ItsR H O v l) (hl : Heap.le H H') : ItsR H' O v l :=
 let ⟨rows, h1, h2, h3⟩ := h; ⟨rows, h1.le hl, h2, fun i r x a b => (h3 i r x a b).le hl⟩
theorem StR.le {H H' : Heap} {O : Go.Sx.Own} {vl vh vf vg : Value} {s : St} (h : StR H O vl vh vf vg s) (hl : Heap.le H H') : StR H' O vl vh vf vg s := ⟨h.lib.le hl, h.hand.le hl, h.field.le hl, h.grave.le hl⟩
theorem BdR.le {H H' : Heap} {O : Go.Sx.Own} {v : AE} {b : Bd} (h : BdR H O v b) (hl : Heap.le H H') : BdR H' O v b :=
 ⟨h.objs.le hl, h.s0.le hl, h.s1.le hl, h.stack.le hl, h.queue.le hl, h.att.le hl, h.blocks.le hl⟩
def jR (a lo hi : Int) : Bool := decide (lo ≤ a ∧ a ≤ hi)
def rV {α : Type} (p : α → Bool) : List α → Int → Int
 | [], _ => -1
 | a :: r, i => if p a then i else rV p r (i + 1)
theorem rU {α : Type} (p : α → Bool) : ∀ (l : List α) (i : Int), 0 ≤ i → decide (0 ≤ rV p l i) = l.any p
 | [], i, _ => by simp [rV]
 | a :: r, i, h => by
  simp only [rV, List.any_cons]
  by_cases hx : p a
  ·simp [hx, h]
  ·simp only [hx, Bool.false_eq_true, if_false, Bool.false_or]
   exact rU p r (i + 1) (by omega)
theorem bn {P : Program} {f : FuncId} {args : List Value} {H : Heap} {O : Go.Sx.Own} {R : Value → Heap → Go.Sx.Own → Prop} {d : Bool} {shp : Shp} {K : List Value → List (List Value) → Heap → Go.Sx.Own → Prop}
  (h : Triple P f args H [] R) (hk : ∀ v H' O1, R v H' O1 → Heap.le H H' → ∃ vs, shp.open v = some vs ∧ Ones vs ∧ K vs [] H' (O1 ++ O)) :
  cg (fun H1 O1 R => Triple P f args H1 O1 R) d [] [] shp K H O := by
 intro _
 refine ⟨H, [], O, R, ?_, by simpa using h, fun v H' O' hr hle => ?_⟩
 ·cases d
  ·exact Ghost.refl _ _
  ·exact ⟨rfl, .inl ⟨rfl, rfl⟩⟩
 ·obtain ⟨vs, h1, h2, h3⟩ := hk v H' O' hr hle
  exact ⟨vs, [], O', h1, h2, trivial, rfl, h3⟩
def ItsS (H : Heap) (v : Value) (l : List It) : Prop := ∃ rows, Sl H 5 v rows ∧ rows.length = l.length ∧ ∀ (i : Nat) (r : List Value) (x : It), rows[i]? = some r → l[i]? = some x → ∃ s, r = [iV x.player, iV x.id, iV x.card, iV x.trig, s] ∧ Sl H 2 s (x.tgs.map Tg.row)
structure StS (H : Heap) (vl vh vf vg : Value) (s : St) : Prop where
 lib : Sl H 1 vl (aO s.lib)
 hand : Sl H 1 vh (aO s.hand)
 field : Sl H 1 vf (aO s.field)
 grave : Sl H 1 vg (aO s.grave)
structure BdS (H : Heap) (v : AE) (b : Bd) : Prop where
 objs : Sl H 12 v.o (b.objs.map Ob.row)
 s0 : StS H v.l0 v.h0 v.f0 v.g0 b.s0
 s1 : StS H v.l1 v.h1 v.f1 v.g1 b.s1
 stack : ItsS H v.s b.stack
 queue : ItsS H v.q b.queue
 att : Sl H 1 v.a (aO b.att)
 blocks : Sl H 2 v.b (b.blocks.map Bl.row)
theorem ItsS.le {H H' : Heap} {v : Value} {l : List It} (h : ItsS H v l) (hl : Heap.le H H') : ItsS H' v l :=
 let ⟨rows, h1, h2, h3⟩ := h; ⟨rows, h1.le hl, h2, fun i r x a b => let ⟨s, e, k⟩ := h3 i r x a b; ⟨s, e, k.le hl⟩⟩
theorem StS.le {H H' : Heap} {vl vh vf vg : Value} {s : St} (h : StS H vl vh vf vg s) (hl : Heap.le H H') : StS H' vl vh vf vg s := ⟨h.lib.le hl, h.hand.le hl, h.field.le hl, h.grave.le hl⟩
theorem BdS.le {H H' : Heap} {v : AE} {b : Bd} (h : BdS H v b) (hl : Heap.le H H') : BdS H' v b :=
 ⟨h.objs.le hl, h.s0.le hl, h.s1.le hl, h.stack.le hl, h.queue.le hl, h.att.le hl, h.blocks.le hl⟩
theorem ItsS.r {H : Heap} {v : Value} {l : List It} (h : ItsS H v l) (O : Go.Sx.Own) : ItsR H O v l :=
 let ⟨rows, h1, h2, h3⟩ := h; ⟨rows, h1.rsl O, h2, fun i r x a b => let ⟨s, e, k⟩ := h3 i r x a b; ⟨s, e, k.rsl O⟩⟩
theorem StS.r {H : Heap} {vl vh vf vg : Value} {s : St} (h : StS H vl vh vf vg s) (O : Go.Sx.Own) : StR H O vl vh vf vg s := ⟨h.lib.rsl O, h.hand.rsl O, h.field.rsl O, h.grave.rsl O⟩
theorem BdS.r {H : Heap} {v : AE} {b : Bd} (h : BdS H v b) (O : Go.Sx.Own) : BdR H O v b := ⟨h.objs.rsl O, h.s0.r O, h.s1.r O, h.stack.r O, h.queue.r O, h.att.rsl O, h.blocks.rsl O⟩
def OSlE (e : TypeId) (size : Nat) (v : Value) (rows : List (List Value)) (O : Go.Sx.Own) : Prop := OSl e size v rows O ∨ ((∃ a c, v = .slice a 0 c ∧ c < 2 ^ 63) ∧ rows = [] ∧ O = [])
theorem OSlE.one {e : TypeId} {size : Nat} {v : Value} {rows : List (List Value)} {O : Go.Sx.Own} (h : OSlE e size v rows O) : v.oneCell' = true := by
 rcases h with h | ⟨⟨a, c, rfl, _⟩, _⟩
 ·exact h.one
 ·rfl
theorem OSlE.len {e : TypeId} {size : Nat} {v : Value} {rows : List (List Value)} {O : Go.Sx.Own} (h : OSlE e size v rows O) : ah .len [v] = some (.int .i64 rows.length) := by
 rcases h with h | ⟨⟨a, c, rfl, _⟩, rfl, _⟩
 ·exact h.len
 ·rfl
theorem OSlE.lenB {e : TypeId} {size : Nat} {v : Value} {rows : List (List Value)} {O : Go.Sx.Own} (h : OSlE e size v rows O) : rows.length < 2 ^ 63 := by
 rcases h with h | ⟨_, rfl, _⟩
 ·exact h.lenB
 ·simp
theorem OSlE.rsl {e : TypeId} {size : Nat} {v : Value} {rows : List (List Value)} {O1 O : Go.Sx.Own} (h : OSlE e size v rows O1) (hO : ∀ p ∈ O1, p ∈ O) (H : Heap) : RSl H O size v rows := by
 rcases h with h | ⟨⟨a, c, rfl, hc⟩, rfl, _⟩
 ·exact h.rsl hO H
 ·exact Sl.rsl ⟨a, c, rfl, Nat.zero_le _, hc, fun h => absurd rfl h⟩ O
theorem OSlE.idx {e : TypeId} {size : Nat} {v : Value} {rows : List (List Value)} {O1 O : Go.Sx.Own} (h : OSlE e size v rows O1) (hO : ∀ p ∈ O1, p ∈ O) (H : Heap) {k : IntKind} {i : Nat} {row : List Value} (hr : rows[i]? = some row) :
  ∃ a, ah (.idx size) [v, .int k i] = some (.pointer (some a)) ∧ a.spot = none ∧ Reads H O (.pointer (some a)) size row ∧ ∀ off m, off + m ≤ size → Reads H O (bR (.pointer (some a)) off) m ((row.drop off).take m) := by
 rcases h with h | ⟨_, rfl, _⟩
 ·exact h.idx hO H hr
 ·simp at hr
theorem OSlE.store {e : TypeId} {size : Nat} {v : Value} {rows : List (List Value)} {O1 O2 O : Go.Sx.Own} (h : OSlE e size v rows O1) (hO : O.Perm (O1 ++ O2)) {k : IntKind} {i : Nat} {row : List Value} (hr : rows[i]? = some row) :
  ∃ a, ah (.idx size) [v, .int k i] = some (.pointer (some a)) ∧ ∀ off ys, off + ys.length ≤ size → Ones ys → ∃ O1', oG O (bR (.pointer (some a)) off) ys (O1' ++ O2) ∧ OSlE e size v (rows.set i (bQ row off ys)) O1' := by
 rcases h with h | ⟨_, rfl, _⟩
 ·obtain ⟨a, h1, h2⟩ := h.store hO hr
  exact ⟨a, h1, fun off ys h3 h4 => let ⟨O1', h5, h6⟩ := h2 off ys h3 h4; ⟨O1', h5, .inl h6⟩⟩
 ·simp at hr
theorem OSlE.freeze {e : TypeId} {size : Nat} {v : Value} {rows : List (List Value)} {O1 X : Go.Sx.Own} {H : Heap} (h : OSlE e size v rows O1) (hc : Cons H (O1 ++ X)) : ∃ H', Ghost H (O1 ++ X) H' X ∧ Sl H' size v rows ∧ Heap.le H H' := by
 rcases h with h | ⟨⟨a, c, rfl, hb⟩, rfl, rfl⟩
 ·exact h.freeze hc
 ·exact ⟨H, Ghost.refl _ _, ⟨a, c, rfl, Nat.zero_le _, hb, fun h => absurd rfl h⟩, Heap.le_refl H⟩
theorem OSlE.empty {e : TypeId} {size : Nat} {H : Heap} {v : Value} (h : Sl H size v []) : OSlE e size v [] [] := by
 obtain ⟨a, c, rfl, _, hc, _⟩ := h
 exact .inr ⟨⟨a, c, rfl, hc⟩, rfl, rfl⟩
def OIts (te ti : TypeId) (v : Value) (l : List It) (O : Go.Sx.Own) : Prop := ∃ rows A Ts, O.Perm (A ++ List.flatten Ts) ∧ OSl ti 5 v rows A ∧ rows.length = l.length ∧ Ts.length = l.length ∧
 ∀ (i : Nat) (r : List Value) (x : It) (T : Go.Sx.Own), rows[i]? = some r → l[i]? = some x → Ts[i]? = some T → ∃ s, r = [iV x.player, iV x.id, iV x.card, iV x.trig, s] ∧ OSlE te 2 s (x.tgs.map Tg.row) T
def OItsS (te ti : TypeId) (v : Value) (l : List It) (O : Go.Sx.Own) : Prop := ∃ rows A Ts, O.Perm (A ++ List.flatten Ts) ∧ OSl ti 5 v rows A ∧ rows.length = l.length ∧ Ts.length = l.length ∧
 ∀ (i : Nat) (r : List Value) (x : It) (T : Go.Sx.Own), rows[i]? = some r → l[i]? = some x → Ts[i]? = some T → ∃ s, r = [iV x.player, iV x.id, iV x.card, iV x.trig, s] ∧ OSl te 2 s (x.tgs.map Tg.row) T
theorem OItsS.one {te ti : TypeId} {v : Value} {l : List It} {O : Go.Sx.Own} (h : OItsS te ti v l O) : v.oneCell' = true := by
 obtain ⟨rows, A, Ts, _, h1, _⟩ := h; exact h1.one
structure Tys where
 (int ob bl it tg : TypeId)
structure OBd (t : Tys) (w : AE) (b : Bd) (Oo A0 B0 C0 D0 A1 B1 C1 D1 Os Oq Oa Obk : Go.Sx.Own) : Prop where
 objs : OSl t.ob 12 w.o (b.objs.map Ob.row) Oo
 l0 : OSl t.int 1 w.l0 (aO b.s0.lib) A0
 h0 : OSl t.int 1 w.h0 (aO b.s0.hand) B0
 f0 : OSl t.int 1 w.f0 (aO b.s0.field) C0
 g0 : OSl t.int 1 w.g0 (aO b.s0.grave) D0
 l1 : OSl t.int 1 w.l1 (aO b.s1.lib) A1
 h1 : OSl t.int 1 w.h1 (aO b.s1.hand) B1
 f1 : OSl t.int 1 w.f1 (aO b.s1.field) C1
 g1 : OSl t.int 1 w.g1 (aO b.s1.grave) D1
 stack : OIts t.tg t.it w.s b.stack Os
 queue : OIts t.tg t.it w.q b.queue Oq
 att : OSl t.int 1 w.a (aO b.att) Oa
 blocks : OSl t.bl 2 w.b (b.blocks.map Bl.row) Obk
def OwnB (t : Tys) (w : AE) (b : Bd) (O : Go.Sx.Own) : Prop := ∃ Oo A0 B0 C0 D0 A1 B1 C1 D1 Os Oq Oa Obk, O.Perm (Oo ++ (A0 ++ (B0 ++ (C0 ++ (D0 ++ (A1 ++ (B1 ++ (C1 ++ (D1 ++ (Os ++ (Oq ++ (Oa ++ Obk)))))))))))) ∧ OBd t w b Oo A0 B0 C0 D0 A1 B1 C1 D1 Os Oq Oa Obk
theorem OIts.r {te ti : TypeId} {v : Value} {l : List It} {O O' : Go.Sx.Own} (h : OIts te ti v l O) (hO : ∀ p ∈ O, p ∈ O') (H : Heap) : ItsR H O' v l := by
 obtain ⟨rows, A, Ts, hp, h1, h2, h3, h4⟩ := h
 refine ⟨rows, h1.rsl (fun p hp' => hO p (hp.mem_iff.2 (by simp [hp']))) H, h2, fun i r x hr hx => ?_⟩
 have hlt : i < Ts.length := by rw [h3]; exact (List.getElem?_eq_some_iff.1 hx).1
 obtain ⟨s, e, k⟩ := h4 i r x Ts[i] hr hx (List.getElem?_eq_getElem hlt)
 exact ⟨s, e, k.rsl (fun p hp' => hO p (hp.mem_iff.2 (List.mem_append_right _ (List.mem_flatten.2 ⟨Ts[i], List.getElem_mem hlt, hp'⟩)))) H⟩
theorem OwnB.r {t : Tys} {w : AE} {b : Bd} {O O' : Go.Sx.Own} (h : OwnB t w b O) (hO : ∀ p ∈ O, p ∈ O') (H : Heap) : BdR H O' w b := by
 obtain ⟨Oo, A0, B0, C0, D0, A1, B1, C1, D1, Os, Oq, Oa, Obk, hp, h⟩ := h
 have m : ∀ p, p ∈ Oo ++ (A0 ++ (B0 ++ (C0 ++ (D0 ++ (A1 ++ (B1 ++ (C1 ++ (D1 ++ (Os ++ (Oq ++ (Oa ++ Obk))))))))))) → p ∈ O' := fun p h => hO p (hp.mem_iff.2 h)
 refine ⟨h.objs.rsl (fun p k => m p (by simp [k])) H, ⟨h.l0.rsl (fun p k => m p (by simp [k])) H, h.h0.rsl (fun p k => m p (by simp [k])) H, h.f0.rsl (fun p k => m p (by simp [k])) H, h.g0.rsl (fun p k => m p (by simp [k])) H⟩,
  ⟨h.l1.rsl (fun p k => m p (by simp [k])) H, h.h1.rsl (fun p k => m p (by simp [k])) H, h.f1.rsl (fun p k => m p (by simp [k])) H, h.g1.rsl (fun p k => m p (by simp [k])) H⟩,
  h.stack.r (fun p k => m p (by simp [k])) H, h.queue.r (fun p k => m p (by simp [k])) H, h.att.rsl (fun p k => m p (by simp [k])) H, h.blocks.rsl (fun p k => m p (by simp [k])) H⟩
def EV (l : List It) : Prop := l.length ≤ 1000000 ∧ ∀ x ∈ l, x.tgs.length ≤ 1000000
theorem Cons.ghost {H H' : Heap} {O O' : Go.Sx.Own} (h : Cons H O) (g : Ghost H O H' O') : Cons H' O' := by
 obtain ⟨w, F, hm⟩ := h
 exact ⟨w, F, (g w F hm).1⟩
theorem Cons.perm {H : Heap} {O O' : Go.Sx.Own} (h : Cons H O) (hp : O.Perm O') : Cons H O' := h.ghost (Ghost.perm hp)
theorem Triple.ghost {P : Program} {f : FuncId} {args : List Value} {H : Heap} {O : Go.Sx.Own} {Q Q' : Value → Heap → Go.Sx.Own → Prop} (h : Triple P f args H O Q)
  (hq : ∀ v H' O', Heap.le H H' → Cons H' O' → Q v H' O' → ∃ H'' O'', Ghost H' O' H'' O'' ∧ Q' v H'' O'') : Triple P f args H O Q' :=
 fun w F hm => (h w F hm).mono fun _ w' ⟨v, H', O', he, q, hle, hm'⟩ =>
  let ⟨H'', O'', g, q'⟩ := hq v H' O' hle ⟨w', F, hm'⟩ q
  ⟨v, H'', O'', he, q', Heap.le_trans hle (g _ _ hm').2, (g _ _ hm').1⟩
theorem qY {te : TypeId} : ∀ (l : List It) (rows : List (List Value)) (Ts : List Go.Sx.Own) (H : Heap) (X : Go.Sx.Own), rows.length = l.length → Ts.length = l.length →
  (∀ (i : Nat) (r : List Value) (x : It) (T : Go.Sx.Own), rows[i]? = some r → l[i]? = some x → Ts[i]? = some T → ∃ s, r = [iV x.player, iV x.id, iV x.card, iV x.trig, s] ∧ OSlE te 2 s (x.tgs.map Tg.row) T) →
  Cons H (List.flatten Ts ++ X) → ∃ H', Ghost H (List.flatten Ts ++ X) H' X ∧ Heap.le H H' ∧
   ∀ (i : Nat) (r : List Value) (x : It), rows[i]? = some r → l[i]? = some x → ∃ s, r = [iV x.player, iV x.id, iV x.card, iV x.trig, s] ∧ Sl H' 2 s (x.tgs.map Tg.row)
 | [], [], [], H, X, _, _, _, _ => ⟨H, Ghost.refl _ _, Heap.le_refl _, fun i r x h => by simp at h⟩
 | x :: l, r :: rows, T :: Ts, H, X, h1, h2, hs, hc => by
  obtain ⟨s, e, hT⟩ := hs 0 r x T rfl rfl rfl
  rw [List.flatten_cons, List.append_assoc] at hc
  obtain ⟨H1, g1, k1, l1⟩ := hT.freeze hc
  obtain ⟨H2, g2, l2, k2⟩ := qY l rows Ts H1 X (by simpa using h1) (by simpa using h2) (fun i r x T a b c => hs (i + 1) r x T (by simpa using a) (by simpa using b) (by simpa using c)) (hc.ghost g1)
  refine ⟨H2, ?_, Heap.le_trans l1 l2, fun i r' x' a b => ?_⟩
  ·rw [List.flatten_cons, List.append_assoc]; exact g1.trans g2
  ·cases i with
   | zero => simp at a b; subst a; subst b; exact ⟨s, e, k1.le l2⟩
   | succ i => exact k2 i r' x' (by simpa using a) (by simpa using b)
 | [], _ :: _, _, _, _, h, _, _, _ => by simp at h
 | _ :: _, [], _, _, _, h, _, _, _ => by simp at h
 | [], [], _ :: _, _, _, _, h, _, _ => by simp at h
 | _ :: _, _ :: _, [], _, _, _, h, _, _ => by simp at h
theorem OIts.freeze {te ti : TypeId} {v : Value} {l : List It} {O1 X : Go.Sx.Own} {H : Heap} (h : OIts te ti v l O1) (hc : Cons H (O1 ++ X)) : ∃ H', Ghost H (O1 ++ X) H' X ∧ ItsS H' v l ∧ Heap.le H H' := by
 obtain ⟨rows, A, Ts, hp, h1, h2, h3, h4⟩ := h
 have hp' : (O1 ++ X).Perm (A ++ (List.flatten Ts ++ X)) := (hp.append_right X).trans (List.Perm.of_eq (List.append_assoc _ _ _))
 obtain ⟨H1, g1, k1, l1⟩ := h1.freeze (hc.perm hp')
 obtain ⟨H2, g2, l2, k2⟩ := qY l rows Ts H1 X h2 h3 h4 ((hc.perm hp').ghost g1)
 exact ⟨H2, (Ghost.perm hp').trans (g1.trans g2), ⟨rows, k1.le l2, h2, k2⟩, Heap.le_trans l1 l2⟩
theorem OwnB.freeze {t : Tys} {w : AE} {b : Bd} {O X : Go.Sx.Own} {H : Heap} (h : OwnB t w b O) (hc : Cons H (O ++ X)) : ∃ H', Ghost H (O ++ X) H' X ∧ BdS H' w b ∧ Heap.le H H' := by
 obtain ⟨Oo, A0, B0, C0, D0, A1, B1, C1, D1, Os, Oq, Oa, Obk, hp, h⟩ := h
 have hp' : (O ++ X).Perm (Oo ++ (A0 ++ (B0 ++ (C0 ++ (D0 ++ (A1 ++ (B1 ++ (C1 ++ (D1 ++ (Os ++ (Oq ++ (Oa ++ (Obk ++ X))))))))))))) := by
  refine (hp.append_right X).trans (List.Perm.of_eq ?_)
  simp only [List.append_assoc]
 replace hc := hc.perm hp'
 obtain ⟨H1, g1, k1, l1⟩ := h.objs.freeze hc
 replace hc := hc.ghost g1
 obtain ⟨H2, g2, k2, l2⟩ := h.l0.freeze hc
 replace hc := hc.ghost g2
 obtain ⟨H3, g3, k3, l3⟩ := h.h0.freeze hc
 replace hc := hc.ghost g3
 obtain ⟨H4, g4, k4, l4⟩ := h.f0.freeze hc
 replace hc := hc.ghost g4
 obtain ⟨H5, g5, k5, l5⟩ := h.g0.freeze hc
 replace hc := hc.ghost g5
 obtain ⟨H6, g6, k6, l6⟩ := h.l1.freeze hc
 replace hc := hc.ghost g6
 obtain ⟨H7, g7, k7, l7⟩ := h.h1.freeze hc
 replace hc := hc.ghost g7
 obtain ⟨H8, g8, k8, l8⟩ := h.f1.freeze hc
 replace hc := hc.ghost g8
 obtain ⟨H9, g9, k9, l9⟩ := h.g1.freeze hc
 replace hc := hc.ghost g9
 obtain ⟨H10, g10, k10, l10⟩ := h.stack.freeze hc
 replace hc := hc.ghost g10
 obtain ⟨H11, g11, k11, l11⟩ := h.queue.freeze hc
 replace hc := hc.ghost g11
 obtain ⟨H12, g12, k12, l12⟩ := h.att.freeze hc
 replace hc := hc.ghost g12
 obtain ⟨H13, g13, k13, l13⟩ := h.blocks.freeze hc
 have m12 := l13
 have m11 := Heap.le_trans l12 m12
 have m10 := Heap.le_trans l11 m11
 have m9 := Heap.le_trans l10 m10
 have m8 := Heap.le_trans l9 m9
 have m7 := Heap.le_trans l8 m8
 have m6 := Heap.le_trans l7 m7
 have m5 := Heap.le_trans l6 m6
 have m4 := Heap.le_trans l5 m5
 have m3 := Heap.le_trans l4 m4
 have m2 := Heap.le_trans l3 m3
 have m1 := Heap.le_trans l2 m2
 exact ⟨H13, (Ghost.perm hp').trans (g1.trans (g2.trans (g3.trans (g4.trans (g5.trans (g6.trans (g7.trans (g8.trans (g9.trans (g10.trans (g11.trans (g12.trans g13)))))))))))),
  ⟨k1.le m1, ⟨k2.le m2, k3.le m3, k4.le m4, k5.le m5⟩, ⟨k6.le m6, k7.le m7, k8.le m8, k9.le m9⟩, k10.le m10, k11.le m11, k12.le m12, k13⟩, Heap.le_trans l1 m1⟩
theorem RetO.perm {P : Program} {f : FuncId} {args : List Value} {H : Heap} {O O' : Go.Sx.Own} {r : Value} (h : RetO P f args H O r) (hp : O.Perm O') : RetO P f args H O' r :=
 fun w F hm => (h w F (hm.perm (hp.symm.append_right F))).mono fun _ _ ⟨v, H', O1, he, ⟨q1, q2⟩, hle, hm'⟩ => ⟨v, H', O', he, ⟨q1, rfl⟩, hle, hm'.perm (by rw [q2]; exact hp.append_right F)⟩
theorem OSl.upto {e : TypeId} {size : Nat} {v : Value} {rows : List (List Value)} {O : Go.Sx.Own} (h : OSl e size v rows O) {i : Nat} (hi : i ≤ rows.length) :
  ∃ u, ah (.slc size false true false) [v, .int .i64 i] = some u ∧ OSl e size u (rows.take i) O := by
 rcases h with ⟨⟨a, rfl⟩, rfl, rfl⟩ | ⟨r, cs, cap, rfl, rfl, hcl, hlc, hcap, hl, ho, ht⟩
 ·have h0 : i = 0 := by simpa using hi
  subst h0
  refine ⟨.slice a 0 0, ?_, .inl ⟨⟨a, rfl⟩, rfl, rfl⟩⟩
  simp [ah, ct, fc, aG, a8, bP, iM, asI]
 ·have hb : aG rows.length cap none (some (.int .i64 (i : Int))) none = some (0, i, cap) := by
   have : i ≤ cap := by omega
   simp [aG, a8, bP, iM, asI, this]
  refine ⟨.slice (some ⟨r, 0, none⟩) i cap, ?_, .inr ⟨r, cs, cap, ?_, rfl, hcl, ?_, hcap, fun x hx => hl x (List.mem_of_mem_take hx), fun x hx => ho x (List.mem_of_mem_take hx), ?_⟩⟩
  ·simp only [ah, ct, fc, hb, Option.map_some]
   simp [Addr.add]
  ·simp [Nat.min_eq_left hi]
  ·rw [List.length_take]; omega
  ·have h1 : (rows.take i).length = i := by rw [List.length_take]; omega
   have h2 := congrArg (fun l => l.take (i * size)) ht
   simp only [List.take_take] at h2
   have h3 : i * size ≤ rows.length * size := Nat.mul_le_mul_right _ hi
   rw [Nat.min_eq_left h3] at h2
   rw [h1, h2]
   have h4 : rows.flatten = (rows.take i).flatten ++ (rows.drop i).flatten := by rw [← List.flatten_append, List.take_append_drop]
   have h5 := aI (rows := rows.take i) (size := size) fun x hx => hl x (List.mem_of_mem_take hx)
   rw [h1] at h5
   rw [h4, ← h5, List.take_left]
theorem tQ {P : Program} {f : FuncId} {args : List Value} {H : Heap} {O O1 O2 : Go.Sx.Own} {own : List BV} {shp : Shp} {K : List Value → List (List Value) → Heap → Go.Sx.Own → Prop} {R : Value → Heap → Go.Sx.Own → Prop}
  (hO : O.Perm (O1 ++ O2)) (h : Triple P f args H (own.map BV.obj ++ O1) fun v H' O' => ∃ O3, O' = own.map BV.obj ++ O3 ∧ R v H' O3) (hf : Dk own (own.map (·.vs)))
  (hk : ∀ v H' O3, R v H' O3 → Heap.le H H' → ∃ vs, shp.open v = some vs ∧ Ones vs ∧ K vs (own.map (·.vs)) H' (O3 ++ O2)) :
  cg (fun H1 O1 R => Triple P f args H1 O1 R) false [] own shp K H O := by
 intro _
 refine ⟨H, O1, O2, _, Ghost.perm hO, h, ?_⟩
 rintro v H' O' ⟨O3, rfl, hr⟩ hle
 obtain ⟨vs, h1, h2, h3⟩ := hk v H' O3 hr hle
 exact ⟨vs, own.map (·.vs), O3, h1, h2, hf, by rw [ml], h3⟩
theorem cI {P : Program} {f : FuncId} {args : List Value} {H : Heap} {O O1 O2 : Go.Sx.Own} {shp : Shp} {K : List Value → List (List Value) → Heap → Go.Sx.Own → Prop} {R : Value → Heap → Go.Sx.Own → Prop}
  (hO : O.Perm (O1 ++ O2)) (h : Triple P f args H O1 R) (hk : ∀ v H' O3, R v H' O3 → Heap.le H H' → ∃ vs, shp.open v = some vs ∧ Ones vs ∧ K vs [] H' (O3 ++ O2)) :
  cg (fun H1 O1 R => Triple P f args H1 O1 R) false [] [] shp K H O := by
 intro _
 refine ⟨H, O1, O2, R, Ghost.perm hO, by simpa using h, ?_⟩
 intro v H' O' hr hle
 obtain ⟨vs, h1, h2, h3⟩ := hk v H' O' hr hle
 exact ⟨vs, [], O', h1, h2, trivial, rfl, h3⟩
theorem Am {P : Program} {op : PrimOp} {args : List Value} {H : Heap} {O O2 : Go.Sx.Own} {r : Nat} {cs cs' : List Value} {e : TypeId} {v : Value} {shp : Shp} {K : List Value → List (List Value) → Heap → Go.Sx.Own → Prop} {vs : List Value}
  (hO : O.Perm ([(r, .cells cs.toArray e (0, 0))] ++ O2)) (hrun : ∀ w F, Models w H ([(r, .cells cs.toArray e (0, 0))] ++ F) → (op.sem args).run P w = .ok (.value v) (w.setRow r cs'.toArray)) (ho : shp.open v = some vs) (h1 : Ones vs)
  (hk : K vs [] H ([(r, .cells cs'.toArray e (0, 0))] ++ O2)) : cg (fun H1 O1 R => bp P (op.sem args) H1 O1 R) false [] [] shp K H O := by
 intro _
 refine ⟨H, [(r, .cells cs.toArray e (0, 0))], O2, fun v' H' O' => v' = v ∧ H' = H ∧ O' = [(r, .cells cs'.toArray e (0, 0))], Ghost.perm hO, fun w F hm => ⟨v, w.setRow r cs'.toArray, H, _, hrun w F (by simpa using hm), ⟨rfl, rfl, rfl⟩, Heap.le_refl H, ?_⟩, ?_⟩
 ·exact qT (vs := cs) (by simpa using hm)
 ·rintro v' H' O' ⟨rfl, rfl, rfl⟩ _
  exact ⟨vs, [], _, ho, h1, trivial, rfl, hk⟩
theorem zN {w : World} {H : Heap} {r : Nat} {cs : List Value} {e : TypeId} {F : Go.Sx.Own} (hm : Models w H ([(r, .cells cs.toArray e (0, 0))] ++ F)) {j : Nat} {u : Value} (h : cs[j]? = some u) : w.cell? ⟨r, j, none⟩ = some u := by
 have hr := (hm.own (r, .cells cs.toArray e (0, 0)) (by simp)).1
 simp only [] at hr
 simp [World.cell?, hr, h]
theorem Sl.upto {H : Heap} {size : Nat} {v : Value} {rows : List (List Value)} (h : Sl H size v rows) {i : Nat} (hi : i ≤ rows.length) : ∃ u, ah (.slc size false true false) [v, .int .i64 i] = some u ∧ Sl H size u (rows.take i) := by
 obtain ⟨a, cap, rfl, h1, h2, h3⟩ := h
 have hb : aG rows.length cap none (some (.int .i64 (i : Int))) none = some (0, i, cap) := by
  have : i ≤ cap := by omega
  simp [aG, a8, bP, iM, asI, this]
 have hm : (rows.take i).length = i := by rw [List.length_take]; omega
 refine ⟨.slice a i cap, ?_, a, cap, by rw [hm], by rw [hm]; omega, h2, fun hne => ?_⟩
 ·simp only [ah, ct, fc, hb, Option.map_some]
  cases a <;> simp [Addr.add]
 ·have hne2 : rows ≠ [] := by rintro rfl; simp at hne
  obtain ⟨ad, e, hA⟩ := h3 hne2
  refine ⟨ad, e, fun j r hr => hA j r ?_⟩
  rw [List.getElem?_take] at hr
  split at hr
  ·exact hr
  ·cases hr
theorem Sl.from {H : Heap} {size : Nat} {v : Value} {rows : List (List Value)} (h : Sl H size v rows) {i : Nat} (hi : i ≤ rows.length) : ∃ u, ah (.slc size true false false) [v, .int .i64 i] = some u ∧ Sl H size u (rows.drop i) := by
 obtain ⟨a, cap, rfl, h1, h2, h3⟩ := h
 have hb : aG rows.length cap (some (.int .i64 (i : Int))) none none = some (i, rows.length, cap) := by
  simp [aG, a8, bP, iM, asI, hi]
 have hm : (rows.drop i).length = rows.length - i := List.length_drop
 refine ⟨.slice (if cap = i then a else a.map (·.add (i * size))) (rows.length - i) (cap - i), ?_, _, cap - i, by rw [hm], by rw [hm]; omega, by omega, fun hne => ?_⟩
 ·simp only [ah, ct, fc, hb, Option.map_some]
 ·have hne2 : rows ≠ [] := by rintro rfl; simp at hne
  have hlt : i < rows.length := by
   rcases Nat.lt_or_ge i rows.length with h | h
   ·exact h
   ·rw [List.drop_of_length_le h] at hne; exact absurd rfl hne
  obtain ⟨ad, rfl, hA⟩ := h3 hne2
  refine ⟨ad.add (i * size), ?_, fun j r hr => ?_⟩
  ·rw [if_neg (by omega)]; rfl
  ·rw [List.getElem?_drop] at hr
   have := hA (i + j) r hr
   rw [nl, ← Nat.add_mul]; exact this
def KindS (H : Heap) (v : Value) (ks : List Int) : Prop := ∃ rows, Sl H 14 v rows ∧ rows.length = ks.length ∧ ∀ (i : Nat) (r : List Value) (k : Int), rows[i]? = some r → ks[i]? = some k → g r 1 = iV k
theorem KindS.le {H H' : Heap} {v : Value} {ks : List Int} (h : KindS H v ks) (hl : Heap.le H H') : KindS H' v ks := let ⟨rows, h1, h2, h3⟩ := h; ⟨rows, h1.le hl, h2, h3⟩
theorem KindS.one {H : Heap} {v : Value} {ks : List Int} (h : KindS H v ks) : v.oneCell' = true := let ⟨_, h1, _⟩ := h; h1.one
theorem nt {H : Heap} {O : Go.Sx.Own} {p : Value} {m : Nat} {vs : List Value} (h : H.read p m = some vs) : Reads H O p m vs := .inl h
theorem AK {P : Program} {t e : TypeId} (hu : P.underlying t = some (.slice e)) {size : Nat} (h0 : 0 < size) {H : Heap} {x : Value} {news : List (List Value)} (hs : Sl H size x news) {w : World} {O : Go.Sx.Own} (hm : Models w H O) :
  Src P size t x news.length news.flatten w ∧ news.flatten.length = news.length * size ∧ (∀ row ∈ news, row.length = size) ∧ ∀ row ∈ news, Ones row := by
 obtain ⟨xa, cap, rfl, h1, h2, h3⟩ := hs
 by_cases hne : news = []
 ·subst hne
  refine ⟨?_, by simp, by simp, by simp⟩
  cases xa with
  | none => exact Src.ofNil w hu cap
  | some ad => exact Src.ofSlice w hu ad 0 cap [] (by simp) (fun j u h => by simp at h) (by simp)
 ·obtain ⟨a, rfl, hA⟩ := h3 hne
  obtain ⟨hnl, hcells⟩ := sN (H := H) h0 (fun _ => hA) hm
  have hfl := aI fun r hr => (hnl r hr).1
  refine ⟨Src.ofSlice w hu a _ cap _ hfl hcells fun u hu' => ?_, hfl, fun r hr => (hnl r hr).1, fun r hr => (hnl r hr).2⟩
  obtain ⟨r, hr, hur⟩ := List.mem_flatten.1 hu'
  exact jf (hnl r hr).2 u hur
theorem yF {P : Program} {t tx ty e : TypeId} {i : TypeInfo} {z : Value} {size : Nat} (ht : P.underlying t = some (.slice e)) (hi : P.info? e = some i) (hz : i.zero = some z) (hsz : i.size = size) (hzs : z.cells.size = size) (hby : jq P e = i.bytes) {w : World}
  {base : Option Addr} {len cap m : Nat} {olds news : List Value} {x : Value} (hold : (Builtin.firstCells i.size len (.slice base len cap)).run P w.drew = .ok olds.toArray w.drew) (hs : Src P size tx x m news w)
  (hg : cap < len + m) (hb : (len + m) * jq P e ≤ 140737488355328) (h63 : len + m < 2 ^ 63) :
  ∃ zs cc, zs.length = cc * size ∧ cc + (len + m) < 2 ^ 63 ∧ (Builtin.append_ #[t, tx] ty #[.slice base len cap, x]).run P w = .ok (.slice (some ⟨w.heap.size, 0, none⟩) (len + m) (cc + (len + m))) (w.drew.alloc (.cells (olds ++ news ++ zs).toArray e)) := by
 subst hsz
 have hge := grownCap_ge w (len + m) cap e
 have hle := grownCap_le_maxLen w (len + m) cap e (by unfold maxLen; omega)
 unfold maxLen at hle
 refine ⟨(Builtin.zeroCells z.cells (grownCap w (len + m) cap e - (len + m))).toList, grownCap w (len + m) cap e - (len + m), ?_, by omega, ?_⟩
 ·rw [Array.length_toList, size_zeroCells, hzs]
 ·rw [run_append_grow_src (P := P) w t tx ty e i z ht hi hz base len cap olds hold x m news hs hg (by omega) (growslice_fits hg (by rw [← hby]; exact hb))]
  have e1 : grownCap w (len + m) cap e - (len + m) + (len + m) = grownCap w (len + m) cap e := by omega
  rw [e1]
  congr 3
  apply Array.ext'
  simp
theorem xk {P : Program} {t ty e : TypeId} {size : Nat} (ha : wj P t e size = true) {ad : Addr} {rows news : List (List Value)} {x : Value} {H : Heap} (hr : Sl H size (.slice (some ad) rows.length rows.length) rows) (hx : Sl H size x news)
  (hb : (rows.length + news.length) * jq P e ≤ 140737488355328) (h63 : rows.length + news.length < 2 ^ 63) :
  bp P ((PrimOp.bi .append #[t, t] ty).sem [.slice (some ad) rows.length rows.length, x]) H [] fun v' H' O' => O' = [] ∧ Heap.le H H' ∧ Sl H' size v' (rows ++ news) := by
 obtain ⟨hu, i, z, hi, hsz, hz, hzs, h0, hby⟩ := xl ha
 intro w F hm
 simp only [List.nil_append] at hm
 obtain ⟨src, s1, s2, s3⟩ := AK hu h0 hx hm
 by_cases hne : news = []
 ·subst hne
  have hs' : Src P i.size t x 0 [] w := by rw [hsz]; exact src
  have hrun := rF (ty := ty) hu hi (base := some ad) (cap := rows.length) hs' (Nat.le_refl _)
  refine ⟨_, w, H, [], ?_, ⟨rfl, Heap.le_refl H, by rw [List.append_nil]; exact hr⟩, Heap.le_refl H, by simpa using hm⟩
  simp only [PrimOp.sem, builtin, Sem.run_bind]
  rw [hrun]; rfl
 ·have hpos : 0 < news.length := List.length_pos_iff.2 hne
  obtain ⟨osrc, o1, o2, o3⟩ := AK hu h0 hr hm
  obtain ⟨zs, cc, z1, zc, hrun⟩ := yF (ty := ty) hu hi hz hsz hzs hby (w := w) (base := some ad) (len := rows.length) (cap := rows.length) (m := news.length) (olds := rows.flatten) (news := news.flatten) (x := x)
   (by rw [hsz]; exact osrc.cellsD) src (by omega) hb h63
  have hm2 := td hm (rows.flatten ++ news.flatten ++ zs).toArray e
  have ho : OSl e size (.slice (some ⟨w.heap.size, 0, none⟩) (rows.length + news.length) (cc + (rows.length + news.length))) (rows ++ news) [(w.heap.size, .cells (rows.flatten ++ news.flatten ++ zs).toArray e (0, 0))] := by
   refine .inr ⟨w.heap.size, rows.flatten ++ news.flatten ++ zs, cc + (rows.length + news.length), by rw [List.length_append], rfl, ?_, ?_, ?_, ?_, ?_, ?_⟩
   ·rw [List.length_append, List.length_append, o1, s1, z1, ← Nat.add_mul, ← Nat.add_mul]; congr 1; omega
   ·rw [List.length_append]; omega
   ·exact zc
   ·intro r hr'
    rcases List.mem_append.1 hr' with h | h
    ·exact o2 r h
    ·exact s2 r h
   ·intro r hr'
    rcases List.mem_append.1 hr' with h | h
    ·exact o3 r h
    ·exact s3 r h
   ·rw [List.flatten_append, List.length_append, Nat.add_mul, ← o1, ← s1, ← List.length_append, List.take_left]
  obtain ⟨H', g, k1, k2⟩ := ho.freeze (X := []) ⟨w.drew.alloc (.cells (rows.flatten ++ news.flatten ++ zs).toArray e), F, hm2⟩
  refine ⟨_, w.drew.alloc (.cells (rows.flatten ++ news.flatten ++ zs).toArray e), H', [], ?_, ⟨rfl, k2, k1⟩, k2, (g _ F hm2).1⟩
  simp only [PrimOp.sem, builtin, Sem.run_bind]
  rw [hrun]; rfl
theorem kG : ∀ {l r : List Int}, l.Pairwise (· < ·) → r.Pairwise (· < ·) → (∀ x, x ∈ l ↔ x ∈ r) → l = r
 | [], [], _, _, _ => rfl
 | [], b :: r, _, _, h => by have := (h b).2 (by simp); cases this
 | a :: l, [], _, _, h => by have := (h a).1 (by simp); cases this
 | a :: l, b :: r, hl, hr, h => by
  rw [List.pairwise_cons] at hl hr
  have e : a = b := by
   have h1 := (h a).1 (by simp)
   have h2 := (h b).2 (by simp)
   rcases List.mem_cons.1 h1 with e | h1
   ·exact e
   rcases List.mem_cons.1 h2 with e | h2
   ·exact e.symm
   have := hl.1 b h2
   have := hr.1 a h1
   omega
  subst e
  congr 1
  refine kG hl.2 hr.2 fun x => ⟨fun hx => ?_, fun hx => ?_⟩
  ·rcases List.mem_cons.1 ((h x).1 (by simp [hx])) with e | h'
   ·have := hl.1 x hx; omega
   ·exact h'
  ·rcases List.mem_cons.1 ((h x).2 (by simp [hx])) with e | h'
   ·have := hr.1 x hx; omega
   ·exact h'
end Go.Sx
namespace Go.Sx
open Go
set_option maxRecDepth 100000
set_option maxHeartbeats 1000000
theorem oz (z : Value) : ∀ n, List.replicate n z = (List.replicate n [z]).flatten
 | 0 => rfl
 | n + 1 => by rw [List.replicate_succ, List.replicate_succ, List.flatten_cons, ← oz z n]; rfl
theorem xQ (z : Value) : ∀ n, ly [z] n = List.replicate n z
 | 0 => rfl
 | n + 1 => by rw [ly, xQ z n]; rfl
theorem zV {P : Program} {t elem : TypeId} {z : Value} (hu : P.underlying t = some (.slice elem)) (hs : hZ P elem = some 1) (hz : nn P elem = some [.k z]) (hby : ((P.info? elem).map fun i => decide (i.bytes ≤ 16)).getD false = true) (hzo : z.oneCell' = true)
  {n : Nat} (hn : n ≤ 65536) {H : Heap} {O : Go.Sx.Own} {K : List Value → List (List Value) → Heap → Go.Sx.Own → Prop} (hk : ∀ v A, OSl elem 1 v (List.replicate n [z]) A → K [v] [] H (A ++ O)) :
  cg (fun H1 O1 R => bp P ((PrimOp.makeSlice t).sem [iV n, iV n]) H1 O1 R) false [] [] .one K H O := by
 obtain ⟨zv, hzr, hzc, _, _⟩ := im hz
 have hrun : ∀ w, ((PrimOp.makeSlice t).sem [iV n, iV n]).run P w = .ok (.value (.slice (some ⟨w.heap.size, 0, none⟩) n n)) { w with heap := w.heap.push (.cells (List.replicate n z).toArray elem (0, 0)) } := by
  intro w
  have hzc' : zv.cells = #[z] := by
   apply Array.ext'
   rw [hzc]; rfl
  have hrep : ((Array.range (n * 1)).map fun i => (#[z] : Array Value)[i % (#[z] : Array Value).size]!) = (List.replicate n z).toArray := by
   have := fH [z] (by simp) n
   apply Array.ext'
   rw [← xQ, ← this]
   simp
  cases hi : P.info? elem with
  | none => rw [hi] at hby; simp at hby
  | some i =>
   rw [hi] at hby
   simp only [Option.map_some, Option.getD_some, decide_eq_true_eq] at hby
   have w1 : IntKind.i64.wrap (n : Int) = n := iQ (by omega) (by omega)
   have hby' : ¬ ((i.bytes : Int) * (n : Int) > 2 ^ 48) := by
    have h1 : i.bytes * n ≤ 16 * 65536 := Nat.mul_le_mul hby hn
    have e : ((i.bytes * n : Nat) : Int) = (i.bytes : Int) * (n : Int) := Int.natCast_mul _ _
    omega
   have hcnd : ¬ (((decide ((n : Int) < 0) || decide ((i.bytes : Int) * (n : Int) > 2 ^ 48)) || decide ((n : Int) < 0) || decide ((n : Int) > (n : Int))) = true) := by
    simp only [Bool.or_eq_true, decide_eq_true_eq]
    omega
   have hti : (typeInfo elem).run P w = .ok i w := by simp [typeInfo, hi]
   have hA : (asInt (.int .i64 (n : Int))).run P w = .ok (n : Int) w := rfl
   show ((do pure (Next.value (← Instr.makeSlice t (iV n) (iV n)))) : Sem Next).run P w = _
   rw [Sem.run_bind]
   unfold Instr.makeSlice
   rw [Sem.run_bind, al hu]
   simp only [Result.andThen_ok]
   rw [Sem.run_bind, hA, Result.andThen_ok, Sem.run_bind, hA, Result.andThen_ok, Sem.run_bind, hti, Result.andThen_ok]
   simp only [w1]
   rw [if_neg hcnd]
   by_cases h0 : n * 1 = 0
   ·have hm0 : n = 0 := by omega
    subst hm0
    simp only [Sem.run_bind, run_askRoom, aA hs, Result.andThen_ok, Int.toNat_natCast, Nat.zero_mul, if_true, Sem.run_pure, show Array.range 0 = #[] from rfl, Array.map_empty, newRow, run_newObj, List.replicate]
   ·simp only [Sem.run_bind, run_askRoom, aA hs, Result.andThen_ok, Int.toNat_natCast, h0, if_false, hzr, Sem.run_pure, hzc', hrep, newRow, run_newObj]
 intro hc
 refine ⟨H, [], O, fun v H' O' => H' = H ∧ ∃ A, O' = A ∧ OSl elem 1 v (List.replicate n [z]) A, Ghost.refl _ _, ?_, ?_⟩
 ·intro w F hm
  have hp := hm.push (.cells (List.replicate n z).toArray elem (0, 0))
  refine ⟨_, _, H, [(w.heap.size, .cells (List.replicate n z).toArray elem (0, 0))], hrun w, ⟨rfl, _, rfl, .inr ⟨w.heap.size, List.replicate n z, n, ?_, rfl, ?_, ?_, ?_, ?_, ?_, ?_⟩⟩, Heap.le_refl H, ?_⟩
  ·rw [List.length_replicate]
  ·rw [List.length_replicate, Nat.mul_one]
  ·rw [List.length_replicate]; exact Nat.le_refl _
  ·omega
  ·intro row hr; rw [List.eq_of_mem_replicate hr]; rfl
  ·intro row hr; rw [List.eq_of_mem_replicate hr]; exact ⟨hzo, trivial⟩
  ·rw [List.length_replicate, Nat.mul_one, List.take_of_length_le (by simp)]
   exact oz z n
  ·simpa using hp
 ·rintro v H' O' ⟨rfl, A, rfl, h⟩ _
  exact ⟨[v], [], O', rfl, ⟨h.one, trivial⟩, trivial, rfl, hk v O' h⟩
theorem tW {P : Program} {t t2 ty e : TypeId} {i : TypeInfo} (ht : P.underlying t = some (.slice e)) (hi : P.info? e = some i) {H : Heap} {O O2 : Go.Sx.Own} {r off dLen dCap m k : Nat} {cs src : List Value} {x : Value} {K : List Value → List (List Value) → Heap → Go.Sx.Own → Prop}
  (hO : O.Perm ([(r, .cells cs.toArray e (0, 0))] ++ O2)) (hl : ∀ w' : World, (Builtin.lenOf x).run P w' = .ok m w') (hk : k = min m dLen)
  (hcells : ∀ w F, Models w H ([(r, .cells cs.toArray e (0, 0))] ++ F) → (Builtin.firstCells i.size k x).run P w = .ok src.toArray w) (hfit : off + src.length ≤ cs.length) (h1 : ∀ v ∈ src, v.oneCell' = true)
  (hK : K [iV (k : Int)] [] H ([(r, .cells (cs.take off ++ src ++ cs.drop (off + src.length)).toArray e (0, 0))] ++ O2)) :
  cg (fun H1 O1 R => bp P ((PrimOp.bi .copy #[t, t2] ty).sem [.slice (some ⟨r, off, none⟩) dLen dCap, x]) H1 O1 R) false [] [] .one K H O := by
 refine Am (r := r) (cs := cs) (e := e) (O2 := O2) (cs' := cs.take off ++ src ++ cs.drop (off + src.length)) hO (v := iV (k : Int)) (fun w F hm => ?_) rfl ⟨rfl, trivial⟩ hK
 have hrow := (hm.own (r, .cells cs.toArray e (0, 0)) (by simp)).1
 have := uv (P := P) (t := t) (t2 := t2) (ty := ty) ht hi (w := w) (off := off) (dLen := dLen) (dCap := dCap) hrow hl hk (hcells w F hm) hfit h1
 simp only [PrimOp.sem, builtin]
 rw [Sem.run_bind, this]
 rfl
theorem yJ {P : Program} {w : World} {H : Heap} {r : Nat} {cs : List Value} {e : TypeId} {F : Go.Sx.Own} (hm : Models w H ([(r, .cells cs.toArray e (0, 0))] ++ F)) {size k off n cap : Nat} (hfit : off + k * size ≤ cs.length) :
  (Builtin.firstCells size k (.slice (some ⟨r, off, none⟩) n cap)).run P w = .ok ((cs.drop off).take (k * size)).toArray w := by
 refine run_firstCells_some w size k ⟨r, off, none⟩ n cap _ (by rw [List.length_take, List.length_drop]; omega) fun j u hj => ?_
 rw [bm]
 rw [List.getElem?_take] at hj
 split at hj
 ·rw [List.getElem?_drop] at hj
  exact zN hm hj
 ·cases hj
theorem yK {P : Program} {w : World} {H : Heap} {O : Go.Sx.Own} (hm : Models w H O) {r : Nat} {cs : List Value} {e : TypeId} (hr : H r = some (.cells cs.toArray e (0, 0))) {size k n cap : Nat} (hfit : k * size ≤ cs.length) :
  (Builtin.firstCells size k (.slice (some ⟨r, 0, none⟩) n cap)).run P w = .ok (cs.take (k * size)).toArray w := by
 refine run_firstCells_some w size k ⟨r, 0, none⟩ n cap _ (by rw [List.length_take]; omega) fun j u hj => ?_
 rw [bm, Nat.zero_add]
 rw [List.getElem?_take] at hj
 split at hj
 ·have := hm.pers r _ hr
  simp [World.cell?, this, hj]
 ·cases hj
end Go.Sx
namespace Go.Sx
open Go
structure Cd where
 kind : Int
 tg : List Int
 tr : List Nat
def EffsS (H : Heap) (v : Value) (tg : List Int) : Prop := ∃ rows, Sl H 5 v rows ∧ rows.length = tg.length ∧ ∀ (i : Nat) (r : List Value) (t : Int), rows[i]? = some r → tg[i]? = some t → g r 1 = iV t
def TrigR (H : Heap) (r : List Value) (n : Nat) : Prop := ∃ erows, Sl H 5 (g r 1) erows ∧ erows.length = n
def TrigsS (H : Heap) (v : Value) (tr : List Nat) : Prop := ∃ rows, Sl H 2 v rows ∧ rows.length = tr.length ∧ ∀ (i : Nat) (r : List Value) (n : Nat), rows[i]? = some r → tr[i]? = some n → TrigR H r n
structure CdR (H : Heap) (r : List Value) (c : Cd) : Prop where
 kind : g r 1 = iV c.kind
 eff : EffsS H (g r 11) c.tg
 trig : TrigsS H (g r 12) c.tr
def CardsS (H : Heap) (v : Value) (cs : List Cd) : Prop := ∃ rows, Sl H 14 v rows ∧ rows.length = cs.length ∧ ∀ (i : Nat) (r : List Value) (c : Cd), rows[i]? = some r → cs[i]? = some c → CdR H r c
theorem EffsS.le {H H' : Heap} {v : Value} {l : List Int} (h : EffsS H v l) (hl : Heap.le H H') : EffsS H' v l := let ⟨rows, h1, h2, h3⟩ := h; ⟨rows, h1.le hl, h2, h3⟩
theorem TrigR.le {H H' : Heap} {r : List Value} {n : Nat} (h : TrigR H r n) (hl : Heap.le H H') : TrigR H' r n := let ⟨rows, h1, h2⟩ := h; ⟨rows, h1.le hl, h2⟩
theorem TrigsS.le {H H' : Heap} {v : Value} {l : List Nat} (h : TrigsS H v l) (hl : Heap.le H H') : TrigsS H' v l := let ⟨rows, h1, h2, h3⟩ := h; ⟨rows, h1.le hl, h2, fun i r n a b => (h3 i r n a b).le hl⟩
theorem CdR.le {H H' : Heap} {r : List Value} {c : Cd} (h : CdR H r c) (hl : Heap.le H H') : CdR H' r c := ⟨h.kind, h.eff.le hl, h.trig.le hl⟩
theorem CardsS.le {H H' : Heap} {v : Value} {cs : List Cd} (h : CardsS H v cs) (hl : Heap.le H H') : CardsS H' v cs := let ⟨rows, h1, h2, h3⟩ := h; ⟨rows, h1.le hl, h2, fun i r c a b => (h3 i r c a b).le hl⟩
theorem CardsS.one {H : Heap} {v : Value} {cs : List Cd} (h : CardsS H v cs) : v.oneCell' = true := let ⟨_, h1, _⟩ := h; h1.one
theorem CardsS.len {H : Heap} {v : Value} {cs : List Cd} (h : CardsS H v cs) : ah .len [v] = some (iV cs.length) := by
 obtain ⟨rows, h1, h2, _⟩ := h
 have := h1.len; rwa [h2] at this
theorem EffsS.one {H : Heap} {v : Value} {l : List Int} (h : EffsS H v l) : v.oneCell' = true := let ⟨_, h1, _⟩ := h; h1.one
theorem EffsS.len {H : Heap} {v : Value} {l : List Int} (h : EffsS H v l) : ah .len [v] = some (iV l.length) := by
 obtain ⟨rows, h1, h2, _⟩ := h
 have := h1.len; rwa [h2] at this
theorem TrigsS.one {H : Heap} {v : Value} {l : List Nat} (h : TrigsS H v l) : v.oneCell' = true := let ⟨_, h1, _⟩ := h; h1.one
theorem TrigsS.len {H : Heap} {v : Value} {l : List Nat} (h : TrigsS H v l) : ah .len [v] = some (iV l.length) := by
 obtain ⟨rows, h1, h2, _⟩ := h
 have := h1.len; rwa [h2] at this
theorem EffsS.nil (H : Heap) : EffsS H (.slice none 0 0) [] := ⟨[], Sl.nil H 5, rfl, fun i r t h => by simp at h⟩
theorem TrigsS.nil (H : Heap) : TrigsS H (.slice none 0 0) [] := ⟨[], Sl.nil H 2, rfl, fun i r t h => by simp at h⟩
theorem Models.grown {w : World} {H : Heap} {O : Go.Sx.Own} (h : Models w H O) (os : Array Obj) : Models (Sort.grow w os) H O := by
 have keep : ∀ b (x : Obj), w.heap[b]? = some x → (w.heap ++ os)[b]? = some x := fun b x hb => by
  have hlt : b < w.heap.size := by
   rcases Nat.lt_or_ge b w.heap.size with h | h
   ·exact h
   ·rw [Array.getElem?_eq_none h] at hb; cases hb
  rw [Array.getElem?_append_left hlt]; exact hb
 exact ⟨fun b x hb => keep b x (h.pers b x hb), fun p hp => ⟨keep _ _ (h.own p hp).1, (h.own p hp).2⟩, h.nodup, h.env⟩
def tgs (l : List Int) : List Tg := l.map fun n => ⟨n, 0⟩
structure Eff where
 (code target n m colour : Int)
deriving DecidableEq
def Eff.row (e : Eff) : List Value := [iV e.code, iV e.target, iV e.n, iV e.m, iV e.colour]
def bS (l : List Eff) : List (List Value) := l.map Eff.row
theorem iJ (l : List Eff) : (bS l).length = l.length := by simp [bS]
theorem fU {l : List Eff} {i : Nat} (h : i < l.length) : (bS l)[i]? = some l[i].row := by simp [bS, h]
theorem ij (e : Eff) : Ones e.row := ⟨rfl, rfl, rfl, rfl, rfl, trivial⟩
structure CdX where
 kind : Int
 effs : List Eff
 trs : List (List Eff)
def CdX.base (c : CdX) : Cd := ⟨c.kind, c.effs.map (·.target), c.trs.map List.length⟩
def TrsX (H : Heap) (v : Value) (trs : List (List Eff)) : Prop := ∃ rows, Sl H 2 v rows ∧ rows.length = trs.length ∧ ∀ (i : Nat) (r : List Value) (l : List Eff), rows[i]? = some r → trs[i]? = some l → Sl H 5 (g r 1) (bS l)
structure CdRX (H : Heap) (r : List Value) (c : CdX) : Prop where
 kind : g r 1 = iV c.kind
 eff : Sl H 5 (g r 11) (bS c.effs)
 trig : TrsX H (g r 12) c.trs
def CardsX (H : Heap) (v : Value) (cs : List CdX) : Prop := ∃ rows, Sl H 14 v rows ∧ rows.length = cs.length ∧ ∀ (i : Nat) (r : List Value) (c : CdX), rows[i]? = some r → cs[i]? = some c → CdRX H r c
theorem TrsX.le {H H' : Heap} {v : Value} {l : List (List Eff)} (h : TrsX H v l) (hl : Heap.le H H') : TrsX H' v l := let ⟨rows, h1, h2, h3⟩ := h; ⟨rows, h1.le hl, h2, fun i r n a b => (h3 i r n a b).le hl⟩
theorem CdRX.le {H H' : Heap} {r : List Value} {c : CdX} (h : CdRX H r c) (hl : Heap.le H H') : CdRX H' r c := ⟨h.kind, h.eff.le hl, h.trig.le hl⟩
theorem CardsX.le {H H' : Heap} {v : Value} {cs : List CdX} (h : CardsX H v cs) (hl : Heap.le H H') : CardsX H' v cs := let ⟨rows, h1, h2, h3⟩ := h; ⟨rows, h1.le hl, h2, fun i r c a b => (h3 i r c a b).le hl⟩
theorem yN {H : Heap} {v : Value} {l : List Eff} (h : Sl H 5 v (bS l)) : EffsS H v (l.map (·.target)) := by
 refine ⟨_, h, by simp [bS], fun i r t a b => ?_⟩
 have hi : i < l.length := by
  have := (List.getElem?_eq_some_iff.1 a).1
  simpa [bS] using this
 rw [fU hi] at a
 rw [List.getElem?_map, List.getElem?_eq_getElem hi] at b
 obtain rfl := Option.some.inj a
 obtain rfl := Option.some.inj b
 rfl
theorem CdRX.base {H : Heap} {r : List Value} {c : CdX} (h : CdRX H r c) : CdR H r c.base := by
 refine ⟨h.kind, yN h.eff, ?_⟩
 obtain ⟨rows, h1, h2, h3⟩ := h.trig
 refine ⟨rows, h1, by simp [CdX.base, h2], fun i r n a b => ?_⟩
 have hi : i < c.trs.length := by
  have := (List.getElem?_eq_some_iff.1 a).1
  omega
 simp only [CdX.base] at b
 rw [List.getElem?_map, List.getElem?_eq_getElem hi] at b
 obtain rfl := Option.some.inj b
 exact ⟨_, h3 i r _ a (List.getElem?_eq_getElem hi), iJ _⟩
theorem CardsX.base {H : Heap} {v : Value} {cs : List CdX} (h : CardsX H v cs) : CardsS H v (cs.map CdX.base) := by
 obtain ⟨rows, h1, h2, h3⟩ := h
 refine ⟨rows, h1, by simp [h2], fun i r c a b => ?_⟩
 have hi : i < cs.length := by
  have := (List.getElem?_eq_some_iff.1 a).1
  omega
 rw [List.getElem?_map, List.getElem?_eq_getElem hi] at b
 obtain rfl := Option.some.inj b
 exact (h3 i r _ a (List.getElem?_eq_getElem hi)).base
theorem CardsX.one {H : Heap} {v : Value} {cs : List CdX} (h : CardsX H v cs) : v.oneCell' = true := let ⟨_, h1, _⟩ := h; h1.one
theorem CardsX.len {H : Heap} {v : Value} {cs : List CdX} (h : CardsX H v cs) : ah .len [v] = some (iV cs.length) := by
 obtain ⟨rows, h1, h2, _⟩ := h
 have := h1.len; rwa [h2] at this
end Go.Sx
namespace Go.Sx
open Go
set_option maxRecDepth 100000
set_option maxHeartbeats 1000000
end Go.Sx
namespace Go.Proofs.YtamgiojcbdbokaaGreatDoor
open Go Go.Sx
set_option maxRecDepth 100000
set_option maxHeartbeats 1000000
theorem Sl.block1 {H : Heap} {r size : Nat} {row : List Value} {T : TypeId} (h : H r = some (.cells row.toArray T (0, 0))) (hl : row.length = size) (ho : Ones row) : Sl H size (.slice (some ⟨r, 0, none⟩) 1 1) [row] := by
 refine ⟨_, _, rfl, Nat.le_refl _, by simp, fun _ => ⟨_, rfl, ?_⟩⟩
 intro i x hx
 cases i with
 | succ i => simp at hx
 | zero =>
  simp at hx
  subst hx
  refine ⟨?_, hl, ho⟩
  rw [bm, Nat.zero_mul, Nat.add_zero, fS h (by omega)]
  simp [← hl]
theorem DD {b : Bool} (h : (!b) = true) : b = false := by simpa using h
theorem Dm {b : Bool} (h : (!b) = false) : b = true := by simpa using h
abbrev IY (n : Nat) (R : Nat → Value → Heap → Go.Sx.Own → Prop) : List Value → Heap → Go.Sx.Own → Prop := fun vs H O => ∃ (i : Nat) (x : Value), vs = [x, iV i] ∧ i ≤ n ∧ R i x H O
abbrev MY (n : Nat) : List Value → Heap → Go.Sx.Own → Nat := fun vs _ _ => match g vs 1 with | .int _ k => n - k.toNat | _ => 0
theorem fV {P : Program} {lab key : Nat} {x0 : Value} {body : (List Value → Heap → Go.Sx.Own → Prop) → List Value → Tree} {H : Heap} {O : Go.Sx.Own} {Q : Value → Heap → Go.Sx.Own → Prop} (n : Nat) (R : Nat → Value → Heap → Go.Sx.Own → Prop)
  (h0 : R 0 x0 H O) (step : ∀ i x H' O', i ≤ n → Heap.le H H' → R i x H' O' → (body (A9 (IY n R) (MY n) (n - i)) [x, iV i]).den P Q H' O') :
  (Tree.loop lab key [x0, .int .i64 0] body).den P Q H O := by
 refine gR (IY n R) (MY n) ⟨0, x0, rfl, Nat.zero_le _, h0⟩ ?_
 rintro vs H' O' _ _ hle ⟨i, x, rfl, hi, hr⟩
 exact step i x H' O' hi hle hr
theorem bO {P : Program} {lab n i : Nat} {R : Nat → Value → Heap → Go.Sx.Own → Prop} {x : Value} {eqs : List (List Value × List Value)} {H : Heap} {O : Go.Sx.Own} {Q : Value → Heap → Go.Sx.Own → Prop} (he : Eqs eqs) (hi : i < n) (hr : R (i + 1) x H O) :
  (Tree.cont lab (A9 (IY n R) (MY n) (n - i)) [x, iV ((i + 1 : Nat) : Int)] eqs).den P Q H O := by
 refine eL he ⟨i + 1, x, rfl, hi, hr⟩ ?_
 show n - ((i + 1 : Nat) : Int).toNat < n - i
 simp; omega
theorem fe {H : Heap} {v : Value} {l : List Eff} (h : Sl H 5 v (bS l)) : ah .len [v] = some (iV l.length) ∧ l.length < 2 ^ 63 := by
 have := h.len; rw [iJ] at this
 have hB := h.lenB; rw [iJ] at hB
 exact ⟨this, hB⟩
theorem mg : ∀ {a b : List Value}, Ones a → Ones b → Ones (a ++ b)
 | [], _, _, h => h
 | _ :: _, _, h, h' => ⟨h.1, mg h.2 h'⟩
theorem Dy (a : Addr) : bR (.pointer (some a)) 0 = .pointer (some a) := by simp [bR, Addr.add]
theorem sE {x y : Int} (h1 : -9223372036854775808 ≤ x + y) (h2 : x + y < 9223372036854775808) : ah (.bin .add .int) [iV x, iV y] = some (iV (x + y)) := by
 simp only [ah, b8, b7, if_true]
 rw [iQ (by omega) (by omega)]
def Dl (q : Int × Int) : Value := .tuple #[iV q.1, iV q.2]
end Go.Proofs.YtamgiojcbdbokaaGreatDoor
namespace Go.Sx
open Go
set_option maxRecDepth 100000
set_option maxHeartbeats 1000000
abbrev wm := List (List UInt8 × Value)
def gh (m : wm) (k : List UInt8) : Option Value := (m.find? fun p => k == p.1).map (·.2)
def E9 (es : Array MapEntry) (m : wm) : Prop := es.toList.map (fun e => (e.key, e.val)) = m.map fun p => (Str p.1, p.2)
def OMapS (v : Value) (m : wm) (O : Go.Sx.Own) : Prop := ∃ r es clock, v = .map (some r) ∧ O = [(r, .map es clock)] ∧ E9 es m
def FMapS (H : Heap) (v : Value) (m : wm) : Prop := ∃ r es clock, v = .map (some r) ∧ H r = some (.map es clock) ∧ E9 es m
theorem OMapS.one {v : Value} {m : wm} {O : Go.Sx.Own} (h : OMapS v m O) : v.oneCell' = true := by obtain ⟨r, es, c, rfl, _⟩ := h; rfl
theorem FMapS.one {H : Heap} {v : Value} {m : wm} (h : FMapS H v m) : v.oneCell' = true := by obtain ⟨r, es, c, rfl, _⟩ := h; rfl
theorem FMapS.le {H H' : Heap} {v : Value} {m : wm} (h : FMapS H v m) (hl : Heap.le H H') : FMapS H' v m := let ⟨r, es, c, h1, h2, h3⟩ := h; ⟨r, es, c, h1, hl.1 _ _ h2, h3⟩
theorem OMapS.freeze {v : Value} {m : wm} {O X : Go.Sx.Own} {H : Heap} (h : OMapS v m O) (hc : Cons H (O ++ X)) : ∃ H', Ghost H (O ++ X) H' X ∧ FMapS H' v m ∧ Heap.le H H' := by
 obtain ⟨r, es, c, rfl, rfl, he⟩ := h
 have hn : H r = none := hc.none (p := (r, .map es c)) (by simp)
 exact ⟨H.ins r (.map es c), Ghost.freeze H r _ X, ⟨r, es, c, rfl, by simp only [Heap.ins, hn, if_true], he⟩, Heap.le_ins H r _⟩
theorem Bg (a b : List UInt8) : ((⟨a.toArray⟩ : ByteArray) == ⟨b.toArray⟩) = (a == b) := by
 show (a.toArray == b.toArray) = _
 rw [Bool.eq_iff_iff, beq_iff_eq, beq_iff_eq]
 exact ⟨fun h => by simpa using congrArg Array.toList h, fun h => by rw [h]⟩
theorem lI {x : List UInt8} : ∀ {es : List MapEntry} {m : wm} {i : Nat}, es.map (fun e => (e.key, e.val)) = m.map (fun p => (Str p.1, p.2)) →
  (Instr.findNow .string (Str x) es i = some none ∧ gh m x = none) ∨ ∃ j v, Instr.findNow .string (Str x) es i = some (some (i + j, v)) ∧ gh m x = some v
 | [], [], i, _ => .inl ⟨rfl, rfl⟩
 | [], _ :: _, _, h => by simp at h
 | _ :: _, [], _, h => by simp at h
 | e :: es, p :: m, i, h => by
  simp only [List.map_cons, List.cons.injEq, Prod.mk.injEq] at h
  obtain ⟨⟨h1, h2⟩, h3⟩ := h
  have hs : Instr.sameNow .string (Str x) e.key = some (x == p.1) := by
   rw [h1]
   show some ((⟨x.toArray⟩ : ByteArray) == ⟨p.1.toArray⟩) = _
   rw [Bg]
  simp only [Instr.findNow, hs]
  by_cases hx : x = p.1
  ·right
   refine ⟨0, p.2, ?_, ?_⟩
   ·simp [hx, h2]
   ·simp [gh, hx]
  ·have hb : (x == p.1) = false := by simpa using hx
   rw [hb]
   rcases lI (i := i + 1) h3 with ⟨a, b⟩ | ⟨j, v, a, b⟩
   ·left
    refine ⟨by simpa using a, ?_⟩
    simp only [gh, List.find?_cons, hb]; exact b
   ·right
    refine ⟨j + 1, v, ?_, ?_⟩
    ·simp only; rw [a]; congr 3; omega
    ·simp only [gh, List.find?_cons, hb]; exact b
theorem nH {P : Program} {kt : TypeId} (hk : P.underlying kt = some .string) (em : Bool) (v : Value) (w : World) : (Instr.checkKey em 10000 kt v).run P w = .ok () w := by
 show (Instr.checkKey em (9999 + 1) kt v).run P w = _
 unfold Instr.checkKey
 rw [Sem.run_bind, al hk]
 rfl
theorem oL {P : Program} {t kt et : TypeId} (ht : P.underlying t = some (.map kt et)) (hk : P.underlying kt = some .string) {z : Value} (hz : ∀ w, (zeroValue et).run P w = .ok z w)
  {r : Nat} {es : Array MapEntry} {clock : Nat} {m : wm} (he : E9 es m) {w : World} (hrow : w.heap[r]? = some (.map es clock)) (x : List UInt8) :
  ((PrimOp.lookup t true).sem [.map (some r), Str x]).run P w = .ok (.value (.tuple #[(gh m x).getD z, .bool (gh m x).isSome])) w := by
 have hg : (getObj r).run P w = .ok (.map es clock) w := by simp [getObj, Sem.run, hrow]
 simp only [PrimOp.sem, Instr.lookup, Sem.run_bind, al ht, Result.andThen_ok, hg, Sem.run_pure, nH hk, Instr.findKey, al hk]
 rcases lI (x := x) (i := 0) he with ⟨a, b⟩ | ⟨j, u, a, b⟩
 ·rw [a, b]
  simp only [Sem.run_pure, Result.andThen_ok, hz, Option.getD_none, Option.isSome_none, Sem.run_bind]
  rfl
 ·rw [a, b]
  simp only [Sem.run_pure, Result.andThen_ok, Option.getD_some, Option.isSome_some, Sem.run_bind]
  rfl
theorem tR {P : Program} {t kt et : TypeId} (ht : P.underlying t = some (.map kt et)) (hk : P.underlying kt = some .string) {z : Value} (hz : ∀ w, (zeroValue et).run P w = .ok z w)
  {v : Value} {m : wm} {O1 O : Go.Sx.Own} (h : OMapS v m O1) (hO : ∀ p ∈ O1, p ∈ O) {H : Heap} (x : List UInt8) {K : List Value → List (List Value) → Heap → Go.Sx.Own → Prop}
  (h1 : ((gh m x).getD z).oneCell' = true) (hK : K [(gh m x).getD z, .bool (gh m x).isSome] [] H O) :
  cg (fun H1 O1 R => bp P ((PrimOp.lookup t true).sem [v, Str x]) H1 O1 R) false [] [] (.tup [none, none]) K H O := by
 obtain ⟨r, es, c, rfl, rfl, he⟩ := h
 exact rH (fun w F hm => oL ht hk hz he (hm.own (r, .map es c) (List.mem_append_left _ (hO _ (by simp)))).1 x) rfl ⟨h1, rfl, trivial⟩ hK
theorem tU {P : Program} {t kt et : TypeId} (ht : P.underlying t = some (.map kt et)) (hk : P.underlying kt = some .string) {z : Value} (hz : ∀ w, (zeroValue et).run P w = .ok z w)
  {v : Value} {m : wm} {H : Heap} {O : Go.Sx.Own} (h : FMapS H v m) (x : List UInt8) {K : List Value → List (List Value) → Heap → Go.Sx.Own → Prop}
  (h1 : ((gh m x).getD z).oneCell' = true) (hK : K [(gh m x).getD z, .bool (gh m x).isSome] [] H O) :
  cg (fun H1 O1 R => bp P ((PrimOp.lookup t true).sem [v, Str x]) H1 O1 R) false [] [] (.tup [none, none]) K H O := by
 obtain ⟨r, es, c, rfl, hr, he⟩ := h
 exact rH (fun w F hm => oL ht hk hz he (hm.pers _ _ hr) x) rfl ⟨h1, rfl, trivial⟩ hK
theorem tO {P : Program} {t kt et : TypeId} (ht : P.underlying t = some (.map kt et)) (hk : P.underlying kt = some .string) {v : Value} {m : wm} {O O1 O2 : Go.Sx.Own} (h : OMapS v m O1) (hO : O.Perm (O1 ++ O2)) {H : Heap} (x : List UInt8) (u : Value) (hx : gh m x = none)
  {K : List Value → List (List Value) → Heap → Go.Sx.Own → Prop} (hK : ∀ r O1', OMapS v (m ++ [(x, u)]) O1' → r.oneCell' = true → K [r] [] H (O1' ++ O2)) :
  cg (fun H1 O1 R => bp P ((PrimOp.mapUpdate t).sem [v, Str x, u]) H1 O1 R) false [] [] .one K H O := by
 intro _
 refine ⟨H, O1, O2, fun r H' O' => r = .bool false ∧ H' = H ∧ OMapS v (m ++ [(x, u)]) O', Ghost.perm hO, fun w F hm => ?_, ?_⟩
 ·obtain ⟨r, es, clock, rfl, rfl, he⟩ := h
  have hrow := (hm.own (r, .map es clock) (by simp)).1
  have hlt : r < w.heap.size := (Array.getElem?_eq_some_iff.1 hrow).1
  have hg : (getObj r).run P w = .ok (.map es clock) w := by simp [getObj, Sem.run, hrow]
  have hset : ∀ o, (setObj r o).run P w = .ok () { w with heap := w.heap.setIfInBounds r o } := fun o => by
   simp only [setObj, Sem.run, hrow]
  rcases lI (x := x) (i := 0) he with ⟨a, _⟩ | ⟨j, u', _, b⟩
  case inr => rw [hx] at b; cases b
  have hm0 : Models w H ((r, .map es clock) :: F) := by simpa using hm
  refine ⟨.bool false, { w with heap := w.heap.setIfInBounds r (.map (es.push { key := Str x, val := u, born := clock }) (clock + 1)) }, H, [(r, .map (es.push { key := Str x, val := u, born := clock }) (clock + 1))], ?_, ⟨rfl, rfl, r, _, _, rfl, rfl, ?_⟩, Heap.le_refl H, ?_⟩
  ·simp only [PrimOp.sem, Instr.mapUpdate, Sem.run_bind, al ht, Result.andThen_ok, hg, nH hk, Instr.findKey, al hk]
   rw [a]
   simp only [Sem.run_pure, Result.andThen_ok, hset, Sem.run_bind]
  ·have he : es.toList.map (fun e => (e.key, e.val)) = m.map fun p => (Str p.1, p.2) := he
   show (es.push _).toList.map _ = _
   simp [he]
  ·exact hm0.update (fun b hb => by simp [Ne.symm hb]) (by simp [hlt]) rfl
 ·rintro r H' O' ⟨rfl, rfl, ho⟩ _
  exact ⟨[.bool false], [], O', rfl, ⟨rfl, trivial⟩, trivial, rfl, hK _ O' ho rfl⟩
theorem w8 {P : Program} {t : TypeId} {H : Heap} {O : Go.Sx.Own} {K : List Value → List (List Value) → Heap → Go.Sx.Own → Prop} (hK : ∀ v O1, OMapS v [] O1 → K [v] [] H (O1 ++ O)) :
  cg (fun H1 O1 R => bp P ((PrimOp.makeMap t false).sem []) H1 O1 R) false [] [] .one K H O := by
 intro _
 refine ⟨H, [], O, fun v H' O' => H' = H ∧ OMapS v [] O', Ghost.refl _ _, fun w F hm => ?_, ?_⟩
 ·refine ⟨.map (some w.heap.size), { w with heap := w.heap.push (.map #[] 0) }, H, [(w.heap.size, .map #[] 0)], ?_, ⟨rfl, _, _, _, rfl, rfl, rfl⟩, Heap.le_refl H, ?_⟩
  ·simp only [PrimOp.sem, Instr.makeMap, Sem.run_bind, Sem.run_pure, Result.andThen_ok, run_newObj]
  ·simpa using Models.push (by simpa using hm) (.map #[] 0)
 ·rintro v H' O' ⟨rfl, ho⟩ _
  exact ⟨[v], [], O', rfl, ⟨ho.one, trivial⟩, trivial, rfl, hK v O' ho⟩
end Go.Sx
namespace Go.Proofs.YtamgiojcbdbokaaGreatDoor
open Go Go.Sx
set_option maxRecDepth 100000
set_option maxHeartbeats 1000000
structure CdF where
 nm : List UInt8
 (kind c0 c1 c2 c3 any makes pw tn ks : Int)
 effs : List Eff
 trs : List (Int × List Eff)
 rar : Int
def TrR (H : Heap) (r : List Value) (t : Int × List Eff) : Prop := ∃ s, r = [iV t.1, s] ∧ Sl H 5 s (bS t.2)
def TrsF (H : Heap) (v : Value) (trs : List (Int × List Eff)) : Prop := ∃ rows, Sl H 2 v rows ∧ rows.length = trs.length ∧ ∀ (i : Nat) (r : List Value) (t : Int × List Eff), rows[i]? = some r → trs[i]? = some t → TrR H r t
def my (c : CdF) (es ts : Value) : List Value := [Str c.nm, iV c.kind, iV c.c0, iV c.c1, iV c.c2, iV c.c3, iV c.any, iV c.makes, iV c.pw, iV c.tn, iV c.ks, es, ts, iV c.rar]
def CdRF (H : Heap) (r : List Value) (c : CdF) : Prop := ∃ es ts, r = my c es ts ∧ Sl H 5 es (bS c.effs) ∧ TrsF H ts c.trs
def RowsF (H : Heap) (rows : List (List Value)) (cs : List CdF) : Prop := rows.length = cs.length ∧ ∀ (i : Nat) (r : List Value) (c : CdF), rows[i]? = some r → cs[i]? = some c → CdRF H r c
def CardsF (H : Heap) (v : Value) (cs : List CdF) : Prop := ∃ rows, Sl H 14 v rows ∧ RowsF H rows cs
theorem TrsF.le {H H' : Heap} {v : Value} {l : List (Int × List Eff)} (h : TrsF H v l) (hl : Heap.le H H') : TrsF H' v l := let ⟨rows, h1, h2, h3⟩ := h; ⟨rows, h1.le hl, h2, fun i r t a b => let ⟨s, e, k⟩ := h3 i r t a b; ⟨s, e, k.le hl⟩⟩
theorem CdRF.le {H H' : Heap} {r : List Value} {c : CdF} (h : CdRF H r c) (hl : Heap.le H H') : CdRF H' r c := let ⟨es, ts, e, h1, h2⟩ := h; ⟨es, ts, e, h1.le hl, h2.le hl⟩
theorem RowsF.le {H H' : Heap} {rows : List (List Value)} {cs : List CdF} (h : RowsF H rows cs) (hl : Heap.le H H') : RowsF H' rows cs := ⟨h.1, fun i r c a b => (h.2 i r c a b).le hl⟩
theorem CardsF.le {H H' : Heap} {v : Value} {cs : List CdF} (h : CardsF H v cs) (hl : Heap.le H H') : CardsF H' v cs := let ⟨rows, h1, h2⟩ := h; ⟨rows, h1.le hl, h2.le hl⟩
theorem CardsF.one {H : Heap} {v : Value} {cs : List CdF} (h : CardsF H v cs) : v.oneCell' = true := let ⟨_, h1, _⟩ := h; h1.one
theorem CardsF.len {H : Heap} {v : Value} {cs : List CdF} (h : CardsF H v cs) : ah .len [v] = some (iV cs.length) := by
 obtain ⟨rows, h1, h2, _⟩ := h
 have := h1.len; rwa [h2] at this
theorem CardsF.lenB {H : Heap} {v : Value} {cs : List CdF} (h : CardsF H v cs) : cs.length < 2 ^ 63 := by
 obtain ⟨rows, h1, h2, _⟩ := h
 have := h1.lenB; rwa [h2] at this
theorem TrsF.len {H : Heap} {v : Value} {l : List (Int × List Eff)} (h : TrsF H v l) : ah .len [v] = some (iV l.length) ∧ v.oneCell' = true ∧ l.length < 2 ^ 63 := by
 obtain ⟨rows, h1, h2, _⟩ := h
 have := h1.len; rw [h2] at this
 have hB := h1.lenB; rw [h2] at hB
 exact ⟨this, h1.one, hB⟩
theorem kp {c : CdF} {es ts : Value} (h1 : es.oneCell' = true) (h2 : ts.oneCell' = true) : Ones (my c es ts) := ⟨rfl, rfl, rfl, rfl, rfl, rfl, rfl, rfl, rfl, rfl, rfl, h1, h2, rfl, trivial⟩
theorem CdRF.ones {H : Heap} {r : List Value} {c : CdF} (h : CdRF H r c) : Ones r := by
 obtain ⟨es, ts, rfl, h1, h2⟩ := h
 exact kp h1.one h2.len.2.1
theorem lM {H : Heap} (O : Go.Sx.Own) {v : Value} {cs : List CdF} (h : CardsF H v cs) {i : Nat} (hi : i < cs.length) :
  ∃ a r, ah (.idx 14) [v, iV i] = some (.pointer (some a)) ∧ Reads H O (.pointer (some a)) 14 r ∧ (∀ off m, off + m ≤ 14 → Reads H O (bR (.pointer (some a)) off) m ((r.drop off).take m)) ∧ r.length = 14 ∧ Ones r ∧ CdRF H r cs[i] := by
 obtain ⟨rows, h1, h2, h3⟩ := h
 have hlt : i < rows.length := by omega
 obtain ⟨a, k1, k2, k3, k4, k5⟩ := (h1.rsl O).idx .i64 i rows[i] (by simp [hlt])
 exact ⟨a, rows[i], k1, k2, k3, k4, k5, h3 i _ _ (List.getElem?_eq_getElem hlt) (List.getElem?_eq_getElem hi)⟩
theorem wh {H : Heap} {v : Value} {l : List (List Value)} (h : Sl H 5 v l) (hb : l.length ≤ 2 ^ 30) : Triple PP bC [v] H [] fun v' H' O' => OSl cC 5 v' l O' := by
 refine dj (vs := [v]) (by kernel_rfl) ⟨h.one, trivial⟩ ?_
 simp only [bB]
 obtain ⟨a, cap, rfl, h1, h2, h3⟩ := h
 have hev : ah (.bin .eql .slice) [.slice a l.length cap, .slice none 0 0] = some (.bool a.isNone) := by cases a <;> rfl
 refine aa _ hev (ai (fun hn => af ?_) (fun hn => fun r0 => ?_))
 ·have hl : l = [] := by
   by_cases hl : l = []
   ·exact hl
   ·obtain ⟨ad, rfl, _⟩ := h3 hl; cases hn
  subst hl
  exact OSl.nil cC 5
 ·refine cB (rows := []) (news := l) (O1 := []) (O2 := []) (e := cC) (size := 5) (bytes := 40) (by kernel_rfl) (List.Perm.refl _) (.inl ⟨⟨_, rfl⟩, rfl, rfl⟩) (fun Hf hl _ => Sl.le hl ⟨a, cap, rfl, h1, h2, h3⟩) (by simp; omega) (by simp; omega) ?_
  intro v' O1' H' _ ho
  refine af ?_
  rw [List.append_nil]
  exact ho
theorem Aw {H : Heap} {v : Value} {l : List (List Value)} (h : Sl H 2 v l) (hb : l.length ≤ 2 ^ 30) : Triple PP bu [v] H [] fun v' H' O' => OSl dC 2 v' l O' := by
 refine cT (vs := [v]) (by kernel_rfl) ⟨h.one, trivial⟩ ?_
 simp only [bo]
 obtain ⟨a, cap, rfl, h1, h2, h3⟩ := h
 have hev : ah (.bin .eql .slice) [.slice a l.length cap, .slice none 0 0] = some (.bool a.isNone) := by cases a <;> rfl
 refine aa _ hev (ai (fun hn => af ?_) (fun hn => fun r0 => ?_))
 ·have hl : l = [] := by
   by_cases hl : l = []
   ·exact hl
   ·obtain ⟨ad, rfl, _⟩ := h3 hl; cases hn
  subst hl
  exact OSl.nil dC 2
 ·refine cB (rows := []) (news := l) (O1 := []) (O2 := []) (e := dC) (size := 2) (bytes := 32) (by kernel_rfl) (List.Perm.refl _) (.inl ⟨⟨_, rfl⟩, rfl, rfl⟩) (fun Hf hl _ => Sl.le hl ⟨a, cap, rfl, h1, h2, h3⟩) (by simp; omega) (by simp; omega) ?_
  intro v' O1' H' _ ho
  refine af ?_
  rw [List.append_nil]
  exact ho
def OTrsF (v : Value) (trs : List (Int × List Eff)) (O : Go.Sx.Own) : Prop := ∃ rows A Ts, O.Perm (A ++ List.flatten Ts) ∧ OSl dC 2 v rows A ∧ rows.length = trs.length ∧ Ts.length = trs.length ∧
 ∀ (i : Nat) (r : List Value) (t : Int × List Eff) (T : Go.Sx.Own), rows[i]? = some r → trs[i]? = some t → Ts[i]? = some T → ∃ s, r = [iV t.1, s] ∧ OSl cC 5 s (bS t.2) T
theorem qI : ∀ (l : List (Int × List Eff)) (rows : List (List Value)) (Ts : List Go.Sx.Own) (H : Heap) (X : Go.Sx.Own), rows.length = l.length → Ts.length = l.length →
  (∀ (i : Nat) (r : List Value) (t : Int × List Eff) (T : Go.Sx.Own), rows[i]? = some r → l[i]? = some t → Ts[i]? = some T → ∃ s, r = [iV t.1, s] ∧ OSl cC 5 s (bS t.2) T) →
  Cons H (List.flatten Ts ++ X) → ∃ H', Ghost H (List.flatten Ts ++ X) H' X ∧ Heap.le H H' ∧ ∀ (i : Nat) (r : List Value) (t : Int × List Eff), rows[i]? = some r → l[i]? = some t → TrR H' r t
 | [], [], [], H, X, _, _, _, _ => ⟨H, Ghost.refl _ _, Heap.le_refl _, fun i r x h => by simp at h⟩
 | x :: l, r :: rows, T :: Ts, H, X, h1, h2, hs, hc => by
  obtain ⟨s, e, hT⟩ := hs 0 r x T rfl rfl rfl
  rw [List.flatten_cons, List.append_assoc] at hc
  obtain ⟨H1, g1, k1, l1⟩ := hT.freeze hc
  obtain ⟨H2, g2, l2, k2⟩ := qI l rows Ts H1 X (by simpa using h1) (by simpa using h2) (fun i r x T a b c => hs (i + 1) r x T (by simpa using a) (by simpa using b) (by simpa using c)) (hc.ghost g1)
  refine ⟨H2, ?_, Heap.le_trans l1 l2, fun i r' x' a b => ?_⟩
  ·rw [List.flatten_cons, List.append_assoc]; exact g1.trans g2
  ·cases i with
   | zero => simp at a b; subst a; subst b; exact ⟨s, e, k1.le l2⟩
   | succ i => exact k2 i r' x' (by simpa using a) (by simpa using b)
 | [], _ :: _, _, _, _, h, _, _, _ => by simp at h
 | _ :: _, [], _, _, _, h, _, _, _ => by simp at h
 | [], [], _ :: _, _, _, _, h, _, _ => by simp at h
 | _ :: _, _ :: _, [], _, _, _, h, _, _ => by simp at h
theorem OTrsF.freeze {v : Value} {l : List (Int × List Eff)} {O1 X : Go.Sx.Own} {H : Heap} (h : OTrsF v l O1) (hc : Cons H (O1 ++ X)) : ∃ H', Ghost H (O1 ++ X) H' X ∧ TrsF H' v l ∧ Heap.le H H' := by
 obtain ⟨rows, A, Ts, hp, h1, h2, h3, h4⟩ := h
 have hp' : (O1 ++ X).Perm (A ++ (List.flatten Ts ++ X)) := (hp.append_right X).trans (List.Perm.of_eq (List.append_assoc _ _ _))
 obtain ⟨H1, g1, k1, l1⟩ := h1.freeze (hc.perm hp')
 obtain ⟨H2, g2, l2, k2⟩ := qI l rows Ts H1 X h2 h3 h4 ((hc.perm hp').ghost g1)
 exact ⟨H2, (Ghost.perm hp').trans (g1.trans g2), ⟨rows, k1.le l2, h2, k2⟩, Heap.le_trans l1 l2⟩
def zW (c : CdF) : Prop := c.effs.length ≤ 1000 ∧ c.trs.length ≤ 1000 ∧ ∀ t ∈ c.trs, t.2.length ≤ 1000
theorem CL {H : Heap} {cells : List Value} {c : CdF} (h : CdRF H cells c) (hli : zW c) :
  Triple PP lO [.agg cells.toArray] H [] fun r _ O' => ∃ x y A B, r = .agg (my c x y).toArray ∧ OSl cC 5 x (bS c.effs) A ∧ OTrsF y c.trs B ∧ O'.Perm (A ++ B) := by
 obtain ⟨b1, b2, b3⟩ := hli
 obtain ⟨es, ts, rfl, he, ⟨trows, t1, t2, t3⟩⟩ := h
 refine rE (vs := my c es ts) (by kernel_rfl) (kp he.one t1.one) ?_
 simp only [qk]
 refine aj fun r0 => aj fun r1 => ?_
 refine ae (ae ?_)
 refine bn (wh he (by rw [iJ]; omega)) fun x H1 O1 hx l1 => ⟨[x], rfl, ⟨hx.one, trivial⟩, ?_⟩
 refine bn (Aw (t1.le l1) (by omega)) fun y H2 O2 hy l2 => ⟨[y], rfl, ⟨hy.one, trivial⟩, ?_⟩
 have ylen := hy.len
 rw [t2] at ylen
 refine ae (ae (ae ?_))
 refine aa _ ylen ?_
 refine aL c.trs.length (fun i H' O' => Heap.le H2 H' ∧ ∃ rows' A Ts, O'.Perm (A ++ (List.flatten Ts ++ O1)) ∧ OSl dC 2 y rows' A ∧ rows'.length = c.trs.length ∧ Ts.length = i ∧
  (∀ (j : Nat) (r : List Value) (t : Int × List Eff) (T : Go.Sx.Own), rows'[j]? = some r → c.trs[j]? = some t → Ts[j]? = some T → ∃ s, r = [iV t.1, s] ∧ OSl cC 5 s (bS t.2) T) ∧ ∀ j, i ≤ j → rows'[j]? = trows[j]?)
  ⟨Heap.le_refl _, trows, O2, [], by simp, hy, t2, rfl, fun j r l T _ _ h => by simp at h, fun _ _ => rfl⟩ ?_
 rintro i H' O' hi - ⟨hle, rows', A, Ts, hp, hA, hrl, htl, hspec, hrest⟩
 refine aa _ (aF _ _) (ai (fun hb => ?_) (fun hb => ?_))
 ·have hlt : i < c.trs.length := by simpa using hb
  have hri : rows'[i]? = some trows[i] := by rw [hrest i (Nat.le_refl _)]; exact List.getElem?_eq_getElem (by omega)
  obtain ⟨s1, er, k1⟩ := t3 i trows[i] c.trs[i] (List.getElem?_eq_getElem (by omega)) (List.getElem?_eq_getElem hlt)
  have hb3 := b3 _ (List.getElem_mem hlt)
  obtain ⟨a, i1, i2, i3, i4⟩ := hA.idx (fun p h => hp.mem_iff.2 (List.mem_append_left _ h)) H' (k := .i64) hri
  obtain ⟨w1, w2⟩ := hA.rows_ok hri
  rw [er] at i3 w1 w2
  refine aa _ i1 (ao i3 w1 w2 (aj fun r2 => ?_))
  refine ae (ae (ae ?_))
  refine bn (wh (k1.le (Heap.le_trans l1 (Heap.le_trans l2 hle))) (by rw [iJ]; omega)) fun z H3 T hz l3 => ⟨[z], rfl, ⟨hz.one, trivial⟩, ?_⟩
  have hp2 : (T ++ O').Perm (A ++ (T ++ (List.flatten Ts ++ O1))) := (hp.append_left T).trans (List.perm_append_comm_assoc _ _ _)
  obtain ⟨a2, j1, j2⟩ := hA.store hp2 (k := .i64) hri
  obtain ⟨A', hst, hA'⟩ := j2 1 [z] (by simp) ⟨hz.one, trivial⟩
  have hsp : bQ trows[i] 1 [z] = [iV c.trs[i].1, z] := by rw [er]; rfl
  rw [hsp] at hA'
  refine aa _ j1 ?_
  refine au rfl (au rfl ?_)
  refine ⟨_, hst, ?_⟩
  refine aa _ (aD (by omega)) (az (by simp [Eqs]) hlt ⟨Heap.le_trans hle l3, _, A', Ts ++ [T], ?_, hA', by simp [hrl], by simp [htl], ?_, ?_⟩)
  ·refine List.Perm.append_left A' ?_
   rw [List.flatten_append, ← List.append_assoc]
   refine List.Perm.append_right O1 ?_
   simpa using List.perm_append_comm
  ·intro j r x T' h1 h2 h3
   by_cases hj : j = i
   ·subst hj
    rw [List.getElem?_set_self (by omega)] at h1
    rw [List.getElem?_eq_getElem hlt] at h2
    rw [List.getElem?_append_right (by omega), htl, Nat.sub_self] at h3
    simp only [Option.some.injEq, List.getElem?_cons_zero] at h1 h2 h3
    subst h1; subst h2; subst h3
    exact ⟨z, rfl, hz⟩
   ·rw [List.getElem?_set_ne (by omega)] at h1
    have hjlt : j < Ts.length := by
     have := (List.getElem?_eq_some_iff.1 h3).1
     simp at this; omega
    rw [List.getElem?_append_left hjlt] at h3
    exact hspec j r x T' h1 h2 h3
  ·intro j hj
   rw [List.getElem?_set_ne (by omega)]
   exact hrest j (by omega)
 ·have hie : i = c.trs.length := by
   have : ¬ ((i : Int) < (c.trs.length : Int)) := by simpa using hb
   omega
  subst hie
  refine ae (ae (ae ?_))
  refine af ⟨x, y, O1, A ++ List.flatten Ts, rfl, hx, ⟨rows', A, Ts, List.Perm.refl _, hA, hrl, htl, hspec⟩, ?_⟩
  refine hp.trans ?_
  rw [← List.append_assoc]
  exact List.perm_append_comm
def CpQ (c : CdF) (r : Value) (H' : Heap) (O' : Go.Sx.Own) : Prop := (∃ cells, r = .agg cells.toArray ∧ cells.length = 14 ∧ CdRF H' cells c) ∧ O' = []
theorem A6 {H : Heap} {cells : List Value} {c : CdF} (h : CdRF H cells c) (hli : zW c) : Triple PP lO [.agg cells.toArray] H [] (CpQ c) := by
 refine Triple.ghost (CL h hli) ?_
 rintro r H' O' _ hc ⟨x, y, A, B, rfl, hx, hy, hp⟩
 have hc := hc.perm hp
 obtain ⟨H1, g1, k1, l1⟩ := hx.freeze hc
 have hc := hc.ghost g1
 obtain ⟨H2, g2, k2, l2⟩ := hy.freeze (X := []) (by simpa using hc)
 exact ⟨H2, [], (Ghost.perm hp).trans (g1.trans (by simpa using g2)), ⟨my c x y, rfl, rfl, x, y, rfl, k1.le l2, k2⟩, rfl⟩
def gQ (cs : List CdF) : wm := cs.zipIdx.map fun p => (p.1.nm, iV (p.2 : Nat))
def PoolF (H : Heap) (p : Value) (cs : List CdF) : Prop := ∃ r cv mv T, p = .pointer (some ⟨r, 0, none⟩) ∧ H r = some (.cells #[cv, mv] T (0, 0)) ∧ CardsF H cv cs ∧ FMapS H mv (gQ cs) ∧ (cs.map (·.nm)).Nodup ∧ ∀ c ∈ cs, zW c
theorem PoolF.le {H H' : Heap} {p : Value} {cs : List CdF} (h : PoolF H p cs) (hl : Heap.le H H') : PoolF H' p cs := by
 obtain ⟨r, cv, mv, T, e, h1, h2, h3, h4, h5⟩ := h
 exact ⟨r, cv, mv, T, e, hl.1 _ _ h1, h2.le hl, h3.le hl, h4, h5⟩
theorem PoolF.one {H : Heap} {p : Value} {cs : List CdF} (h : PoolF H p cs) : p.oneCell' = true := by obtain ⟨r, cv, mv, T, rfl, _⟩ := h; rfl
theorem mU {H : Heap} (O : Go.Sx.Own) {r : Nat} {cv mv : Value} {T : TypeId} (h : H r = some (.cells #[cv, mv] T (0, 0))) : Reads H O (.pointer (some ⟨r, 0, none⟩)) 1 [cv] ∧ Reads H O (bR (.pointer (some ⟨r, 0, none⟩)) 1) 1 [mv] := by
 refine ⟨nt ?_, nt ?_⟩
 ·have := fS (r := r) (off := 0) (m := 1) (T := T) (cs := [cv, mv]) h (by simp)
  simpa using this
 ·have := fS (r := r) (off := 1) (m := 1) (T := T) (cs := [cv, mv]) h (by simp)
  simpa [bR, Addr.add] using this
theorem AZ {H : Heap} {O : Go.Sx.Own} {p : Value} {cs : List CdF} (h : PoolF H p cs) : RetO PP jC [p] H O (.bool false) := by
 obtain ⟨r, cv, mv, T, rfl, h1, h2, h3, _⟩ := h
 refine lW (vs := [.pointer (some ⟨r, 0, none⟩)]) (by kernel_rfl) ⟨rfl, trivial⟩ ?_
 simp only [jx]
 obtain ⟨_, q2⟩ := mU O h1
 refine aa (.bool false) rfl ?_
 refine au rfl (ab (au rfl (ab (ab ?_))))
 refine ⟨[mv], rfl, ⟨h3.one, trivial⟩, fun _ => q2, ?_⟩
 refine ab ?_
 obtain ⟨r', es, c, rfl, _⟩ := h3
 refine aa (.bool false) rfl ?_
 refine ab ?_
 exact aa _ (aw _ _) (af ⟨rfl, rfl⟩)
def EK : CdF := ⟨[], 0, 0, 0, 0, 0, 0, 0, 0, 0, 0, [], [], 0⟩
def inP (cs : List CdF) (i : Int) : Prop := 0 ≤ i ∧ i < (cs.length : Int)
instance (cs : List CdF) (i : Int) : Decidable (inP cs i) := by unfold inP; infer_instance
def eo (cs : List CdF) (i : Int) : CdF := if inP cs i then cs.getD i.toNat EK else EK
def iK (cs : List CdF) (i : Int) : Int := if inP cs i then 0 else 3
def Fa (c : CdF) (e : Int) (r : Value) (H' : Heap) (O' : Go.Sx.Own) : Prop := (∃ cells, r = .tuple #[.agg cells.toArray, iV e] ∧ cells.length = 14 ∧ CdRF H' cells c) ∧ O' = []
theorem oy {cells : List Value} {e : Value} (h : cells.length = 14) : (Shp.tup [some 14, none]).open (.tuple #[.agg cells.toArray, e]) = some (cells ++ [e]) := by
 match cells, h with
 | [_, _, _, _, _, _, _, _, _, _, _, _, _, _], _ => rfl
theorem Dw {cells : List Value} {e : Value} (h : cells.length = 14) : g (cells ++ [e]) 14 = e := by
 match cells, h with
 | [_, _, _, _, _, _, _, _, _, _, _, _, _, _], _ => rfl
theorem xO {cells : List Value} {e : Value} (h : cells.length = 14) {n : Nat} (hn : n < 14) : g (cells ++ [e]) n = g cells n := by
 rw [g, g, List.getD_eq_getElem?_getD, List.getD_eq_getElem?_getD, List.getElem?_append_left (by omega)]
theorem CdRF.nm {H : Heap} {r : List Value} {c : CdF} (h : CdRF H r c) : g r 0 = Str c.nm ∧ g r 1 = iV c.kind := by
 obtain ⟨es, ts, rfl, _⟩ := h
 exact ⟨rfl, rfl⟩
theorem su {H : Heap} {p : Value} {cs : List CdF} (h : PoolF H p cs) (i : Int) : Triple PP jE [p, iV i] H [] (Fa (eo cs i) (iK cs i)) := by
 refine lY (vs := [p, iV i]) (by kernel_rfl) ⟨h.one, rfl, trivial⟩ ?_
 simp only [jz]
 refine aj fun r0 => ?_
 refine ak (AZ h) rfl ⟨rfl, trivial⟩ fun H1 l1 => ai (fun hd => by cases hd) (fun _ => ?_)
 obtain ⟨r, cv, mv, T, rfl, h1, h2, h3, h4, h5⟩ := h.le l1
 obtain ⟨q1, _⟩ := mU [] h1
 refine aa _ (aF _ _) ?_
 refine au rfl (ab (au rfl (ab (ab ?_))))
 refine ⟨[cv], rfl, ⟨h2.one, trivial⟩, fun _ => q1, ?_⟩
 refine ab ?_
 refine aa _ h2.len ?_
 refine ab (ab ?_)
 refine aa _ (iI _ _) ?_
 refine ab ?_
 refine aa _ (aw _ _) (ai (fun hc => ?_) (fun hc => ?_))
 ·have hc : (decide (i < 0) || decide (i ≥ (cs.length : Int))) = true := hc
  have hn : ¬ inP cs i := by
   rw [Bool.or_eq_true, decide_eq_true_eq, decide_eq_true_eq] at hc
   rintro ⟨a, b⟩; omega
  rw [eo, iK, if_neg hn, if_neg hn]
  refine ae (ae ?_)
  exact af ⟨⟨my EK (.slice none 0 0) (.slice none 0 0), rfl, rfl, _, _, rfl, Sl.nil _ _, [], Sl.nil _ _, rfl, fun i r t a => by simp at a⟩, rfl⟩
 ·have hc : (decide (i < 0) || decide (i ≥ (cs.length : Int))) = false := hc
  rw [Bool.or_eq_false_iff, decide_eq_false_iff_not, decide_eq_false_iff_not] at hc
  have hin : inP cs i := ⟨by omega, by omega⟩
  have hlt : i.toNat < cs.length := by omega
  have ecast : ((i.toNat : Nat) : Int) = i := by omega
  have ec : eo cs i = cs[i.toNat] := by rw [eo, if_pos hin, List.getD_eq_getElem?_getD, List.getElem?_eq_getElem hlt]; rfl
  rw [ec, iK, if_pos hin]
  obtain ⟨a, row, k1, k2, _, k4, k5, k6⟩ := lM [] h2 hlt
  rw [ecast] at k1
  refine au rfl (au rfl ?_)
  refine ao q1 rfl ⟨h2.one, trivial⟩ ?_
  refine aa _ k1 (ao k2 k4 k5 ?_)
  have erow : (.agg #[g row 0, g row 1, g row 2, g row 3, g row 4, g row 5, g row 6, g row 7, g row 8, g row 9, g row 10, g row 11, g row 12, g row 13] : Value) = .agg row.toArray := by
   match row, k4 with
   | [_, _, _, _, _, _, _, _, _, _, _, _, _, _], _ => rfl
  rw [show (ag (G14 row 0) : Value) = .agg row.toArray from erow]
  refine bn (A6 k6 (h5 _ (List.getElem_mem hlt))) ?_
  rintro _ H2 _ ⟨⟨cells, rfl, c1, c2⟩, rfl⟩ l2
  refine ⟨cells, by simp [Shp.open, c1], c2.ones, ?_⟩
  have ecell : (.agg #[g cells 0, g cells 1, g cells 2, g cells 3, g cells 4, g cells 5, g cells 6, g cells 7, g cells 8, g cells 9, g cells 10, g cells 11, g cells 12, g cells 13] : Value) = .agg cells.toArray := by
   match cells, c1 with
   | [_, _, _, _, _, _, _, _, _, _, _, _, _, _], _ => rfl
  refine ae (ae ?_)
  refine af ⟨⟨cells, ?_, c1, c2⟩, rfl⟩
  rw [← ecell]
theorem A3 {H : Heap} {p : Value} {cs : List CdF} (h : PoolF H p cs) : RetO PP qo [p] H [] (.bool false) := by
 refine rB (vs := [p]) (by kernel_rfl) ⟨h.one, trivial⟩ ?_
 simp only [qh]
 refine bn (su h 0) ?_
 rintro _ H1 _ ⟨⟨cells, rfl, c1, c2⟩, rfl⟩ l1
 refine ⟨cells ++ [iV (iK cs 0)], oy c1, mg c2.ones ⟨rfl, trivial⟩, aj fun r0 => ?_⟩
 refine ae ?_
 refine aa (.bool (iK cs 0 == 1)) (by rw [Dw c1]; exact an _ _) ?_
 refine af ⟨?_, rfl⟩
 rw [iK]; split <;> rfl
structure Cp where
 (card n : Int)
deriving DecidableEq
def Cp.row (c : Cp) : List Value := [iV c.card, iV c.n]
abbrev ol (H : Heap) (v : Value) (l : List Cp) : Prop := Sl H 2 v (l.map Cp.row)
theorem lL {H : Heap} {v : Value} {l : List Cp} (h : ol H v l) : ah .len [v] = some (iV l.length) ∧ l.length < 2 ^ 63 := by
 have h1 := h.len
 have h2 := h.lenB
 rw [List.length_map] at h1 h2
 exact ⟨h1, h2⟩
theorem wU {H : Heap} (O : Go.Sx.Own) {v : Value} {l : List Cp} (h : ol H v l) {i : Nat} (hi : i < l.length) :
  ∃ a, ah (.idx 2) [v, iV i] = some (.pointer (some a)) ∧ Reads H O (.pointer (some a)) 2 l[i].row ∧ Reads H O (.pointer (some a)) 1 [iV l[i].card] ∧ Reads H O (bR (.pointer (some a)) 1) 1 [iV l[i].n] := by
 obtain ⟨a, k1, k2, k3, k4, k5⟩ := (h.rsl O).idx .i64 i l[i].row (by rw [List.getElem?_map, List.getElem?_eq_getElem hi]; rfl)
 refine ⟨a, k1, k2, ?_, k3 1 1 (by omega)⟩
 have := k3 0 1 (by omega)
 rw [Dy] at this
 exact this
def jt (cs : List CdF) (x : Cp) (before : Int) : Int := if iK cs x.card ≠ 0 then iK cs x.card else if ((decide (x.n < 1) || decide (x.n > 60)) || decide (x.card ≤ before)) = true then 2 else if ((eo cs x.card).kind != 1 && decide (x.n > 4)) = true then 7 else 0
theorem B6 {H : Heap} {p : Value} {cs : List CdF} (h : PoolF H p cs) (x : Cp) (before : Int) : RetO PP oc [p, .agg x.row.toArray, iV before] H [] (iV (jt cs x before)) := by
 refine qw (vs := p :: (x.row ++ [iV before])) (by kernel_rfl) ⟨h.one, rfl, rfl, rfl, trivial⟩ ?_
 simp only [nP]
 refine aj fun r0 => ?_
 refine ae ?_
 refine bn (su h x.card) ?_
 rintro _ H1 _ ⟨⟨cells, rfl, c1, c2⟩, rfl⟩ l1
 refine ⟨cells ++ [iV (iK cs x.card)], oy c1, mg c2.ones ⟨rfl, trivial⟩, aj fun r1 => ?_⟩
 have e14 : g (cells ++ [iV (iK cs x.card)]) 14 = iV (iK cs x.card) := Dw c1
 have e1 : g (cells ++ [iV (iK cs x.card)]) 1 = iV (eo cs x.card).kind := by rw [xO c1 (by omega)]; exact c2.nm.2
 simp only [e14, e1]
 refine ae ?_
 refine aa _ (dl _ _) (ai (fun hc => ?_) (fun hc => ?_))
 ·have hc : iK cs x.card ≠ 0 := by simpa using hc
  exact af ⟨by rw [jt, if_pos hc], rfl⟩
 have hc0 : ¬ iK cs x.card ≠ 0 := by simpa using hc
 refine ae ?_
 refine aa _ (aF _ _) ?_
 refine ae (ab (ab ?_))
 refine aa _ (cH _ _) ?_
 refine ab ?_
 refine aa _ (aw _ _) ?_
 refine ae (ab (ab (ab ?_)))
 refine aa _ (iG _ _) ?_
 refine ab ?_
 refine aa _ (aw _ _) (ai (fun hc => ?_) (fun hc => ?_))
 ·exact af ⟨by rw [jt, if_neg hc0, if_pos hc], rfl⟩
 refine ae ?_
 refine aa _ (dl _ _) ?_
 refine ae (ab (ab ?_))
 refine aa _ (cH _ _) ?_
 refine ab ?_
 refine aa _ (ap _ _) (ai (fun hd => ?_) (fun hd => ?_))
 ·exact af ⟨by rw [jt, if_neg hc0, if_neg (by rw [hc]; simp), if_pos hd], rfl⟩
 ·exact af ⟨by rw [jt, if_neg hc0, if_neg (by rw [hc]; simp), if_neg (by rw [hd]; simp)], rfl⟩
def sk (cs : List CdF) : List Cp → Nat → Int → Int → Int × Int
 | [], _, n, _ => if n < 20 then (-1, 4) else if n > 60 then (-1, 5) else (-1, 0)
 | x :: l, i, n, b => if jt cs x b ≠ 0 then ((i : Int), jt cs x b) else sk cs l (i + 1) (n + x.n) x.card
def aE (cs : List CdF) (l : List Cp) : Int × Int := sk cs l 0 0 (-1)
theorem vd {cs : List CdF} {x : Cp} {b : Int} (h : ¬ jt cs x b ≠ 0) : inP cs x.card ∧ 1 ≤ x.n ∧ x.n ≤ 60 ∧ b < x.card ∧ ((eo cs x.card).kind = 1 ∨ x.n ≤ 4) := by
 rw [jt] at h
 by_cases h1 : inP cs x.card
 ·rw [iK, if_pos h1, if_neg (by simp)] at h
  split at h
  ·simp at h
  rename_i h2
  split at h
  ·simp at h
  rename_i h3
  simp only [Bool.or_eq_true, decide_eq_true_eq, not_or] at h2
  simp only [Bool.and_eq_true, decide_eq_true_eq, bne_iff_ne, not_and] at h3
  refine ⟨h1, by omega, by omega, by omega, ?_⟩
  by_cases hk : (eo cs x.card).kind = 1
  ·exact .inl hk
  ·exact .inr (by have := h3 hk; omega)
 ·rw [iK, if_neg h1] at h; simp at h
theorem ni {H : Heap} {p : Value} {cs : List CdF} (h : PoolF H p cs) {v : Value} {l : List Cp} (hl : ol H v l) (hb : l.length ≤ 1000000) : RetO PP oe [p, v] H [] (.tuple #[iV (aE cs l).1, iV (aE cs l).2]) := by
 refine qy (vs := [p, v]) (by kernel_rfl) ⟨h.one, hl.one, trivial⟩ ?_
 simp only [nR]
 obtain ⟨vlen, _⟩ := lL hl
 refine ak (A3 h) rfl ⟨rfl, trivial⟩ fun H1 l1 => ai (fun hd => by cases hd) (fun _ => ?_)
 refine aa _ vlen ?_
 refine gR (fun vs H' O' => ∃ (i : Nat) (n b : Int), vs = [iV n, iV b, iV i] ∧ i ≤ l.length ∧ Heap.le H H' ∧ O' = [] ∧ 0 ≤ n ∧ n ≤ 60 * i ∧ aE cs l = sk cs (l.drop i) i n b) (fun vs _ _ => match g vs 2 with | .int _ k => l.length + 1 - k.toNat | _ => 0) ⟨0, 0, -1, rfl, Nat.zero_le _, l1, rfl, by omega, by omega, rfl⟩ ?_
 rintro _ H2 O2 _ _ _ ⟨i, n, b, rfl, hi, hle, rfl, hn0, hn1, hgo⟩
 have h := h.le hle
 have hl := hl.le hle
 refine aa _ (aF _ _) (ai (fun hlt => ?_) (fun hge => ?_))
 ·have hlt : i < l.length := by have := of_decide_eq_true hlt; omega
  obtain ⟨a, k1, k2, _, _⟩ := wU [] hl hlt
  rw [List.drop_eq_getElem_cons hlt, sk] at hgo
  generalize l[i] = x at *
  refine aa _ k1 (ao k2 rfl ⟨rfl, rfl, trivial⟩ (aj fun r0 => ?_))
  refine ae (ae ?_)
  refine ak (B6 h x b) rfl ⟨rfl, trivial⟩ fun H3 l3 => ?_
  refine aa _ (dl _ _) (ai (fun hc => ?_) (fun hc => ?_))
  ·have hc : jt cs x b ≠ 0 := by simpa using hc
   rw [if_pos hc] at hgo
   exact af ⟨(congrArg Dl hgo).symm, rfl⟩
  ·have hc : ¬ jt cs x b ≠ 0 := by simpa using hc
   rw [if_neg hc] at hgo
   obtain ⟨_, w1, w2, _⟩ := vd hc
   refine ae ?_
   refine aa _ (sE (by omega) (by omega)) ?_
   refine ae ?_
   refine aa _ (aD (by omega)) (eL (by simp [Eqs, E]) ⟨i + 1, n + x.n, x.card, rfl, hlt, Heap.le_trans hle l3, rfl, by omega, by omega, hgo⟩ ?_)
   show l.length + 1 - ((i + 1 : Nat) : Int).toNat < l.length + 1 - (i : Int).toNat
   omega
 ·have hge : l.length ≤ i := by have := of_decide_eq_false hge; omega
  rw [List.drop_of_length_le hge, sk] at hgo
  refine aa _ (aF _ _) (ai (fun hc => ?_) (fun hc => ?_))
  ·exact af ⟨by rw [if_pos (of_decide_eq_true hc)] at hgo; exact (congrArg Dl hgo).symm, rfl⟩
  have hc := of_decide_eq_false hc
  refine aa _ (cH _ _) (ai (fun hd => ?_) (fun hd => ?_))
  ·exact af ⟨by rw [if_neg hc, if_pos (of_decide_eq_true hd)] at hgo; exact (congrArg Dl hgo).symm, rfl⟩
  ·exact af ⟨by rw [if_neg hc, if_neg (of_decide_eq_false hd)] at hgo; exact (congrArg Dl hgo).symm, rfl⟩
end Go.Proofs.YtamgiojcbdbokaaGreatDoor
