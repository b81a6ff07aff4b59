/- Boards that are owned, and boards that are frozen. Generic. -/
import Derived.Test.YtjaegdkkiefchaaGreatDoorM2
namespace Go.Sx
open Go

/-- A call that is handed nothing that is owned, and hands back something that is. -/
theorem call_new {P : Program} {f : FuncId} {args : List Value} {H : Heap} {O : Own} {R : Value → Heap → Own → Prop} {d : Bool} {shp : Shp} {K : List Value → List (List Value) → Heap → Own → Prop}
    (h : Triple P f args H [] R) (hk : ∀ v H' O1, R v H' O1 → Heap.le H H' → ∃ vs, shp.open v = some vs ∧ Ones vs ∧ K vs [] H' (O1 ++ O)) :
    CallD (fun H1 O1 R => Triple P f args H1 O1 R) d [] [] shp K H O := by
  intro _
  refine ⟨H, [], O, R, ?_, by simpa using h, fun v H' O' hr hle => ?_⟩
  · cases d
    · exact Ghost.refl _ _
    · exact ⟨rfl, .inl ⟨rfl, rfl⟩⟩
  · obtain ⟨vs, h1, h2, h3⟩ := hk v H' O' hr hle
    exact ⟨vs, [], O', h1, h2, trivial, rfl, h3⟩
theorem perm_count {O O' : Own} (h : ∀ a [BEq (Nat × Obj)] [LawfulBEq (Nat × Obj)], O.count a = O'.count a) : O.Perm O' := by
  haveI : DecidableEq (Nat × Obj) := fun a b => Classical.propDecidable (a = b)
  exact List.perm_iff_count.2 fun a => h a
/-- A frozen list of items. -/
def ItsS (H : Heap) (v : Value) (l : List It) : Prop := ∃ rows, Sl H 5 v rows ∧ rows.length = l.length ∧ ∀ (i : Nat) (r : List Value) (x : It), rows[i]? = some r → l[i]? = some x → ∃ s, r = [iV x.player, iV x.id, iV x.card, iV x.trig, s] ∧ Sl H 2 s (x.tgs.map Tg.row)
structure StS (H : Heap) (vl vh vf vg : Value) (s : St) : Prop where
  lib : Sl H 1 vl (ints s.lib)
  hand : Sl H 1 vh (ints s.hand)
  field : Sl H 1 vf (ints s.field)
  grave : Sl H 1 vg (ints s.grave)
structure BdS (H : Heap) (v : BV12) (b : Bd) : Prop where
  objs : Sl H 12 v.o (b.objs.map Ob.row)
  s0 : StS H v.l0 v.h0 v.f0 v.g0 b.s0
  s1 : StS H v.l1 v.h1 v.f1 v.g1 b.s1
  stack : ItsS H v.s b.stack
  queue : ItsS H v.q b.queue
  att : Sl H 1 v.a (ints b.att)
  blocks : Sl H 2 v.b (b.blocks.map Bl.row)
theorem ItsS.le {H H' : Heap} {v : Value} {l : List It} (h : ItsS H v l) (hl : Heap.le H H') : ItsS H' v l :=
  let ⟨rows, h1, h2, h3⟩ := h; ⟨rows, h1.le hl, h2, fun i r x a b => let ⟨s, e, k⟩ := h3 i r x a b; ⟨s, e, k.le hl⟩⟩
theorem StS.le {H H' : Heap} {vl vh vf vg : Value} {s : St} (h : StS H vl vh vf vg s) (hl : Heap.le H H') : StS H' vl vh vf vg s := ⟨h.lib.le hl, h.hand.le hl, h.field.le hl, h.grave.le hl⟩
theorem BdS.le {H H' : Heap} {v : BV12} {b : Bd} (h : BdS H v b) (hl : Heap.le H H') : BdS H' v b :=
  ⟨h.objs.le hl, h.s0.le hl, h.s1.le hl, h.stack.le hl, h.queue.le hl, h.att.le hl, h.blocks.le hl⟩
theorem ItsS.r {H : Heap} {v : Value} {l : List It} (h : ItsS H v l) (O : Own) : ItsR H O v l :=
  let ⟨rows, h1, h2, h3⟩ := h; ⟨rows, h1.rsl O, h2, fun i r x a b => let ⟨s, e, k⟩ := h3 i r x a b; ⟨s, e, k.rsl O⟩⟩
theorem StS.r {H : Heap} {vl vh vf vg : Value} {s : St} (h : StS H vl vh vf vg s) (O : Own) : StR H O vl vh vf vg s := ⟨h.lib.rsl O, h.hand.rsl O, h.field.rsl O, h.grave.rsl O⟩
theorem BdS.r {H : Heap} {v : BV12} {b : Bd} (h : BdS H v b) (O : Own) : BdR H O v b := ⟨h.objs.rsl O, h.s0.r O, h.s1.r O, h.stack.r O, h.queue.r O, h.att.rsl O, h.blocks.rsl O⟩

/-- Owned items: the targets are owned, too. -/
def OIts (te ti : TypeId) (v : Value) (l : List It) (O : Own) : Prop := ∃ rows A Ts, O.Perm (A ++ List.flatten Ts) ∧ OSl ti 5 v rows A ∧ rows.length = l.length ∧ Ts.length = l.length ∧
  ∀ (i : Nat) (r : List Value) (x : It) (T : Own), rows[i]? = some r → l[i]? = some x → Ts[i]? = some T → ∃ s, r = [iV x.player, iV x.id, iV x.card, iV x.trig, s] ∧ OSl te 2 s (x.tgs.map Tg.row) T
structure Tys where
  (int ob bl it tg : TypeId)
structure OBd (t : Tys) (w : BV12) (b : Bd) (Oo A0 B0 C0 D0 A1 B1 C1 D1 Os Oq Oa Obk : Own) : Prop where
  objs : OSl t.ob 12 w.o (b.objs.map Ob.row) Oo
  l0 : OSl t.int 1 w.l0 (ints b.s0.lib) A0
  h0 : OSl t.int 1 w.h0 (ints b.s0.hand) B0
  f0 : OSl t.int 1 w.f0 (ints b.s0.field) C0
  g0 : OSl t.int 1 w.g0 (ints b.s0.grave) D0
  l1 : OSl t.int 1 w.l1 (ints b.s1.lib) A1
  h1 : OSl t.int 1 w.h1 (ints b.s1.hand) B1
  f1 : OSl t.int 1 w.f1 (ints b.s1.field) C1
  g1 : OSl t.int 1 w.g1 (ints b.s1.grave) D1
  stack : OIts t.tg t.it w.s b.stack Os
  queue : OIts t.tg t.it w.q b.queue Oq
  att : OSl t.int 1 w.a (ints b.att) Oa
  blocks : OSl t.bl 2 w.b (b.blocks.map Bl.row) Obk
/-- A board that is owned. -/
def OwnB (t : Tys) (w : BV12) (b : Bd) (O : Own) : Prop := ∃ Oo A0 B0 C0 D0 A1 B1 C1 D1 Os Oq Oa Obk, O.Perm (Oo ++ (A0 ++ (B0 ++ (C0 ++ (D0 ++ (A1 ++ (B1 ++ (C1 ++ (D1 ++ (Os ++ (Oq ++ (Oa ++ Obk)))))))))))) ∧ OBd t w b Oo A0 B0 C0 D0 A1 B1 C1 D1 Os Oq Oa Obk
theorem OIts.r {te ti : TypeId} {v : Value} {l : List It} {O O' : Own} (h : OIts te ti v l O) (hO : ∀ p ∈ O, p ∈ O') (H : Heap) : ItsR H O' v l := by
  obtain ⟨rows, A, Ts, hp, h1, h2, h3, h4⟩ := h
  refine ⟨rows, h1.rsl (fun p hp' => hO p (hp.mem_iff.2 (by simp [hp']))) H, h2, fun i r x hr hx => ?_⟩
  have hlt : i < Ts.length := by rw [h3]; exact (List.getElem?_eq_some_iff.1 hx).1
  obtain ⟨s, e, k⟩ := h4 i r x Ts[i] hr hx (List.getElem?_eq_getElem hlt)
  exact ⟨s, e, k.rsl (fun p hp' => hO p (hp.mem_iff.2 (List.mem_append_right _ (List.mem_flatten.2 ⟨Ts[i], List.getElem_mem hlt, hp'⟩)))) H⟩
theorem OwnB.r {t : Tys} {w : BV12} {b : Bd} {O O' : Own} (h : OwnB t w b O) (hO : ∀ p ∈ O, p ∈ O') (H : Heap) : BdR H O' w b := by
  obtain ⟨Oo, A0, B0, C0, D0, A1, B1, C1, D1, Os, Oq, Oa, Obk, hp, h⟩ := h
  have m : ∀ p, p ∈ Oo ++ (A0 ++ (B0 ++ (C0 ++ (D0 ++ (A1 ++ (B1 ++ (C1 ++ (D1 ++ (Os ++ (Oq ++ (Oa ++ Obk))))))))))) → p ∈ O' := fun p h => hO p (hp.mem_iff.2 h)
  refine ⟨h.objs.rsl (fun p k => m p (by simp [k])) H, ⟨h.l0.rsl (fun p k => m p (by simp [k])) H, h.h0.rsl (fun p k => m p (by simp [k])) H, h.f0.rsl (fun p k => m p (by simp [k])) H, h.g0.rsl (fun p k => m p (by simp [k])) H⟩,
    ⟨h.l1.rsl (fun p k => m p (by simp [k])) H, h.h1.rsl (fun p k => m p (by simp [k])) H, h.f1.rsl (fun p k => m p (by simp [k])) H, h.g1.rsl (fun p k => m p (by simp [k])) H⟩,
    h.stack.r (fun p k => m p (by simp [k])) H, h.queue.r (fun p k => m p (by simp [k])) H, h.att.rsl (fun p k => m p (by simp [k])) H, h.blocks.rsl (fun p k => m p (by simp [k])) H⟩
/-- No list is longer than this. -/
def itsB (l : List It) : Prop := l.length ≤ 1000000 ∧ ∀ x ∈ l, x.tgs.length ≤ 1000000
def stB (s : St) : Prop := s.lib.length ≤ 1000000 ∧ s.hand.length ≤ 1000000 ∧ s.field.length ≤ 1000000 ∧ s.grave.length ≤ 1000000
def bdB (b : Bd) : Prop := b.objs.length ≤ 1000000 ∧ stB b.s0 ∧ stB b.s1 ∧ itsB b.stack ∧ itsB b.queue ∧ b.att.length ≤ 1000000 ∧ b.blocks.length ≤ 1000000
end Go.Sx
