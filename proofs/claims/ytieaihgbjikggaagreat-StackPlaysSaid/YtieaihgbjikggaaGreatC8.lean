/- Which boards are valid: what the program says. -/
import Derived.Test.YtieaihgbjikggaaGreatC1
namespace Go.Proofs.YtieaihgbjikggaaGreat
open Go Go.Sx
set_option maxRecDepth 100000
set_option maxHeartbeats 1000000
theorem Gn {α : Type} [DecidableEq α] : ∀ {l r : List α}, l.Nodup → (∀ x ∈ l, x ∈ r) → l.length ≤ r.length
 | [], _, _, _ => Nat.zero_le _
 | a :: l, r, hn, hs => by
  rw [List.nodup_cons] at hn
  have har : a ∈ r := hs a (by simp)
  have h1 := Gn (r := r.erase a) hn.2 fun x hx => by
   have : x ≠ a := fun e => hn.1 (e ▸ hx)
   exact (List.mem_erase_of_ne this).2 (hs x (by simp [hx]))
  rw [List.length_erase_of_mem har] at h1
  have := List.length_pos_of_mem har
  simp only [List.length_cons]; omega
theorem BL {α : Type} [DecidableEq α] {l r : List α} (hn : l.Nodup) (hs : ∀ x ∈ l, x ∈ r) (hl : r.length ≤ l.length) : ∀ x ∈ r, x ∈ l := by
 intro x hx
 rcases Classical.em (x ∈ l) with h | h
 ·exact h
 ·have := Gn (l := x :: l) (r := r) (List.nodup_cons.2 ⟨h, hn⟩) (fun y hy => by
   rcases List.mem_cons.1 hy with rfl | hy
   ·exact hx
   ·exact hs y hy)
  simp only [List.length_cons] at this; omega
theorem Ek {val : Ob → Bool} {ps cs : List (Int × Int)} : ∀ {l : List Ob} {prev : Option Int}, oF val ps cs prev l = true →
  (∀ o ∈ l, val o = true ∧ (cw ps o.id).isSome = true ∧ ∀ p, prev = some p → p < o.id) ∧ (l.map (·.id)).Nodup
 | [], _, _ => ⟨by simp, by simp⟩
 | o :: r, prev, h => by
  simp only [oF, BI, Bool.and_eq_true, Bool.not_eq_true', Bool.or_eq_false_iff, Bool.not_eq_false'] at h
  obtain ⟨⟨⟨⟨⟨h1, h2⟩, h3⟩, _⟩, _⟩, h6⟩ := h
  obtain ⟨k1, k2⟩ := Ek h6
  have hp : ∀ p, prev = some p → p < o.id := by
   rintro p rfl
   simp only [iZ, decide_eq_false_iff_not] at h2
   omega
  refine ⟨?_, ?_⟩
  ·intro x hx
   rcases List.mem_cons.1 hx with rfl | hx
   ·refine ⟨h1, ?_, hp⟩
    cases hl : cw ps x.id with
    | none => rw [hl] at h3; cases h3
    | some v => rfl
   ·obtain ⟨a1, a2, a3⟩ := k1 x hx
    exact ⟨a1, a2, fun p e => by have := a3 _ rfl; have := hp p e; omega⟩
  ·rw [List.map_cons, List.nodup_cons]
   refine ⟨?_, k2⟩
   intro hm
   obtain ⟨x, hx, e⟩ := List.mem_map.1 hm
   have := (k1 x hx).2.2 _ rfl
   omega
theorem wC {val : Ob → Bool} {b : Bd} (h : bz val b = true) : ∀ x ∈ (aM b).map (·.1), ∃ o ∈ b.objs, o.id = x ∧ val o = true := by
 simp only [bz, Bool.and_eq_true, decide_eq_true_eq] at h
 obtain ⟨_, h2, h3⟩ := h
 obtain ⟨k1, k2⟩ := Ek h2
 intro x hx
 have := BL (l := b.objs.map (·.id)) (r := (aM b).map (·.1)) k2 (fun y hy => by
  obtain ⟨o, ho, rfl⟩ := List.mem_map.1 hy
  have := (k1 o ho).2.1
  rcases Classical.em (o.id ∈ (aM b).map (·.1)) with h | h
  ·exact h
  ·rw [fg.2 h] at this; cases this) (by simp [h3]) x hx
 obtain ⟨o, ho, rfl⟩ := List.mem_map.1 this
 exact ⟨o, ho, rfl, (k1 o ho).1⟩
theorem uP {o : Ob} (h : bd o = true) : 1 ≤ o.id ∧ o.id ≤ 500 := by
 simp only [bd, Bool.and_eq_true, decide_eq_true_eq] at h
 exact ⟨h.1.2.1.1.1.2, h.1.2.1.1.2⟩
theorem Hd {b : Bd} (h : bz bd b = true) : ∀ x, x ∈ b.s0.field ∨ x ∈ b.s1.field → 0 < x ∧ x ≤ 500 := by
 intro x hx
 obtain ⟨o, _, rfl, ho⟩ := wC h x (by
  simp only [aM, bK, List.map_append, List.map_map, List.mem_append, List.mem_map, Function.comp]
  rcases hx with hx | hx
  ·left; right; right; left; exact ⟨x, hx, rfl⟩
  ·right; left; right; right; left; exact ⟨x, hx, rfl⟩)
 have := uP ho
 omega
def eK (b : Bd) : Bool := if b.active = 0 then jj b.s0.field b.s1.field b.att b.blocks else jj b.s1.field b.s0.field b.att b.blocks
theorem Lf {H : Heap} {O : Own} {v : dG} {b : Bd} (h : BdR H O v b) (ha : b.active = 0 ∨ b.active = 1) (hp : ∀ x, x ∈ b.s0.field ∨ x ∈ b.s1.field → 0 < x ∧ x ≤ 500) :
  RetO PP uf [.agg (aq v b).toArray] H O (.bool (eK b)) := by
 refine yb (vs := aq v b) (by kernel_rfl) (au h) ?_
 simp only [oc]
 refine ah fun r0 => ae ?_
 have e34 : g (aq v b) 34 = iV b.active := rfl
 rw [e34]
 have hs : ∀ n : Int, n = 0 ∨ n = 1 → al (.bin .sub .int) [iV 1, iV n] = some (iV (1 - n)) := by
  rintro n (rfl | rfl) <;> rfl
 rcases ha with ha | ha
 ·rw [ha]
  refine ⟨.i64, 0, rfl, fun _ => ae (ae (ab _ (hs 0 (.inl rfl)) ⟨.i64, 1, rfl, fun e => absurd e (by omega), fun _ => ⟨.i64, 1, rfl, fun _ => ?_, fun e => absurd rfl e⟩⟩)), fun e => absurd rfl e⟩
  refine ae ?_
  refine Cc h.s0.field h.s1.field h.att h.blocks (fun x hx => (hp x (.inl hx)).1) (fun x hx => hp x (.inr hx)) ?_ ?_ ?_
  ·intros; simp [Eqs]
  ·intros; simp [Eqs]
  ·exact fun H' _ => ⟨by simp [eK, ha], rfl⟩
 ·rw [ha]
  refine ⟨.i64, 1, rfl, fun e => absurd e (by omega), fun _ => ⟨.i64, 1, rfl, fun _ => ae (ae (ab _ (hs 1 (.inr rfl)) ⟨.i64, 0, rfl, fun _ => ?_, fun e => absurd rfl e⟩)), fun e => absurd rfl e⟩⟩
  refine ae ?_
  refine Cc h.s1.field h.s0.field h.att h.blocks (fun x hx => (hp x (.inr hx)).1) (fun x hx => hp x (.inl hx)) ?_ ?_ ?_
  ·intros; simp [Eqs]
  ·intros; simp [Eqs]
  ·exact fun H' _ => ⟨by simp [eK, ha], rfl⟩
theorem zH {b : Bool} (h : (!b) = true) : b = false := by simpa using h
theorem vq {b : Bool} (h : (!b) = false) : b = true := by simpa using h
def bE (s : St) : Bool := aw s.life 0 9999 && (([s.p0, s.p1, s.p2, s.p3].all fun n => aw n 0 99) && (aw s.mull 0 7 && aw s.acts 0 255))
def tN (b : Bd) : Bool := ((!aw b.passes 0 2 || decide ((b.objs.length : Int) > 500)) || decide ((b.stack.length : Int) > 200)) || decide ((b.queue.length : Int) > 200)
def ax (b : Bd) : Bool := aw b.active 0 1 && (aw b.turn 0 1000 && (aw b.phase 0 10 && (aw b.holder (-1) 1 && (!tN b && (bE b.s0 && (bE b.s1 &&
 (!(b.stack.any fun x => !cd x false) && (!(b.queue.any fun x => !cd x true) && (bz bd b && eK b)))))))))
theorem bp {H : Heap} {O : Own} {v : dG} {b : Bd} (h : BdR H O v b) : RetO PP qy [.agg (aq v b).toArray] H O (.bool (ax b)) := by
 refine zh (vs := aq v b) (by kernel_rfl) (au h) ?_
 simp only [qt]
 refine ah fun r0 => ?_
 refine ae (aj (dl b.active 0 1 H O) rfl ⟨rfl, trivial⟩ fun H1 l1 => ab _ (aI _) (ak (fun hb => ai ⟨?_, rfl⟩) (fun hb => ?_)))
 ·have kf : aw b.active 0 1 = false := zH hb
  simp only [ax, kf, Bool.true_and, Bool.false_and, Bool.and_false]
 have k1 : aw b.active 0 1 = true := vq hb
 replace h := h.le l1
 clear hb
 refine ae (aj (dl b.turn 0 1000 H1 O) rfl ⟨rfl, trivial⟩ fun H2 l2 => ab _ (aI _) (ak (fun hb => ai ⟨?_, rfl⟩) (fun hb => ?_)))
 ·have kf : aw b.turn 0 1000 = false := zH hb
  simp only [ax, k1, kf, Bool.true_and, Bool.false_and, Bool.and_false]
 have k2 : aw b.turn 0 1000 = true := vq hb
 replace h := h.le l2
 clear hb
 refine ae (aj (dl b.phase 0 10 H2 O) rfl ⟨rfl, trivial⟩ fun H3 l3 => ab _ (aI _) (ak (fun hb => ai ⟨?_, rfl⟩) (fun hb => ?_)))
 ·have kf : aw b.phase 0 10 = false := zH hb
  simp only [ax, k1, k2, kf, Bool.true_and, Bool.false_and, Bool.and_false]
 have k3 : aw b.phase 0 10 = true := vq hb
 replace h := h.le l3
 clear hb
 refine ae (aj (dl b.holder (-1) 1 H3 O) rfl ⟨rfl, trivial⟩ fun H4 l4 => ab _ (aI _) (ak (fun hb => ai ⟨?_, rfl⟩) (fun hb => ?_)))
 ·have kf : aw b.holder (-1) 1 = false := zH hb
  simp only [ax, k1, k2, k3, kf, Bool.true_and, Bool.false_and, Bool.and_false]
 have k4 : aw b.holder (-1) 1 = true := vq hb
 replace h := h.le l4
 clear hb
 refine ae (aj (dl b.passes 0 2 H4 O) rfl ⟨rfl, trivial⟩ fun H5 l5 => ab _ (aI _) ?_)
 replace h := h.le l5
 have lo := h.objs.len
 rw [List.length_map] at lo
 refine ae (af (af ?_))
 refine ab _ (lo) (af (ab _ (cZ _ _) (af (ab _ (aO _ _) ?_))))
 refine ae (af (af ?_))
 refine ab _ (ItsR.len h.stack) (af (ab _ (cZ _ _) (af (ab _ (aO _ _) ?_))))
 refine ae (af (af ?_))
 refine ab _ (ItsR.len h.queue) (af (ab _ (cZ _ _) (af (ab _ (aO _ _) ?_))))
 refine ak (fun hb => ai ⟨?_, rfl⟩) (fun hb => ?_)
 ·have kf : tN b = true := hb
  simp only [ax, k1, k2, k3, k4, kf, Bool.true_and, Bool.not_true, Bool.false_and]
 have kmid : tN b = false := hb
 clear hb
 refine ae (ah fun r1 => ae ?_)
 refine ae (aj (dl b.s0.life 0 9999 H5 O) rfl ⟨rfl, trivial⟩ fun H6 l6 => ab _ (aI _) (ak (fun hb => ai ⟨?_, rfl⟩) (fun hb => ?_)))
 ·have kf : aw b.s0.life 0 9999 = false := zH hb
  simp only [ax, bE, k1, k2, k3, k4, kmid, kf, Bool.true_and, Bool.false_and, Bool.and_false, Bool.not_false]
 have k6 : aw b.s0.life 0 9999 = true := vq hb
 replace h := h.le l6
 clear hb
 refine ae (aj (xG b.s0.p0 b.s0.p1 b.s0.p2 b.s0.p3 H6 O) rfl ⟨rfl, trivial⟩ fun H7 l7 => ab _ (aI _) (ak (fun hb => ai ⟨?_, rfl⟩) (fun hb => ?_)))
 ·have kf : ([b.s0.p0, b.s0.p1, b.s0.p2, b.s0.p3].all fun n => aw n 0 99) = false := zH hb
  simp only [ax, bE, k1, k2, k3, k4, kmid, k6, kf, Bool.true_and, Bool.false_and, Bool.and_false, Bool.not_false]
 have k7 : ([b.s0.p0, b.s0.p1, b.s0.p2, b.s0.p3].all fun n => aw n 0 99) = true := vq hb
 replace h := h.le l7
 clear hb
 refine ae (aj (dl b.s0.mull 0 7 H7 O) rfl ⟨rfl, trivial⟩ fun H8 l8 => ab _ (aI _) (ak (fun hb => ai ⟨?_, rfl⟩) (fun hb => ?_)))
 ·have kf : aw b.s0.mull 0 7 = false := zH hb
  simp only [ax, bE, k1, k2, k3, k4, kmid, k6, k7, kf, Bool.true_and, Bool.false_and, Bool.and_false, Bool.not_false]
 have k8 : aw b.s0.mull 0 7 = true := vq hb
 replace h := h.le l8
 clear hb
 refine ae (aj (dl b.s0.acts 0 255 H8 O) rfl ⟨rfl, trivial⟩ fun H9 l9 => ab _ (aI _) (ak (fun hb => ai ⟨?_, rfl⟩) (fun hb => ?_)))
 ·have kf : aw b.s0.acts 0 255 = false := zH hb
  simp only [ax, bE, k1, k2, k3, k4, kmid, k6, k7, k8, kf, Bool.true_and, Bool.false_and, Bool.and_false, Bool.not_false]
 have k9 : aw b.s0.acts 0 255 = true := vq hb
 replace h := h.le l9
 clear hb
 refine ah fun r2 => ae ?_
 refine ae (aj (dl b.s1.life 0 9999 H9 O) rfl ⟨rfl, trivial⟩ fun H10 l10 => ab _ (aI _) (ak (fun hb => ai ⟨?_, rfl⟩) (fun hb => ?_)))
 ·have kf : aw b.s1.life 0 9999 = false := zH hb
  simp only [ax, bE, k1, k2, k3, k4, kmid, k6, k7, k8, k9, kf, Bool.true_and, Bool.false_and, Bool.and_false, Bool.not_false]
 have k10 : aw b.s1.life 0 9999 = true := vq hb
 replace h := h.le l10
 clear hb
 refine ae (aj (xG b.s1.p0 b.s1.p1 b.s1.p2 b.s1.p3 H10 O) rfl ⟨rfl, trivial⟩ fun H11 l11 => ab _ (aI _) (ak (fun hb => ai ⟨?_, rfl⟩) (fun hb => ?_)))
 ·have kf : ([b.s1.p0, b.s1.p1, b.s1.p2, b.s1.p3].all fun n => aw n 0 99) = false := zH hb
  simp only [ax, bE, k1, k2, k3, k4, kmid, k6, k7, k8, k9, k10, kf, Bool.true_and, Bool.false_and, Bool.and_false, Bool.not_false]
 have k11 : ([b.s1.p0, b.s1.p1, b.s1.p2, b.s1.p3].all fun n => aw n 0 99) = true := vq hb
 replace h := h.le l11
 clear hb
 refine ae (aj (dl b.s1.mull 0 7 H11 O) rfl ⟨rfl, trivial⟩ fun H12 l12 => ab _ (aI _) (ak (fun hb => ai ⟨?_, rfl⟩) (fun hb => ?_)))
 ·have kf : aw b.s1.mull 0 7 = false := zH hb
  simp only [ax, bE, k1, k2, k3, k4, kmid, k6, k7, k8, k9, k10, k11, kf, Bool.true_and, Bool.false_and, Bool.and_false, Bool.not_false]
 have k12 : aw b.s1.mull 0 7 = true := vq hb
 replace h := h.le l12
 clear hb
 refine ae (aj (dl b.s1.acts 0 255 H12 O) rfl ⟨rfl, trivial⟩ fun H13 l13 => ab _ (aI _) (ak (fun hb => ai ⟨?_, rfl⟩) (fun hb => ?_)))
 ·have kf : aw b.s1.acts 0 255 = false := zH hb
  simp only [ax, bE, k1, k2, k3, k4, kmid, k6, k7, k8, k9, k10, k11, k12, kf, Bool.true_and, Bool.false_and, Bool.and_false, Bool.not_false]
 have k13 : aw b.s1.acts 0 255 = true := vq hb
 replace h := h.le l13
 clear hb
 refine ae (aj (mt (p := fun x => !cd x false) h.stack rfl (kJ aB (by decide)) fun H' _ row x hx => JS hx) rfl ⟨rfl, trivial⟩ fun H20 l20 => ak (fun hb => ai ⟨?_, rfl⟩) (fun hb => ?_))
 ·simp only [ax, bE, k1, k2, k3, k4, kmid, k6, k7, k8, k9, k10, k11, k12, k13, hb, Bool.true_and, Bool.not_true, Bool.not_false, Bool.false_and]
 replace h := h.le l20
 refine ae (aj (mt (p := fun x => !cd x true) h.queue rfl (kJ aB (by decide)) fun H' _ row x hx => JR hx) rfl ⟨rfl, trivial⟩ fun H21 l21 => ab _ (aI _) (ak (fun hq => ?_) (fun hq => ai ⟨?_, rfl⟩)))
 ·replace h := h.le l21
  simp only [Bool.not_eq_true'] at hq
  have hfin : ax b = (bz bd b && eK b) := by simp only [ax, bE, k1, k2, k3, k4, kmid, k6, k7, k8, k9, k10, k11, k12, k13, hb, hq, Bool.true_and, Bool.not_false]
  refine ae (aj (Ld h) rfl ⟨rfl, trivial⟩ fun H22 l22 => ak (fun hp => ?_) (fun hp => ai ⟨?_, rfl⟩))
  ·replace h := h.le l22
   have ha : b.active = 0 ∨ b.active = 1 := by have := k1; simp only [aw, decide_eq_true_eq] at this; omega
   refine ae (aj (Lf h ha (Hd hp)) rfl ⟨rfl, trivial⟩ fun H23 l23 => ai ⟨?_, rfl⟩)
   rw [hfin, hp, Bool.true_and]; rfl
  ·rw [hfin, hp]; rfl
 ·simp only [Bool.not_eq_false'] at hq
  simp only [ax, bE, k1, k2, k3, k4, kmid, k6, k7, k8, k9, k10, k11, k12, k13, hb, hq, Bool.true_and, Bool.not_false, Bool.not_true, Bool.false_and]
end Go.Proofs.YtieaihgbjikggaaGreat
namespace Go.Proofs.YtieaihgbjikggaaGreat
open Go Go.Sx
set_option maxRecDepth 100000
set_option maxHeartbeats 1000000
theorem EW {a b : Bool} (h : a = true ↔ b = true) : (Value.bool a : Value) = .bool b := by rw [Bool.eq_iff_iff.2 h]
theorem wA (n : Int) (H : Heap) (O : Own) : RetO PP lp [iV n] H O (.bool (aw n 0 99)) := by
 refine qQ (vs := [iV n]) (by kernel_rfl) ⟨rfl, trivial⟩ ?_
 simp only [gR]
 refine ab _ (eB _ _) (af (ab _ (eB _ _) (af (ab _ (bg _ _) ?_))))
 refine ai ⟨EW ?_, rfl⟩
 simp [aw]
theorem oh (o : Ob) : bd o = true ↔ ((0 ≤ o.power ∧ o.power ≤ 99) ∧ (0 ≤ o.tough ∧ o.tough ≤ 99) ∧ (0 ≤ o.dmg ∧ o.dmg ≤ 99) ∧ (0 ≤ o.cnt ∧ o.cnt ≤ 99) ∧ (0 ≤ o.pp ∧ o.pp ≤ 99) ∧ (0 ≤ o.pt ∧ o.pt ≤ 99)) ∧
  (o.card = -1 ∨ (o.power = 0 ∧ o.tough = 0)) ∧ 1 ≤ o.id ∧ o.id ≤ 500 ∧ -1 ≤ o.card ∧ o.card < 400 ∧ (o.owner = 0 ∨ o.owner = 1) := by
 simp only [bd, aw, List.all_cons, List.all_nil, Bool.and_true, Bool.and_eq_true, Bool.or_eq_true, decide_eq_true_eq, beq_iff_eq, ge_iff_le]
 omega
theorem AW (o : Ob) (H : Heap) (O : Own) : RetO PP ln [.agg o.row.toArray] H O (.bool (bd o)) := by
 refine qP (vs := o.row) (by kernel_rfl) (by simp [Ob.row, Ones, Value.oneCell']) ?_
 simp only [gQ]
 repeat (first | refine ae ?_ | refine af ?_ | refine ah fun _ => ?_ | refine ab _ (aC _ _) ?_ | refine ab _ (cZ _ _) ?_ | refine ab _ (eB _ _) ?_ | refine ab _ (du _ _) ?_ | refine ab _ (aH _ _) ?_ | refine ab _ (bG _ _) ?_ | refine ab _ (bg _ _) ?_ | refine ab _ (aO _ _) ?_ | refine ab _ (aI _) ?_ | refine ab _ (uF _ _) ?_ | refine ab _ (pD _ _) ?_)
 refine ak (fun h1 => ai ⟨EW ?_, rfl⟩) (fun h1 => ?_)
 ·rw [oh]; simp at h1 ⊢; omega
 refine ae (ab _ (eB _ _) (ae (af (af (ab _ (bG _ _) (af (ae (af (af (af (af (ab _ (bG _ _) (af (af (af (ab _ (aO _ _) (af (ab _ (bg _ _) ?_))))))))))))))))))
 refine ak (fun h2 => ai ⟨EW ?_, rfl⟩) (fun h2 => ?_)
 ·rw [oh]; simp at h1 h2 ⊢; omega
 have key : ∀ (x : Bool), (x = true ↔ ((0 ≤ o.power ∧ o.power ≤ 99) ∧ (0 ≤ o.tough ∧ o.tough ≤ 99) ∧ (0 ≤ o.dmg ∧ o.dmg ≤ 99) ∧ (0 ≤ o.cnt ∧ o.cnt ≤ 99) ∧ (0 ≤ o.pp ∧ o.pp ≤ 99) ∧ (0 ≤ o.pt ∧ o.pt ≤ 99))) → (Value.bool x : Value) = .bool (bd o) := by
  intro x hx
  refine EW ?_
  rw [hx, oh]
  simp at h1 h2 ⊢; omega
 refine ae (aj (wA o.power H O) rfl ⟨rfl, trivial⟩ fun H1 _ => ak (fun k1 => ?_) (fun k1 => ai ⟨key _ ?_, rfl⟩))
 rotate_left
 ·simp [aw] at k1 ⊢; omega
 refine ae (aj (wA o.tough H1 O) rfl ⟨rfl, trivial⟩ fun H2 _ => ak (fun k2 => ?_) (fun k2 => ai ⟨key _ ?_, rfl⟩))
 rotate_left
 ·simp [aw] at k2 ⊢; omega
 refine ae (aj (wA o.dmg H2 O) rfl ⟨rfl, trivial⟩ fun H3 _ => ak (fun k3 => ?_) (fun k3 => ai ⟨key _ ?_, rfl⟩))
 rotate_left
 ·simp [aw] at k3 ⊢; omega
 refine ae (aj (wA o.cnt H3 O) rfl ⟨rfl, trivial⟩ fun H4 _ => ak (fun k4 => ?_) (fun k4 => ai ⟨key _ ?_, rfl⟩))
 rotate_left
 ·simp [aw] at k4 ⊢; omega
 refine ae (aj (wA o.pp H4 O) rfl ⟨rfl, trivial⟩ fun H5 _ => ak (fun k5 => ?_) (fun k5 => ai ⟨key _ ?_, rfl⟩))
 rotate_left
 ·simp [aw] at k5 ⊢; omega
 refine ae (aj (wA o.pt H5 O) rfl ⟨rfl, trivial⟩ fun H6 _ => ai ⟨key _ ?_, rfl⟩)
 simp [aw] at k1 k2 k3 k4 k5 ⊢; omega
theorem Lr {vl vh vf vg : Value} (s : St) (hl : vl.oneCell' = true) (hh : vh.oneCell' = true) (hf : vf.oneCell' = true) (hg : vg.oneCell' = true) (H : Heap) (O : Own) :
  RetO PP mI [.agg (Ko vl vh vf vg s).toArray] H O (.bool (bE s)) := by
 refine rI (vs := Ko vl vh vf vg s) (by kernel_rfl) ⟨rfl, rfl, rfl, rfl, rfl, hl, hh, hf, hg, rfl, rfl, rfl, rfl, rfl, trivial⟩ ?_
 simp only [ir]
 have key : ∀ (x : Bool), (x = true ↔ ((0 ≤ s.life ∧ s.life ≤ 9999) ∧ (0 ≤ s.p0 ∧ s.p0 ≤ 99) ∧ (0 ≤ s.p1 ∧ s.p1 ≤ 99) ∧ (0 ≤ s.p2 ∧ s.p2 ≤ 99) ∧ (0 ≤ s.p3 ∧ s.p3 ≤ 99) ∧ (0 ≤ s.mull ∧ s.mull ≤ 7) ∧ (0 ≤ s.acts ∧ s.acts ≤ 255))) → (Value.bool x : Value) = .bool (bE s) := by
  intro x hx
  refine EW ?_
  rw [hx]
  simp only [bE, aw, List.all_cons, List.all_nil, Bool.and_true, Bool.and_eq_true, decide_eq_true_eq]
  omega
 refine ah fun _ => ae (ab _ (aC _ _) (af (ab _ (aC _ _) (af (ab _ (aO _ _) ?_)))))
 refine ak (fun h1 => ai ⟨key _ ?_, rfl⟩) (fun h1 => ?_)
 ·simp at h1 ⊢; omega
 refine ab _ (aC _ _) (af (ab _ (aC _ _) (af (ab _ (aO _ _) ?_))))
 refine ak (fun h2 => ai ⟨key _ ?_, rfl⟩) (fun h2 => ?_)
 ·simp at h2 ⊢; omega
 refine ab _ (aC _ _) (af (ab _ (aC _ _) (af (ab _ (aO _ _) ?_))))
 refine ak (fun h3 => ai ⟨key _ ?_, rfl⟩) (fun h3 => ?_)
 ·simp at h3 ⊢; omega
 refine ab _ (aC _ _) (af (ab _ (aC _ _) (af (ab _ (aO _ _) ?_))))
 refine ak (fun h4 => ai ⟨key _ ?_, rfl⟩) (fun h4 => ?_)
 ·simp at h4 ⊢; omega
 repeat (first | refine ae ?_ | refine af ?_ | refine ah fun _ => ?_ | refine ab _ (aC _ _) ?_ | refine ab _ (cZ _ _) ?_ | refine ab _ (eB _ _) ?_ | refine ab _ (du _ _) ?_ | refine ab _ (aH _ _) ?_ | refine ab _ (bG _ _) ?_ | refine ab _ (bg _ _) ?_ | refine ab _ (aO _ _) ?_ | refine ab _ (aI _) ?_ | refine ab _ (uF _ _) ?_ | refine ab _ (pD _ _) ?_)
 refine ai ⟨key _ ?_, rfl⟩
 simp at h1 h2 h3 h4 ⊢; omega
end Go.Proofs.YtieaihgbjikggaaGreat
namespace Go.Proofs.YtieaihgbjikggaaGreat
open Go Go.Sx
set_option maxRecDepth 100000
set_option maxHeartbeats 1000000
abbrev IY (n : Nat) (R : Nat → Value → Heap → Own → Prop) : List Value → Heap → Own → Prop := fun vs H O => ∃ (i : Nat) (x : Value), vs = [x, iV i] ∧ i ≤ n ∧ R i x H O
abbrev MY (n : Nat) : List Value → Heap → Own → Nat := fun vs _ _ => match g vs 1 with | .int _ k => n - k.toNat | _ => 0
theorem dc {P : Program} {lab key : Nat} {x0 : Value} {body : (List Value → Heap → Own → Prop) → List Value → Tree} {H : Heap} {O : Own} {Q : Value → Heap → Own → Prop} (n : Nat) (R : Nat → Value → Heap → Own → Prop)
  (h0 : R 0 x0 H O) (step : ∀ i x H' O', i ≤ n → Heap.le H H' → R i x H' O' → (body (Ih (IY n R) (MY n) (n - i)) [x, iV i]).den P Q H' O') :
  (Tree.loop lab key [x0, .int .i64 0] body).den P Q H O := by
 refine kb (IY n R) (MY n) ⟨0, x0, rfl, Nat.zero_le _, h0⟩ ?_
 rintro vs H' O' _ _ hle ⟨i, x, rfl, hi, hr⟩
 exact step i x H' O' hi hle hr
theorem aR {P : Program} {lab n i : Nat} {R : Nat → Value → Heap → Own → Prop} {x : Value} {eqs : List (List Value × List Value)} {H : Heap} {O : Own} {Q : Value → Heap → Own → Prop} (he : Eqs eqs) (hi : i < n) (hr : R (i + 1) x H O) :
  (Tree.cont lab (Ih (IY n R) (MY n) (n - i)) [x, iV ((i + 1 : Nat) : Int)] eqs).den P Q H O := by
 refine eM he ⟨i + 1, x, rfl, hi, hr⟩ ?_
 show n - ((i + 1 : Nat) : Int).toNat < n - i
 simp; omega
theorem Bs {α : Type} [BEq α] [LawfulBEq α] {l : List α} {i : Nat} (h : i < l.length) (n : α) : (l.take (i + 1)).count n = (l.take i).count n + (if l[i] == n then 1 else 0) := by
 rw [List.take_add_one, List.getElem?_eq_getElem h, Option.toList_some, List.count_append, List.count_singleton]
theorem gA {H : Heap} {O : Own} {v : Value} {l : List Int} (h : RSl H O 1 v (aG l)) (n : Int) : RetO PP lm [v, iV n] H O (iV ((l.count n : Nat) : Int)) := by
 refine qO (vs := [v, iV n]) (by kernel_rfl) ⟨h.one, rfl, trivial⟩ ?_
 simp only [gP]
 have hlen := h.len
 rw [aG, List.length_map] at hlen
 have hB := h.lenB
 simp only [aG, List.length_map] at hB
 refine dc l.length (fun i x H' O' => O' = O ∧ Heap.le H H' ∧ x = iV (((l.take i).count n : Nat) : Int)) ⟨rfl, Heap.le_refl H, by simp⟩ ?_
 rintro i x H' O' hi - ⟨rfl, hle, rfl⟩
 have hci : (l.take i).count n ≤ i := Nat.le_trans List.count_le_length (by simp; omega)
 refine ab _ hlen (ab _ (aC _ _) (ak (fun hb => ?_) (fun hb => ?_)))
 ·have hlt : i < l.length := by simpa using hb
  obtain ⟨a, h1, h2, _, h3, h4⟩ := (h.le hle).idx .i64 i [iV l[i]] (by simp [aG, hlt])
  refine ab _ h1 (ap h2 h3 h4 (ab _ (aH _ _) (ak (fun hb => ?_) (fun hb => ?_))))
  ·refine ab _ (az (by omega)) (ab _ (az (by omega)) (aR (by simp [Eqs]) hlt ⟨rfl, hle, ?_⟩))
   rw [Bs hlt, hb]; rfl
  ·refine ab _ (az (by omega)) (aR (by simp [Eqs]) hlt ⟨rfl, hle, ?_⟩)
   rw [Bs hlt, hb]; rfl
 ·have : l.length ≤ i := by simpa using hb
  refine ai ⟨?_, rfl⟩
  rw [List.take_of_length_le this]; rfl
def fL (b : Bd) (id : Int) : Int := fq (fun o => o.id == id) b.objs 0
theorem wB {H : Heap} {O : Own} {v : dG} {b : Bd} (h : BdR H O v b) (id : Int) : RetO PP ll [.agg (aq v b).toArray, iV id] H O (iV (fL b id)) := by
 refine qN (vs := aq v b ++ [iV id]) (by kernel_rfl) (aL (au h) ⟨rfl, trivial⟩) ?_
 simp only [gO]
 have lo := h.objs.len
 have hB := h.objs.lenB
 rw [List.length_map] at lo hB
 refine ah fun r0 => aQ b.objs.length (fun i H' O' => O' = O ∧ Heap.le H H' ∧ fL b id = fq (fun o => o.id == id) (b.objs.drop i) i) ⟨rfl, Heap.le_refl H, by simp [fL]⟩ ?_
 rintro i H' O' hi - ⟨rfl, hle, hor⟩
 refine ae (ab _ lo (ab _ (aC _ _) (ak (fun hb => ?_) (fun hb => ?_))))
 ·have hlt : i < b.objs.length := by simpa using hb
  obtain ⟨a, h1, h2, h5, h3, h4⟩ := (h.objs.le hle).idx .i64 i (Ob.row b.objs[i]) (by simp [hlt])
  have hr : Reads H' O' (.pointer (some a)) 1 [iV b.objs[i].id] := by
   have := h5 0 1 (by omega)
   have e : aS (.pointer (some a)) 0 = .pointer (some a) := by simp [aS, Addr.add]
   rwa [e] at this
  refine ae (ab _ h1 (aD rfl (ap hr rfl ⟨rfl, trivial⟩ (ab _ (aH _ _) (ak (fun hb => ?_) (fun hb => ?_))))))
  ·refine ai ⟨?_, rfl⟩
   rw [hor, List.drop_eq_getElem_cons hlt, fq, if_pos hb]; rfl
  ·refine ab _ (az (by omega)) (aJ (by simp [Eqs]) hlt ⟨rfl, hle, ?_⟩)
   rw [hor, List.drop_eq_getElem_cons hlt, fq, if_neg (by rw [hb]; simp)]; rfl
 ·have hge : b.objs.length ≤ i := by simpa using hb
  refine ai ⟨?_, rfl⟩
  rw [hor, List.drop_of_length_le hge]; rfl
theorem I0 {H : Heap} {O : Own} {row : List Value} {x : It} (h : ItR H O row x) (q : Bool) : RetO PP mK [.agg row.toArray, .bool q] H O (.bool (cd x q)) := by
 obtain ⟨s, rfl, hs⟩ := h
 refine rL (vs := [iV x.player, iV x.id, iV x.card, iV x.trig, s, .bool q]) (by kernel_rfl) ⟨rfl, rfl, rfl, rfl, hs.one, rfl, trivial⟩ ?_
 simp only [ix]
 have lt := hs.len
 have hB := hs.lenB
 rw [List.length_map] at lt hB
 have e4 : ∀ {k : Value → Tree} {Q : Value → Heap → Own → Prop} {H' : Heap} {O' : Own}, (k (iV x.tgs.length)).den PP Q H' O' → (Tree.pure [] .len [g [iV x.player, iV x.id, iV x.card, iV x.trig, s, Value.bool q] 4] k).den PP Q H' O' := fun hk => ab _ lt hk
 repeat (first | refine ae ?_ | refine af ?_ | refine ah fun _ => ?_ | refine ab _ (aC _ _) ?_ | refine ab _ (cZ _ _) ?_ | refine ab _ (eB _ _) ?_ | refine ab _ (du _ _) ?_ | refine ab _ (aH _ _) ?_ | refine ab _ (bG _ _) ?_ | refine ab _ (bg _ _) ?_ | refine ab _ (aO _ _) ?_ | refine ab _ (aI _) ?_ | refine ab _ (uF _ _) ?_ | refine ab _ (pD _ _) ?_)
 refine e4 ?_
 refine af (ab _ (aC _ _) (af (ab _ (aO _ _) ?_)))
 have fiff : cd x q = true ↔ (0 ≤ x.player ∧ x.player ≤ 1) ∧ (1 ≤ x.id ∧ x.id ≤ 500) ∧ (0 ≤ x.card ∧ x.card ≤ 399) ∧ (-1 ≤ x.trig ∧ x.trig ≤ 1) ∧ (x.tgs.length ≤ 4 ∧ ¬ (0 ≤ x.trig ∧ 0 < x.tgs.length) ∧ ¬ (q = true ∧ x.trig < 0)) ∧ (x.tgs.any fun t => !eC t) = false := by
  simp only [cd, aw, Bool.and_eq_true, Bool.not_eq_true', Bool.or_eq_false_iff, Bool.and_eq_false_iff, decide_eq_true_eq, decide_eq_false_iff_not]
  generalize (x.tgs.any fun t => !eC t) = c
  cases q <;> simp only [Bool.false_eq_true, false_and, true_and, not_false_eq_true, and_true, reduceCtorEq, or_false, false_or, true_or] <;> constructor <;> intro e <;> (try obtain ⟨e1, e2, e3, e4, e5, e6⟩ := e) <;> (try refine ⟨?_, ?_, ?_, ?_, ?_, ?_⟩) <;> first | omega | assumption
 refine ak (fun h1 => ai ⟨EW ?_, rfl⟩) (fun h1 => ?_)
 ·rw [fiff]
  simp only [Bool.or_eq_true, decide_eq_true_eq] at h1
  refine ⟨fun e => (by cases e), fun ⟨e1, e2, e3, e4, e5, e6⟩ => ?_⟩
  omega
 simp only [Bool.or_eq_false_iff, decide_eq_false_iff_not] at h1
 refine ae (ab _ (eB _ _) (ae (af (af ?_))))
 refine e4 ?_
 refine af (ab _ (aC _ _) (af (ab _ (bg _ _) (af (ae (af (af (af (af (ab _ (aC _ _) (af (af (af (ab _ (bg _ _) (af (ab _ (aO _ _) ?_))))))))))))))))
 refine ak (fun h2 => ai ⟨EW ?_, rfl⟩) (fun h2 => ?_)
 ·rw [fiff]
  simp only [Bool.or_eq_true, Bool.and_eq_true, decide_eq_true_eq] at h2
  refine ⟨fun e => (by cases e), fun ⟨e1, e2, e3, e4, ⟨e5, e6, e7⟩, e8⟩ => ?_⟩
  rcases h2 with h2 | h2
  ·omega
  ·exact absurd h2 e7
 simp only [Bool.or_eq_false_iff, Bool.and_eq_false_iff, decide_eq_false_iff_not] at h2
 have hfin : (Value.bool (!(x.tgs.any fun t => !eC t)) : Value) = .bool (cd x q) := by
  refine EW ?_
  rw [fiff, Bool.not_eq_true']
  refine ⟨fun e => ⟨by omega, by omega, by omega, by omega, ⟨by omega, by omega, fun e' => ?_⟩, e⟩, fun e => e.2.2.2.2.2⟩
  rcases h2.2 with h3 | h3
  ·rw [h3] at e'; cases e'.1
  ·exact h3 e'.2
 refine aQ x.tgs.length (fun i H' O' => O' = O ∧ Heap.le H H' ∧ (x.tgs.any fun t => !eC t) = ((x.tgs.drop i).any fun t => !eC t)) ⟨rfl, Heap.le_refl H, rfl⟩ ?_
 rintro i H' O' hi - ⟨rfl, hle, hor⟩
 refine ae (e4 (ab _ (aC _ _) (ak (fun hb => ?_) (fun hb => ?_))))
 ·have hlt : i < x.tgs.length := by simpa using hb
  obtain ⟨a, k1, k2, _, k3, k4⟩ := (hs.le hle).idx .i64 i (Tg.row x.tgs[i]) (by simp [hlt])
  refine ae (ab _ k1 (ap k2 k3 k4 ?_))
  repeat (first | refine ae ?_ | refine af ?_ | refine ah fun _ => ?_ | refine ab _ (aC _ _) ?_ | refine ab _ (cZ _ _) ?_ | refine ab _ (eB _ _) ?_ | refine ab _ (du _ _) ?_ | refine ab _ (aH _ _) ?_ | refine ab _ (bG _ _) ?_ | refine ab _ (bg _ _) ?_ | refine ab _ (aO _ _) ?_ | refine ab _ (aI _) ?_ | refine ab _ (uF _ _) ?_ | refine ab _ (pD _ _) ?_)
  have hst : ((x.tgs.drop i).any fun t => !eC t) = (!eC x.tgs[i] || ((x.tgs.drop (i + 1)).any fun t => !eC t)) := by rw [List.drop_eq_getElem_cons hlt, List.any_cons]
  refine ak (fun hb => ai ⟨?_, rfl⟩) (fun hb => ?_)
  ·have : eC x.tgs[i] = false := by simp [eC, aw] at hb ⊢; omega
   rw [← hfin, hor, hst, this]; rfl
  ·have : eC x.tgs[i] = true := by simp [eC, aw] at hb ⊢; omega
   refine ab _ (az (by omega)) (aJ (by simp [Eqs]) hlt ⟨rfl, hle, ?_⟩)
   rw [hor, hst, this]; rfl
 ·have hge : x.tgs.length ≤ i := by simpa using hb
  refine ai ⟨?_, rfl⟩
  rw [← hfin, hor, List.drop_of_length_le hge]; rfl
end Go.Proofs.YtieaihgbjikggaaGreat
namespace Go.Proofs.YtieaihgbjikggaaGreat
open Go Go.Sx
set_option maxRecDepth 100000
set_option maxHeartbeats 1000000
def Nl (s : St) : Prop := s.lib.length ≤ 100000 ∧ s.hand.length ≤ 100000 ∧ s.field.length ≤ 100000 ∧ s.grave.length ≤ 100000
def Bk (b : Bd) : Prop := Nl b.s0 ∧ Nl b.s1 ∧ b.stack.length ≤ 100000
def jd (p id : Int) (x : It) : Bool := (x.trig == -1 && x.id == id) && x.player == p
def ru (s : St) (id : Int) : Nat := ((s.lib.count id + s.hand.count id) + s.field.count id) + s.grave.count id
def rW (b : Bd) (p id : Int) : Nat := (if p = 0 then ru b.s0 id else ru b.s1 id) + b.stack.countP (jd p id)
theorem jR {α : Type} {l : List α} {i : Nat} (h : i < l.length) (p : α → Bool) : (l.take (i + 1)).countP p = (l.take i).countP p + (if p l[i] then 1 else 0) := by
 rw [List.take_add_one, List.getElem?_eq_getElem h, Option.toList_some, List.countP_append, List.countP_singleton]
theorem DE {n : Nat} (h : n < 2 ^ 63) : al (.bin .add .int) [iV 0, iV (n : Int)] = some (iV (n : Int)) := by
 have := gF (i := 0) (n := n) (by omega)
 simpa using this
theorem Kw {H : Heap} {O : Own} {v : dG} {b : Bd} (h : BdR H O v b) (hfit : Bk b) {p : Int} (hp : p = 0 ∨ p = 1) (id : Int) :
  RetO PP kA [.agg (aq v b).toArray, iV p, iV id] H O (iV ((rW b p id : Nat) : Int)) := by
 refine o5 (vs := aq v b ++ [iV p, iV id]) (by kernel_rfl) (aL (au h) ⟨rfl, rfl, trivial⟩) ?_
 simp only [fX]
 obtain ⟨⟨f1, f2, f3, f4⟩, ⟨f5, f6, f7, f8⟩, f9⟩ := hfit
 refine ah fun r0 => ?_
 have e38 : g (aq v b ++ [iV p, iV id]) 38 = iV p := rfl
 rw [e38]
 rcases hp with rfl | rfl
 ·refine ⟨.i64, 0, rfl, fun _ => ?_, fun e => absurd rfl e⟩
  obtain ⟨z1, z2, z3, z4⟩ := d8 h.s0
  have c1 : b.s0.lib.count id ≤ b.s0.lib.length := List.count_le_length
  have c2 : b.s0.hand.count id ≤ b.s0.hand.length := List.count_le_length
  have c3 : b.s0.field.count id ≤ b.s0.field.length := List.count_le_length
  have c4 : b.s0.grave.count id ≤ b.s0.grave.length := List.count_le_length
  refine ae (aj (iX b.s0 z1 z2 z3 z4 H O) rfl ⟨z1, z2, z3, z4, trivial⟩ fun H1 l1 => ?_)
  replace h := h.le l1
  refine aj (gA h.s0.lib id) rfl ⟨rfl, trivial⟩ fun H2 l2 => ab _ (DE (by omega)) ?_
  replace h := h.le l2
  refine aj (gA h.s0.hand id) rfl ⟨rfl, trivial⟩ fun H3 l3 => ab _ (gF (by omega)) ?_
  replace h := h.le l3
  refine aj (gA h.s0.field id) rfl ⟨rfl, trivial⟩ fun H4 l4 => ab _ (gF (by omega)) ?_
  replace h := h.le l4
  refine aj (gA h.s0.grave id) rfl ⟨rfl, trivial⟩ fun H5 l5 => ab _ (gF (by omega)) ?_
  replace h := h.le l5
  have hz : ((b.s0.lib.count id + b.s0.hand.count id) + b.s0.field.count id) + b.s0.grave.count id = ru b.s0 id := rfl
  have hzb : ru b.s0 id ≤ 400000 := by unfold ru; omega
  rw [hz]
  obtain ⟨rows, hrs, hrl, hit⟩ := h.stack
  have hsl : al .len [v.s] = some (iV b.stack.length) := ItsR.len h.stack
  refine dc b.stack.length (fun i x H' O' => O' = O ∧ Heap.le H5 H' ∧ x = iV ((ru b.s0 id + (b.stack.take i).countP (jd 0 id) : Nat) : Int)) ⟨rfl, Heap.le_refl _, by simp⟩ ?_
  rintro i x H' O' hi - ⟨rfl, hle, rfl⟩
  have hci : (b.stack.take i).countP (jd 0 id) ≤ i := Nat.le_trans List.countP_le_length (by simp; omega)
  refine ae (ab _ hsl (ab _ (aC _ _) (ak (fun hb => ?_) (fun hb => ?_))))
  ·have hlt : i < b.stack.length := by simpa using hb
   obtain ⟨a, h1, h2, _, h3, h4⟩ := (hrs.le hle).idx .i64 i rows[i] (by simp [hrl, hlt])
   obtain ⟨s, hrow, _⟩ := hit i rows[i] b.stack[i] (by simp [hrl, hlt]) (by simp [hlt])
   rw [hrow] at h2 h3 h4
   refine ae (ab _ h1 (ap h2 h3 h4 ?_))
   refine ah fun _ => ae (ae (ab _ (aH _ _) (ae (af (af (af (ab _ (aH _ _) (af (ab _ (bg _ _) (ae (af (af (af (ab _ (aH _ _) (af (ab _ (bg _ _) ?_))))))))))))))))
   refine ak (fun hb => ?_) (fun hb => ?_)
   ·refine ab _ (az (by omega)) (ab _ (az (by omega)) (aR (by simp [Eqs]) hlt ⟨rfl, hle, ?_⟩))
    have : jd 0 id b.stack[i] = true := hb
    rw [jR hlt, this]; rfl
   ·refine ab _ (az (by omega)) (aR (by simp [Eqs]) hlt ⟨rfl, hle, ?_⟩)
    have : jd 0 id b.stack[i] = false := hb
    rw [jR hlt, this]; rfl
  ·have : b.stack.length ≤ i := by simpa using hb
   refine ai ⟨?_, rfl⟩
   rw [List.take_of_length_le this]; rfl
 ·refine ⟨.i64, 1, rfl, fun e => absurd e (by omega), fun _ => ⟨.i64, 1, rfl, fun _ => ?_, fun e => absurd rfl e⟩⟩
  obtain ⟨z1, z2, z3, z4⟩ := d8 h.s1
  have c1 : b.s1.lib.count id ≤ b.s1.lib.length := List.count_le_length
  have c2 : b.s1.hand.count id ≤ b.s1.hand.length := List.count_le_length
  have c3 : b.s1.field.count id ≤ b.s1.field.length := List.count_le_length
  have c4 : b.s1.grave.count id ≤ b.s1.grave.length := List.count_le_length
  refine ae (aj (iX b.s1 z1 z2 z3 z4 H O) rfl ⟨z1, z2, z3, z4, trivial⟩ fun H1 l1 => ?_)
  replace h := h.le l1
  refine aj (gA h.s1.lib id) rfl ⟨rfl, trivial⟩ fun H2 l2 => ab _ (DE (by omega)) ?_
  replace h := h.le l2
  refine aj (gA h.s1.hand id) rfl ⟨rfl, trivial⟩ fun H3 l3 => ab _ (gF (by omega)) ?_
  replace h := h.le l3
  refine aj (gA h.s1.field id) rfl ⟨rfl, trivial⟩ fun H4 l4 => ab _ (gF (by omega)) ?_
  replace h := h.le l4
  refine aj (gA h.s1.grave id) rfl ⟨rfl, trivial⟩ fun H5 l5 => ab _ (gF (by omega)) ?_
  replace h := h.le l5
  have hz : ((b.s1.lib.count id + b.s1.hand.count id) + b.s1.field.count id) + b.s1.grave.count id = ru b.s1 id := rfl
  have hzb : ru b.s1 id ≤ 400000 := by unfold ru; omega
  rw [hz]
  obtain ⟨rows, hrs, hrl, hit⟩ := h.stack
  have hsl : al .len [v.s] = some (iV b.stack.length) := ItsR.len h.stack
  refine dc b.stack.length (fun i x H' O' => O' = O ∧ Heap.le H5 H' ∧ x = iV ((ru b.s1 id + (b.stack.take i).countP (jd 1 id) : Nat) : Int)) ⟨rfl, Heap.le_refl _, by simp⟩ ?_
  rintro i x H' O' hi - ⟨rfl, hle, rfl⟩
  have hci : (b.stack.take i).countP (jd 1 id) ≤ i := Nat.le_trans List.countP_le_length (by simp; omega)
  refine ae (ab _ hsl (ab _ (aC _ _) (ak (fun hb => ?_) (fun hb => ?_))))
  ·have hlt : i < b.stack.length := by simpa using hb
   obtain ⟨a, h1, h2, _, h3, h4⟩ := (hrs.le hle).idx .i64 i rows[i] (by simp [hrl, hlt])
   obtain ⟨s, hrow, _⟩ := hit i rows[i] b.stack[i] (by simp [hrl, hlt]) (by simp [hlt])
   rw [hrow] at h2 h3 h4
   refine ae (ab _ h1 (ap h2 h3 h4 ?_))
   refine ah fun _ => ae (ae (ab _ (aH _ _) (ae (af (af (af (ab _ (aH _ _) (af (ab _ (bg _ _) (ae (af (af (af (ab _ (aH _ _) (af (ab _ (bg _ _) ?_))))))))))))))))
   refine ak (fun hb => ?_) (fun hb => ?_)
   ·refine ab _ (az (by omega)) (ab _ (az (by omega)) (aR (by simp [Eqs]) hlt ⟨rfl, hle, ?_⟩))
    have : jd 1 id b.stack[i] = true := hb
    rw [jR hlt, this]; rfl
   ·refine ab _ (az (by omega)) (aR (by simp [Eqs]) hlt ⟨rfl, hle, ?_⟩)
    have : jd 1 id b.stack[i] = false := hb
    rw [jR hlt, this]; rfl
  ·have : b.stack.length ≤ i := by simpa using hb
   refine ai ⟨?_, rfl⟩
   rw [List.take_of_length_le this]; rfl
end Go.Proofs.YtieaihgbjikggaaGreat
namespace Go.Proofs.YtieaihgbjikggaaGreat
open Go Go.Sx
set_option maxRecDepth 100000
set_option maxHeartbeats 1000000
theorem kl {α : Type} (p : α → Bool) : ∀ (l : List α) (i : Int), 0 ≤ i → (fq p l i = -1 ∧ ∀ x ∈ l, p x = false) ∨ ∃ (k : Nat) (x : α), l[k]? = some x ∧ p x = true ∧ fq p l i = i + k
 | [], i, _ => .inl ⟨rfl, by simp⟩
 | a :: l, i, h => by
  simp only [fq]
  by_cases hp : p a = true
  ·right; exact ⟨0, a, rfl, hp, by rw [if_pos hp]; simp⟩
  ·rw [if_neg hp]
   rcases kl p l (i + 1) (by omega) with ⟨h1, h2⟩ | ⟨k, x, h1, h2, h3⟩
   ·left
    refine ⟨h1, fun x hx => ?_⟩
    rcases List.mem_cons.1 hx with rfl | hx
    ·simpa using hp
    ·exact h2 x hx
   ·right; exact ⟨k + 1, x, by simpa using h1, h2, by rw [h3]; omega⟩
def su (b : Bd) (i : Int) : Int := (b.objs[i.toNat]?.map (·.card)).getD 0
def mV (b : Bd) (x : It) : Bool := decide (x.trig ≥ 0) || !(decide (fL b x.id < 0) || (su b (fL b x.id) != x.card))
def qA (x : It) : Bool := !decide (x.trig ≥ 0)
def CX (b : Bd) : Nat := b.s0.lib.length + b.s0.hand.length + b.s0.field.length + b.s0.grave.length + b.s1.lib.length + b.s1.hand.length + b.s1.field.length + b.s1.grave.length
def nD (b : Bd) : Option Int → List Ob → Bool
 | _, [] => true
 | prev, o :: r => (!(!bd o || iZ prev o.id) && (((rW b o.owner o.id : Nat) : Int) == 1)) && nD b (some o.id) r
def tQ (b : Bd) : Bool := b.stack.all (mV b) && (nD b none b.objs && (((CX b + b.stack.countP qA : Nat) : Int) == (b.objs.length : Int)))
theorem mU {o : Ob} (h : bd o = true) : o.owner = 0 ∨ o.owner = 1 := ((oh o).1 h).2.2.2.2.2.2
theorem Mc {H : Heap} {O : Own} {v : dG} {b : Bd} (h : BdR H O v b) (hfit : Bk b) : RetO PP lh [.agg (aq v b).toArray] H O (.bool (tQ b)) := by
 refine qJ (vs := aq v b) (by kernel_rfl) (au h) ?_
 simp only [gK]
 have hfit' := hfit
 obtain ⟨⟨f1, f2, f3, f4⟩, ⟨f5, f6, f7, f8⟩, f9⟩ := hfit
 have len1 : ∀ {H' : Heap} {O' : Own} {w : Value} {l : List Int}, RSl H' O' 1 w (aG l) → al .len [w] = some (iV l.length) := fun h => by have := h.len; rwa [aG, List.length_map] at this
 obtain ⟨z1, z2, z3, z4⟩ := d8 h.s0
 obtain ⟨z5, z6, z7, z8⟩ := d8 h.s1
 refine ah fun r0 => ae (aj (iX b.s0 z1 z2 z3 z4 H O) rfl ⟨z1, z2, z3, z4, trivial⟩ fun H1 l1 => ?_)
 replace h := h.le l1
 refine ab _ (len1 h.s0.lib) (ab _ (DE (by omega)) (ab _ (len1 h.s0.hand) (ab _ (gF (by omega)) (ab _ (len1 h.s0.field) (ab _ (gF (by omega)) (ab _ (len1 h.s0.grave) (ab _ (gF (by omega)) ?_)))))))
 refine ae (aj (iX b.s1 z5 z6 z7 z8 H1 O) rfl ⟨z5, z6, z7, z8, trivial⟩ fun H2 l2 => ?_)
 replace h := h.le l2
 refine ab _ (len1 h.s1.lib) (ab _ (gF (by omega)) (ab _ (len1 h.s1.hand) (ab _ (gF (by omega)) (ab _ (len1 h.s1.field) (ab _ (gF (by omega)) (ab _ (len1 h.s1.grave) (ab _ (gF (by omega)) ?_)))))))
 have hz : b.s0.lib.length + b.s0.hand.length + b.s0.field.length + b.s0.grave.length + b.s1.lib.length + b.s1.hand.length + b.s1.field.length + b.s1.grave.length = CX b := rfl
 have hzb : CX b ≤ 800000 := by unfold CX; omega
 rw [hz]
 have hsl : al .len [v.s] = some (iV b.stack.length) := ItsR.len h.stack
 have stk := h.stack
 obtain ⟨rows, hrs, hrl, hit⟩ := stk
 have lo := h.objs.len
 have lob := h.objs.lenB
 rw [List.length_map] at lo lob
 refine dc b.stack.length (fun i x H' O' => O' = O ∧ Heap.le H2 H' ∧ x = iV ((CX b + (b.stack.take i).countP qA : Nat) : Int) ∧ b.stack.all (mV b) = (b.stack.drop i).all (mV b)) ⟨rfl, Heap.le_refl _, by simp, rfl⟩ ?_
 rintro i x H' O' hi - ⟨rfl, hle, rfl, hor⟩
 have hci : (b.stack.take i).countP qA ≤ i := Nat.le_trans List.countP_le_length (by simp; omega)
 refine ae (ab _ hsl (ab _ (aC _ _) (ak (fun hb => ?_) (fun hb => ?_))))
 ·have hlt : i < b.stack.length := by simpa using hb
  obtain ⟨a, h1, h2, _, h3, h4⟩ := (hrs.le hle).idx .i64 i rows[i] (by simp [hrl, hlt])
  obtain ⟨s, hrow, _⟩ := hit i rows[i] b.stack[i] (by simp [hrl, hlt]) (by simp [hlt])
  rw [hrow] at h2 h3 h4
  have hst : (b.stack.drop i).all (mV b) = (mV b b.stack[i] && (b.stack.drop (i + 1)).all (mV b)) := by rw [List.drop_eq_getElem_cons hlt, List.all_cons]
  refine ae (ab _ h1 (ap h2 h3 h4 ?_))
  refine ah fun _ => ae (ae (ab _ (eB _ _) ?_))
  refine ak (fun hb => ?_) (fun hb => ?_)
  ·refine ab _ (az (by omega)) (aR (by simp [Eqs]) hlt ⟨rfl, hle, ?_, ?_⟩)
   ·have : qA b.stack[i] = false := by simp only [qA, hb, Bool.not_true]
    rw [jR hlt, this]; rfl
   ·rw [hor, hst]
    have : mV b b.stack[i] = true := by simp only [mV, hb, Bool.true_or]
    rw [this, Bool.true_and]
  ·refine ab _ (az (by omega)) (ae (ae (aj (wB (h.le hle) b.stack[i].id) rfl ⟨rfl, trivial⟩ fun H3 l3 => ab _ (aC _ _) ?_)))
   refine ae (af (af (af ?_)))
   have hpv : ∃ pv : Value, pv.oneCell' = true ∧ (¬ (fL b b.stack[i].id < 0) → al (.idx 12) [v.o, iV (fL b b.stack[i].id)] = some pv ∧ Bg pv = true ∧ Reads H3 O' (aS pv 1) 1 [iV (su b (fL b b.stack[i].id))]) := by
    rcases kl (fun o => o.id == b.stack[i].id) b.objs 0 (by omega) with ⟨e, _⟩ | ⟨k, o, e1, _, e3⟩
    ·refine ⟨iV 0, rfl, fun hn => ?_⟩
     exfalso; apply hn
     show fL b b.stack[i].id < 0
     unfold fL; omega
    ·have e3 : fL b b.stack[i].id = (k : Int) := by unfold fL; omega
     obtain ⟨a, k1, k2, k3, _⟩ := ((h.objs.le (Heap.le_trans hle l3))).idx .i64 k (Ob.row o) (by rw [List.getElem?_map, e1]; rfl)
     refine ⟨.pointer (some a), rfl, fun _ => ⟨by rw [e3]; exact k1, rfl, ?_⟩⟩
     have := k3 1 1 (by omega)
     rw [e3]
     have ec : su b (k : Int) = o.card := by simp [su, e1]
     rw [ec]; exact this
   obtain ⟨pv, hpone, hpv⟩ := hpv
   have hon : On [((.bool (decide (fL b b.stack[i].id < 0)) : Value), false)] → ¬ (fL b b.stack[i].id < 0) := fun h => by
    have := h.1
    simp at this
    omega
   refine ⟨pv, fun ho => (hpv (hon ho)).1, .inr hpone, ?_⟩
   refine ⟨fun ho => (hpv (hon ho)).2.1, ?_⟩
   refine af (af ?_)
   refine ⟨[iV (su b (fL b b.stack[i].id))], rfl, ⟨rfl, trivial⟩, fun ho => (hpv (hon ho)).2.2, ?_⟩
   refine ae (af (af (af (ab _ (bG _ _) (af (ab _ (aO _ _) ?_))))))
   have hsi : mV b b.stack[i] = !(decide (fL b b.stack[i].id < 0) || (su b (fL b b.stack[i].id) != b.stack[i].card)) := by simp only [mV, hb, Bool.false_or]
   refine ak (fun hc => ai ⟨?_, rfl⟩) (fun hc => ?_)
   ·have : b.stack.all (mV b) = false := by rw [hor, hst, hsi, show (decide (fL b b.stack[i].id < 0) || (su b (fL b b.stack[i].id) != b.stack[i].card)) = true from hc]; rfl
    rw [tQ, this]; rfl
   ·refine ab _ (az (by omega)) (aR (by simp [Eqs]) hlt ⟨rfl, Heap.le_trans hle l3, ?_, ?_⟩)
    ·have : qA b.stack[i] = true := by simp only [qA, hb, Bool.not_false]
     rw [jR hlt, this]; rfl
    ·rw [hor, hst, hsi, show (decide (fL b b.stack[i].id < 0) || (su b (fL b b.stack[i].id) != b.stack[i].card)) = false from hc]; rfl
 ·have hge : b.stack.length ≤ i := by simpa using hb
  rw [List.take_of_length_le hge] at hci ⊢
  rw [List.drop_of_length_le hge] at hor
  have hfr : tQ b = (nD b none b.objs && (((CX b + b.stack.countP qA : Nat) : Int) == (b.objs.length : Int))) := by rw [tQ, hor]; rfl
  replace h := h.le hle
  refine aQ b.objs.length (fun i H'' O'' => O'' = O' ∧ Heap.le H' H'' ∧ nD b none b.objs = nD b (mg b.objs i) (b.objs.drop i)) ⟨rfl, Heap.le_refl _, by simp [mg]⟩ ?_
  rintro j H'' O'' hj - ⟨rfl, hle2, hor2⟩
  refine ae (ab _ lo (ab _ (aC _ _) (ak (fun hb => ?_) (fun hb => ?_))))
  ·have hlt : j < b.objs.length := by simpa using hb
   obtain ⟨a, h1, h2, _, h3, h4⟩ := (h.objs.le hle2).idx .i64 j (Ob.row b.objs[j]) (by simp [hlt])
   refine ae (ab _ h1 (ap h2 h3 h4 (ah fun r2 => ae (ae (aj (AW b.objs[j] H'' O'') rfl ⟨rfl, trivial⟩ fun H4 l4 => ?_)))))
   have l4' := Heap.le_trans hle2 l4
   have hp : ∃ (pv : Value) (x : Int), pv.oneCell' = true ∧ (0 < j → al (.idx 12) [v.o, iV ((j : Int) - 1)] = some pv ∧ Bg pv = true ∧ Reads H4 O'' pv 1 [iV x]) ∧ iZ (mg b.objs j) b.objs[j].id = (decide ((j : Int) > 0) && decide (x ≥ b.objs[j].id)) := by
    rcases Nat.eq_zero_or_pos j with rfl | hpos
    ·exact ⟨iV 0, 0, rfl, fun h => absurd h (Nat.lt_irrefl 0), by simp [mg, iZ]⟩
    ·obtain ⟨j', rfl⟩ : ∃ j', j = j' + 1 := ⟨j - 1, by omega⟩
     have hj' : j' < b.objs.length := by omega
     obtain ⟨a, k1, k2, k3, _⟩ := (h.objs.le l4').idx .i64 j' (Ob.row b.objs[j']) (by simp [hj'])
     refine ⟨.pointer (some a), b.objs[j'].id, rfl, fun _ => ⟨?_, rfl, ?_⟩, ?_⟩
     ·have e : ((j' + 1 : Nat) : Int) - 1 = (j' : Int) := by omega
      rw [e]; exact k1
     ·have := k3 0 1 (by omega)
      have e : aS (.pointer (some a)) 0 = .pointer (some a) := by simp [aS, Addr.add]
      rwa [e] at this
     ·rw [vk hj']
      have : ((j' + 1 : Nat) : Int) > 0 := by omega
      simp only [iZ, this, decide_true, Bool.true_and]
   obtain ⟨pv, x, hpone, hpv, hprev⟩ := hp
   have hsub1 : al (.bin .sub .int) [iV j, iV 1] = some (iV ((j : Int) - 1)) := by
    simp only [al, fU, ej, if_true]
    rw [rx (by omega) (by omega)]
   have hon : ∀ {u : Bool}, On [((.bool (decide ((j : Int) > 0)) : Value), true), (.bool u, false)] → 0 < j := fun h => by
    have := h.1
    simp at this
    omega
   refine ab _ (aI _) (af (ab _ (cZ _ _) ?_))
   repeat (first | refine ae ?_ | refine af ?_ | refine ab _ hsub1 ?_)
   refine ⟨pv, fun ho => (hpv (hon ho)).1, .inr hpone, ?_⟩
   refine ⟨fun ho => (hpv (hon ho)).2.1, ?_⟩
   refine af (af (af (af ?_)))
   refine ⟨[iV x], rfl, ⟨rfl, trivial⟩, fun ho => (hpv (hon ho)).2.2, ?_⟩
   refine ae (af (af (af (af (af (af (ab _ (eB _ _) (af (af (af (ab _ (bg _ _) (af (ab _ (aO _ _) ?_)))))))))))))
   have hstep : nD b (mg b.objs j) (b.objs.drop j) = ((!(!bd b.objs[j] || iZ (mg b.objs j) b.objs[j].id) && (((rW b b.objs[j].owner b.objs[j].id : Nat) : Int) == 1)) && nD b (some b.objs[j].id) (b.objs.drop (j + 1))) := by
    rw [List.drop_eq_getElem_cons hlt, nD]
   refine ak (fun hc => ai ⟨?_, rfl⟩) (fun hc => ?_)
   ·rw [hfr, hor2, hstep, hprev, show (!bd b.objs[j] || (decide ((j : Int) > 0) && decide (x ≥ b.objs[j].id))) = true from hc]; rfl
   have hc' : (!bd b.objs[j] || (decide ((j : Int) > 0) && decide (x ≥ b.objs[j].id))) = false := hc
   have hval : bd b.objs[j] = true := by
    have := (Bool.or_eq_false_iff.1 hc').1
    simpa using this
   refine ae (ae (ae (aj (Kw (h.le l4') hfit' (mU hval) b.objs[j].id) rfl ⟨rfl, trivial⟩ fun H5 l5 => ab _ (bG _ _) (ak (fun hd => ai ⟨?_, rfl⟩) (fun hd => ?_)))))
   ·have : (((rW b b.objs[j].owner b.objs[j].id : Nat) : Int) == 1) = false := by simpa using hd
    rw [hfr, hor2, hstep, this]; simp
   ·have : (((rW b b.objs[j].owner b.objs[j].id : Nat) : Int) == 1) = true := by simpa using hd
    refine ab _ (az (by omega)) (aJ (by simp [Eqs]) hlt ⟨rfl, Heap.le_trans l4' l5, ?_⟩)
    rw [hor2, hstep, hprev, hc', this, vk hlt]; rfl
  ·have hge : b.objs.length ≤ j := by simpa using hb
   rw [List.drop_of_length_le hge] at hor2
   refine ae (ab _ lo (ab _ (aH _ _) (ai ⟨?_, rfl⟩)))
   rw [hfr, hor2]; rfl
end Go.Proofs.YtieaihgbjikggaaGreat
namespace Go.Proofs.YtieaihgbjikggaaGreat
open Go Go.Sx
set_option maxRecDepth 100000
set_option maxHeartbeats 1000000
def Bm (own att : List Int) (x : Int) : Bool := ((((att.count x : Nat) : Int) == 1) && (((own.count x : Nat) : Int) == 1))
def jH (x y : Bl) : Bool := (y.attacker == x.attacker) || (y.blocker == x.blocker)
def qD (att other : List Int) (done : List Bl) (x : Bl) : Bool := (((att.count x.attacker : Nat) : Int) == 1) && ((((other.count x.blocker : Nat) : Int) == 1) && done.all fun y => !jH x y)
def DJ (att other : List Int) : List Bl → List Bl → Bool
 | _, [] => true
 | done, x :: r => qD att other done x && DJ att other (done ++ [x]) r
def tj (own other att : List Int) (bl : List Bl) : Bool := att.all (Bm own att) && DJ att other [] bl
def gt (b : Bd) : Bool := if b.active = 0 then tj b.s0.field b.s1.field b.att b.blocks else tj b.s1.field b.s0.field b.att b.blocks
theorem iN {l : List Int} {x : Int} {c : Bool} (h : (((l.count x : Nat) : Int) != 1) = c) : (((l.count x : Nat) : Int) == 1) = !c := by rw [← h, bne, Bool.not_not]
theorem Kx {H : Heap} {O : Own} {v : dG} {b : Bd} (h : BdR H O v b) (ha : b.active = 0 ∨ b.active = 1) : RetO PP kB [.agg (aq v b).toArray] H O (.bool (gt b)) := by
 refine o6 (vs := aq v b) (by kernel_rfl) (au h) ?_
 simp only [fY]
 have e34 : g (aq v b) 34 = iV b.active := rfl
 rw [e34]
 have hs : ∀ n : Int, n = 0 ∨ n = 1 → al (.bin .sub .int) [iV 1, iV n] = some (iV (1 - n)) := by
  rintro n (rfl | rfl) <;> rfl
 have la := h.att.len
 have laB := h.att.lenB
 have lb := h.blocks.len
 have lbB := h.blocks.lenB
 simp only [aG, List.length_map] at la laB lb lbB
 rcases ha with ha | ha
 ·rw [ha]
  have hF : gt b = (b.att.all (Bm b.s0.field b.att) && DJ b.att b.s1.field [] b.blocks) := by simp [gt, tj, ha]
  refine ah fun r0 => aQ b.att.length (fun i H' O' => O' = O ∧ Heap.le H H' ∧ b.att.all (Bm b.s0.field b.att) = (b.att.drop i).all (Bm b.s0.field b.att)) ⟨rfl, Heap.le_refl H, rfl⟩ ?_
  rintro i H' O' hi - ⟨rfl, hle, hor⟩
  refine ae (ab _ la (ab _ (aC _ _) (ak (fun hb => ?_) (fun hb => ?_))))
  ·have hlt : i < b.att.length := by simpa using hb
   have hst : (b.att.drop i).all (Bm b.s0.field b.att) = (Bm b.s0.field b.att b.att[i] && (b.att.drop (i + 1)).all (Bm b.s0.field b.att)) := by rw [List.drop_eq_getElem_cons hlt, List.all_cons]
   obtain ⟨a, h1, h2, _, h3, h4⟩ := (h.att.le hle).idx .i64 i [iV b.att[i]] (by simp [aG, hlt])
   refine ae (ae (ab _ h1 (ap h2 h3 h4 (aj (gA (h.att.le hle) b.att[i]) rfl ⟨rfl, trivial⟩ fun H1 l1 => ab _ (bG _ _) (ak (fun hc => ai ⟨?_, rfl⟩) (fun hc => ae ?_))))))
   ·rw [hF, hor, hst, Bm, iN hc]; rfl
   refine ⟨.i64, 0, rfl, fun _ => ?_, fun e => absurd rfl e⟩
   have l1' := Heap.le_trans hle l1
   obtain ⟨a, h1, h2, _, h3, h4⟩ := (h.att.le l1').idx .i64 i [iV b.att[i]] (by simp [aG, hlt])
   refine ae (ae (ab _ h1 (ap h2 h3 h4 (aj (gA (h.s0.field.le l1') b.att[i]) rfl ⟨rfl, trivial⟩ fun H2 l2 => ab _ (bG _ _) (ak (fun hd => ai ⟨?_, rfl⟩) (fun hd => ?_))))))
   ·rw [hF, hor, hst, Bm, iN hc, iN hd]; rfl
   ·refine ab _ (az (by omega)) (aJ (by simp [Eqs]) hlt ⟨rfl, Heap.le_trans l1' l2, ?_⟩)
    rw [hor, hst, Bm, iN hc, iN hd]; rfl
  ·have hge : b.att.length ≤ i := by simpa using hb
   rw [List.drop_of_length_le hge] at hor
   have hF2 : gt b = DJ b.att b.s1.field [] b.blocks := by rw [hF, hor]; rfl
   refine aQ b.blocks.length (fun j H'' O'' => O'' = O' ∧ Heap.le H' H'' ∧ DJ b.att b.s1.field [] b.blocks = DJ b.att b.s1.field (b.blocks.take j) (b.blocks.drop j)) ⟨rfl, Heap.le_refl _, rfl⟩ ?_
   rintro j H'' O'' hj - ⟨rfl, hle2, hor2⟩
   have hle2 := Heap.le_trans hle hle2
   refine ae (ab _ lb (ab _ (aC _ _) (ak (fun hb => ?_) (fun hb => ?_))))
   ·have hlt : j < b.blocks.length := by simpa using hb
    obtain ⟨a, h1, h2, _, h3, h4⟩ := (h.blocks.le hle2).idx .i64 j (Bl.row b.blocks[j]) (by simp [hlt])
    have hst : DJ b.att b.s1.field (b.blocks.take j) (b.blocks.drop j) = (qD b.att b.s1.field (b.blocks.take j) b.blocks[j] && DJ b.att b.s1.field (b.blocks.take (j + 1)) (b.blocks.drop (j + 1))) := by
     rw [List.drop_eq_getElem_cons hlt, DJ, List.take_add_one, List.getElem?_eq_getElem hlt]; rfl
    refine ae (ab _ h1 (ap h2 h3 h4 (ah fun r1 => ae (ae (ae (aj (gA (h.att.le hle2) b.blocks[j].attacker) rfl ⟨rfl, trivial⟩ fun H1 l1 => ab _ (bG _ _) (ak (fun hc => ai ⟨?_, rfl⟩) (fun hc => ae (ab _ (hs _ (.inl rfl)) ?_)))))))))
    ·rw [hF2, hor2, hst, qD, iN hc]; rfl
    refine ⟨.i64, 1, rfl, fun e => absurd e (by omega), fun _ => ⟨.i64, 1, rfl, fun _ => ?_, fun e => absurd rfl e⟩⟩
    have l1' := Heap.le_trans hle2 l1
    refine ae (ae (aj (gA (h.s1.field.le l1') b.blocks[j].blocker) rfl ⟨rfl, trivial⟩ fun H2 l2 => ab _ (bG _ _) (ak (fun hd => ai ⟨?_, rfl⟩) (fun hd => ?_))))
    ·rw [hF2, hor2, hst, qD, iN hc, iN hd]; rfl
    have l2' := Heap.le_trans l1' l2
    have hone : qD b.att b.s1.field (b.blocks.take j) b.blocks[j] = (b.blocks.take j).all fun y => !jH b.blocks[j] y := by rw [qD, iN hc, iN hd]; rfl
    refine aQ j (fun k H3 O3 => O3 = O'' ∧ Heap.le H2 H3 ∧ ((b.blocks.take j).all fun y => !jH b.blocks[j] y) = (((b.blocks.take j).drop k).all fun y => !jH b.blocks[j] y)) ⟨rfl, Heap.le_refl _, rfl⟩ ?_
    rintro k H3 O3 hk - ⟨rfl, hle3, hor3⟩
    have hle3 := Heap.le_trans l2' hle3
    refine ab _ (aC _ _) (ak (fun hb => ?_) (fun hb => ?_))
    ·have hltk : k < j := by simpa using hb
     have hltb : k < b.blocks.length := by omega
     have hst3 : (((b.blocks.take j).drop k).all fun y => !jH b.blocks[j] y) = (!jH b.blocks[j] b.blocks[k] && (((b.blocks.take j).drop (k + 1)).all fun y => !jH b.blocks[j] y)) := by
      rw [List.drop_eq_getElem_cons (by simp; omega), List.all_cons, List.getElem_take]
     obtain ⟨a, k1, _, k3, _⟩ := (h.blocks.le hle3).idx .i64 k (Bl.row b.blocks[k]) (by simp [hltb])
     have hr1 : Reads H3 O3 (aS (.pointer (some a)) 1) 1 [iV b.blocks[k].attacker] := k3 1 1 (by omega)
     have hr0 : Reads H3 O3 (.pointer (some a)) 1 [iV b.blocks[k].blocker] := by
      have := k3 0 1 (by omega)
      have e : aS (.pointer (some a)) 0 = .pointer (some a) := by simp [aS, Addr.add]
      rwa [e] at this
     refine ae (ab _ k1 (aD rfl (ap hr1 rfl ⟨rfl, trivial⟩ (ae (ab _ (aH _ _) ?_)))))
     refine ae (af (af (af ?_)))
     refine D8 k1 rfl (aD rfl ?_)
     refine af (af ?_)
     refine ⟨[iV b.blocks[k].blocker], rfl, ⟨rfl, trivial⟩, fun _ => hr0, ?_⟩
     refine ae (af (af (af (ab _ (aH _ _) (af (ab _ (aO _ _) ?_))))))
     refine ak (fun hx => ai ⟨?_, rfl⟩) (fun hx => ?_)
     ·rw [hF2, hor2, hst, hone, hor3, hst3, show jH b.blocks[j] b.blocks[k] = true from hx]; rfl
     ·refine ab _ (az (by omega)) (aJ (by simp [Eqs]) hltk ⟨rfl, Heap.le_trans (Heap.le_refl _) ?_, ?_⟩)
      ·assumption
      ·rw [hor3, hst3, show jH b.blocks[j] b.blocks[k] = false from hx]; rfl
    ·have hke : (b.blocks.take j).length ≤ k := by
      have : j ≤ k := by simpa using hb
      simp; omega
     rw [List.drop_of_length_le hke] at hor3
     refine ab _ (az (by omega)) (aJ (by simp [Eqs]) hlt ⟨rfl, ?_, ?_⟩)
     ·exact Heap.le_trans (by assumption) (Heap.le_trans l1 (Heap.le_trans l2 (by assumption)))
     ·rw [hor2, hst, hone, hor3]; rfl
   ·have hge2 : b.blocks.length ≤ j := by simpa using hb
    refine ai ⟨?_, rfl⟩
    rw [hF2, hor2, List.drop_of_length_le hge2]; rfl
 ·rw [ha]
  have hF : gt b = (b.att.all (Bm b.s1.field b.att) && DJ b.att b.s0.field [] b.blocks) := by simp [gt, tj, ha]
  refine ah fun r0 => aQ b.att.length (fun i H' O' => O' = O ∧ Heap.le H H' ∧ b.att.all (Bm b.s1.field b.att) = (b.att.drop i).all (Bm b.s1.field b.att)) ⟨rfl, Heap.le_refl H, rfl⟩ ?_
  rintro i H' O' hi - ⟨rfl, hle, hor⟩
  refine ae (ab _ la (ab _ (aC _ _) (ak (fun hb => ?_) (fun hb => ?_))))
  ·have hlt : i < b.att.length := by simpa using hb
   have hst : (b.att.drop i).all (Bm b.s1.field b.att) = (Bm b.s1.field b.att b.att[i] && (b.att.drop (i + 1)).all (Bm b.s1.field b.att)) := by rw [List.drop_eq_getElem_cons hlt, List.all_cons]
   obtain ⟨a, h1, h2, _, h3, h4⟩ := (h.att.le hle).idx .i64 i [iV b.att[i]] (by simp [aG, hlt])
   refine ae (ae (ab _ h1 (ap h2 h3 h4 (aj (gA (h.att.le hle) b.att[i]) rfl ⟨rfl, trivial⟩ fun H1 l1 => ab _ (bG _ _) (ak (fun hc => ai ⟨?_, rfl⟩) (fun hc => ae ?_))))))
   ·rw [hF, hor, hst, Bm, iN hc]; rfl
   refine ⟨.i64, 1, rfl, fun e => absurd e (by omega), fun _ => ⟨.i64, 1, rfl, fun _ => ?_, fun e => absurd rfl e⟩⟩
   have l1' := Heap.le_trans hle l1
   obtain ⟨a, h1, h2, _, h3, h4⟩ := (h.att.le l1').idx .i64 i [iV b.att[i]] (by simp [aG, hlt])
   refine ae (ae (ab _ h1 (ap h2 h3 h4 (aj (gA (h.s1.field.le l1') b.att[i]) rfl ⟨rfl, trivial⟩ fun H2 l2 => ab _ (bG _ _) (ak (fun hd => ai ⟨?_, rfl⟩) (fun hd => ?_))))))
   ·rw [hF, hor, hst, Bm, iN hc, iN hd]; rfl
   ·refine ab _ (az (by omega)) (aJ (by simp [Eqs]) hlt ⟨rfl, Heap.le_trans l1' l2, ?_⟩)
    rw [hor, hst, Bm, iN hc, iN hd]; rfl
  ·have hge : b.att.length ≤ i := by simpa using hb
   rw [List.drop_of_length_le hge] at hor
   have hF2 : gt b = DJ b.att b.s0.field [] b.blocks := by rw [hF, hor]; rfl
   refine aQ b.blocks.length (fun j H'' O'' => O'' = O' ∧ Heap.le H' H'' ∧ DJ b.att b.s0.field [] b.blocks = DJ b.att b.s0.field (b.blocks.take j) (b.blocks.drop j)) ⟨rfl, Heap.le_refl _, rfl⟩ ?_
   rintro j H'' O'' hj - ⟨rfl, hle2, hor2⟩
   have hle2 := Heap.le_trans hle hle2
   refine ae (ab _ lb (ab _ (aC _ _) (ak (fun hb => ?_) (fun hb => ?_))))
   ·have hlt : j < b.blocks.length := by simpa using hb
    obtain ⟨a, h1, h2, _, h3, h4⟩ := (h.blocks.le hle2).idx .i64 j (Bl.row b.blocks[j]) (by simp [hlt])
    have hst : DJ b.att b.s0.field (b.blocks.take j) (b.blocks.drop j) = (qD b.att b.s0.field (b.blocks.take j) b.blocks[j] && DJ b.att b.s0.field (b.blocks.take (j + 1)) (b.blocks.drop (j + 1))) := by
     rw [List.drop_eq_getElem_cons hlt, DJ, List.take_add_one, List.getElem?_eq_getElem hlt]; rfl
    refine ae (ab _ h1 (ap h2 h3 h4 (ah fun r1 => ae (ae (ae (aj (gA (h.att.le hle2) b.blocks[j].attacker) rfl ⟨rfl, trivial⟩ fun H1 l1 => ab _ (bG _ _) (ak (fun hc => ai ⟨?_, rfl⟩) (fun hc => ae (ab _ (hs _ (.inr rfl)) ?_)))))))))
    ·rw [hF2, hor2, hst, qD, iN hc]; rfl
    refine ⟨.i64, 0, rfl, fun _ => ?_, fun e => absurd rfl e⟩
    have l1' := Heap.le_trans hle2 l1
    refine ae (ae (aj (gA (h.s0.field.le l1') b.blocks[j].blocker) rfl ⟨rfl, trivial⟩ fun H2 l2 => ab _ (bG _ _) (ak (fun hd => ai ⟨?_, rfl⟩) (fun hd => ?_))))
    ·rw [hF2, hor2, hst, qD, iN hc, iN hd]; rfl
    have l2' := Heap.le_trans l1' l2
    have hone : qD b.att b.s0.field (b.blocks.take j) b.blocks[j] = (b.blocks.take j).all fun y => !jH b.blocks[j] y := by rw [qD, iN hc, iN hd]; rfl
    refine aQ j (fun k H3 O3 => O3 = O'' ∧ Heap.le H2 H3 ∧ ((b.blocks.take j).all fun y => !jH b.blocks[j] y) = (((b.blocks.take j).drop k).all fun y => !jH b.blocks[j] y)) ⟨rfl, Heap.le_refl _, rfl⟩ ?_
    rintro k H3 O3 hk - ⟨rfl, hle3, hor3⟩
    have hle3 := Heap.le_trans l2' hle3
    refine ab _ (aC _ _) (ak (fun hb => ?_) (fun hb => ?_))
    ·have hltk : k < j := by simpa using hb
     have hltb : k < b.blocks.length := by omega
     have hst3 : (((b.blocks.take j).drop k).all fun y => !jH b.blocks[j] y) = (!jH b.blocks[j] b.blocks[k] && (((b.blocks.take j).drop (k + 1)).all fun y => !jH b.blocks[j] y)) := by
      rw [List.drop_eq_getElem_cons (by simp; omega), List.all_cons, List.getElem_take]
     obtain ⟨a, k1, _, k3, _⟩ := (h.blocks.le hle3).idx .i64 k (Bl.row b.blocks[k]) (by simp [hltb])
     have hr1 : Reads H3 O3 (aS (.pointer (some a)) 1) 1 [iV b.blocks[k].attacker] := k3 1 1 (by omega)
     have hr0 : Reads H3 O3 (.pointer (some a)) 1 [iV b.blocks[k].blocker] := by
      have := k3 0 1 (by omega)
      have e : aS (.pointer (some a)) 0 = .pointer (some a) := by simp [aS, Addr.add]
      rwa [e] at this
     refine ae (ab _ k1 (aD rfl (ap hr1 rfl ⟨rfl, trivial⟩ (ae (ab _ (aH _ _) ?_)))))
     refine ae (af (af (af ?_)))
     refine D8 k1 rfl (aD rfl ?_)
     refine af (af ?_)
     refine ⟨[iV b.blocks[k].blocker], rfl, ⟨rfl, trivial⟩, fun _ => hr0, ?_⟩
     refine ae (af (af (af (ab _ (aH _ _) (af (ab _ (aO _ _) ?_))))))
     refine ak (fun hx => ai ⟨?_, rfl⟩) (fun hx => ?_)
     ·rw [hF2, hor2, hst, hone, hor3, hst3, show jH b.blocks[j] b.blocks[k] = true from hx]; rfl
     ·refine ab _ (az (by omega)) (aJ (by simp [Eqs]) hltk ⟨rfl, Heap.le_trans (Heap.le_refl _) ?_, ?_⟩)
      ·assumption
      ·rw [hor3, hst3, show jH b.blocks[j] b.blocks[k] = false from hx]; rfl
    ·have hke : (b.blocks.take j).length ≤ k := by
      have : j ≤ k := by simpa using hb
      simp; omega
     rw [List.drop_of_length_le hke] at hor3
     refine ab _ (az (by omega)) (aJ (by simp [Eqs]) hlt ⟨rfl, ?_, ?_⟩)
     ·exact Heap.le_trans (by assumption) (Heap.le_trans l1 (Heap.le_trans l2 (by assumption)))
     ·rw [hor2, hst, hone, hor3]; rfl
   ·have hge2 : b.blocks.length ≤ j := by simpa using hb
    refine ai ⟨?_, rfl⟩
    rw [hF2, hor2, List.drop_of_length_le hge2]; rfl
end Go.Proofs.YtieaihgbjikggaaGreat
namespace Go.Proofs.YtieaihgbjikggaaGreat
open Go Go.Sx
set_option maxRecDepth 100000
set_option maxHeartbeats 1000000
def AZ (b : Bd) : Bool := decide ((0 ≤ b.active ∧ b.active ≤ 1) ∧ (0 ≤ b.turn ∧ b.turn ≤ 1000) ∧ (0 ≤ b.phase ∧ b.phase ≤ 10) ∧ (-1 ≤ b.holder ∧ b.holder ≤ 1) ∧ (0 ≤ b.passes ∧ b.passes ≤ 2) ∧ b.objs.length ≤ 500 ∧ b.stack.length ≤ 200 ∧ b.queue.length ≤ 200)
def oW (b : Bd) : Bool := AZ b && (b.stack.all (fun x => cd x false) && (b.queue.all (fun x => cd x true) && (bE b.s0 && (bE b.s1 && (tQ b && gt b)))))
theorem IQ {H : Heap} {O : Own} {v : dG} {b : Bd} (h : BdR H O v b) (hfit : Bk b) : RetO PP lk [.agg (aq v b).toArray] H O (.bool (oW b)) := by
 refine qM (vs := aq v b) (by kernel_rfl) (au h) ?_
 simp only [gN]
 have lo := h.objs.len
 rw [List.length_map] at lo
 have ls := ItsR.len h.stack
 have lq := ItsR.len h.queue
 refine ah fun r0 => ?_
 repeat (first | refine ae ?_ | refine af ?_ | refine ah fun _ => ?_ | refine ab _ (aC _ _) ?_ | refine ab _ (cZ _ _) ?_ | refine ab _ (eB _ _) ?_ | refine ab _ (du _ _) ?_ | refine ab _ (aH _ _) ?_ | refine ab _ (bG _ _) ?_ | refine ab _ (bg _ _) ?_ | refine ab _ (aO _ _) ?_ | refine ab _ (aI _) ?_ | refine ab _ (uF _ _) ?_ | refine ab _ (pD _ _) ?_)
 refine ab _ lo ?_
 refine af (ab _ (aC _ _) (af (ab _ (aO _ _) (ae (af (af ?_))))))
 refine ab _ ls ?_
 refine af (ab _ (aC _ _) (af (ab _ (aO _ _) (ae (af (af ?_))))))
 refine ab _ lq ?_
 refine af (ab _ (aC _ _) (af (ab _ (aO _ _) ?_)))
 refine ak (fun hn => ai ⟨?_, rfl⟩) (fun hn => ?_)
 ·have : AZ b = false := by
   simp only [Bool.or_eq_true, decide_eq_true_eq] at hn
   simp only [AZ, decide_eq_false_iff_not]
   omega
  rw [oW, this]; rfl
 have hnum : AZ b = true := by
  simp only [Bool.or_eq_false_iff, decide_eq_false_iff_not] at hn
  simp only [AZ, decide_eq_true_eq]
  omega
 have stk := h.stack
 obtain ⟨rows, hrs, hrl, hit⟩ := stk
 have hsB := hrs.lenB
 refine aQ b.stack.length (fun i H' O' => O' = O ∧ Heap.le H H' ∧ b.stack.all (fun x => cd x false) = (b.stack.drop i).all (fun x => cd x false)) ⟨rfl, Heap.le_refl H, rfl⟩ ?_
 rintro i H' O' hi - ⟨rfl, hle, hor⟩
 refine ae (ab _ ls (ab _ (aC _ _) (ak (fun hb => ?_) (fun hb => ?_))))
 ·have hlt : i < b.stack.length := by simpa using hb
  obtain ⟨a, h1, h2, _, h3, h4⟩ := (hrs.le hle).idx .i64 i rows[i] (by simp [hrl, hlt])
  have hI := (hit i rows[i] b.stack[i] (by simp [hrl, hlt]) (by simp [hlt])).le hle
  obtain ⟨s, hrow, hs⟩ := hI
  rw [hrow] at h2 h3 h4
  have hst : (b.stack.drop i).all (fun x => cd x false) = (cd b.stack[i] false && (b.stack.drop (i + 1)).all (fun x => cd x false)) := by rw [List.drop_eq_getElem_cons hlt, List.all_cons]
  refine ae (ab _ h1 (ap h2 h3 h4 (aj (I0 ⟨s, rfl, hs⟩ false) rfl ⟨rfl, trivial⟩ fun H1 l1 => ab _ (aI _) (ak (fun hc => ai ⟨?_, rfl⟩) (fun hc => ?_)))))
  ·rw [oW, hor, hst, zH hc]; simp
  ·refine ab _ (az (by omega)) (aJ (by simp [Eqs]) hlt ⟨rfl, Heap.le_trans hle l1, ?_⟩)
   rw [hor, hst, vq hc]; rfl
 ·have hge : b.stack.length ≤ i := by simpa using hb
  rw [List.drop_of_length_le hge] at hor
  have hall : b.stack.all (fun x => cd x false) = true := by rw [hor]; rfl
  have que := h.queue
  obtain ⟨rows2, hrs2, hrl2, hit2⟩ := que
  have hqB := hrs2.lenB
  refine aQ b.queue.length (fun j H'' O'' => O'' = O' ∧ Heap.le H' H'' ∧ b.queue.all (fun x => cd x true) = (b.queue.drop j).all (fun x => cd x true)) ⟨rfl, Heap.le_refl _, rfl⟩ ?_
  rintro j H'' O'' hj - ⟨rfl, hle2, hor2⟩
  have hle2 := Heap.le_trans hle hle2
  refine ae (ab _ lq (ab _ (aC _ _) (ak (fun hb => ?_) (fun hb => ?_))))
  ·have hlt : j < b.queue.length := by simpa using hb
   obtain ⟨a, h1, h2, _, h3, h4⟩ := (hrs2.le hle2).idx .i64 j rows2[j] (by simp [hrl2, hlt])
   have hI := (hit2 j rows2[j] b.queue[j] (by simp [hrl2, hlt]) (by simp [hlt])).le hle2
   obtain ⟨s, hrow, hs⟩ := hI
   rw [hrow] at h2 h3 h4
   have hst : (b.queue.drop j).all (fun x => cd x true) = (cd b.queue[j] true && (b.queue.drop (j + 1)).all (fun x => cd x true)) := by rw [List.drop_eq_getElem_cons hlt, List.all_cons]
   refine ae (ab _ h1 (ap h2 h3 h4 (aj (I0 ⟨s, rfl, hs⟩ true) rfl ⟨rfl, trivial⟩ fun H1 l1 => ab _ (aI _) (ak (fun hc => ai ⟨?_, rfl⟩) (fun hc => ?_)))))
   ·rw [oW, hor2, hst, zH hc]; simp
   ·refine ab _ (az (by omega)) (aJ (by simp [Eqs]) hlt ⟨rfl, ?_, ?_⟩)
    ·exact Heap.le_trans (by assumption) l1
    ·rw [hor2, hst, vq hc]; rfl
  ·have hge2 : b.queue.length ≤ j := by simpa using hb
   rw [List.drop_of_length_le hge2] at hor2
   have hall2 : b.queue.all (fun x => cd x true) = true := by rw [hor2]; rfl
   have hF : oW b = (bE b.s0 && (bE b.s1 && (tQ b && gt b))) := by rw [oW, hnum, hall, hall2]; rfl
   replace h := h.le hle2
   obtain ⟨z1, z2, z3, z4⟩ := d8 h.s0
   obtain ⟨z5, z6, z7, z8⟩ := d8 h.s1
   refine ae (aj (Lr b.s0 z1 z2 z3 z4 H'' O'') rfl ⟨rfl, trivial⟩ fun H1 l1 => ak (fun k1 => ?_) (fun k1 => ai ⟨?_, rfl⟩))
   rotate_left
   ·rw [hF, k1]; rfl
   replace h := h.le l1
   refine ae (aj (Lr b.s1 z5 z6 z7 z8 H1 O'') rfl ⟨rfl, trivial⟩ fun H2 l2 => ak (fun k2 => ?_) (fun k2 => ai ⟨?_, rfl⟩))
   rotate_left
   ·rw [hF, k1, k2]; rfl
   replace h := h.le l2
   refine ae (aj (Mc h hfit) rfl ⟨rfl, trivial⟩ fun H3 l3 => ak (fun k3 => ?_) (fun k3 => ai ⟨?_, rfl⟩))
   rotate_left
   ·rw [hF, k1, k2, k3]; rfl
   replace h := h.le l3
   have ha : b.active = 0 ∨ b.active = 1 := by
    simp only [AZ, decide_eq_true_eq] at hnum
    omega
   refine ae (aj (Kx h ha) rfl ⟨rfl, trivial⟩ fun H4 l4 => ai ⟨?_, rfl⟩)
   rw [hF, k1, k2, k3]; rfl
end Go.Proofs.YtieaihgbjikggaaGreat
namespace Go.Proofs.YtieaihgbjikggaaGreat
open Go Go.Sx
set_option maxRecDepth 100000
set_option maxHeartbeats 1000000
theorem BJ {α : Type} [DecidableEq α] : ∀ {l r : List α}, l.Nodup → (∀ x ∈ l, x ∈ r) → r.length ≤ l.length → r.Perm l
 | [], r, _, _, h => by
  have : r = [] := List.eq_nil_of_length_eq_zero (by simpa using h)
  subst this; exact List.Perm.refl _
 | a :: l, r, hn, hs, h => by
  rw [List.nodup_cons] at hn
  have har : a ∈ r := hs a (by simp)
  have h1 := BJ (l := l) (r := r.erase a) hn.2 (fun x hx => (List.mem_erase_of_ne (fun e => hn.1 (by subst e; exact hx))).2 (hs x (by simp [hx]))) (by
   rw [List.length_erase_of_mem har]; simp only [List.length_cons] at h; omega)
  exact (List.perm_cons_erase har).trans (h1.cons a)
theorem rY {α β : Type} (f : α → β) : ∀ {l : List α}, (l.map f).Nodup → l.Nodup
 | [], _ => List.nodup_nil
 | a :: l, h => by
  rw [List.map_cons, List.nodup_cons] at h
  exact List.nodup_cons.2 ⟨fun hm => h.1 (List.mem_map.2 ⟨a, hm, rfl⟩), rY f h.2⟩
def CM : Option Int → List Ob → Bool
 | _, [] => true
 | prev, o :: r => !iZ prev o.id && CM (some o.id) r
def ok1 (ps cs : List (Int × Int)) (o : Ob) : Bool := bd o && ((cw ps o.id).isSome && (((cw ps o.id).getD 0 == o.owner) && !((cw cs o.id).isSome && ((cw cs o.id).getD 0 != o.card))))
def ok2 (b : Bd) (o : Ob) : Bool := bd o && (((rW b o.owner o.id : Nat) : Int) == 1)
theorem mj {ps cs : List (Int × Int)} : ∀ (l : List Ob) (prev : Option Int), oF bd ps cs prev l = (CM prev l && l.all (ok1 ps cs))
 | [], _ => rfl
 | o :: r, prev => by
  simp only [oF, BI, CM, List.all_cons, ok1, mj r (some o.id), bne]
  cases bd o <;> cases iZ prev o.id <;> cases cw ps o.id <;> cases cw cs o.id <;> simp [Bool.and_assoc, Bool.and_comm, Bool.and_left_comm]
theorem BH {b : Bd} : ∀ (l : List Ob) (prev : Option Int), nD b prev l = (CM prev l && l.all (ok2 b))
 | [], _ => rfl
 | o :: r, prev => by
  simp only [nD, CM, List.all_cons, ok2, BH r (some o.id)]
  cases bd o <;> cases iZ prev o.id <;> simp [Bool.and_assoc, Bool.and_comm, Bool.and_left_comm]
theorem jb : ∀ {l : List Ob} {prev : Option Int}, CM prev l = true → (∀ o ∈ l, ∀ p, prev = some p → p < o.id) ∧ (l.map (·.id)).Nodup
 | [], _, _ => ⟨by simp, by simp⟩
 | o :: r, prev, h => by
  simp only [CM, Bool.and_eq_true, Bool.not_eq_true'] at h
  obtain ⟨k1, k2⟩ := jb h.2
  have hp : ∀ p, prev = some p → p < o.id := by
   rintro p rfl
   have := h.1
   simp only [iZ, decide_eq_false_iff_not] at this
   omega
  refine ⟨fun x hx p e => ?_, ?_⟩
  ·rcases List.mem_cons.1 hx with rfl | hx
   ·exact hp p e
   ·have := k1 x hx _ rfl; have := hp p e; omega
  ·rw [List.map_cons, List.nodup_cons]
   refine ⟨fun hm => ?_, k2⟩
   obtain ⟨x, hx, e⟩ := List.mem_map.1 hm
   have := k1 x hx _ rfl
   omega
theorem Mt {l : List Ob} (h : (l.map (·.id)).Nodup) : ∀ {x y : Ob}, x ∈ l → y ∈ l → x.id = y.id → x = y := by
 induction l with
 | nil => intro x y hx; cases hx
 | cons a l ih =>
  intro x y hx hy e
  rw [List.map_cons, List.nodup_cons] at h
  rcases List.mem_cons.1 hx with k1 | k1 <;> rcases List.mem_cons.1 hy with k2 | k2
  ·rw [k1, k2]
  ·exact absurd (List.mem_map.2 ⟨y, k2, by rw [← e, k1]⟩) h.1
  ·exact absurd (List.mem_map.2 ⟨x, k1, by rw [e, k2]⟩) h.1
  ·exact ih h.2 k1 k2 e
theorem HE (l : List Int) (p q id : Int) : (l.map fun i => (i, p)).count (id, q) = if p = q then l.count id else 0 := by
 induction l with
 | nil => simp
 | cons a l ih =>
  simp only [List.map_cons, List.count_cons, ih, beq_iff_eq, Prod.mk.injEq]
  by_cases hp : p = q
  ·simp [hp]
  ·simp [hp]
theorem FB {l : List It} (ht : ∀ x ∈ l, x.trig < 0 → x.trig = -1) (p id : Int) : (cG l).count (id, p) = l.countP (jd p id) := by
 induction l with
 | nil => rfl
 | cons x l ih =>
  have ih := ih fun y hy => ht y (by simp [hy])
  have hx := ht x (by simp)
  rw [show x :: l = [x] ++ l from rfl, na, List.count_append, List.countP_append, ih]
  congr 1
  by_cases h : x.trig < 0
  ·rw [Ei h, List.count_singleton, List.countP_singleton]
   have h1 := hx h
   have e : ((x.id, x.player) == (id, p)) = jd p id x := by
    simp only [jd, h1, beq_self_eq_true, Bool.true_and]
    rw [Bool.eq_iff_iff]
    simp [Prod.ext_iff]
   rw [e]
  ·rw [BF h, List.countP_singleton]
   have : jd p id x = false := by
    have : x.trig ≠ -1 := by omega
    simp [jd, this]
   rw [this]; rfl
theorem Jn (l : List It) : (cG l).length = l.countP qA := by
 rw [cG, List.length_map, bh, List.countP_eq_length_filter]
 congr 2
 funext x
 simp only [qA]
 by_cases h : x.trig < 0
 ·have : ¬ x.trig ≥ 0 := by omega
  simp [h, this]
 ·have : x.trig ≥ 0 := by omega
  simp [h, this]
theorem Jm (b : Bd) : (aM b).length = CX b + b.stack.countP qA := by
 simp only [aM, bK, List.length_append, List.length_map, Jn, CX]
 omega
theorem Ak {b : Bd} (ht : ∀ x ∈ b.stack, x.trig < 0 → x.trig = -1) {p : Int} (hp : p = 0 ∨ p = 1) (id : Int) : (aM b).count (id, p) = rW b p id := by
 simp only [aM, bK, List.count_append, HE, FB ht, rW, ru]
 rcases hp with rfl | rfl
 ·simp; omega
 ·simp; omega
theorem EE {b : Bd} (ht : ∀ x ∈ b.stack, x.trig < 0 → x.trig = -1) : tQ b = bz bd b := by
 simp only [tQ, bz, mj, BH]
 have hl : ((((CX b + b.stack.countP qA : Nat) : Int) == (b.objs.length : Int)) = decide ((aM b).length = b.objs.length)) := by
  rw [Jm, Bool.eq_iff_iff]
  simp only [beq_iff_eq, decide_eq_true_eq]
  omega
 rw [hl, Bool.eq_iff_iff]
 simp only [Bool.and_eq_true, List.all_eq_true, decide_eq_true_eq]
 constructor
 ·rintro ⟨hst, ⟨hord, hok⟩, hlen⟩
  obtain ⟨_, hnd⟩ := jb hord
  have hL : (b.objs.map fun o => (o.id, o.owner)).Nodup := by
   have e : (b.objs.map fun o => (o.id, o.owner)).map (·.1) = b.objs.map (·.id) := by rw [List.map_map]; rfl
   exact rY (·.1) (by rw [e]; exact hnd)
  have hsub : ∀ x ∈ (b.objs.map fun o => (o.id, o.owner)), x ∈ aM b := by
   intro x hx
   obtain ⟨o, ho, rfl⟩ := List.mem_map.1 hx
   have h2 := hok o ho
   simp only [ok2, Bool.and_eq_true, beq_iff_eq] at h2
   have hc := Ak ht (mU h2.1) o.id
   refine List.count_pos_iff.1 ?_
   rw [hc]; omega
  have hperm := BJ hL hsub (by simp [hlen])
  have hfst : ((aM b).map (·.1)).Perm (b.objs.map (·.id)) := by
   have := hperm.map (·.1)
   rwa [List.map_map] at this
  have hnp : ((aM b).map (·.1)).Nodup := hfst.nodup_iff.2 hnd
  refine ⟨hnp, ⟨hord, fun o ho => ?_⟩, hlen⟩
  have h2 := hok o ho
  simp only [ok2, Bool.and_eq_true, beq_iff_eq] at h2
  have hlk : cw (aM b) o.id = some o.owner := (iL hnp).2 (hsub _ (List.mem_map.2 ⟨o, ho, rfl⟩))
  simp only [ok1, h2.1, hlk, Option.isSome_some, Option.getD_some, beq_self_eq_true, Bool.true_and, Bool.not_eq_true']
  cases hc : cw (aX b.stack) o.id with
  | none => rfl
  | some c =>
   simp only [Option.isSome_some, Option.getD_some, Bool.true_and, bne_eq_false_iff_eq]
   have hmem : (o.id, c) ∈ aX b.stack := by
    simp only [cw, Option.map_eq_some_iff] at hc
    obtain ⟨⟨k, c'⟩, hf, rfl⟩ := hc
    have h3 := List.find?_some hf
    have h4 := List.mem_of_find?_eq_some hf
    simp only [beq_iff_eq] at h3
    rw [h3]; exact h4
   simp only [aX, bh, List.mem_map, List.mem_filter, decide_eq_true_eq, Prod.mk.injEq] at hmem
   obtain ⟨x, ⟨hx, hxt⟩, e1, e2⟩ := hmem
   have hsx := hst x hx
   have hn : decide (x.trig ≥ 0) = false := by simp; omega
   simp only [mV, hn, Bool.false_or, Bool.not_eq_true', Bool.or_eq_false_iff, decide_eq_false_iff_not, bne_eq_false_iff_eq] at hsx
   rcases kl (fun o => o.id == x.id) b.objs 0 (by omega) with ⟨e, _⟩ | ⟨k, o', k1, k2, k3⟩
   ·exfalso; apply hsx.1; show fL b x.id < 0; unfold fL; omega
   ·have k3 : fL b x.id = (k : Int) := by unfold fL; omega
    have hca : su b (fL b x.id) = o'.card := by rw [k3]; simp [su, k1]
    simp only [beq_iff_eq] at k2
    have : o' = o := Mt hnd (List.mem_of_getElem? k1) ho (by rw [k2, e1])
    rw [← e2, ← hsx.2, hca, this]
 ·rintro ⟨hnp, ⟨hord, hok⟩, hlen⟩
  obtain ⟨_, hnd⟩ := jb hord
  have hids := BL (l := b.objs.map (·.id)) (r := (aM b).map (·.1)) hnd (fun y hy => by
   obtain ⟨o, ho, rfl⟩ := List.mem_map.1 hy
   have h2 := hok o ho
   simp only [ok1, Bool.and_eq_true] at h2
   rcases Classical.em (o.id ∈ (aM b).map (·.1)) with h | h
   ·exact h
   ·have h3 := h2.2.1; rw [fg.2 h] at h3; cases h3) (by simp [hlen])
  refine ⟨fun x hx => ?_, ⟨hord, fun o ho => ?_⟩, hlen⟩
  ·by_cases hxt : x.trig < 0
   ·have hn : decide (x.trig ≥ 0) = false := by simp; omega
    have hxp : x.id ∈ (aM b).map (·.1) := by
     simp only [aM, List.map_append, List.mem_append]
     right; right
     simp only [cG, bh, List.mem_map, List.mem_filter, decide_eq_true_eq]
     exact ⟨_, ⟨x, ⟨hx, hxt⟩, rfl⟩, rfl⟩
    obtain ⟨o, ho, hoid⟩ := List.mem_map.1 (hids _ hxp)
    simp only [mV, hn, Bool.false_or, Bool.not_eq_true', Bool.or_eq_false_iff, decide_eq_false_iff_not, bne_eq_false_iff_eq]
    rcases kl (fun o => o.id == x.id) b.objs 0 (by omega) with ⟨_, e⟩ | ⟨k, o', k1, k2, k3⟩
    ·have := e o ho; simp [hoid] at this
    ·have k3 : fL b x.id = (k : Int) := by unfold fL; omega
     refine ⟨by omega, ?_⟩
     rw [k3]
     simp only [beq_iff_eq] at k2
     have h2 := hok o' (List.mem_of_getElem? k1)
     simp only [ok1, Bool.and_eq_true, Bool.not_eq_true'] at h2
     have hcn : ((aX b.stack).map (·.1)).Nodup := by
      have e : (aX b.stack).map (·.1) = (cG b.stack).map (·.1) := by simp only [aX, cG, List.map_map]; rfl
      rw [e]
      simp only [aM, List.map_append] at hnp
      exact (List.nodup_append.1 (List.nodup_append.1 hnp).2.1).2.1
     have hlk : cw (aX b.stack) x.id = some x.card := (iL hcn).2 (by
      simp only [aX, bh, List.mem_map, List.mem_filter, decide_eq_true_eq]
      exact ⟨x, ⟨hx, hxt⟩, rfl⟩)
     have h3 := h2.2.2.2
     rw [k2, hlk] at h3
     simp only [Option.isSome_some, Option.getD_some, Bool.true_and, bne_eq_false_iff_eq] at h3
     simp only [su, Int.toNat_natCast, k1, Option.map_some, Option.getD_some]
     exact h3.symm
   ·have hn : decide (x.trig ≥ 0) = true := by simp; omega
    simp only [mV, hn, Bool.true_or]
  ·have h2 := hok o ho
   simp only [ok1, Bool.and_eq_true, beq_iff_eq] at h2
   obtain ⟨v1, v2, v3, _⟩ := h2
   have hlk : cw (aM b) o.id = some o.owner := by
    cases e : cw (aM b) o.id with
    | none => rw [e] at v2; cases v2
    | some c => rw [e] at v3; rw [← v3]; rfl
   have hmem := (iL hnp).1 hlk
   have hnp' : (aM b).Nodup := rY (·.1) hnp
   have hc := Ak ht (mU v1) o.id
   have h1 : (aM b).count (o.id, o.owner) = 1 := by
    have a1 := List.count_pos_iff.2 hmem
    have a2 := List.nodup_iff_count.1 hnp' (o.id, o.owner)
    omega
   simp only [ok2, v1, Bool.true_and, beq_iff_eq]
   rw [hc] at h1; omega
end Go.Proofs.YtieaihgbjikggaaGreat
namespace Go.Proofs.YtieaihgbjikggaaGreat
open Go Go.Sx
set_option maxRecDepth 100000
set_option maxHeartbeats 1000000
theorem Al {l : List Int} (h : l.Nodup) (x : Int) : (((l.count x : Nat) : Int) == 1) = l.contains x := by
 have h1 := List.nodup_iff_count.1 h x
 by_cases hm : x ∈ l
 ·have h2 := List.count_pos_iff.2 hm
  have : l.count x = 1 := by omega
  simp [this, hm]
 ·have : l.count x = 0 := List.count_eq_zero.2 hm
  simp [this, hm]
theorem NT {own att : List Int} (ho : own.Nodup) : att.all (Bm own att) = (decide att.Nodup && att.all fun x => own.contains x) := by
 rw [Bool.eq_iff_iff]
 simp only [Bool.and_eq_true, List.all_eq_true, decide_eq_true_eq, Bm, Al ho, beq_iff_eq]
 constructor
 ·intro h
  refine ⟨List.nodup_iff_count.2 fun x => ?_, fun x hx => (h x hx).2⟩
  by_cases hm : x ∈ att
  ·have := (h x hm).1; omega
  ·have := List.count_eq_zero.2 hm; omega
 ·rintro ⟨h1, h2⟩ x hx
  refine ⟨?_, h2 x hx⟩
  have := List.nodup_iff_count.1 h1 x
  have := List.count_pos_iff.2 hx
  omega
theorem LM {att other : List Int} (ha : att.Nodup) (ho : other.Nodup) : ∀ (l done : List Bl) (ua ub : List Int), (∀ a, a ∈ ua ↔ ∃ y ∈ done, y.attacker = a) → (∀ a, a ∈ ub ↔ ∃ y ∈ done, y.blocker = a) → uE att other ua ub l = DJ att other done l
 | [], _, _, _, _, _ => rfl
 | x :: r, done, ua, ub, h1, h2 => by
  rw [uE, DJ, LM ha ho r (done ++ [x]) (x.attacker :: ua) (x.blocker :: ub)]
  ·congr 1
   rw [qD, Al ha, Al ho, Bool.eq_iff_iff]
   simp only [Bool.and_eq_true, Bool.not_eq_true', List.all_eq_true, jH, Bool.or_eq_false_iff, beq_eq_false_iff_ne, List.contains_iff_mem]
   have e1 : ua.contains x.attacker = false ↔ ∀ y ∈ done, y.attacker ≠ x.attacker := by
    rw [← Bool.not_eq_true, List.contains_iff_mem, h1]
    exact ⟨fun h y hy e => h ⟨y, hy, e⟩, fun h ⟨y, hy, e⟩ => h y hy e⟩
   have e2 : ub.contains x.blocker = false ↔ ∀ y ∈ done, y.blocker ≠ x.blocker := by
    rw [← Bool.not_eq_true, List.contains_iff_mem, h2]
    exact ⟨fun h y hy e => h ⟨y, hy, e⟩, fun h ⟨y, hy, e⟩ => h y hy e⟩
   rw [e1, e2]
   exact ⟨fun ⟨⟨a, b⟩, c, d⟩ => ⟨b, d, fun y hy => ⟨a y hy, c y hy⟩⟩, fun ⟨b, d, e⟩ => ⟨⟨fun y hy => (e y hy).1, b⟩, fun y hy => (e y hy).2, d⟩⟩
  ·intro a
   simp only [List.mem_cons, h1, List.mem_append, List.mem_singleton]
   constructor
   ·rintro (rfl | ⟨y, hy, e⟩)
    ·exact ⟨x, .inr (.inl rfl), rfl⟩
    ·exact ⟨y, .inl hy, e⟩
   ·rintro ⟨y, hy | hy, e⟩
    ·exact .inr ⟨y, hy, e⟩
    ·rcases hy with rfl | hy
     ·exact .inl e.symm
     ·cases hy
  ·intro a
   simp only [List.mem_cons, h2, List.mem_append, List.mem_singleton]
   constructor
   ·rintro (rfl | ⟨y, hy, e⟩)
    ·exact ⟨x, .inr (.inl rfl), rfl⟩
    ·exact ⟨y, .inl hy, e⟩
   ·rintro ⟨y, hy | hy, e⟩
    ·exact .inr ⟨y, hy, e⟩
    ·rcases hy with rfl | hy
     ·exact .inl e.symm
     ·cases hy
theorem EH {own other att : List Int} {bl : List Bl} (ho : own.Nodup) (ht : other.Nodup) : tj own other att bl = jj own other att bl := by
 rw [tj, jj, NT ho]
 by_cases ha : att.Nodup
 ·rw [LM ha ht bl [] [] [] (by simp) (by simp), Bool.and_assoc]
 ·simp [ha]
theorem xp {b : Bd} (h : bz bd b = true) : b.s0.field.Nodup ∧ b.s1.field.Nodup := by
 simp only [bz, Bool.and_eq_true, decide_eq_true_eq] at h
 have h1 := h.1
 have e : ∀ (l : List Int) (p : Int), (l.map fun i => (i, p)).map (·.1) = l := fun l p => by rw [List.map_map]; simp [Function.comp_def]
 simp only [aM, bK, List.map_append, e] at h1
 have h2 := List.nodup_append.1 h1
 have h3 := List.nodup_append.1 h2.2.1
 have f : ∀ {a b c d : List Int}, (a ++ (b ++ (c ++ d))).Nodup → c.Nodup := fun h => (List.nodup_append.1 (List.nodup_append.1 (List.nodup_append.1 h).2.1).2.1).1
 exact ⟨f h2.1, f h3.1⟩
theorem HA {b : Bd} (h : bz bd b = true) : gt b = eK b := by
 obtain ⟨h0, h1⟩ := xp h
 rw [gt, eK, EH h0 h1, EH h1 h0]
theorem EF {x : It} {q : Bool} (h : cd x q = true) : x.trig < 0 → x.trig = -1 := by
 simp only [cd, aw, Bool.and_eq_true, decide_eq_true_eq] at h
 omega
theorem FZ (b : Bd) : oW b = ax b := by
 rw [Bool.eq_iff_iff]
 have hall : ∀ (l : List It) (q : Bool), l.all (fun x => cd x q) = !(l.any fun x => !cd x q) := fun l q => by
  induction l with
  | nil => rfl
  | cons a l ih => simp [ih]
 have hnum : AZ b = (aw b.active 0 1 && (aw b.turn 0 1000 && (aw b.phase 0 10 && (aw b.holder (-1) 1 && !tN b)))) := by
  rw [Bool.eq_iff_iff]
  simp only [AZ, aw, tN, Bool.and_eq_true, Bool.not_eq_true', Bool.or_eq_false_iff, decide_eq_true_eq, decide_eq_false_iff_not, Bool.not_eq_false']
  omega
 have key : ∀ (x y : Bool), (b.stack.all (fun x => cd x false) = true → x = y) → ((b.stack.all (fun x => cd x false) && x) = true ↔ (b.stack.all (fun x => cd x false) && y) = true) := by
  intro x y h
  cases hs : b.stack.all (fun x => cd x false) with
  | false => simp
  | true => rw [h hs]
 have hf : b.stack.all (fun x => cd x false) = true → (tQ b && gt b) = (bz bd b && eK b) := by
  intro hs
  rw [List.all_eq_true] at hs
  rw [EE fun x hx => EF (hs x hx)]
  cases hp : bz bd b with
  | false => rfl
  | true => rw [HA hp]
 have e1 : oW b = (AZ b && (b.queue.all (fun x => cd x true) && (bE b.s0 && (bE b.s1 && (b.stack.all (fun x => cd x false) && (tQ b && gt b)))))) := by
  rw [oW]
  cases b.stack.all (fun x => cd x false) <;> simp
 have e2 : ax b = (AZ b && (b.queue.all (fun x => cd x true) && (bE b.s0 && (bE b.s1 && (b.stack.all (fun x => cd x false) && (bz bd b && eK b)))))) := by
  rw [ax, hnum, hall, hall]
  cases aw b.active 0 1 <;> cases aw b.turn 0 1000 <;> cases aw b.phase 0 10 <;> cases aw b.holder (-1) 1 <;> cases tN b <;> cases bE b.s0 <;> cases bE b.s1 <;> cases (b.stack.any fun x => !cd x false) <;> cases (b.queue.any fun x => !cd x true) <;> rfl
 rw [e1, e2]
 simp only [Bool.and_eq_true]
 have := key _ _ hf
 simp only [Bool.and_eq_true] at this
 rw [this]
end Go.Proofs.YtieaihgbjikggaaGreat
namespace Go.Proofs.YtieaihgbjikggaaGreat
open Go Go.Sx
set_option maxRecDepth 100000
set_option maxHeartbeats 1000000
end Go.Proofs.YtieaihgbjikggaaGreat
namespace Go.Proofs.YtieaihgbjikggaaGreat
open Go Go.Sx
set_option maxRecDepth 100000
set_option maxHeartbeats 1000000
def gz (s : St) : Bool := !decide ((s.lib.length : Int) > 40) && (!decide ((s.hand.length : Int) > 40) && (!decide ((s.field.length : Int) > 40) && !decide ((s.grave.length : Int) > 40)))
def ni (l : List It) : Bool := !decide ((l.length : Int) > 20) && l.all fun x => !decide ((x.tgs.length : Int) > 6)
def fP (b : Bd) : Bool := gz b.s0 && (gz b.s1 && (ni b.stack && (ni b.queue && ((decide ((b.objs.length : Int) ≤ 30) && decide ((b.att.length : Int) ≤ 30)) && decide ((b.blocks.length : Int) ≤ 30)))))
theorem MA {H : Heap} {O : Own} {v : dG} {b : Bd} (h : BdR H O v b) : RetO PP lw [.agg (aq v b).toArray] H O (.bool (fP b)) := by
 refine qT (vs := aq v b) (by kernel_rfl) (au h) ?_
 simp only [gU]
 have len1 : ∀ {H' : Heap} {O' : Own} {w : Value} {l : List Int}, RSl H' O' 1 w (aG l) → al .len [w] = some (iV l.length) := fun h => by have := h.len; rwa [aG, List.length_map] at this
 have lo := h.objs.len
 have lb := h.blocks.len
 rw [List.length_map] at lo lb
 have la := len1 h.att
 refine ah fun r0 => ?_
 obtain ⟨s01, s02, s03, s04⟩ := d8 h.s0
 refine ae (aj (iX b.s0 s01 s02 s03 s04 _ _) rfl ⟨s01, s02, s03, s04, trivial⟩ fun Hs0 ls0 => ?_)
 replace h := h.le ls0
 refine ab _ (len1 h.s0.lib) (ab _ (cZ _ _) (ak (fun ks0lib => ai ⟨?_, rfl⟩) (fun ks0lib => ?_)))
 ·simp only [fP, gz, ks0lib, Bool.not_true, Bool.not_false, Bool.true_and, Bool.false_and, Bool.and_false]
 refine ab _ (len1 h.s0.hand) (ab _ (cZ _ _) (ak (fun ks0hand => ai ⟨?_, rfl⟩) (fun ks0hand => ?_)))
 ·simp only [fP, gz, ks0lib, ks0hand, Bool.not_true, Bool.not_false, Bool.true_and, Bool.false_and, Bool.and_false]
 refine ab _ (len1 h.s0.field) (ab _ (cZ _ _) (ak (fun ks0field => ai ⟨?_, rfl⟩) (fun ks0field => ?_)))
 ·simp only [fP, gz, ks0lib, ks0hand, ks0field, Bool.not_true, Bool.not_false, Bool.true_and, Bool.false_and, Bool.and_false]
 refine ab _ (len1 h.s0.grave) (ab _ (cZ _ _) (ak (fun ks0grave => ai ⟨?_, rfl⟩) (fun ks0grave => ?_)))
 ·simp only [fP, gz, ks0lib, ks0hand, ks0field, ks0grave, Bool.not_true, Bool.not_false, Bool.true_and, Bool.false_and, Bool.and_false]
 obtain ⟨s11, s12, s13, s14⟩ := d8 h.s1
 refine ae (aj (iX b.s1 s11 s12 s13 s14 _ _) rfl ⟨s11, s12, s13, s14, trivial⟩ fun Hs1 ls1 => ?_)
 replace h := h.le ls1
 refine ab _ (len1 h.s1.lib) (ab _ (cZ _ _) (ak (fun ks1lib => ai ⟨?_, rfl⟩) (fun ks1lib => ?_)))
 ·simp only [fP, gz, ks0lib, ks0hand, ks0field, ks0grave, ks1lib, Bool.not_true, Bool.not_false, Bool.true_and, Bool.false_and, Bool.and_false]
 refine ab _ (len1 h.s1.hand) (ab _ (cZ _ _) (ak (fun ks1hand => ai ⟨?_, rfl⟩) (fun ks1hand => ?_)))
 ·simp only [fP, gz, ks0lib, ks0hand, ks0field, ks0grave, ks1lib, ks1hand, Bool.not_true, Bool.not_false, Bool.true_and, Bool.false_and, Bool.and_false]
 refine ab _ (len1 h.s1.field) (ab _ (cZ _ _) (ak (fun ks1field => ai ⟨?_, rfl⟩) (fun ks1field => ?_)))
 ·simp only [fP, gz, ks0lib, ks0hand, ks0field, ks0grave, ks1lib, ks1hand, ks1field, Bool.not_true, Bool.not_false, Bool.true_and, Bool.false_and, Bool.and_false]
 refine ab _ (len1 h.s1.grave) (ab _ (cZ _ _) (ak (fun ks1grave => ai ⟨?_, rfl⟩) (fun ks1grave => ?_)))
 ·simp only [fP, gz, ks0lib, ks0hand, ks0field, ks0grave, ks1lib, ks1hand, ks1field, ks1grave, Bool.not_true, Bool.not_false, Bool.true_and, Bool.false_and, Bool.and_false]
 refine ae (ae (ah fun _ => ae ?_))
 have lstack := ItsR.len h.stack
 refine ab _ lstack (ab _ (cZ _ _) (ak (fun kstack => ai ⟨?_, rfl⟩) (fun kstack => ?_)))
 ·simp only [fP, gz, ni, ks0lib, ks0hand, ks0field, ks0grave, ks1lib, ks1hand, ks1field, ks1grave, kstack, Bool.not_true, Bool.not_false, Bool.true_and, Bool.false_and, Bool.and_false]
 have stkstack := h.stack
 obtain ⟨rowsstack, hrsstack, hrlstack, hitstack⟩ := stkstack
 have hBstack := hrsstack.lenB
 refine aQ b.stack.length (fun i H' OO => OO = O ∧ Heap.le Hs1 H' ∧ (b.stack.all fun x => !decide ((x.tgs.length : Int) > 6)) = ((b.stack.drop i).all fun x => !decide ((x.tgs.length : Int) > 6))) ⟨rfl, Heap.le_refl _, rfl⟩ ?_
 rintro istack Hstack Ostack histack - ⟨rfl, hlestack, horstack⟩
 replace h := h.le hlestack
 refine ab _ lstack (ab _ (aC _ _) (ak (fun hb => ?_) (fun hb => ?_)))
 ·have hlt : istack < b.stack.length := by simpa using hb
  obtain ⟨a, h1, _, h3, _⟩ := (hrsstack.le hlestack).idx .i64 istack rowsstack[istack] (by simp [hrlstack, hlt])
  obtain ⟨s, hrow, hs⟩ := (hitstack istack rowsstack[istack] b.stack[istack] (by simp [hrlstack, hlt]) (by simp [hlt])).le hlestack
  have hr := h3 4 1 (by omega)
  rw [hrow] at hr
  have hst : ((b.stack.drop istack).all fun x => !decide ((x.tgs.length : Int) > 6)) = (!decide ((b.stack[istack].tgs.length : Int) > 6) && ((b.stack.drop (istack + 1)).all fun x => !decide ((x.tgs.length : Int) > 6))) := by rw [List.drop_eq_getElem_cons hlt, List.all_cons]
  have lt := hs.len
  rw [List.length_map] at lt
  refine ab _ h1 (aD rfl (ap hr rfl ⟨hs.one, trivial⟩ (ab _ lt (ab _ (cZ _ _) (ak (fun hc => ai ⟨?_, rfl⟩) (fun hc => ?_))))))
  ·simp only [fP, gz, ni, ks0lib, ks0hand, ks0field, ks0grave, ks1lib, ks1hand, ks1field, ks1grave, kstack, horstack, hst, hc, Bool.not_true, Bool.not_false, Bool.true_and, Bool.false_and, Bool.and_false]
  ·refine ab _ (az (by omega)) (aJ (by simp [Eqs]) hlt ⟨rfl, hlestack, ?_⟩)
   rw [horstack, hst, hc]; rfl
 have hgestack : b.stack.length ≤ istack := by simpa using hb
 rw [List.drop_of_length_le hgestack] at horstack
 have kallstack : (b.stack.all fun x => !decide ((x.tgs.length : Int) > 6)) = true := by rw [horstack]; rfl
 clear hb
 refine ae ?_
 have lqueue := ItsR.len h.queue
 refine ab _ lqueue (ab _ (cZ _ _) (ak (fun kqueue => ai ⟨?_, rfl⟩) (fun kqueue => ?_)))
 ·simp only [fP, gz, ni, ks0lib, ks0hand, ks0field, ks0grave, ks1lib, ks1hand, ks1field, ks1grave, kstack, kallstack, kqueue, Bool.not_true, Bool.not_false, Bool.true_and, Bool.false_and, Bool.and_false]
 have stkqueue := h.queue
 obtain ⟨rowsqueue, hrsqueue, hrlqueue, hitqueue⟩ := stkqueue
 have hBqueue := hrsqueue.lenB
 refine aQ b.queue.length (fun i H' OO => OO = Ostack ∧ Heap.le Hstack H' ∧ (b.queue.all fun x => !decide ((x.tgs.length : Int) > 6)) = ((b.queue.drop i).all fun x => !decide ((x.tgs.length : Int) > 6))) ⟨rfl, Heap.le_refl _, rfl⟩ ?_
 rintro iqueue Hqueue Oqueue hiqueue - ⟨rfl, hlequeue, horqueue⟩
 replace h := h.le hlequeue
 refine ab _ lqueue (ab _ (aC _ _) (ak (fun hb => ?_) (fun hb => ?_)))
 ·have hlt : iqueue < b.queue.length := by simpa using hb
  obtain ⟨a, h1, _, h3, _⟩ := (hrsqueue.le hlequeue).idx .i64 iqueue rowsqueue[iqueue] (by simp [hrlqueue, hlt])
  obtain ⟨s, hrow, hs⟩ := (hitqueue iqueue rowsqueue[iqueue] b.queue[iqueue] (by simp [hrlqueue, hlt]) (by simp [hlt])).le hlequeue
  have hr := h3 4 1 (by omega)
  rw [hrow] at hr
  have hst : ((b.queue.drop iqueue).all fun x => !decide ((x.tgs.length : Int) > 6)) = (!decide ((b.queue[iqueue].tgs.length : Int) > 6) && ((b.queue.drop (iqueue + 1)).all fun x => !decide ((x.tgs.length : Int) > 6))) := by rw [List.drop_eq_getElem_cons hlt, List.all_cons]
  have lt := hs.len
  rw [List.length_map] at lt
  refine ab _ h1 (aD rfl (ap hr rfl ⟨hs.one, trivial⟩ (ab _ lt (ab _ (cZ _ _) (ak (fun hc => ai ⟨?_, rfl⟩) (fun hc => ?_))))))
  ·simp only [fP, gz, ni, ks0lib, ks0hand, ks0field, ks0grave, ks1lib, ks1hand, ks1field, ks1grave, kstack, kallstack, kqueue, horqueue, hst, hc, Bool.not_true, Bool.not_false, Bool.true_and, Bool.false_and, Bool.and_false]
  ·refine ab _ (az (by omega)) (aJ (by simp [Eqs]) hlt ⟨rfl, hlequeue, ?_⟩)
   rw [horqueue, hst, hc]; rfl
 have hgequeue : b.queue.length ≤ iqueue := by simpa using hb
 rw [List.drop_of_length_le hgequeue] at horqueue
 have kallqueue : (b.queue.all fun x => !decide ((x.tgs.length : Int) > 6)) = true := by rw [horqueue]; rfl
 clear hb
 repeat (first | refine ae ?_ | refine af ?_ | refine ab _ lo ?_ | refine ab _ la ?_ | refine ab _ lb ?_ | refine ab _ (eB _ _) ?_ | refine ab _ (bg _ _) ?_)
 refine ai ⟨?_, rfl⟩
 simp only [fP, gz, ni, ks0lib, ks0hand, ks0field, ks0grave, ks1lib, ks1hand, ks1field, ks1grave, kstack, kallstack, kqueue, kallqueue, Bool.not_true, Bool.not_false, Bool.true_and, Bool.false_and, Bool.and_false]
end Go.Proofs.YtieaihgbjikggaaGreat
namespace Go.Proofs.YtieaihgbjikggaaGreat
open Go Go.Sx
set_option maxRecDepth 100000
set_option maxHeartbeats 1000000
def tys : Tys := ⟨aK, cR, bf, aU, ar⟩
theorem vN {H : Heap} {v : Value} {l : List (List Value)} (h : Sl H 12 v l) (hb : l.length ≤ 2 ^ 40) : Triple PP dA [v] H [] fun v' H' O' => OSl cR 12 v' l O' := by
 refine gm (vs := [v]) (by kernel_rfl) ⟨h.one, trivial⟩ ?_
 simp only [cj]
 obtain ⟨a, cap, rfl, h1, h2, h3⟩ := h
 have hev : al (.bin .eql .slice) [.slice a l.length cap, .slice none 0 0] = some (.bool a.isNone) := by cases a <;> rfl
 refine ab _ hev (ak (fun hn => ai ?_) (fun hn => fun r0 => ?_))
 ·have hl : l = [] := by
   by_cases hl : l = []
   ·exact hl
   ·obtain ⟨ad, rfl, _⟩ := h3 hl; cases hn
  subst hl
  exact OSl.nil cR 12
 ·refine aA (rows := []) (news := l) (O1 := []) (O2 := []) (e := cR) (size := 12) (bytes := 80) (by kernel_rfl) (List.Perm.refl _) (.inl ⟨⟨_, rfl⟩, rfl, rfl⟩) (fun Hf hl _ => Sl.le hl ⟨a, cap, rfl, h1, h2, h3⟩) (by simp; omega) (by simp; omega) ?_
  intro v' O1' H' _ ho
  refine ai ?_
  rw [List.append_nil]
  exact ho
theorem wV {H : Heap} {v : Value} {l : List (List Value)} (h : Sl H 2 v l) (hb : l.length ≤ 2 ^ 40) : Triple PP dO [v] H [] fun v' H' O' => OSl bf 2 v' l O' := by
 refine gY (vs := [v]) (by kernel_rfl) ⟨h.one, trivial⟩ ?_
 simp only [cD]
 obtain ⟨a, cap, rfl, h1, h2, h3⟩ := h
 have hev : al (.bin .eql .slice) [.slice a l.length cap, .slice none 0 0] = some (.bool a.isNone) := by cases a <;> rfl
 refine ab _ hev (ak (fun hn => ai ?_) (fun hn => fun r0 => ?_))
 ·have hl : l = [] := by
   by_cases hl : l = []
   ·exact hl
   ·obtain ⟨ad, rfl, _⟩ := h3 hl; cases hn
  subst hl
  exact OSl.nil bf 2
 ·refine aA (rows := []) (news := l) (O1 := []) (O2 := []) (e := bf) (size := 2) (bytes := 16) (by kernel_rfl) (List.Perm.refl _) (.inl ⟨⟨_, rfl⟩, rfl, rfl⟩) (fun Hf hl _ => Sl.le hl ⟨a, cap, rfl, h1, h2, h3⟩) (by simp; omega) (by simp; omega) ?_
  intro v' O1' H' _ ho
  refine ai ?_
  rw [List.append_nil]
  exact ho
theorem yh {H : Heap} {v : Value} {l : List (List Value)} (h : Sl H 5 v l) (hb : l.length ≤ 2 ^ 40) : Triple PP d5 [v] H [] fun v' H' O' => OSl aU 5 v' l O' := by
 refine iS (vs := [v]) (by kernel_rfl) ⟨h.one, trivial⟩ ?_
 simp only [cL]
 obtain ⟨a, cap, rfl, h1, h2, h3⟩ := h
 have hev : al (.bin .eql .slice) [.slice a l.length cap, .slice none 0 0] = some (.bool a.isNone) := by cases a <;> rfl
 refine ab _ hev (ak (fun hn => ai ?_) (fun hn => fun r0 => ?_))
 ·have hl : l = [] := by
   by_cases hl : l = []
   ·exact hl
   ·obtain ⟨ad, rfl, _⟩ := h3 hl; cases hn
  subst hl
  exact OSl.nil aU 5
 ·refine aA (rows := []) (news := l) (O1 := []) (O2 := []) (e := aU) (size := 5) (bytes := 56) (by kernel_rfl) (List.Perm.refl _) (.inl ⟨⟨_, rfl⟩, rfl, rfl⟩) (fun Hf hl _ => Sl.le hl ⟨a, cap, rfl, h1, h2, h3⟩) (by simp; omega) (by simp; omega) ?_
  intro v' O1' H' _ ho
  refine ai ?_
  rw [List.append_nil]
  exact ho
theorem vM {H : Heap} {v : Value} {l : List (List Value)} (h : Sl H 2 v l) (hb : l.length ≤ 2 ^ 40) : Triple PP dz [v] H [] fun v' H' O' => OSl ar 2 v' l O' := by
 refine gk (vs := [v]) (by kernel_rfl) ⟨h.one, trivial⟩ ?_
 simp only [cg]
 obtain ⟨a, cap, rfl, h1, h2, h3⟩ := h
 have hev : al (.bin .eql .slice) [.slice a l.length cap, .slice none 0 0] = some (.bool a.isNone) := by cases a <;> rfl
 refine ab _ hev (ak (fun hn => ai ?_) (fun hn => fun r0 => ?_))
 ·have hl : l = [] := by
   by_cases hl : l = []
   ·exact hl
   ·obtain ⟨ad, rfl, _⟩ := h3 hl; cases hn
  subst hl
  exact OSl.nil ar 2
 ·refine aA (rows := []) (news := l) (O1 := []) (O2 := []) (e := ar) (size := 2) (bytes := 16) (by kernel_rfl) (List.Perm.refl _) (.inl ⟨⟨_, rfl⟩, rfl, rfl⟩) (fun Hf hl _ => Sl.le hl ⟨a, cap, rfl, h1, h2, h3⟩) (by simp; omega) (by simp; omega) ?_
  intro v' O1' H' _ ho
  refine ai ?_
  rw [List.append_nil]
  exact ho
end Go.Proofs.YtieaihgbjikggaaGreat
