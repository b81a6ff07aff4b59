/- Which boards are valid: what the program says. -/
import Derived.Test.YtieaihgbjikggaaGreatC1
namespace Go.Proofs.YtieaihgbjikggaaGreat
open Go Go.Sx
set_option maxRecDepth 100000
set_option maxHeartbeats 1000000
theorem Eo {α : Type} [DecidableEq α] : ∀ {l r : List α}, l.Nodup → (∀ x ∈ l, x ∈ r) → l.length ≤ r.length
 | [], _, _, _ => Nat.zero_le _
 | a :: l, r, hn, hs => by
  rw [List.nodup_cons] at hn
  have har : a ∈ r := hs a (by simp)
  have h1 := Eo (r := r.erase a) hn.2 fun x hx => by
   have : x ≠ a := fun e => hn.1 (e ▸ hx)
   exact (List.mem_erase_of_ne this).2 (hs x (by simp [hx]))
  rw [List.length_erase_of_mem har] at h1
  have := List.length_pos_of_mem har
  simp only [List.length_cons]; omega
theorem zu {α : Type} [DecidableEq α] {l r : List α} (hn : l.Nodup) (hs : ∀ x ∈ l, x ∈ r) (hl : r.length ≤ l.length) : ∀ x ∈ r, x ∈ l := by
 intro x hx
 rcases Classical.em (x ∈ l) with h | h
 ·exact h
 ·have := Eo (l := x :: l) (r := r) (List.nodup_cons.2 ⟨h, hn⟩) (fun y hy => by
   rcases List.mem_cons.1 hy with rfl | hy
   ·exact hx
   ·exact hs y hy)
  simp only [List.length_cons] at this; omega
theorem Ce {val : Ob → Bool} {ps cs : List (Int × Int)} : ∀ {l : List Ob} {prev : Option Int}, nb val ps cs prev l = true →
  (∀ o ∈ l, val o = true ∧ (co ps o.id).isSome = true ∧ ∀ p, prev = some p → p < o.id) ∧ (l.map (·.id)).Nodup
 | [], _, _ => ⟨by simp, by simp⟩
 | o :: r, prev, h => by
  simp only [nb, zr, Bool.and_eq_true, Bool.not_eq_true', Bool.or_eq_false_iff, Bool.not_eq_false'] at h
  obtain ⟨⟨⟨⟨⟨h1, h2⟩, h3⟩, _⟩, _⟩, h6⟩ := h
  obtain ⟨k1, k2⟩ := Ce h6
  have hp : ∀ p, prev = some p → p < o.id := by
   rintro p rfl
   simp only [iq, decide_eq_false_iff_not] at h2
   omega
  refine ⟨?_, ?_⟩
  ·intro x hx
   rcases List.mem_cons.1 hx with rfl | hx
   ·refine ⟨h1, ?_, hp⟩
    cases hl : co ps x.id with
    | none => rw [hl] at h3; cases h3
    | some v => rfl
   ·obtain ⟨a1, a2, a3⟩ := k1 x hx
    exact ⟨a1, a2, fun p e => by have := a3 _ rfl; have := hp p e; omega⟩
  ·rw [List.map_cons, List.nodup_cons]
   refine ⟨?_, k2⟩
   intro hm
   obtain ⟨x, hx, e⟩ := List.mem_map.1 hm
   have := (k1 x hx).2.2 _ rfl
   omega
theorem zk {val : Ob → Bool} {b : Bd} (h : bo val b = true) : ∀ x ∈ (aH b).map (·.1), ∃ o ∈ b.objs, o.id = x ∧ val o = true := by
 simp only [bo, Bool.and_eq_true, decide_eq_true_eq] at h
 obtain ⟨_, h2, h3⟩ := h
 obtain ⟨k1, k2⟩ := Ce h2
 intro x hx
 have := zu (l := b.objs.map (·.id)) (r := (aH b).map (·.1)) k2 (fun y hy => by
  obtain ⟨o, ho, rfl⟩ := List.mem_map.1 hy
  have := (k1 o ho).2.1
  rcases Classical.em (o.id ∈ (aH b).map (·.1)) with h | h
  ·exact h
  ·rw [eW.2 h] at this; cases this) (by simp [h3]) x hx
 obtain ⟨o, ho, rfl⟩ := List.mem_map.1 this
 exact ⟨o, ho, rfl, (k1 o ho).1⟩
theorem pu {o : Ob} (h : bc o = true) : 1 ≤ o.id ∧ o.id ≤ 500 := by
 simp only [bc, Bool.and_eq_true, decide_eq_true_eq] at h
 exact ⟨h.1.2.1.1.1.2, h.1.2.1.1.2⟩
theorem E0 {b : Bd} (h : bo bc b = true) : ∀ x, x ∈ b.s0.field ∨ x ∈ b.s1.field → 0 < x ∧ x ≤ 500 := by
 intro x hx
 obtain ⟨o, _, rfl, ho⟩ := zk h x (by
  simp only [aH, bG, List.map_append, List.map_map, List.mem_append, List.mem_map, Function.comp]
  rcases hx with hx | hx
  ·left; right; right; left; exact ⟨x, hx, rfl⟩
  ·right; left; right; right; left; exact ⟨x, hx, rfl⟩)
 have := pu ho
 omega
def fY (b : Bd) : Bool := if b.active = 0 then jI b.s0.field b.s1.field b.att b.blocks else jI b.s1.field b.s0.field b.att b.blocks
theorem IE {H : Heap} {O : Own} {v : d9} {b : Bd} (h : BdR H O v b) (ha : b.active = 0 ∨ b.active = 1) (hp : ∀ x, x ∈ b.s0.field ∨ x ∈ b.s1.field → 0 < x ∧ x ≤ 500) :
  RetO PP rU [.agg (ay v b).toArray] H O (.bool (fY b)) := by
 refine vH (vs := ay v b) (by kernel_rfl) (au h) ?_
 simp only [mH]
 refine ai fun r0 => ae ?_
 have e34 : g (ay v b) 34 = iV b.active := rfl
 rw [e34]
 have hs : ∀ n : Int, n = 0 ∨ n = 1 → al (.bin .sub .int) [iV 1, iV n] = some (iV (1 - n)) := by
  rintro n (rfl | rfl) <;> rfl
 rcases ha with ha | ha
 ·rw [ha]
  refine ⟨.i64, 0, rfl, fun _ => ae (ae (ab _ (hs 0 (.inl rfl)) ⟨.i64, 1, rfl, fun e => absurd e (by omega), fun _ => ⟨.i64, 1, rfl, fun _ => ?_, fun e => absurd rfl e⟩⟩)), fun e => absurd rfl e⟩
  refine ae ?_
  refine zN h.s0.field h.s1.field h.att h.blocks (fun x hx => (hp x (.inl hx)).1) (fun x hx => hp x (.inr hx)) ?_ ?_ ?_
  ·intros; simp [Eqs]
  ·intros; simp [Eqs]
  ·exact fun H' _ => ⟨by simp [fY, ha], rfl⟩
 ·rw [ha]
  refine ⟨.i64, 1, rfl, fun e => absurd e (by omega), fun _ => ⟨.i64, 1, rfl, fun _ => ae (ae (ab _ (hs 1 (.inr rfl)) ⟨.i64, 0, rfl, fun _ => ?_, fun e => absurd rfl e⟩)), fun e => absurd rfl e⟩⟩
  refine ae ?_
  refine zN h.s1.field h.s0.field h.att h.blocks (fun x hx => (hp x (.inr hx)).1) (fun x hx => hp x (.inl hx)) ?_ ?_ ?_
  ·intros; simp [Eqs]
  ·intros; simp [Eqs]
  ·exact fun H' _ => ⟨by simp [fY, ha], rfl⟩
theorem yD {b : Bool} (h : (!b) = true) : b = false := by simpa using h
theorem rY {b : Bool} (h : (!b) = false) : b = true := by simpa using h
def bz (s : St) : Bool := aq s.life 0 9999 && (([s.p0, s.p1, s.p2, s.p3].all fun n => aq n 0 99) && (aq s.mull 0 7 && aq s.acts 0 255))
def rB (b : Bd) : Bool := ((!aq b.passes 0 2 || decide ((b.objs.length : Int) > 500)) || decide ((b.stack.length : Int) > 200)) || decide ((b.queue.length : Int) > 200)
def aw (b : Bd) : Bool := aq b.active 0 1 && (aq b.turn 0 1000 && (aq b.phase 0 10 && (aq b.holder (-1) 1 && (!rB b && (bz b.s0 && (bz b.s1 &&
 (!(b.stack.any fun x => !cu x false) && (!(b.queue.any fun x => !cu x true) && (bo bc b && fY b)))))))))
theorem bh {H : Heap} {O : Own} {v : d9} {b : Bd} (h : BdR H O v b) : RetO PP oG [.agg (ay v b).toArray] H O (.bool (aw b)) := by
 refine wX (vs := ay v b) (by kernel_rfl) (au h) ?_
 simp only [oB]
 refine ai fun r0 => ?_
 refine ae (aj (de b.active 0 1 H O) rfl ⟨rfl, trivial⟩ fun H1 l1 => ab _ (az _) (ak (fun hb => ah ⟨?_, rfl⟩) (fun hb => ?_)))
 ·have kf : aq b.active 0 1 = false := yD hb
  simp only [aw, kf, Bool.true_and, Bool.false_and, Bool.and_false]
 have k1 : aq b.active 0 1 = true := rY hb
 replace h := h.le l1
 clear hb
 refine ae (aj (de b.turn 0 1000 H1 O) rfl ⟨rfl, trivial⟩ fun H2 l2 => ab _ (az _) (ak (fun hb => ah ⟨?_, rfl⟩) (fun hb => ?_)))
 ·have kf : aq b.turn 0 1000 = false := yD hb
  simp only [aw, k1, kf, Bool.true_and, Bool.false_and, Bool.and_false]
 have k2 : aq b.turn 0 1000 = true := rY hb
 replace h := h.le l2
 clear hb
 refine ae (aj (de b.phase 0 10 H2 O) rfl ⟨rfl, trivial⟩ fun H3 l3 => ab _ (az _) (ak (fun hb => ah ⟨?_, rfl⟩) (fun hb => ?_)))
 ·have kf : aq b.phase 0 10 = false := yD hb
  simp only [aw, k1, k2, kf, Bool.true_and, Bool.false_and, Bool.and_false]
 have k3 : aq b.phase 0 10 = true := rY hb
 replace h := h.le l3
 clear hb
 refine ae (aj (de b.holder (-1) 1 H3 O) rfl ⟨rfl, trivial⟩ fun H4 l4 => ab _ (az _) (ak (fun hb => ah ⟨?_, rfl⟩) (fun hb => ?_)))
 ·have kf : aq b.holder (-1) 1 = false := yD hb
  simp only [aw, k1, k2, k3, kf, Bool.true_and, Bool.false_and, Bool.and_false]
 have k4 : aq b.holder (-1) 1 = true := rY hb
 replace h := h.le l4
 clear hb
 refine ae (aj (de b.passes 0 2 H4 O) rfl ⟨rfl, trivial⟩ fun H5 l5 => ab _ (az _) ?_)
 replace h := h.le l5
 have lo := h.objs.len
 rw [List.length_map] at lo
 refine ae (af (af ?_))
 refine ab _ (lo) (af (ab _ (cT _ _) (af (ab _ (aA _ _) ?_))))
 refine ae (af (af ?_))
 refine ab _ (ItsR.len h.stack) (af (ab _ (cT _ _) (af (ab _ (aA _ _) ?_))))
 refine ae (af (af ?_))
 refine ab _ (ItsR.len h.queue) (af (ab _ (cT _ _) (af (ab _ (aA _ _) ?_))))
 refine ak (fun hb => ah ⟨?_, rfl⟩) (fun hb => ?_)
 ·have kf : rB b = true := hb
  simp only [aw, k1, k2, k3, k4, kf, Bool.true_and, Bool.not_true, Bool.false_and]
 have kmid : rB b = false := hb
 clear hb
 refine ae (ai fun r1 => ae ?_)
 refine ae (aj (de b.s0.life 0 9999 H5 O) rfl ⟨rfl, trivial⟩ fun H6 l6 => ab _ (az _) (ak (fun hb => ah ⟨?_, rfl⟩) (fun hb => ?_)))
 ·have kf : aq b.s0.life 0 9999 = false := yD hb
  simp only [aw, bz, k1, k2, k3, k4, kmid, kf, Bool.true_and, Bool.false_and, Bool.and_false, Bool.not_false]
 have k6 : aq b.s0.life 0 9999 = true := rY hb
 replace h := h.le l6
 clear hb
 refine ae (aj (vn b.s0.p0 b.s0.p1 b.s0.p2 b.s0.p3 H6 O) rfl ⟨rfl, trivial⟩ fun H7 l7 => ab _ (az _) (ak (fun hb => ah ⟨?_, rfl⟩) (fun hb => ?_)))
 ·have kf : ([b.s0.p0, b.s0.p1, b.s0.p2, b.s0.p3].all fun n => aq n 0 99) = false := yD hb
  simp only [aw, bz, k1, k2, k3, k4, kmid, k6, kf, Bool.true_and, Bool.false_and, Bool.and_false, Bool.not_false]
 have k7 : ([b.s0.p0, b.s0.p1, b.s0.p2, b.s0.p3].all fun n => aq n 0 99) = true := rY hb
 replace h := h.le l7
 clear hb
 refine ae (aj (de b.s0.mull 0 7 H7 O) rfl ⟨rfl, trivial⟩ fun H8 l8 => ab _ (az _) (ak (fun hb => ah ⟨?_, rfl⟩) (fun hb => ?_)))
 ·have kf : aq b.s0.mull 0 7 = false := yD hb
  simp only [aw, bz, k1, k2, k3, k4, kmid, k6, k7, kf, Bool.true_and, Bool.false_and, Bool.and_false, Bool.not_false]
 have k8 : aq b.s0.mull 0 7 = true := rY hb
 replace h := h.le l8
 clear hb
 refine ae (aj (de b.s0.acts 0 255 H8 O) rfl ⟨rfl, trivial⟩ fun H9 l9 => ab _ (az _) (ak (fun hb => ah ⟨?_, rfl⟩) (fun hb => ?_)))
 ·have kf : aq b.s0.acts 0 255 = false := yD hb
  simp only [aw, bz, k1, k2, k3, k4, kmid, k6, k7, k8, kf, Bool.true_and, Bool.false_and, Bool.and_false, Bool.not_false]
 have k9 : aq b.s0.acts 0 255 = true := rY hb
 replace h := h.le l9
 clear hb
 refine ai fun r2 => ae ?_
 refine ae (aj (de b.s1.life 0 9999 H9 O) rfl ⟨rfl, trivial⟩ fun H10 l10 => ab _ (az _) (ak (fun hb => ah ⟨?_, rfl⟩) (fun hb => ?_)))
 ·have kf : aq b.s1.life 0 9999 = false := yD hb
  simp only [aw, bz, k1, k2, k3, k4, kmid, k6, k7, k8, k9, kf, Bool.true_and, Bool.false_and, Bool.and_false, Bool.not_false]
 have k10 : aq b.s1.life 0 9999 = true := rY hb
 replace h := h.le l10
 clear hb
 refine ae (aj (vn b.s1.p0 b.s1.p1 b.s1.p2 b.s1.p3 H10 O) rfl ⟨rfl, trivial⟩ fun H11 l11 => ab _ (az _) (ak (fun hb => ah ⟨?_, rfl⟩) (fun hb => ?_)))
 ·have kf : ([b.s1.p0, b.s1.p1, b.s1.p2, b.s1.p3].all fun n => aq n 0 99) = false := yD hb
  simp only [aw, bz, k1, k2, k3, k4, kmid, k6, k7, k8, k9, k10, kf, Bool.true_and, Bool.false_and, Bool.and_false, Bool.not_false]
 have k11 : ([b.s1.p0, b.s1.p1, b.s1.p2, b.s1.p3].all fun n => aq n 0 99) = true := rY hb
 replace h := h.le l11
 clear hb
 refine ae (aj (de b.s1.mull 0 7 H11 O) rfl ⟨rfl, trivial⟩ fun H12 l12 => ab _ (az _) (ak (fun hb => ah ⟨?_, rfl⟩) (fun hb => ?_)))
 ·have kf : aq b.s1.mull 0 7 = false := yD hb
  simp only [aw, bz, k1, k2, k3, k4, kmid, k6, k7, k8, k9, k10, k11, kf, Bool.true_and, Bool.false_and, Bool.and_false, Bool.not_false]
 have k12 : aq b.s1.mull 0 7 = true := rY hb
 replace h := h.le l12
 clear hb
 refine ae (aj (de b.s1.acts 0 255 H12 O) rfl ⟨rfl, trivial⟩ fun H13 l13 => ab _ (az _) (ak (fun hb => ah ⟨?_, rfl⟩) (fun hb => ?_)))
 ·have kf : aq b.s1.acts 0 255 = false := yD hb
  simp only [aw, bz, k1, k2, k3, k4, kmid, k6, k7, k8, k9, k10, k11, k12, kf, Bool.true_and, Bool.false_and, Bool.and_false, Bool.not_false]
 have k13 : aq b.s1.acts 0 255 = true := rY hb
 replace h := h.le l13
 clear hb
 refine ae (aj (ld (p := fun x => !cu x false) h.stack rfl (jG aE (by decide)) fun H' _ row x hx => Hm hx) rfl ⟨rfl, trivial⟩ fun H20 l20 => ak (fun hb => ah ⟨?_, rfl⟩) (fun hb => ?_))
 ·simp only [aw, bz, k1, k2, k3, k4, kmid, k6, k7, k8, k9, k10, k11, k12, k13, hb, Bool.true_and, Bool.not_true, Bool.not_false, Bool.false_and]
 replace h := h.le l20
 refine ae (aj (ld (p := fun x => !cu x true) h.queue rfl (jG aE (by decide)) fun H' _ row x hx => Hl hx) rfl ⟨rfl, trivial⟩ fun H21 l21 => ab _ (az _) (ak (fun hq => ?_) (fun hq => ah ⟨?_, rfl⟩)))
 ·replace h := h.le l21
  simp only [Bool.not_eq_true'] at hq
  have hfin : aw b = (bo bc b && fY b) := by simp only [aw, bz, k1, k2, k3, k4, kmid, k6, k7, k8, k9, k10, k11, k12, k13, hb, hq, Bool.true_and, Bool.not_false]
  refine ae (aj (IB h) rfl ⟨rfl, trivial⟩ fun H22 l22 => ak (fun hp => ?_) (fun hp => ah ⟨?_, rfl⟩))
  ·replace h := h.le l22
   have ha : b.active = 0 ∨ b.active = 1 := by have := k1; simp only [aq, decide_eq_true_eq] at this; omega
   refine ae (aj (IE h ha (E0 hp)) rfl ⟨rfl, trivial⟩ fun H23 l23 => ah ⟨?_, rfl⟩)
   rw [hfin, hp, Bool.true_and]; rfl
  ·rw [hfin, hp]; rfl
 ·simp only [Bool.not_eq_false'] at hq
  simp only [aw, bz, k1, k2, k3, k4, kmid, k6, k7, k8, k9, k10, k11, k12, k13, hb, hq, Bool.true_and, Bool.not_false, Bool.not_true, Bool.false_and]
end Go.Proofs.YtieaihgbjikggaaGreat
namespace Go.Proofs.YtieaihgbjikggaaGreat
open Go Go.Sx
set_option maxRecDepth 100000
set_option maxHeartbeats 1000000
theorem CT {a b : Bool} (h : a = true ↔ b = true) : (Value.bool a : Value) = .bool b := by rw [Bool.eq_iff_iff.2 h]
theorem ue (n : Int) (H : Heap) (O : Own) : RetO PP jZ [iV n] H O (.bool (aq n 0 99)) := by
 refine oY (vs := [iV n]) (by kernel_rfl) ⟨rfl, trivial⟩ ?_
 simp only [gC]
 refine af (af (ab _ (eh _ _) (ab _ (eh _ _) (ab _ (bF _ _) ?_))))
 refine ah ⟨CT ?_, rfl⟩
 simp [aq]
theorem mM (o : Ob) : bc o = true ↔ ((0 ≤ o.power ∧ o.power ≤ 99) ∧ (0 ≤ o.tough ∧ o.tough ≤ 99) ∧ (0 ≤ o.dmg ∧ o.dmg ≤ 99) ∧ (0 ≤ o.cnt ∧ o.cnt ≤ 99) ∧ (0 ≤ o.pp ∧ o.pp ≤ 99) ∧ (0 ≤ o.pt ∧ o.pt ≤ 99)) ∧
  (o.card = -1 ∨ (o.power = 0 ∧ o.tough = 0)) ∧ 1 ≤ o.id ∧ o.id ≤ 500 ∧ -1 ≤ o.card ∧ o.card < 400 ∧ (o.owner = 0 ∨ o.owner = 1) := by
 simp only [bc, aq, List.all_cons, List.all_nil, Bool.and_true, Bool.and_eq_true, Bool.or_eq_true, decide_eq_true_eq, beq_iff_eq, ge_iff_le]
 omega
theorem yM (o : Ob) (H : Heap) (O : Own) : RetO PP jY [.agg o.row.toArray] H O (.bool (bc o)) := by
 refine oX (vs := o.row) (by kernel_rfl) (by simp [Ob.row, Ones, Value.oneCell']) ?_
 simp only [gB]
 repeat (first | refine ae ?_ | refine af ?_ | refine ai fun _ => ?_ | refine ab _ (aB _ _) ?_ | refine ab _ (cT _ _) ?_ | refine ab _ (eh _ _) ?_ | refine ab _ (dT _ _) ?_ | refine ab _ (aF _ _) ?_ | refine ab _ (aX _ _) ?_ | refine ab _ (bF _ _) ?_ | refine ab _ (aA _ _) ?_ | refine ab _ (az _) ?_ | refine ab _ (sy _ _) ?_ | refine ab _ (nR _ _) ?_)
 refine ak (fun h1 => ah ⟨CT ?_, rfl⟩) (fun h1 => ?_)
 ·rw [mM]; simp at h1 ⊢; omega
 refine ae (ae (ae (af (af (af (af (af (af (af (af (af (af (af (ab _ (eh _ _) (ab _ (aX _ _) (ab _ (aX _ _) (ab _ (bF _ _) (ab _ (aA _ _) ?_))))))))))))))))))
 refine ak (fun h2 => ah ⟨CT ?_, rfl⟩) (fun h2 => ?_)
 ·rw [mM]; simp at h1 h2 ⊢; omega
 have key : ∀ (x : Bool), (x = true ↔ ((0 ≤ o.power ∧ o.power ≤ 99) ∧ (0 ≤ o.tough ∧ o.tough ≤ 99) ∧ (0 ≤ o.dmg ∧ o.dmg ≤ 99) ∧ (0 ≤ o.cnt ∧ o.cnt ≤ 99) ∧ (0 ≤ o.pp ∧ o.pp ≤ 99) ∧ (0 ≤ o.pt ∧ o.pt ≤ 99))) → (Value.bool x : Value) = .bool (bc o) := by
  intro x hx
  refine CT ?_
  rw [hx, mM]
  simp at h1 h2 ⊢; omega
 refine ae (aj (ue o.power H O) rfl ⟨rfl, trivial⟩ fun H1 _ => ak (fun k1 => ?_) (fun k1 => ah ⟨key _ ?_, rfl⟩))
 rotate_left
 ·simp [aq] at k1 ⊢; omega
 refine ae (aj (ue o.tough H1 O) rfl ⟨rfl, trivial⟩ fun H2 _ => ak (fun k2 => ?_) (fun k2 => ah ⟨key _ ?_, rfl⟩))
 rotate_left
 ·simp [aq] at k2 ⊢; omega
 refine ae (aj (ue o.dmg H2 O) rfl ⟨rfl, trivial⟩ fun H3 _ => ak (fun k3 => ?_) (fun k3 => ah ⟨key _ ?_, rfl⟩))
 rotate_left
 ·simp [aq] at k3 ⊢; omega
 refine ae (aj (ue o.cnt H3 O) rfl ⟨rfl, trivial⟩ fun H4 _ => ak (fun k4 => ?_) (fun k4 => ah ⟨key _ ?_, rfl⟩))
 rotate_left
 ·simp [aq] at k4 ⊢; omega
 refine ae (aj (ue o.pp H4 O) rfl ⟨rfl, trivial⟩ fun H5 _ => ak (fun k5 => ?_) (fun k5 => ah ⟨key _ ?_, rfl⟩))
 rotate_left
 ·simp [aq] at k5 ⊢; omega
 refine ae (aj (ue o.pt H5 O) rfl ⟨rfl, trivial⟩ fun H6 _ => ah ⟨key _ ?_, rfl⟩)
 simp [aq] at k1 k2 k3 k4 k5 ⊢; omega
theorem IR {vl vh vf vg : Value} (s : St) (hl : vl.oneCell' = true) (hh : vh.oneCell' = true) (hf : vf.oneCell' = true) (hg : vg.oneCell' = true) (H : Heap) (O : Own) :
  RetO PP lr [.agg (HQ vl vh vf vg s).toArray] H O (.bool (bz s)) := by
 refine pJ (vs := HQ vl vh vf vg s) (by kernel_rfl) ⟨rfl, rfl, rfl, rfl, rfl, hl, hh, hf, hg, rfl, rfl, rfl, rfl, rfl, trivial⟩ ?_
 simp only [gX]
 have key : ∀ (x : Bool), (x = true ↔ ((0 ≤ s.life ∧ s.life ≤ 9999) ∧ (0 ≤ s.p0 ∧ s.p0 ≤ 99) ∧ (0 ≤ s.p1 ∧ s.p1 ≤ 99) ∧ (0 ≤ s.p2 ∧ s.p2 ≤ 99) ∧ (0 ≤ s.p3 ∧ s.p3 ≤ 99) ∧ (0 ≤ s.mull ∧ s.mull ≤ 7) ∧ (0 ≤ s.acts ∧ s.acts ≤ 255))) → (Value.bool x : Value) = .bool (bz s) := by
  intro x hx
  refine CT ?_
  rw [hx]
  simp only [bz, aq, List.all_cons, List.all_nil, Bool.and_true, Bool.and_eq_true, decide_eq_true_eq]
  omega
 refine ae (af (af (ai fun _ => ab _ (aB _ _) (ab _ (aB _ _) (ab _ (aA _ _) ?_)))))
 refine ak (fun h1 => ah ⟨key _ ?_, rfl⟩) (fun h1 => ?_)
 ·simp at h1 ⊢; omega
 refine af (af (ab _ (aB _ _) (ab _ (aB _ _) (ab _ (aA _ _) ?_))))
 refine ak (fun h2 => ah ⟨key _ ?_, rfl⟩) (fun h2 => ?_)
 ·simp at h2 ⊢; omega
 refine af (af (ab _ (aB _ _) (ab _ (aB _ _) (ab _ (aA _ _) ?_))))
 refine ak (fun h3 => ah ⟨key _ ?_, rfl⟩) (fun h3 => ?_)
 ·simp at h3 ⊢; omega
 refine af (af (ab _ (aB _ _) (ab _ (aB _ _) (ab _ (aA _ _) ?_))))
 refine ak (fun h4 => ah ⟨key _ ?_, rfl⟩) (fun h4 => ?_)
 ·simp at h4 ⊢; omega
 repeat (first | refine ae ?_ | refine af ?_ | refine ai fun _ => ?_ | refine ab _ (aB _ _) ?_ | refine ab _ (cT _ _) ?_ | refine ab _ (eh _ _) ?_ | refine ab _ (dT _ _) ?_ | refine ab _ (aF _ _) ?_ | refine ab _ (aX _ _) ?_ | refine ab _ (bF _ _) ?_ | refine ab _ (aA _ _) ?_ | refine ab _ (az _) ?_ | refine ab _ (sy _ _) ?_ | refine ab _ (nR _ _) ?_)
 refine ah ⟨key _ ?_, rfl⟩
 simp at h1 h2 h3 h4 ⊢; omega
end Go.Proofs.YtieaihgbjikggaaGreat
namespace Go.Proofs.YtieaihgbjikggaaGreat
open Go Go.Sx
set_option maxRecDepth 100000
set_option maxHeartbeats 1000000
abbrev IY (n : Nat) (R : Nat → Value → Heap → Own → Prop) : List Value → Heap → Own → Prop := fun vs H O => ∃ (i : Nat) (x : Value), vs = [x, iV i] ∧ i ≤ n ∧ R i x H O
abbrev MY (n : Nat) : List Value → Heap → Own → Nat := fun vs _ _ => match g vs 1 with | .int _ k => n - k.toNat | _ => 0
theorem dr {P : Program} {lab key : Nat} {x0 : Value} {body : (List Value → Heap → Own → Prop) → List Value → Tree} {H : Heap} {O : Own} {Q : Value → Heap → Own → Prop} (n : Nat) (R : Nat → Value → Heap → Own → Prop)
  (h0 : R 0 x0 H O) (step : ∀ i x H' O', i ≤ n → Heap.le H H' → R i x H' O' → (body (FL (IY n R) (MY n) (n - i)) [x, iV i]).den P Q H' O') :
  (Tree.loop lab key [x0, .int .i64 0] body).den P Q H O := by
 refine iz (IY n R) (MY n) ⟨0, x0, rfl, Nat.zero_le _, h0⟩ ?_
 rintro vs H' O' _ _ hle ⟨i, x, rfl, hi, hr⟩
 exact step i x H' O' hi hle hr
theorem aN {P : Program} {lab n i : Nat} {R : Nat → Value → Heap → Own → Prop} {x : Value} {eqs : List (List Value × List Value)} {H : Heap} {O : Own} {Q : Value → Heap → Own → Prop} (he : Eqs eqs) (hi : i < n) (hr : R (i + 1) x H O) :
  (Tree.cont lab (FL (IY n R) (MY n) (n - i)) [x, iV ((i + 1 : Nat) : Int)] eqs).den P Q H O := by
 refine dW he ⟨i + 1, x, rfl, hi, hr⟩ ?_
 show n - ((i + 1 : Nat) : Int).toNat < n - i
 simp; omega
theorem za {α : Type} [BEq α] [LawfulBEq α] {l : List α} {i : Nat} (h : i < l.length) (n : α) : (l.take (i + 1)).count n = (l.take i).count n + (if l[i] == n then 1 else 0) := by
 rw [List.take_add_one, List.getElem?_eq_getElem h, Option.toList_some, List.count_append, List.count_singleton]
theorem gj {H : Heap} {O : Own} {v : Value} {l : List Int} (h : RSl H O 1 v (aO l)) (n : Int) : RetO PP jX [v, iV n] H O (iV ((l.count n : Nat) : Int)) := by
 refine oW (vs := [v, iV n]) (by kernel_rfl) ⟨h.one, rfl, trivial⟩ ?_
 simp only [gA]
 have hlen := h.len
 rw [aO, List.length_map] at hlen
 have hB := h.lenB
 simp only [aO, List.length_map] at hB
 refine dr l.length (fun i x H' O' => O' = O ∧ Heap.le H H' ∧ x = iV (((l.take i).count n : Nat) : Int)) ⟨rfl, Heap.le_refl H, by simp⟩ ?_
 rintro i x H' O' hi - ⟨rfl, hle, rfl⟩
 have hci : (l.take i).count n ≤ i := Nat.le_trans List.count_le_length (by simp; omega)
 refine ab _ hlen (ab _ (aB _ _) (ak (fun hb => ?_) (fun hb => ?_)))
 ·have hlt : i < l.length := by simpa using hb
  obtain ⟨a, h1, h2, _, h3, h4⟩ := (h.le hle).idx .i64 i [iV l[i]] (by simp [aO, hlt])
  refine ab _ h1 (ap h2 h3 h4 (ab _ (aF _ _) (ak (fun hb => ?_) (fun hb => ?_))))
  ·refine ab _ (ax (by omega)) (ab _ (ax (by omega)) (aN (by simp [Eqs]) hlt ⟨rfl, hle, ?_⟩))
   rw [za hlt, hb]; rfl
  ·refine ab _ (ax (by omega)) (aN (by simp [Eqs]) hlt ⟨rfl, hle, ?_⟩)
   rw [za hlt, hb]; rfl
 ·have : l.length ≤ i := by simpa using hb
  refine ah ⟨?_, rfl⟩
  rw [List.take_of_length_le this]; rfl
def gJ (b : Bd) (id : Int) : Int := ic (fun o => o.id == id) b.objs 0
theorem xc {H : Heap} {O : Own} {v : d9} {b : Bd} (h : BdR H O v b) (id : Int) : RetO PP jW [.agg (ay v b).toArray, iV id] H O (iV (gJ b id)) := by
 refine oV (vs := ay v b ++ [iV id]) (by kernel_rfl) (aP (au h) ⟨rfl, trivial⟩) ?_
 simp only [gz]
 have lo := h.objs.len
 have hB := h.objs.lenB
 rw [List.length_map] at lo hB
 refine ai fun r0 => aR b.objs.length (fun i H' O' => O' = O ∧ Heap.le H H' ∧ gJ b id = ic (fun o => o.id == id) (b.objs.drop i) i) ⟨rfl, Heap.le_refl H, by simp [gJ]⟩ ?_
 rintro i H' O' hi - ⟨rfl, hle, hor⟩
 refine ae (ab _ lo (ab _ (aB _ _) (ak (fun hb => ?_) (fun hb => ?_))))
 ·have hlt : i < b.objs.length := by simpa using hb
  obtain ⟨a, h1, h2, h5, h3, h4⟩ := (h.objs.le hle).idx .i64 i (Ob.row b.objs[i]) (by simp [hlt])
  have hr : Reads H' O' (.pointer (some a)) 1 [iV b.objs[i].id] := by
   have := h5 0 1 (by omega)
   have e : bd (.pointer (some a)) 0 = .pointer (some a) := by simp [bd, Addr.add]
   rwa [e] at this
  refine ae (ab _ h1 (aL rfl (ap hr rfl ⟨rfl, trivial⟩ (ab _ (aF _ _) (ak (fun hb => ?_) (fun hb => ?_))))))
  ·refine ah ⟨?_, rfl⟩
   rw [hor, List.drop_eq_getElem_cons hlt, ic, if_pos hb]; rfl
  ·refine ab _ (ax (by omega)) (aK (by simp [Eqs]) hlt ⟨rfl, hle, ?_⟩)
   rw [hor, List.drop_eq_getElem_cons hlt, ic, if_neg (by rw [hb]; simp)]; rfl
 ·have hge : b.objs.length ≤ i := by simpa using hb
  refine ah ⟨?_, rfl⟩
  rw [hor, List.drop_of_length_le hge]; rfl
theorem IT {H : Heap} {O : Own} {row : List Value} {x : It} (h : ItR H O row x) (q : Bool) : RetO PP lw [.agg row.toArray, .bool q] H O (.bool (cu x q)) := by
 obtain ⟨s, rfl, hs⟩ := h
 refine pQ (vs := [iV x.player, iV x.id, iV x.card, iV x.trig, s, .bool q]) (by kernel_rfl) ⟨rfl, rfl, rfl, rfl, hs.one, rfl, trivial⟩ ?_
 simp only [gZ]
 have lt := hs.len
 have hB := hs.lenB
 rw [List.length_map] at lt hB
 have e4 : ∀ {k : Value → Tree} {Q : Value → Heap → Own → Prop} {H' : Heap} {O' : Own}, (k (iV x.tgs.length)).den PP Q H' O' → (Tree.pure [] .len [g [iV x.player, iV x.id, iV x.card, iV x.trig, s, Value.bool q] 4] k).den PP Q H' O' := fun hk => ab _ lt hk
 repeat (first | refine ae ?_ | refine af ?_ | refine ai fun _ => ?_ | refine ab _ (aB _ _) ?_ | refine ab _ (cT _ _) ?_ | refine ab _ (eh _ _) ?_ | refine ab _ (dT _ _) ?_ | refine ab _ (aF _ _) ?_ | refine ab _ (aX _ _) ?_ | refine ab _ (bF _ _) ?_ | refine ab _ (aA _ _) ?_ | refine ab _ (az _) ?_ | refine ab _ (sy _ _) ?_ | refine ab _ (nR _ _) ?_)
 refine e4 ?_
 refine af (af (ab _ (aB _ _) (ab _ (aA _ _) ?_)))
 have fiff : cu x q = true ↔ (0 ≤ x.player ∧ x.player ≤ 1) ∧ (1 ≤ x.id ∧ x.id ≤ 500) ∧ (0 ≤ x.card ∧ x.card ≤ 399) ∧ (-1 ≤ x.trig ∧ x.trig ≤ 1) ∧ (x.tgs.length ≤ 4 ∧ ¬ (0 ≤ x.trig ∧ 0 < x.tgs.length) ∧ ¬ (q = true ∧ x.trig < 0)) ∧ (x.tgs.any fun t => !d7 t) = false := by
  simp only [cu, aq, Bool.and_eq_true, Bool.not_eq_true', Bool.or_eq_false_iff, Bool.and_eq_false_iff, decide_eq_true_eq, decide_eq_false_iff_not]
  generalize (x.tgs.any fun t => !d7 t) = c
  cases q <;> simp only [Bool.false_eq_true, false_and, true_and, not_false_eq_true, and_true, reduceCtorEq, or_false, false_or, true_or] <;> constructor <;> intro e <;> (try obtain ⟨e1, e2, e3, e4, e5, e6⟩ := e) <;> (try refine ⟨?_, ?_, ?_, ?_, ?_, ?_⟩) <;> first | omega | assumption
 refine ak (fun h1 => ah ⟨CT ?_, rfl⟩) (fun h1 => ?_)
 ·rw [fiff]
  simp only [Bool.or_eq_true, decide_eq_true_eq] at h1
  refine ⟨fun e => (by cases e), fun ⟨e1, e2, e3, e4, e5, e6⟩ => ?_⟩
  omega
 simp only [Bool.or_eq_false_iff, decide_eq_false_iff_not] at h1
 refine ae (ae (af (af (ab _ (eh _ _) ?_))))
 refine e4 ?_
 refine ae (af (af (af (af (af (af (af (af (af (af (af (ab _ (aB _ _) (ab _ (aB _ _) (ab _ (bF _ _) (ab _ (bF _ _) (ab _ (aA _ _) ?_))))))))))))))))
 refine ak (fun h2 => ah ⟨CT ?_, rfl⟩) (fun h2 => ?_)
 ·rw [fiff]
  simp only [Bool.or_eq_true, Bool.and_eq_true, decide_eq_true_eq] at h2
  refine ⟨fun e => (by cases e), fun ⟨e1, e2, e3, e4, ⟨e5, e6, e7⟩, e8⟩ => ?_⟩
  rcases h2 with h2 | h2
  ·omega
  ·exact absurd h2 e7
 simp only [Bool.or_eq_false_iff, Bool.and_eq_false_iff, decide_eq_false_iff_not] at h2
 have hfin : (Value.bool (!(x.tgs.any fun t => !d7 t)) : Value) = .bool (cu x q) := by
  refine CT ?_
  rw [fiff, Bool.not_eq_true']
  refine ⟨fun e => ⟨by omega, by omega, by omega, by omega, ⟨by omega, by omega, fun e' => ?_⟩, e⟩, fun e => e.2.2.2.2.2⟩
  rcases h2.2 with h3 | h3
  ·rw [h3] at e'; cases e'.1
  ·exact h3 e'.2
 refine aR x.tgs.length (fun i H' O' => O' = O ∧ Heap.le H H' ∧ (x.tgs.any fun t => !d7 t) = ((x.tgs.drop i).any fun t => !d7 t)) ⟨rfl, Heap.le_refl H, rfl⟩ ?_
 rintro i H' O' hi - ⟨rfl, hle, hor⟩
 refine ae (e4 (ab _ (aB _ _) (ak (fun hb => ?_) (fun hb => ?_))))
 ·have hlt : i < x.tgs.length := by simpa using hb
  obtain ⟨a, k1, k2, _, k3, k4⟩ := (hs.le hle).idx .i64 i (Tg.row x.tgs[i]) (by simp [hlt])
  refine ae (ab _ k1 (ap k2 k3 k4 ?_))
  repeat (first | refine ae ?_ | refine af ?_ | refine ai fun _ => ?_ | refine ab _ (aB _ _) ?_ | refine ab _ (cT _ _) ?_ | refine ab _ (eh _ _) ?_ | refine ab _ (dT _ _) ?_ | refine ab _ (aF _ _) ?_ | refine ab _ (aX _ _) ?_ | refine ab _ (bF _ _) ?_ | refine ab _ (aA _ _) ?_ | refine ab _ (az _) ?_ | refine ab _ (sy _ _) ?_ | refine ab _ (nR _ _) ?_)
  have hst : ((x.tgs.drop i).any fun t => !d7 t) = (!d7 x.tgs[i] || ((x.tgs.drop (i + 1)).any fun t => !d7 t)) := by rw [List.drop_eq_getElem_cons hlt, List.any_cons]
  refine ak (fun hb => ah ⟨?_, rfl⟩) (fun hb => ?_)
  ·have : d7 x.tgs[i] = false := by simp [d7, aq] at hb ⊢; omega
   rw [← hfin, hor, hst, this]; rfl
  ·have : d7 x.tgs[i] = true := by simp [d7, aq] at hb ⊢; omega
   refine ab _ (ax (by omega)) (aK (by simp [Eqs]) hlt ⟨rfl, hle, ?_⟩)
   rw [hor, hst, this]; rfl
 ·have hge : x.tgs.length ≤ i := by simpa using hb
  refine ah ⟨?_, rfl⟩
  rw [← hfin, hor, List.drop_of_length_le hge]; rfl
end Go.Proofs.YtieaihgbjikggaaGreat
namespace Go.Proofs.YtieaihgbjikggaaGreat
open Go Go.Sx
set_option maxRecDepth 100000
set_option maxHeartbeats 1000000
def Kr (s : St) : Prop := s.lib.length ≤ 100000 ∧ s.hand.length ≤ 100000 ∧ s.field.length ≤ 100000 ∧ s.grave.length ≤ 100000
def FC (b : Bd) : Prop := Kr b.s0 ∧ Kr b.s1 ∧ b.stack.length ≤ 100000
def ix (p id : Int) (x : It) : Bool := (x.trig == -1 && x.id == id) && x.player == p
def pm (s : St) (id : Int) : Nat := ((s.lib.count id + s.hand.count id) + s.field.count id) + s.grave.count id
def qa (b : Bd) (p id : Int) : Nat := (if p = 0 then pm b.s0 id else pm b.s1 id) + b.stack.countP (ix p id)
theorem jc {α : Type} {l : List α} {i : Nat} (h : i < l.length) (p : α → Bool) : (l.take (i + 1)).countP p = (l.take i).countP p + (if p l[i] then 1 else 0) := by
 rw [List.take_add_one, List.getElem?_eq_getElem h, Option.toList_some, List.countP_append, List.countP_singleton]
theorem By {n : Nat} (h : n < 2 ^ 63) : al (.bin .add .int) [iV 0, iV (n : Int)] = some (iV (n : Int)) := by
 have := gq (i := 0) (n := n) (by omega)
 simpa using this
theorem HY {H : Heap} {O : Own} {v : d9} {b : Bd} (h : BdR H O v b) (hfit : FC b) {p : Int} (hp : p = 0 ∨ p = 1) (id : Int) :
  RetO PP jy [.agg (ay v b).toArray, iV p, iV id] H O (iV ((qa b p id : Nat) : Int)) := by
 refine ny (vs := ay v b ++ [iV p, iV id]) (by kernel_rfl) (aP (au h) ⟨rfl, rfl, trivial⟩) ?_
 simp only [fK]
 obtain ⟨⟨f1, f2, f3, f4⟩, ⟨f5, f6, f7, f8⟩, f9⟩ := hfit
 refine ai fun r0 => ?_
 have e38 : g (ay v b ++ [iV p, iV id]) 38 = iV p := rfl
 rw [e38]
 rcases hp with rfl | rfl
 ·refine ⟨.i64, 0, rfl, fun _ => ?_, fun e => absurd rfl e⟩
  obtain ⟨z1, z2, z3, z4⟩ := fu h.s0
  have c1 : b.s0.lib.count id ≤ b.s0.lib.length := List.count_le_length
  have c2 : b.s0.hand.count id ≤ b.s0.hand.length := List.count_le_length
  have c3 : b.s0.field.count id ≤ b.s0.field.length := List.count_le_length
  have c4 : b.s0.grave.count id ≤ b.s0.grave.length := List.count_le_length
  refine ae (aj (mf b.s0 z1 z2 z3 z4 H O) rfl ⟨z1, z2, z3, z4, trivial⟩ fun H1 l1 => ?_)
  replace h := h.le l1
  refine aj (gj h.s0.lib id) rfl ⟨rfl, trivial⟩ fun H2 l2 => ab _ (By (by omega)) ?_
  replace h := h.le l2
  refine aj (gj h.s0.hand id) rfl ⟨rfl, trivial⟩ fun H3 l3 => ab _ (gq (by omega)) ?_
  replace h := h.le l3
  refine aj (gj h.s0.field id) rfl ⟨rfl, trivial⟩ fun H4 l4 => ab _ (gq (by omega)) ?_
  replace h := h.le l4
  refine aj (gj h.s0.grave id) rfl ⟨rfl, trivial⟩ fun H5 l5 => ab _ (gq (by omega)) ?_
  replace h := h.le l5
  have hz : ((b.s0.lib.count id + b.s0.hand.count id) + b.s0.field.count id) + b.s0.grave.count id = pm b.s0 id := rfl
  have hzb : pm b.s0 id ≤ 400000 := by unfold pm; omega
  rw [hz]
  obtain ⟨rows, hrs, hrl, hit⟩ := h.stack
  have hsl : al .len [v.s] = some (iV b.stack.length) := ItsR.len h.stack
  refine dr b.stack.length (fun i x H' O' => O' = O ∧ Heap.le H5 H' ∧ x = iV ((pm b.s0 id + (b.stack.take i).countP (ix 0 id) : Nat) : Int)) ⟨rfl, Heap.le_refl _, by simp⟩ ?_
  rintro i x H' O' hi - ⟨rfl, hle, rfl⟩
  have hci : (b.stack.take i).countP (ix 0 id) ≤ i := Nat.le_trans List.countP_le_length (by simp; omega)
  refine ae (ab _ hsl (ab _ (aB _ _) (ak (fun hb => ?_) (fun hb => ?_))))
  ·have hlt : i < b.stack.length := by simpa using hb
   obtain ⟨a, h1, h2, _, h3, h4⟩ := (hrs.le hle).idx .i64 i rows[i] (by simp [hrl, hlt])
   obtain ⟨s, hrow, _⟩ := hit i rows[i] b.stack[i] (by simp [hrl, hlt]) (by simp [hlt])
   rw [hrow] at h2 h3 h4
   refine ae (ab _ h1 (ap h2 h3 h4 ?_))
   refine ae (ae (ae (ae (af (af (af (af (af (af (af (af (ai fun _ => ab _ (aF _ _) (ab _ (aF _ _) (ab _ (aF _ _) (ab _ (bF _ _) (ab _ (bF _ _) ?_))))))))))))))))
   refine ak (fun hb => ?_) (fun hb => ?_)
   ·refine ab _ (ax (by omega)) (ab _ (ax (by omega)) (aN (by simp [Eqs]) hlt ⟨rfl, hle, ?_⟩))
    have : ix 0 id b.stack[i] = true := hb
    rw [jc hlt, this]; rfl
   ·refine ab _ (ax (by omega)) (aN (by simp [Eqs]) hlt ⟨rfl, hle, ?_⟩)
    have : ix 0 id b.stack[i] = false := hb
    rw [jc hlt, this]; rfl
  ·have : b.stack.length ≤ i := by simpa using hb
   refine ah ⟨?_, rfl⟩
   rw [List.take_of_length_le this]; rfl
 ·refine ⟨.i64, 1, rfl, fun e => absurd e (by omega), fun _ => ⟨.i64, 1, rfl, fun _ => ?_, fun e => absurd rfl e⟩⟩
  obtain ⟨z1, z2, z3, z4⟩ := fu h.s1
  have c1 : b.s1.lib.count id ≤ b.s1.lib.length := List.count_le_length
  have c2 : b.s1.hand.count id ≤ b.s1.hand.length := List.count_le_length
  have c3 : b.s1.field.count id ≤ b.s1.field.length := List.count_le_length
  have c4 : b.s1.grave.count id ≤ b.s1.grave.length := List.count_le_length
  refine ae (aj (mf b.s1 z1 z2 z3 z4 H O) rfl ⟨z1, z2, z3, z4, trivial⟩ fun H1 l1 => ?_)
  replace h := h.le l1
  refine aj (gj h.s1.lib id) rfl ⟨rfl, trivial⟩ fun H2 l2 => ab _ (By (by omega)) ?_
  replace h := h.le l2
  refine aj (gj h.s1.hand id) rfl ⟨rfl, trivial⟩ fun H3 l3 => ab _ (gq (by omega)) ?_
  replace h := h.le l3
  refine aj (gj h.s1.field id) rfl ⟨rfl, trivial⟩ fun H4 l4 => ab _ (gq (by omega)) ?_
  replace h := h.le l4
  refine aj (gj h.s1.grave id) rfl ⟨rfl, trivial⟩ fun H5 l5 => ab _ (gq (by omega)) ?_
  replace h := h.le l5
  have hz : ((b.s1.lib.count id + b.s1.hand.count id) + b.s1.field.count id) + b.s1.grave.count id = pm b.s1 id := rfl
  have hzb : pm b.s1 id ≤ 400000 := by unfold pm; omega
  rw [hz]
  obtain ⟨rows, hrs, hrl, hit⟩ := h.stack
  have hsl : al .len [v.s] = some (iV b.stack.length) := ItsR.len h.stack
  refine dr b.stack.length (fun i x H' O' => O' = O ∧ Heap.le H5 H' ∧ x = iV ((pm b.s1 id + (b.stack.take i).countP (ix 1 id) : Nat) : Int)) ⟨rfl, Heap.le_refl _, by simp⟩ ?_
  rintro i x H' O' hi - ⟨rfl, hle, rfl⟩
  have hci : (b.stack.take i).countP (ix 1 id) ≤ i := Nat.le_trans List.countP_le_length (by simp; omega)
  refine ae (ab _ hsl (ab _ (aB _ _) (ak (fun hb => ?_) (fun hb => ?_))))
  ·have hlt : i < b.stack.length := by simpa using hb
   obtain ⟨a, h1, h2, _, h3, h4⟩ := (hrs.le hle).idx .i64 i rows[i] (by simp [hrl, hlt])
   obtain ⟨s, hrow, _⟩ := hit i rows[i] b.stack[i] (by simp [hrl, hlt]) (by simp [hlt])
   rw [hrow] at h2 h3 h4
   refine ae (ab _ h1 (ap h2 h3 h4 ?_))
   refine ae (ae (ae (ae (af (af (af (af (af (af (af (af (ai fun _ => ab _ (aF _ _) (ab _ (aF _ _) (ab _ (aF _ _) (ab _ (bF _ _) (ab _ (bF _ _) ?_))))))))))))))))
   refine ak (fun hb => ?_) (fun hb => ?_)
   ·refine ab _ (ax (by omega)) (ab _ (ax (by omega)) (aN (by simp [Eqs]) hlt ⟨rfl, hle, ?_⟩))
    have : ix 1 id b.stack[i] = true := hb
    rw [jc hlt, this]; rfl
   ·refine ab _ (ax (by omega)) (aN (by simp [Eqs]) hlt ⟨rfl, hle, ?_⟩)
    have : ix 1 id b.stack[i] = false := hb
    rw [jc hlt, this]; rfl
  ·have : b.stack.length ≤ i := by simpa using hb
   refine ah ⟨?_, rfl⟩
   rw [List.take_of_length_le this]; rfl
end Go.Proofs.YtieaihgbjikggaaGreat
namespace Go.Proofs.YtieaihgbjikggaaGreat
open Go Go.Sx
set_option maxRecDepth 100000
set_option maxHeartbeats 1000000
theorem kT {α : Type} (p : α → Bool) : ∀ (l : List α) (i : Int), 0 ≤ i → (ic p l i = -1 ∧ ∀ x ∈ l, p x = false) ∨ ∃ (k : Nat) (x : α), l[k]? = some x ∧ p x = true ∧ ic p l i = i + k
 | [], i, _ => .inl ⟨rfl, by simp⟩
 | a :: l, i, h => by
  simp only [ic]
  by_cases hp : p a = true
  ·right; exact ⟨0, a, rfl, hp, by rw [if_pos hp]; simp⟩
  ·rw [if_neg hp]
   rcases kT p l (i + 1) (by omega) with ⟨h1, h2⟩ | ⟨k, x, h1, h2, h3⟩
   ·left
    refine ⟨h1, fun x hx => ?_⟩
    rcases List.mem_cons.1 hx with rfl | hx
    ·simpa using hp
    ·exact h2 x hx
   ·right; exact ⟨k + 1, x, by simpa using h1, h2, by rw [h3]; omega⟩
def qw (b : Bd) (i : Int) : Int := (b.objs[i.toNat]?.map (·.card)).getD 0
def lI (b : Bd) (x : It) : Bool := decide (x.trig ≥ 0) || !(decide (gJ b x.id < 0) || (qw b (gJ b x.id) != x.card))
def oJ (x : It) : Bool := !decide (x.trig ≥ 0)
def AO (b : Bd) : Nat := b.s0.lib.length + b.s0.hand.length + b.s0.field.length + b.s0.grave.length + b.s1.lib.length + b.s1.hand.length + b.s1.field.length + b.s1.grave.length
def mg (b : Bd) : Option Int → List Ob → Bool
 | _, [] => true
 | prev, o :: r => (!(!bc o || iq prev o.id) && (((qa b o.owner o.id : Nat) : Int) == 1)) && mg b (some o.id) r
def rE (b : Bd) : Bool := b.stack.all (lI b) && (mg b none b.objs && (((AO b + b.stack.countP oJ : Nat) : Int) == (b.objs.length : Int)))
theorem lH {o : Ob} (h : bc o = true) : o.owner = 0 ∨ o.owner = 1 := ((mM o).1 h).2.2.2.2.2.2
theorem Jx {H : Heap} {O : Own} {v : d9} {b : Bd} (h : BdR H O v b) (hfit : FC b) : RetO PP jT [.agg (ay v b).toArray] H O (.bool (rE b)) := by
 refine oS (vs := ay v b) (by kernel_rfl) (au h) ?_
 simp only [gw]
 have hfit' := hfit
 obtain ⟨⟨f1, f2, f3, f4⟩, ⟨f5, f6, f7, f8⟩, f9⟩ := hfit
 have len1 : ∀ {H' : Heap} {O' : Own} {w : Value} {l : List Int}, RSl H' O' 1 w (aO l) → al .len [w] = some (iV l.length) := fun h => by have := h.len; rwa [aO, List.length_map] at this
 obtain ⟨z1, z2, z3, z4⟩ := fu h.s0
 obtain ⟨z5, z6, z7, z8⟩ := fu h.s1
 refine ai fun r0 => ae (aj (mf b.s0 z1 z2 z3 z4 H O) rfl ⟨z1, z2, z3, z4, trivial⟩ fun H1 l1 => ?_)
 replace h := h.le l1
 refine ab _ (len1 h.s0.lib) (ab _ (By (by omega)) (ab _ (len1 h.s0.hand) (ab _ (gq (by omega)) (ab _ (len1 h.s0.field) (ab _ (gq (by omega)) (ab _ (len1 h.s0.grave) (ab _ (gq (by omega)) ?_)))))))
 refine ae (aj (mf b.s1 z5 z6 z7 z8 H1 O) rfl ⟨z5, z6, z7, z8, trivial⟩ fun H2 l2 => ?_)
 replace h := h.le l2
 refine ab _ (len1 h.s1.lib) (ab _ (gq (by omega)) (ab _ (len1 h.s1.hand) (ab _ (gq (by omega)) (ab _ (len1 h.s1.field) (ab _ (gq (by omega)) (ab _ (len1 h.s1.grave) (ab _ (gq (by omega)) ?_)))))))
 have hz : b.s0.lib.length + b.s0.hand.length + b.s0.field.length + b.s0.grave.length + b.s1.lib.length + b.s1.hand.length + b.s1.field.length + b.s1.grave.length = AO b := rfl
 have hzb : AO b ≤ 800000 := by unfold AO; omega
 rw [hz]
 have hsl : al .len [v.s] = some (iV b.stack.length) := ItsR.len h.stack
 have stk := h.stack
 obtain ⟨rows, hrs, hrl, hit⟩ := stk
 have lo := h.objs.len
 have lob := h.objs.lenB
 rw [List.length_map] at lo lob
 refine dr b.stack.length (fun i x H' O' => O' = O ∧ Heap.le H2 H' ∧ x = iV ((AO b + (b.stack.take i).countP oJ : Nat) : Int) ∧ b.stack.all (lI b) = (b.stack.drop i).all (lI b)) ⟨rfl, Heap.le_refl _, by simp, rfl⟩ ?_
 rintro i x H' O' hi - ⟨rfl, hle, rfl, hor⟩
 have hci : (b.stack.take i).countP oJ ≤ i := Nat.le_trans List.countP_le_length (by simp; omega)
 refine ae (ab _ hsl (ab _ (aB _ _) (ak (fun hb => ?_) (fun hb => ?_))))
 ·have hlt : i < b.stack.length := by simpa using hb
  obtain ⟨a, h1, h2, _, h3, h4⟩ := (hrs.le hle).idx .i64 i rows[i] (by simp [hrl, hlt])
  obtain ⟨s, hrow, _⟩ := hit i rows[i] b.stack[i] (by simp [hrl, hlt]) (by simp [hlt])
  rw [hrow] at h2 h3 h4
  have hst : (b.stack.drop i).all (lI b) = (lI b b.stack[i] && (b.stack.drop (i + 1)).all (lI b)) := by rw [List.drop_eq_getElem_cons hlt, List.all_cons]
  refine ae (ab _ h1 (ap h2 h3 h4 ?_))
  refine ae (ae (ai fun _ => ab _ (eh _ _) ?_))
  refine ak (fun hb => ?_) (fun hb => ?_)
  ·refine ab _ (ax (by omega)) (aN (by simp [Eqs]) hlt ⟨rfl, hle, ?_, ?_⟩)
   ·have : oJ b.stack[i] = false := by simp only [oJ, hb, Bool.not_true]
    rw [jc hlt, this]; rfl
   ·rw [hor, hst]
    have : lI b b.stack[i] = true := by simp only [lI, hb, Bool.true_or]
    rw [this, Bool.true_and]
  ·refine ab _ (ax (by omega)) (ae (ae (aj (xc (h.le hle) b.stack[i].id) rfl ⟨rfl, trivial⟩ fun H3 l3 => ab _ (aB _ _) ?_)))
   refine ae (af (af (af ?_)))
   have hpv : ∃ pv : Value, pv.oneCell' = true ∧ (¬ (gJ b b.stack[i].id < 0) → al (.idx 12) [v.o, iV (gJ b b.stack[i].id)] = some pv ∧ yW pv = true ∧ Reads H3 O' (bd pv 1) 1 [iV (qw b (gJ b b.stack[i].id))]) := by
    rcases kT (fun o => o.id == b.stack[i].id) b.objs 0 (by omega) with ⟨e, _⟩ | ⟨k, o, e1, _, e3⟩
    ·refine ⟨iV 0, rfl, fun hn => ?_⟩
     exfalso; apply hn
     show gJ b b.stack[i].id < 0
     unfold gJ; omega
    ·have e3 : gJ b b.stack[i].id = (k : Int) := by unfold gJ; omega
     obtain ⟨a, k1, k2, k3, _⟩ := ((h.objs.le (Heap.le_trans hle l3))).idx .i64 k (Ob.row o) (by rw [List.getElem?_map, e1]; rfl)
     refine ⟨.pointer (some a), rfl, fun _ => ⟨by rw [e3]; exact k1, rfl, ?_⟩⟩
     have := k3 1 1 (by omega)
     rw [e3]
     have ec : qw b (k : Int) = o.card := by simp [qw, e1]
     rw [ec]; exact this
   obtain ⟨pv, hpone, hpv⟩ := hpv
   have hon : On [((.bool (decide (gJ b b.stack[i].id < 0)) : Value), false)] → ¬ (gJ b b.stack[i].id < 0) := fun h => by
    have := h.1
    simp at this
    omega
   refine ⟨pv, fun ho => (hpv (hon ho)).1, .inr hpone, ?_⟩
   refine ⟨fun ho => (hpv (hon ho)).2.1, ?_⟩
   refine af (af ?_)
   refine ⟨[iV (qw b (gJ b b.stack[i].id))], rfl, ⟨rfl, trivial⟩, fun ho => (hpv (hon ho)).2.2, ?_⟩
   refine ae (af (af (af (af (ab _ (aX _ _) (ab _ (aA _ _) ?_))))))
   have hsi : lI b b.stack[i] = !(decide (gJ b b.stack[i].id < 0) || (qw b (gJ b b.stack[i].id) != b.stack[i].card)) := by simp only [lI, hb, Bool.false_or]
   refine ak (fun hc => ah ⟨?_, rfl⟩) (fun hc => ?_)
   ·have : b.stack.all (lI b) = false := by rw [hor, hst, hsi, show (decide (gJ b b.stack[i].id < 0) || (qw b (gJ b b.stack[i].id) != b.stack[i].card)) = true from hc]; rfl
    rw [rE, this]; rfl
   ·refine ab _ (ax (by omega)) (aN (by simp [Eqs]) hlt ⟨rfl, Heap.le_trans hle l3, ?_, ?_⟩)
    ·have : oJ b.stack[i] = true := by simp only [oJ, hb, Bool.not_false]
     rw [jc hlt, this]; rfl
    ·rw [hor, hst, hsi, show (decide (gJ b b.stack[i].id < 0) || (qw b (gJ b b.stack[i].id) != b.stack[i].card)) = false from hc]; rfl
 ·have hge : b.stack.length ≤ i := by simpa using hb
  rw [List.take_of_length_le hge] at hci ⊢
  rw [List.drop_of_length_le hge] at hor
  have hfr : rE b = (mg b none b.objs && (((AO b + b.stack.countP oJ : Nat) : Int) == (b.objs.length : Int))) := by rw [rE, hor]; rfl
  replace h := h.le hle
  refine aR b.objs.length (fun i H'' O'' => O'' = O' ∧ Heap.le H' H'' ∧ mg b none b.objs = mg b (kM b.objs i) (b.objs.drop i)) ⟨rfl, Heap.le_refl _, by simp [kM]⟩ ?_
  rintro j H'' O'' hj - ⟨rfl, hle2, hor2⟩
  refine ae (ab _ lo (ab _ (aB _ _) (ak (fun hb => ?_) (fun hb => ?_))))
  ·have hlt : j < b.objs.length := by simpa using hb
   obtain ⟨a, h1, h2, _, h3, h4⟩ := (h.objs.le hle2).idx .i64 j (Ob.row b.objs[j]) (by simp [hlt])
   refine ae (ab _ h1 (ap h2 h3 h4 (ai fun r2 => ae (ae (aj (yM b.objs[j] H'' O'') rfl ⟨rfl, trivial⟩ fun H4 l4 => ?_)))))
   have l4' := Heap.le_trans hle2 l4
   have hp : ∃ (pv : Value) (x : Int), pv.oneCell' = true ∧ (0 < j → al (.idx 12) [v.o, iV ((j : Int) - 1)] = some pv ∧ yW pv = true ∧ Reads H4 O'' pv 1 [iV x]) ∧ iq (kM b.objs j) b.objs[j].id = (decide ((j : Int) > 0) && decide (x ≥ b.objs[j].id)) := by
    rcases Nat.eq_zero_or_pos j with rfl | hpos
    ·exact ⟨iV 0, 0, rfl, fun h => absurd h (Nat.lt_irrefl 0), by simp [kM, iq]⟩
    ·obtain ⟨j', rfl⟩ : ∃ j', j = j' + 1 := ⟨j - 1, by omega⟩
     have hj' : j' < b.objs.length := by omega
     obtain ⟨a, k1, k2, k3, _⟩ := (h.objs.le l4').idx .i64 j' (Ob.row b.objs[j']) (by simp [hj'])
     refine ⟨.pointer (some a), b.objs[j'].id, rfl, fun _ => ⟨?_, rfl, ?_⟩, ?_⟩
     ·have e : ((j' + 1 : Nat) : Int) - 1 = (j' : Int) := by omega
      rw [e]; exact k1
     ·have := k3 0 1 (by omega)
      have e : bd (.pointer (some a)) 0 = .pointer (some a) := by simp [bd, Addr.add]
      rwa [e] at this
     ·rw [sX hj']
      have : ((j' + 1 : Nat) : Int) > 0 := by omega
      simp only [iq, this, decide_true, Bool.true_and]
   obtain ⟨pv, x, hpone, hpv, hprev⟩ := hp
   have hsub1 : al (.bin .sub .int) [iV j, iV 1] = some (iV ((j : Int) - 1)) := by
    simp only [al, ff, dQ, if_true]
    rw [np (by omega) (by omega)]
   have hon : ∀ {u : Bool}, On [((.bool (decide ((j : Int) > 0)) : Value), true), (.bool u, false)] → 0 < j := fun h => by
    have := h.1
    simp at this
    omega
   refine ab _ (az _) (af (ab _ (cT _ _) ?_))
   repeat (first | refine ae ?_ | refine af ?_ | refine ab _ hsub1 ?_)
   refine ⟨pv, fun ho => (hpv (hon ho)).1, .inr hpone, ?_⟩
   refine ⟨fun ho => (hpv (hon ho)).2.1, ?_⟩
   refine af (af (af (af ?_)))
   refine ⟨[iV x], rfl, ⟨rfl, trivial⟩, fun ho => (hpv (hon ho)).2.2, ?_⟩
   refine ae (af (af (af (af (af (af (af (af (af (af (ab _ (eh _ _) (ab _ (bF _ _) (ab _ (aA _ _) ?_)))))))))))))
   have hstep : mg b (kM b.objs j) (b.objs.drop j) = ((!(!bc b.objs[j] || iq (kM b.objs j) b.objs[j].id) && (((qa b b.objs[j].owner b.objs[j].id : Nat) : Int) == 1)) && mg b (some b.objs[j].id) (b.objs.drop (j + 1))) := by
    rw [List.drop_eq_getElem_cons hlt, mg]
   refine ak (fun hc => ah ⟨?_, rfl⟩) (fun hc => ?_)
   ·rw [hfr, hor2, hstep, hprev, show (!bc b.objs[j] || (decide ((j : Int) > 0) && decide (x ≥ b.objs[j].id))) = true from hc]; rfl
   have hc' : (!bc b.objs[j] || (decide ((j : Int) > 0) && decide (x ≥ b.objs[j].id))) = false := hc
   have hval : bc b.objs[j] = true := by
    have := (Bool.or_eq_false_iff.1 hc').1
    simpa using this
   refine ae (ae (ae (aj (HY (h.le l4') hfit' (lH hval) b.objs[j].id) rfl ⟨rfl, trivial⟩ fun H5 l5 => ab _ (aX _ _) (ak (fun hd => ah ⟨?_, rfl⟩) (fun hd => ?_)))))
   ·have : (((qa b b.objs[j].owner b.objs[j].id : Nat) : Int) == 1) = false := by simpa using hd
    rw [hfr, hor2, hstep, this]; simp
   ·have : (((qa b b.objs[j].owner b.objs[j].id : Nat) : Int) == 1) = true := by simpa using hd
    refine ab _ (ax (by omega)) (aK (by simp [Eqs]) hlt ⟨rfl, Heap.le_trans l4' l5, ?_⟩)
    rw [hor2, hstep, hprev, hc', this, sX hlt]; rfl
  ·have hge : b.objs.length ≤ j := by simpa using hb
   rw [List.drop_of_length_le hge] at hor2
   refine ae (ab _ lo (ab _ (aF _ _) (ah ⟨?_, rfl⟩)))
   rw [hfr, hor2]; rfl
end Go.Proofs.YtieaihgbjikggaaGreat
namespace Go.Proofs.YtieaihgbjikggaaGreat
open Go Go.Sx
set_option maxRecDepth 100000
set_option maxHeartbeats 1000000
def y4 (own att : List Int) (x : Int) : Bool := ((((att.count x : Nat) : Int) == 1) && (((own.count x : Nat) : Int) == 1))
def iT (x y : Bl) : Bool := (y.attacker == x.attacker) || (y.blocker == x.blocker)
def oM (att other : List Int) (done : List Bl) (x : Bl) : Bool := (((att.count x.attacker : Nat) : Int) == 1) && ((((other.count x.blocker : Nat) : Int) == 1) && done.all fun y => !iT x y)
def BC (att other : List Int) : List Bl → List Bl → Bool
 | _, [] => true
 | done, x :: r => oM att other done x && BC att other (done ++ [x]) r
def rh (own other att : List Int) (bl : List Bl) : Bool := att.all (y4 own att) && BC att other [] bl
def fX (b : Bd) : Bool := if b.active = 0 then rh b.s0.field b.s1.field b.att b.blocks else rh b.s1.field b.s0.field b.att b.blocks
theorem ig {l : List Int} {x : Int} {c : Bool} (h : (((l.count x : Nat) : Int) != 1) = c) : (((l.count x : Nat) : Int) == 1) = !c := by rw [← h, bne, Bool.not_not]
theorem HZ {H : Heap} {O : Own} {v : d9} {b : Bd} (h : BdR H O v b) (ha : b.active = 0 ∨ b.active = 1) : RetO PP jz [.agg (ay v b).toArray] H O (.bool (fX b)) := by
 refine nz (vs := ay v b) (by kernel_rfl) (au h) ?_
 simp only [fL]
 have e34 : g (ay v b) 34 = iV b.active := rfl
 rw [e34]
 have hs : ∀ n : Int, n = 0 ∨ n = 1 → al (.bin .sub .int) [iV 1, iV n] = some (iV (1 - n)) := by
  rintro n (rfl | rfl) <;> rfl
 have la := h.att.len
 have laB := h.att.lenB
 have lb := h.blocks.len
 have lbB := h.blocks.lenB
 simp only [aO, List.length_map] at la laB lb lbB
 rcases ha with ha | ha
 ·rw [ha]
  have hF : fX b = (b.att.all (y4 b.s0.field b.att) && BC b.att b.s1.field [] b.blocks) := by simp [fX, rh, ha]
  refine ai fun r0 => aR b.att.length (fun i H' O' => O' = O ∧ Heap.le H H' ∧ b.att.all (y4 b.s0.field b.att) = (b.att.drop i).all (y4 b.s0.field b.att)) ⟨rfl, Heap.le_refl H, rfl⟩ ?_
  rintro i H' O' hi - ⟨rfl, hle, hor⟩
  refine ae (ab _ la (ab _ (aB _ _) (ak (fun hb => ?_) (fun hb => ?_))))
  ·have hlt : i < b.att.length := by simpa using hb
   have hst : (b.att.drop i).all (y4 b.s0.field b.att) = (y4 b.s0.field b.att b.att[i] && (b.att.drop (i + 1)).all (y4 b.s0.field b.att)) := by rw [List.drop_eq_getElem_cons hlt, List.all_cons]
   obtain ⟨a, h1, h2, _, h3, h4⟩ := (h.att.le hle).idx .i64 i [iV b.att[i]] (by simp [aO, hlt])
   refine ae (ae (ab _ h1 (ap h2 h3 h4 (aj (gj (h.att.le hle) b.att[i]) rfl ⟨rfl, trivial⟩ fun H1 l1 => ab _ (aX _ _) (ak (fun hc => ah ⟨?_, rfl⟩) (fun hc => ae ?_))))))
   ·rw [hF, hor, hst, y4, ig hc]; rfl
   refine ⟨.i64, 0, rfl, fun _ => ?_, fun e => absurd rfl e⟩
   have l1' := Heap.le_trans hle l1
   obtain ⟨a, h1, h2, _, h3, h4⟩ := (h.att.le l1').idx .i64 i [iV b.att[i]] (by simp [aO, hlt])
   refine ae (ae (ab _ h1 (ap h2 h3 h4 (aj (gj (h.s0.field.le l1') b.att[i]) rfl ⟨rfl, trivial⟩ fun H2 l2 => ab _ (aX _ _) (ak (fun hd => ah ⟨?_, rfl⟩) (fun hd => ?_))))))
   ·rw [hF, hor, hst, y4, ig hc, ig hd]; rfl
   ·refine ab _ (ax (by omega)) (aK (by simp [Eqs]) hlt ⟨rfl, Heap.le_trans l1' l2, ?_⟩)
    rw [hor, hst, y4, ig hc, ig hd]; rfl
  ·have hge : b.att.length ≤ i := by simpa using hb
   rw [List.drop_of_length_le hge] at hor
   have hF2 : fX b = BC b.att b.s1.field [] b.blocks := by rw [hF, hor]; rfl
   refine aR b.blocks.length (fun j H'' O'' => O'' = O' ∧ Heap.le H' H'' ∧ BC b.att b.s1.field [] b.blocks = BC b.att b.s1.field (b.blocks.take j) (b.blocks.drop j)) ⟨rfl, Heap.le_refl _, rfl⟩ ?_
   rintro j H'' O'' hj - ⟨rfl, hle2, hor2⟩
   have hle2 := Heap.le_trans hle hle2
   refine ae (ab _ lb (ab _ (aB _ _) (ak (fun hb => ?_) (fun hb => ?_))))
   ·have hlt : j < b.blocks.length := by simpa using hb
    obtain ⟨a, h1, h2, _, h3, h4⟩ := (h.blocks.le hle2).idx .i64 j (Bl.row b.blocks[j]) (by simp [hlt])
    have hst : BC b.att b.s1.field (b.blocks.take j) (b.blocks.drop j) = (oM b.att b.s1.field (b.blocks.take j) b.blocks[j] && BC b.att b.s1.field (b.blocks.take (j + 1)) (b.blocks.drop (j + 1))) := by
     rw [List.drop_eq_getElem_cons hlt, BC, List.take_add_one, List.getElem?_eq_getElem hlt]; rfl
    refine ae (ab _ h1 (ap h2 h3 h4 (ai fun r1 => ae (ae (ae (aj (gj (h.att.le hle2) b.blocks[j].attacker) rfl ⟨rfl, trivial⟩ fun H1 l1 => ab _ (aX _ _) (ak (fun hc => ah ⟨?_, rfl⟩) (fun hc => ae (ab _ (hs _ (.inl rfl)) ?_)))))))))
    ·rw [hF2, hor2, hst, oM, ig hc]; rfl
    refine ⟨.i64, 1, rfl, fun e => absurd e (by omega), fun _ => ⟨.i64, 1, rfl, fun _ => ?_, fun e => absurd rfl e⟩⟩
    have l1' := Heap.le_trans hle2 l1
    refine ae (ae (aj (gj (h.s1.field.le l1') b.blocks[j].blocker) rfl ⟨rfl, trivial⟩ fun H2 l2 => ab _ (aX _ _) (ak (fun hd => ah ⟨?_, rfl⟩) (fun hd => ?_))))
    ·rw [hF2, hor2, hst, oM, ig hc, ig hd]; rfl
    have l2' := Heap.le_trans l1' l2
    have hone : oM b.att b.s1.field (b.blocks.take j) b.blocks[j] = (b.blocks.take j).all fun y => !iT b.blocks[j] y := by rw [oM, ig hc, ig hd]; rfl
    refine aR j (fun k H3 O3 => O3 = O'' ∧ Heap.le H2 H3 ∧ ((b.blocks.take j).all fun y => !iT b.blocks[j] y) = (((b.blocks.take j).drop k).all fun y => !iT b.blocks[j] y)) ⟨rfl, Heap.le_refl _, rfl⟩ ?_
    rintro k H3 O3 hk - ⟨rfl, hle3, hor3⟩
    have hle3 := Heap.le_trans l2' hle3
    refine ab _ (aB _ _) (ak (fun hb => ?_) (fun hb => ?_))
    ·have hltk : k < j := by simpa using hb
     have hltb : k < b.blocks.length := by omega
     have hst3 : (((b.blocks.take j).drop k).all fun y => !iT b.blocks[j] y) = (!iT b.blocks[j] b.blocks[k] && (((b.blocks.take j).drop (k + 1)).all fun y => !iT b.blocks[j] y)) := by
      rw [List.drop_eq_getElem_cons (by simp; omega), List.all_cons, List.getElem_take]
     obtain ⟨a, k1, _, k3, _⟩ := (h.blocks.le hle3).idx .i64 k (Bl.row b.blocks[k]) (by simp [hltb])
     have hr1 : Reads H3 O3 (bd (.pointer (some a)) 1) 1 [iV b.blocks[k].attacker] := k3 1 1 (by omega)
     have hr0 : Reads H3 O3 (.pointer (some a)) 1 [iV b.blocks[k].blocker] := by
      have := k3 0 1 (by omega)
      have e : bd (.pointer (some a)) 0 = .pointer (some a) := by simp [bd, Addr.add]
      rwa [e] at this
     refine ae (ab _ k1 (aL rfl (ap hr1 rfl ⟨rfl, trivial⟩ (ae (ab _ (aF _ _) ?_)))))
     refine ae (af (af (af ?_)))
     refine B3 k1 rfl (aL rfl ?_)
     refine af (af ?_)
     refine ⟨[iV b.blocks[k].blocker], rfl, ⟨rfl, trivial⟩, fun _ => hr0, ?_⟩
     refine ae (af (af (af (af (ab _ (aF _ _) (ab _ (aA _ _) ?_))))))
     refine ak (fun hx => ah ⟨?_, rfl⟩) (fun hx => ?_)
     ·rw [hF2, hor2, hst, hone, hor3, hst3, show iT b.blocks[j] b.blocks[k] = true from hx]; rfl
     ·refine ab _ (ax (by omega)) (aK (by simp [Eqs]) hltk ⟨rfl, Heap.le_trans (Heap.le_refl _) ?_, ?_⟩)
      ·assumption
      ·rw [hor3, hst3, show iT b.blocks[j] b.blocks[k] = false from hx]; rfl
    ·have hke : (b.blocks.take j).length ≤ k := by
      have : j ≤ k := by simpa using hb
      simp; omega
     rw [List.drop_of_length_le hke] at hor3
     refine ab _ (ax (by omega)) (aK (by simp [Eqs]) hlt ⟨rfl, ?_, ?_⟩)
     ·exact Heap.le_trans (by assumption) (Heap.le_trans l1 (Heap.le_trans l2 (by assumption)))
     ·rw [hor2, hst, hone, hor3]; rfl
   ·have hge2 : b.blocks.length ≤ j := by simpa using hb
    refine ah ⟨?_, rfl⟩
    rw [hF2, hor2, List.drop_of_length_le hge2]; rfl
 ·rw [ha]
  have hF : fX b = (b.att.all (y4 b.s1.field b.att) && BC b.att b.s0.field [] b.blocks) := by simp [fX, rh, ha]
  refine ai fun r0 => aR b.att.length (fun i H' O' => O' = O ∧ Heap.le H H' ∧ b.att.all (y4 b.s1.field b.att) = (b.att.drop i).all (y4 b.s1.field b.att)) ⟨rfl, Heap.le_refl H, rfl⟩ ?_
  rintro i H' O' hi - ⟨rfl, hle, hor⟩
  refine ae (ab _ la (ab _ (aB _ _) (ak (fun hb => ?_) (fun hb => ?_))))
  ·have hlt : i < b.att.length := by simpa using hb
   have hst : (b.att.drop i).all (y4 b.s1.field b.att) = (y4 b.s1.field b.att b.att[i] && (b.att.drop (i + 1)).all (y4 b.s1.field b.att)) := by rw [List.drop_eq_getElem_cons hlt, List.all_cons]
   obtain ⟨a, h1, h2, _, h3, h4⟩ := (h.att.le hle).idx .i64 i [iV b.att[i]] (by simp [aO, hlt])
   refine ae (ae (ab _ h1 (ap h2 h3 h4 (aj (gj (h.att.le hle) b.att[i]) rfl ⟨rfl, trivial⟩ fun H1 l1 => ab _ (aX _ _) (ak (fun hc => ah ⟨?_, rfl⟩) (fun hc => ae ?_))))))
   ·rw [hF, hor, hst, y4, ig hc]; rfl
   refine ⟨.i64, 1, rfl, fun e => absurd e (by omega), fun _ => ⟨.i64, 1, rfl, fun _ => ?_, fun e => absurd rfl e⟩⟩
   have l1' := Heap.le_trans hle l1
   obtain ⟨a, h1, h2, _, h3, h4⟩ := (h.att.le l1').idx .i64 i [iV b.att[i]] (by simp [aO, hlt])
   refine ae (ae (ab _ h1 (ap h2 h3 h4 (aj (gj (h.s1.field.le l1') b.att[i]) rfl ⟨rfl, trivial⟩ fun H2 l2 => ab _ (aX _ _) (ak (fun hd => ah ⟨?_, rfl⟩) (fun hd => ?_))))))
   ·rw [hF, hor, hst, y4, ig hc, ig hd]; rfl
   ·refine ab _ (ax (by omega)) (aK (by simp [Eqs]) hlt ⟨rfl, Heap.le_trans l1' l2, ?_⟩)
    rw [hor, hst, y4, ig hc, ig hd]; rfl
  ·have hge : b.att.length ≤ i := by simpa using hb
   rw [List.drop_of_length_le hge] at hor
   have hF2 : fX b = BC b.att b.s0.field [] b.blocks := by rw [hF, hor]; rfl
   refine aR b.blocks.length (fun j H'' O'' => O'' = O' ∧ Heap.le H' H'' ∧ BC b.att b.s0.field [] b.blocks = BC b.att b.s0.field (b.blocks.take j) (b.blocks.drop j)) ⟨rfl, Heap.le_refl _, rfl⟩ ?_
   rintro j H'' O'' hj - ⟨rfl, hle2, hor2⟩
   have hle2 := Heap.le_trans hle hle2
   refine ae (ab _ lb (ab _ (aB _ _) (ak (fun hb => ?_) (fun hb => ?_))))
   ·have hlt : j < b.blocks.length := by simpa using hb
    obtain ⟨a, h1, h2, _, h3, h4⟩ := (h.blocks.le hle2).idx .i64 j (Bl.row b.blocks[j]) (by simp [hlt])
    have hst : BC b.att b.s0.field (b.blocks.take j) (b.blocks.drop j) = (oM b.att b.s0.field (b.blocks.take j) b.blocks[j] && BC b.att b.s0.field (b.blocks.take (j + 1)) (b.blocks.drop (j + 1))) := by
     rw [List.drop_eq_getElem_cons hlt, BC, List.take_add_one, List.getElem?_eq_getElem hlt]; rfl
    refine ae (ab _ h1 (ap h2 h3 h4 (ai fun r1 => ae (ae (ae (aj (gj (h.att.le hle2) b.blocks[j].attacker) rfl ⟨rfl, trivial⟩ fun H1 l1 => ab _ (aX _ _) (ak (fun hc => ah ⟨?_, rfl⟩) (fun hc => ae (ab _ (hs _ (.inr rfl)) ?_)))))))))
    ·rw [hF2, hor2, hst, oM, ig hc]; rfl
    refine ⟨.i64, 0, rfl, fun _ => ?_, fun e => absurd rfl e⟩
    have l1' := Heap.le_trans hle2 l1
    refine ae (ae (aj (gj (h.s0.field.le l1') b.blocks[j].blocker) rfl ⟨rfl, trivial⟩ fun H2 l2 => ab _ (aX _ _) (ak (fun hd => ah ⟨?_, rfl⟩) (fun hd => ?_))))
    ·rw [hF2, hor2, hst, oM, ig hc, ig hd]; rfl
    have l2' := Heap.le_trans l1' l2
    have hone : oM b.att b.s0.field (b.blocks.take j) b.blocks[j] = (b.blocks.take j).all fun y => !iT b.blocks[j] y := by rw [oM, ig hc, ig hd]; rfl
    refine aR j (fun k H3 O3 => O3 = O'' ∧ Heap.le H2 H3 ∧ ((b.blocks.take j).all fun y => !iT b.blocks[j] y) = (((b.blocks.take j).drop k).all fun y => !iT b.blocks[j] y)) ⟨rfl, Heap.le_refl _, rfl⟩ ?_
    rintro k H3 O3 hk - ⟨rfl, hle3, hor3⟩
    have hle3 := Heap.le_trans l2' hle3
    refine ab _ (aB _ _) (ak (fun hb => ?_) (fun hb => ?_))
    ·have hltk : k < j := by simpa using hb
     have hltb : k < b.blocks.length := by omega
     have hst3 : (((b.blocks.take j).drop k).all fun y => !iT b.blocks[j] y) = (!iT b.blocks[j] b.blocks[k] && (((b.blocks.take j).drop (k + 1)).all fun y => !iT b.blocks[j] y)) := by
      rw [List.drop_eq_getElem_cons (by simp; omega), List.all_cons, List.getElem_take]
     obtain ⟨a, k1, _, k3, _⟩ := (h.blocks.le hle3).idx .i64 k (Bl.row b.blocks[k]) (by simp [hltb])
     have hr1 : Reads H3 O3 (bd (.pointer (some a)) 1) 1 [iV b.blocks[k].attacker] := k3 1 1 (by omega)
     have hr0 : Reads H3 O3 (.pointer (some a)) 1 [iV b.blocks[k].blocker] := by
      have := k3 0 1 (by omega)
      have e : bd (.pointer (some a)) 0 = .pointer (some a) := by simp [bd, Addr.add]
      rwa [e] at this
     refine ae (ab _ k1 (aL rfl (ap hr1 rfl ⟨rfl, trivial⟩ (ae (ab _ (aF _ _) ?_)))))
     refine ae (af (af (af ?_)))
     refine B3 k1 rfl (aL rfl ?_)
     refine af (af ?_)
     refine ⟨[iV b.blocks[k].blocker], rfl, ⟨rfl, trivial⟩, fun _ => hr0, ?_⟩
     refine ae (af (af (af (af (ab _ (aF _ _) (ab _ (aA _ _) ?_))))))
     refine ak (fun hx => ah ⟨?_, rfl⟩) (fun hx => ?_)
     ·rw [hF2, hor2, hst, hone, hor3, hst3, show iT b.blocks[j] b.blocks[k] = true from hx]; rfl
     ·refine ab _ (ax (by omega)) (aK (by simp [Eqs]) hltk ⟨rfl, Heap.le_trans (Heap.le_refl _) ?_, ?_⟩)
      ·assumption
      ·rw [hor3, hst3, show iT b.blocks[j] b.blocks[k] = false from hx]; rfl
    ·have hke : (b.blocks.take j).length ≤ k := by
      have : j ≤ k := by simpa using hb
      simp; omega
     rw [List.drop_of_length_le hke] at hor3
     refine ab _ (ax (by omega)) (aK (by simp [Eqs]) hlt ⟨rfl, ?_, ?_⟩)
     ·exact Heap.le_trans (by assumption) (Heap.le_trans l1 (Heap.le_trans l2 (by assumption)))
     ·rw [hor2, hst, hone, hor3]; rfl
   ·have hge2 : b.blocks.length ≤ j := by simpa using hb
    refine ah ⟨?_, rfl⟩
    rw [hF2, hor2, List.drop_of_length_le hge2]; rfl
end Go.Proofs.YtieaihgbjikggaaGreat
namespace Go.Proofs.YtieaihgbjikggaaGreat
open Go Go.Sx
set_option maxRecDepth 100000
set_option maxHeartbeats 1000000
def yQ (b : Bd) : Bool := decide ((0 ≤ b.active ∧ b.active ≤ 1) ∧ (0 ≤ b.turn ∧ b.turn ≤ 1000) ∧ (0 ≤ b.phase ∧ b.phase ≤ 10) ∧ (-1 ≤ b.holder ∧ b.holder ≤ 1) ∧ (0 ≤ b.passes ∧ b.passes ≤ 2) ∧ b.objs.length ≤ 500 ∧ b.stack.length ≤ 200 ∧ b.queue.length ≤ 200)
def lZ (b : Bd) : Bool := yQ b && (b.stack.all (fun x => cu x false) && (b.queue.all (fun x => cu x true) && (bz b.s0 && (bz b.s1 && (rE b && fX b)))))
theorem jF {H : Heap} {O : Own} {v : d9} {b : Bd} (h : BdR H O v b) (hfit : FC b) : RetO PP jV [.agg (ay v b).toArray] H O (.bool (lZ b)) := by
 refine oU (vs := ay v b) (by kernel_rfl) (au h) ?_
 simp only [gy]
 have lo := h.objs.len
 rw [List.length_map] at lo
 have ls := ItsR.len h.stack
 have lq := ItsR.len h.queue
 refine ai fun r0 => ?_
 repeat (first | refine ae ?_ | refine af ?_ | refine ai fun _ => ?_ | refine ab _ (aB _ _) ?_ | refine ab _ (cT _ _) ?_ | refine ab _ (eh _ _) ?_ | refine ab _ (dT _ _) ?_ | refine ab _ (aF _ _) ?_ | refine ab _ (aX _ _) ?_ | refine ab _ (bF _ _) ?_ | refine ab _ (aA _ _) ?_ | refine ab _ (az _) ?_ | refine ab _ (sy _ _) ?_ | refine ab _ (nR _ _) ?_)
 refine ab _ lo ?_
 refine ae (af (af (af (af (ab _ (aB _ _) (ab _ (aA _ _) ?_))))))
 refine ab _ ls ?_
 refine ae (af (af (af (af (ab _ (aB _ _) (ab _ (aA _ _) ?_))))))
 refine ab _ lq ?_
 refine af (af (ab _ (aB _ _) (ab _ (aA _ _) ?_)))
 refine ak (fun hn => ah ⟨?_, rfl⟩) (fun hn => ?_)
 ·have : yQ b = false := by
   simp only [Bool.or_eq_true, decide_eq_true_eq] at hn
   simp only [yQ, decide_eq_false_iff_not]
   omega
  rw [lZ, this]; rfl
 have hnum : yQ b = true := by
  simp only [Bool.or_eq_false_iff, decide_eq_false_iff_not] at hn
  simp only [yQ, decide_eq_true_eq]
  omega
 have stk := h.stack
 obtain ⟨rows, hrs, hrl, hit⟩ := stk
 have hsB := hrs.lenB
 refine aR b.stack.length (fun i H' O' => O' = O ∧ Heap.le H H' ∧ b.stack.all (fun x => cu x false) = (b.stack.drop i).all (fun x => cu x false)) ⟨rfl, Heap.le_refl H, rfl⟩ ?_
 rintro i H' O' hi - ⟨rfl, hle, hor⟩
 refine ae (ab _ ls (ab _ (aB _ _) (ak (fun hb => ?_) (fun hb => ?_))))
 ·have hlt : i < b.stack.length := by simpa using hb
  obtain ⟨a, h1, h2, _, h3, h4⟩ := (hrs.le hle).idx .i64 i rows[i] (by simp [hrl, hlt])
  have hI := (hit i rows[i] b.stack[i] (by simp [hrl, hlt]) (by simp [hlt])).le hle
  obtain ⟨s, hrow, hs⟩ := hI
  rw [hrow] at h2 h3 h4
  have hst : (b.stack.drop i).all (fun x => cu x false) = (cu b.stack[i] false && (b.stack.drop (i + 1)).all (fun x => cu x false)) := by rw [List.drop_eq_getElem_cons hlt, List.all_cons]
  refine ae (ab _ h1 (ap h2 h3 h4 (aj (IT ⟨s, rfl, hs⟩ false) rfl ⟨rfl, trivial⟩ fun H1 l1 => ab _ (az _) (ak (fun hc => ah ⟨?_, rfl⟩) (fun hc => ?_)))))
  ·rw [lZ, hor, hst, yD hc]; simp
  ·refine ab _ (ax (by omega)) (aK (by simp [Eqs]) hlt ⟨rfl, Heap.le_trans hle l1, ?_⟩)
   rw [hor, hst, rY hc]; rfl
 ·have hge : b.stack.length ≤ i := by simpa using hb
  rw [List.drop_of_length_le hge] at hor
  have hall : b.stack.all (fun x => cu x false) = true := by rw [hor]; rfl
  have que := h.queue
  obtain ⟨rows2, hrs2, hrl2, hit2⟩ := que
  have hqB := hrs2.lenB
  refine aR b.queue.length (fun j H'' O'' => O'' = O' ∧ Heap.le H' H'' ∧ b.queue.all (fun x => cu x true) = (b.queue.drop j).all (fun x => cu x true)) ⟨rfl, Heap.le_refl _, rfl⟩ ?_
  rintro j H'' O'' hj - ⟨rfl, hle2, hor2⟩
  have hle2 := Heap.le_trans hle hle2
  refine ae (ab _ lq (ab _ (aB _ _) (ak (fun hb => ?_) (fun hb => ?_))))
  ·have hlt : j < b.queue.length := by simpa using hb
   obtain ⟨a, h1, h2, _, h3, h4⟩ := (hrs2.le hle2).idx .i64 j rows2[j] (by simp [hrl2, hlt])
   have hI := (hit2 j rows2[j] b.queue[j] (by simp [hrl2, hlt]) (by simp [hlt])).le hle2
   obtain ⟨s, hrow, hs⟩ := hI
   rw [hrow] at h2 h3 h4
   have hst : (b.queue.drop j).all (fun x => cu x true) = (cu b.queue[j] true && (b.queue.drop (j + 1)).all (fun x => cu x true)) := by rw [List.drop_eq_getElem_cons hlt, List.all_cons]
   refine ae (ab _ h1 (ap h2 h3 h4 (aj (IT ⟨s, rfl, hs⟩ true) rfl ⟨rfl, trivial⟩ fun H1 l1 => ab _ (az _) (ak (fun hc => ah ⟨?_, rfl⟩) (fun hc => ?_)))))
   ·rw [lZ, hor2, hst, yD hc]; simp
   ·refine ab _ (ax (by omega)) (aK (by simp [Eqs]) hlt ⟨rfl, ?_, ?_⟩)
    ·exact Heap.le_trans (by assumption) l1
    ·rw [hor2, hst, rY hc]; rfl
  ·have hge2 : b.queue.length ≤ j := by simpa using hb
   rw [List.drop_of_length_le hge2] at hor2
   have hall2 : b.queue.all (fun x => cu x true) = true := by rw [hor2]; rfl
   have hF : lZ b = (bz b.s0 && (bz b.s1 && (rE b && fX b))) := by rw [lZ, hnum, hall, hall2]; rfl
   replace h := h.le hle2
   obtain ⟨z1, z2, z3, z4⟩ := fu h.s0
   obtain ⟨z5, z6, z7, z8⟩ := fu h.s1
   refine ae (aj (IR b.s0 z1 z2 z3 z4 H'' O'') rfl ⟨rfl, trivial⟩ fun H1 l1 => ak (fun k1 => ?_) (fun k1 => ah ⟨?_, rfl⟩))
   rotate_left
   ·rw [hF, k1]; rfl
   replace h := h.le l1
   refine ae (aj (IR b.s1 z5 z6 z7 z8 H1 O'') rfl ⟨rfl, trivial⟩ fun H2 l2 => ak (fun k2 => ?_) (fun k2 => ah ⟨?_, rfl⟩))
   rotate_left
   ·rw [hF, k1, k2]; rfl
   replace h := h.le l2
   refine ae (aj (Jx h hfit) rfl ⟨rfl, trivial⟩ fun H3 l3 => ak (fun k3 => ?_) (fun k3 => ah ⟨?_, rfl⟩))
   rotate_left
   ·rw [hF, k1, k2, k3]; rfl
   replace h := h.le l3
   have ha : b.active = 0 ∨ b.active = 1 := by
    simp only [yQ, decide_eq_true_eq] at hnum
    omega
   refine ae (aj (HZ h ha) rfl ⟨rfl, trivial⟩ fun H4 l4 => ah ⟨?_, rfl⟩)
   rw [hF, k1, k2, k3]; rfl
end Go.Proofs.YtieaihgbjikggaaGreat
namespace Go.Proofs.YtieaihgbjikggaaGreat
open Go Go.Sx
set_option maxRecDepth 100000
set_option maxHeartbeats 1000000
theorem zt {α : Type} [DecidableEq α] : ∀ {l r : List α}, l.Nodup → (∀ x ∈ l, x ∈ r) → r.length ≤ l.length → r.Perm l
 | [], r, _, _, h => by
  have : r = [] := List.eq_nil_of_length_eq_zero (by simpa using h)
  subst this; exact List.Perm.refl _
 | a :: l, r, hn, hs, h => by
  rw [List.nodup_cons] at hn
  have har : a ∈ r := hs a (by simp)
  have h1 := zt (l := l) (r := r.erase a) hn.2 (fun x hx => (List.mem_erase_of_ne (fun e => hn.1 (by subst e; exact hx))).2 (hs x (by simp [hx]))) (by
   rw [List.length_erase_of_mem har]; simp only [List.length_cons] at h; omega)
  exact (List.perm_cons_erase har).trans (h1.cons a)
theorem qd {α β : Type} (f : α → β) : ∀ {l : List α}, (l.map f).Nodup → l.Nodup
 | [], _ => List.nodup_nil
 | a :: l, h => by
  rw [List.map_cons, List.nodup_cons] at h
  exact List.nodup_cons.2 ⟨fun hm => h.1 (List.mem_map.2 ⟨a, hm, rfl⟩), qd f h.2⟩
def AD : Option Int → List Ob → Bool
 | _, [] => true
 | prev, o :: r => !iq prev o.id && AD (some o.id) r
def ok1 (ps cs : List (Int × Int)) (o : Ob) : Bool := bc o && ((co ps o.id).isSome && (((co ps o.id).getD 0 == o.owner) && !((co cs o.id).isSome && ((co cs o.id).getD 0 != o.card))))
def ok2 (b : Bd) (o : Ob) : Bool := bc o && (((qa b o.owner o.id : Nat) : Int) == 1)
theorem kS {ps cs : List (Int × Int)} : ∀ (l : List Ob) (prev : Option Int), nb bc ps cs prev l = (AD prev l && l.all (ok1 ps cs))
 | [], _ => rfl
 | o :: r, prev => by
  simp only [nb, zr, AD, List.all_cons, ok1, kS r (some o.id), bne]
  cases bc o <;> cases iq prev o.id <;> cases co ps o.id <;> cases co cs o.id <;> simp [Bool.and_assoc, Bool.and_comm, Bool.and_left_comm]
theorem zq {b : Bd} : ∀ (l : List Ob) (prev : Option Int), mg b prev l = (AD prev l && l.all (ok2 b))
 | [], _ => rfl
 | o :: r, prev => by
  simp only [mg, AD, List.all_cons, ok2, zq r (some o.id)]
  cases bc o <;> cases iq prev o.id <;> simp [Bool.and_assoc, Bool.and_comm, Bool.and_left_comm]
theorem iu : ∀ {l : List Ob} {prev : Option Int}, AD prev l = true → (∀ o ∈ l, ∀ p, prev = some p → p < o.id) ∧ (l.map (·.id)).Nodup
 | [], _, _ => ⟨by simp, by simp⟩
 | o :: r, prev, h => by
  simp only [AD, Bool.and_eq_true, Bool.not_eq_true'] at h
  obtain ⟨k1, k2⟩ := iu h.2
  have hp : ∀ p, prev = some p → p < o.id := by
   rintro p rfl
   have := h.1
   simp only [iq, decide_eq_false_iff_not] at this
   omega
  refine ⟨fun x hx p e => ?_, ?_⟩
  ·rcases List.mem_cons.1 hx with rfl | hx
   ·exact hp p e
   ·have := k1 x hx _ rfl; have := hp p e; omega
  ·rw [List.map_cons, List.nodup_cons]
   refine ⟨fun hm => ?_, k2⟩
   obtain ⟨x, hx, e⟩ := List.mem_map.1 hm
   have := k1 x hx _ rfl
   omega
theorem JQ {l : List Ob} (h : (l.map (·.id)).Nodup) : ∀ {x y : Ob}, x ∈ l → y ∈ l → x.id = y.id → x = y := by
 induction l with
 | nil => intro x y hx; cases hx
 | cons a l ih =>
  intro x y hx hy e
  rw [List.map_cons, List.nodup_cons] at h
  rcases List.mem_cons.1 hx with k1 | k1 <;> rcases List.mem_cons.1 hy with k2 | k2
  ·rw [k1, k2]
  ·exact absurd (List.mem_map.2 ⟨y, k2, by rw [← e, k1]⟩) h.1
  ·exact absurd (List.mem_map.2 ⟨x, k1, by rw [e, k2]⟩) h.1
  ·exact ih h.2 k1 k2 e
theorem Fp (l : List Int) (p q id : Int) : (l.map fun i => (i, p)).count (id, q) = if p = q then l.count id else 0 := by
 induction l with
 | nil => simp
 | cons a l ih =>
  simp only [List.map_cons, List.count_cons, ih, beq_iff_eq, Prod.mk.injEq]
  by_cases hp : p = q
  ·simp [hp]
  ·simp [hp]
theorem DF {l : List It} (ht : ∀ x ∈ l, x.trig < 0 → x.trig = -1) (p id : Int) : (cK l).count (id, p) = l.countP (ix p id) := by
 induction l with
 | nil => rfl
 | cons x l ih =>
  have ih := ih fun y hy => ht y (by simp [hy])
  have hx := ht x (by simp)
  rw [show x :: l = [x] ++ l from rfl, lN, List.count_append, List.countP_append, ih]
  congr 1
  by_cases h : x.trig < 0
  ·rw [Cc h, List.count_singleton, List.countP_singleton]
   have h1 := hx h
   have e : ((x.id, x.player) == (id, p)) = ix p id x := by
    simp only [ix, h1, beq_self_eq_true, Bool.true_and]
    rw [Bool.eq_iff_iff]
    simp [Prod.ext_iff]
   rw [e]
  ·rw [zo h, List.countP_singleton]
   have : ix p id x = false := by
    have : x.trig ≠ -1 := by omega
    simp [ix, this]
   rw [this]; rfl
theorem GG (l : List It) : (cK l).length = l.countP oJ := by
 rw [cK, List.length_map, bA, List.countP_eq_length_filter]
 congr 2
 funext x
 simp only [oJ]
 by_cases h : x.trig < 0
 ·have : ¬ x.trig ≥ 0 := by omega
  simp [h, this]
 ·have : x.trig ≥ 0 := by omega
  simp [h, this]
theorem GF (b : Bd) : (aH b).length = AO b + b.stack.countP oJ := by
 simp only [aH, bG, List.length_append, List.length_map, GG, AO]
 omega
theorem xZ {b : Bd} (ht : ∀ x ∈ b.stack, x.trig < 0 → x.trig = -1) {p : Int} (hp : p = 0 ∨ p = 1) (id : Int) : (aH b).count (id, p) = qa b p id := by
 simp only [aH, bG, List.count_append, Fp, DF ht, qa, pm]
 rcases hp with rfl | rfl
 ·simp; omega
 ·simp; omega
theorem Cy {b : Bd} (ht : ∀ x ∈ b.stack, x.trig < 0 → x.trig = -1) : rE b = bo bc b := by
 simp only [rE, bo, kS, zq]
 have hl : ((((AO b + b.stack.countP oJ : Nat) : Int) == (b.objs.length : Int)) = decide ((aH b).length = b.objs.length)) := by
  rw [GF, Bool.eq_iff_iff]
  simp only [beq_iff_eq, decide_eq_true_eq]
  omega
 rw [hl, Bool.eq_iff_iff]
 simp only [Bool.and_eq_true, List.all_eq_true, decide_eq_true_eq]
 constructor
 ·rintro ⟨hst, ⟨hord, hok⟩, hlen⟩
  obtain ⟨_, hnd⟩ := iu hord
  have hL : (b.objs.map fun o => (o.id, o.owner)).Nodup := by
   have e : (b.objs.map fun o => (o.id, o.owner)).map (·.1) = b.objs.map (·.id) := by rw [List.map_map]; rfl
   exact qd (·.1) (by rw [e]; exact hnd)
  have hsub : ∀ x ∈ (b.objs.map fun o => (o.id, o.owner)), x ∈ aH b := by
   intro x hx
   obtain ⟨o, ho, rfl⟩ := List.mem_map.1 hx
   have h2 := hok o ho
   simp only [ok2, Bool.and_eq_true, beq_iff_eq] at h2
   have hc := xZ ht (lH h2.1) o.id
   refine List.count_pos_iff.1 ?_
   rw [hc]; omega
  have hperm := zt hL hsub (by simp [hlen])
  have hfst : ((aH b).map (·.1)).Perm (b.objs.map (·.id)) := by
   have := hperm.map (·.1)
   rwa [List.map_map] at this
  have hnp : ((aH b).map (·.1)).Nodup := hfst.nodup_iff.2 hnd
  refine ⟨hnp, ⟨hord, fun o ho => ?_⟩, hlen⟩
  have h2 := hok o ho
  simp only [ok2, Bool.and_eq_true, beq_iff_eq] at h2
  have hlk : co (aH b) o.id = some o.owner := (ia hnp).2 (hsub _ (List.mem_map.2 ⟨o, ho, rfl⟩))
  simp only [ok1, h2.1, hlk, Option.isSome_some, Option.getD_some, beq_self_eq_true, Bool.true_and, Bool.not_eq_true']
  cases hc : co (aU b.stack) o.id with
  | none => rfl
  | some c =>
   simp only [Option.isSome_some, Option.getD_some, Bool.true_and, bne_eq_false_iff_eq]
   have hmem : (o.id, c) ∈ aU b.stack := by
    simp only [co, Option.map_eq_some_iff] at hc
    obtain ⟨⟨k, c'⟩, hf, rfl⟩ := hc
    have h3 := List.find?_some hf
    have h4 := List.mem_of_find?_eq_some hf
    simp only [beq_iff_eq] at h3
    rw [h3]; exact h4
   simp only [aU, bA, List.mem_map, List.mem_filter, decide_eq_true_eq, Prod.mk.injEq] at hmem
   obtain ⟨x, ⟨hx, hxt⟩, e1, e2⟩ := hmem
   have hsx := hst x hx
   have hn : decide (x.trig ≥ 0) = false := by simp; omega
   simp only [lI, hn, Bool.false_or, Bool.not_eq_true', Bool.or_eq_false_iff, decide_eq_false_iff_not, bne_eq_false_iff_eq] at hsx
   rcases kT (fun o => o.id == x.id) b.objs 0 (by omega) with ⟨e, _⟩ | ⟨k, o', k1, k2, k3⟩
   ·exfalso; apply hsx.1; show gJ b x.id < 0; unfold gJ; omega
   ·have k3 : gJ b x.id = (k : Int) := by unfold gJ; omega
    have hca : qw b (gJ b x.id) = o'.card := by rw [k3]; simp [qw, k1]
    simp only [beq_iff_eq] at k2
    have : o' = o := JQ hnd (List.mem_of_getElem? k1) ho (by rw [k2, e1])
    rw [← e2, ← hsx.2, hca, this]
 ·rintro ⟨hnp, ⟨hord, hok⟩, hlen⟩
  obtain ⟨_, hnd⟩ := iu hord
  have hids := zu (l := b.objs.map (·.id)) (r := (aH b).map (·.1)) hnd (fun y hy => by
   obtain ⟨o, ho, rfl⟩ := List.mem_map.1 hy
   have h2 := hok o ho
   simp only [ok1, Bool.and_eq_true] at h2
   rcases Classical.em (o.id ∈ (aH b).map (·.1)) with h | h
   ·exact h
   ·have h3 := h2.2.1; rw [eW.2 h] at h3; cases h3) (by simp [hlen])
  refine ⟨fun x hx => ?_, ⟨hord, fun o ho => ?_⟩, hlen⟩
  ·by_cases hxt : x.trig < 0
   ·have hn : decide (x.trig ≥ 0) = false := by simp; omega
    have hxp : x.id ∈ (aH b).map (·.1) := by
     simp only [aH, List.map_append, List.mem_append]
     right; right
     simp only [cK, bA, List.mem_map, List.mem_filter, decide_eq_true_eq]
     exact ⟨_, ⟨x, ⟨hx, hxt⟩, rfl⟩, rfl⟩
    obtain ⟨o, ho, hoid⟩ := List.mem_map.1 (hids _ hxp)
    simp only [lI, hn, Bool.false_or, Bool.not_eq_true', Bool.or_eq_false_iff, decide_eq_false_iff_not, bne_eq_false_iff_eq]
    rcases kT (fun o => o.id == x.id) b.objs 0 (by omega) with ⟨_, e⟩ | ⟨k, o', k1, k2, k3⟩
    ·have := e o ho; simp [hoid] at this
    ·have k3 : gJ b x.id = (k : Int) := by unfold gJ; omega
     refine ⟨by omega, ?_⟩
     rw [k3]
     simp only [beq_iff_eq] at k2
     have h2 := hok o' (List.mem_of_getElem? k1)
     simp only [ok1, Bool.and_eq_true, Bool.not_eq_true'] at h2
     have hcn : ((aU b.stack).map (·.1)).Nodup := by
      have e : (aU b.stack).map (·.1) = (cK b.stack).map (·.1) := by simp only [aU, cK, List.map_map]; rfl
      rw [e]
      simp only [aH, List.map_append] at hnp
      exact (List.nodup_append.1 (List.nodup_append.1 hnp).2.1).2.1
     have hlk : co (aU b.stack) x.id = some x.card := (ia hcn).2 (by
      simp only [aU, bA, List.mem_map, List.mem_filter, decide_eq_true_eq]
      exact ⟨x, ⟨hx, hxt⟩, rfl⟩)
     have h3 := h2.2.2.2
     rw [k2, hlk] at h3
     simp only [Option.isSome_some, Option.getD_some, Bool.true_and, bne_eq_false_iff_eq] at h3
     simp only [qw, Int.toNat_natCast, k1, Option.map_some, Option.getD_some]
     exact h3.symm
   ·have hn : decide (x.trig ≥ 0) = true := by simp; omega
    simp only [lI, hn, Bool.true_or]
  ·have h2 := hok o ho
   simp only [ok1, Bool.and_eq_true, beq_iff_eq] at h2
   obtain ⟨v1, v2, v3, _⟩ := h2
   have hlk : co (aH b) o.id = some o.owner := by
    cases e : co (aH b) o.id with
    | none => rw [e] at v2; cases v2
    | some c => rw [e] at v3; rw [← v3]; rfl
   have hmem := (ia hnp).1 hlk
   have hnp' : (aH b).Nodup := qd (·.1) hnp
   have hc := xZ ht (lH v1) o.id
   have h1 : (aH b).count (o.id, o.owner) = 1 := by
    have a1 := List.count_pos_iff.2 hmem
    have a2 := List.nodup_iff_count.1 hnp' (o.id, o.owner)
    omega
   simp only [ok2, v1, Bool.true_and, beq_iff_eq]
   rw [hc] at h1; omega
end Go.Proofs.YtieaihgbjikggaaGreat
namespace Go.Proofs.YtieaihgbjikggaaGreat
open Go Go.Sx
set_option maxRecDepth 100000
set_option maxHeartbeats 1000000
theorem yb {l : List Int} (h : l.Nodup) (x : Int) : (((l.count x : Nat) : Int) == 1) = l.contains x := by
 have h1 := List.nodup_iff_count.1 h x
 by_cases hm : x ∈ l
 ·have h2 := List.count_pos_iff.2 hm
  have : l.count x = 1 := by omega
  simp [this, hm]
 ·have : l.count x = 0 := List.count_eq_zero.2 hm
  simp [this, hm]
theorem KV {own att : List Int} (ho : own.Nodup) : att.all (y4 own att) = (decide att.Nodup && att.all fun x => own.contains x) := by
 rw [Bool.eq_iff_iff]
 simp only [Bool.and_eq_true, List.all_eq_true, decide_eq_true_eq, y4, yb ho, beq_iff_eq]
 constructor
 ·intro h
  refine ⟨List.nodup_iff_count.2 fun x => ?_, fun x hx => (h x hx).2⟩
  by_cases hm : x ∈ att
  ·have := (h x hm).1; omega
  ·have := List.count_eq_zero.2 hm; omega
 ·rintro ⟨h1, h2⟩ x hx
  refine ⟨?_, h2 x hx⟩
  have := List.nodup_iff_count.1 h1 x
  have := List.count_pos_iff.2 hx
  omega
theorem Jh {att other : List Int} (ha : att.Nodup) (ho : other.Nodup) : ∀ (l done : List Bl) (ua ub : List Int), (∀ a, a ∈ ua ↔ ∃ y ∈ done, y.attacker = a) → (∀ a, a ∈ ub ↔ ∃ y ∈ done, y.blocker = a) → uA att other ua ub l = BC att other done l
 | [], _, _, _, _, _ => rfl
 | x :: r, done, ua, ub, h1, h2 => by
  rw [uA, BC, Jh ha ho r (done ++ [x]) (x.attacker :: ua) (x.blocker :: ub)]
  ·congr 1
   rw [oM, yb ha, yb ho, Bool.eq_iff_iff]
   simp only [Bool.and_eq_true, Bool.not_eq_true', List.all_eq_true, iT, Bool.or_eq_false_iff, beq_eq_false_iff_ne, List.contains_iff_mem]
   have e1 : ua.contains x.attacker = false ↔ ∀ y ∈ done, y.attacker ≠ x.attacker := by
    rw [← Bool.not_eq_true, List.contains_iff_mem, h1]
    exact ⟨fun h y hy e => h ⟨y, hy, e⟩, fun h ⟨y, hy, e⟩ => h y hy e⟩
   have e2 : ub.contains x.blocker = false ↔ ∀ y ∈ done, y.blocker ≠ x.blocker := by
    rw [← Bool.not_eq_true, List.contains_iff_mem, h2]
    exact ⟨fun h y hy e => h ⟨y, hy, e⟩, fun h ⟨y, hy, e⟩ => h y hy e⟩
   rw [e1, e2]
   exact ⟨fun ⟨⟨a, b⟩, c, d⟩ => ⟨b, d, fun y hy => ⟨a y hy, c y hy⟩⟩, fun ⟨b, d, e⟩ => ⟨⟨fun y hy => (e y hy).1, b⟩, fun y hy => (e y hy).2, d⟩⟩
  ·intro a
   simp only [List.mem_cons, h1, List.mem_append, List.mem_singleton]
   constructor
   ·rintro (rfl | ⟨y, hy, e⟩)
    ·exact ⟨x, .inr (.inl rfl), rfl⟩
    ·exact ⟨y, .inl hy, e⟩
   ·rintro ⟨y, hy | hy, e⟩
    ·exact .inr ⟨y, hy, e⟩
    ·rcases hy with rfl | hy
     ·exact .inl e.symm
     ·cases hy
  ·intro a
   simp only [List.mem_cons, h2, List.mem_append, List.mem_singleton]
   constructor
   ·rintro (rfl | ⟨y, hy, e⟩)
    ·exact ⟨x, .inr (.inl rfl), rfl⟩
    ·exact ⟨y, .inl hy, e⟩
   ·rintro ⟨y, hy | hy, e⟩
    ·exact .inr ⟨y, hy, e⟩
    ·rcases hy with rfl | hy
     ·exact .inl e.symm
     ·cases hy
theorem CA {own other att : List Int} {bl : List Bl} (ho : own.Nodup) (ht : other.Nodup) : rh own other att bl = jI own other att bl := by
 rw [rh, jI, KV ho]
 by_cases ha : att.Nodup
 ·rw [Jh ha ht bl [] [] [] (by simp) (by simp), Bool.and_assoc]
 ·simp [ha]
theorem uV {b : Bd} (h : bo bc b = true) : b.s0.field.Nodup ∧ b.s1.field.Nodup := by
 simp only [bo, Bool.and_eq_true, decide_eq_true_eq] at h
 have h1 := h.1
 have e : ∀ (l : List Int) (p : Int), (l.map fun i => (i, p)).map (·.1) = l := fun l p => by rw [List.map_map]; simp [Function.comp_def]
 simp only [aH, bG, List.map_append, e] at h1
 have h2 := List.nodup_append.1 h1
 have h3 := List.nodup_append.1 h2.2.1
 have f : ∀ {a b c d : List Int}, (a ++ (b ++ (c ++ d))).Nodup → c.Nodup := fun h => (List.nodup_append.1 (List.nodup_append.1 (List.nodup_append.1 h).2.1).2.1).1
 exact ⟨f h2.1, f h3.1⟩
theorem Fl {b : Bd} (h : bo bc b = true) : fX b = fY b := by
 obtain ⟨h0, h1⟩ := uV h
 rw [fX, fY, CA h0 h1, CA h1 h0]
theorem GX {x : It} {q : Bool} (h : cu x q = true) : x.trig < 0 → x.trig = -1 := by
 simp only [cu, aq, Bool.and_eq_true, decide_eq_true_eq] at h
 omega
theorem io (b : Bd) : lZ b = aw b := by
 rw [Bool.eq_iff_iff]
 have hall : ∀ (l : List It) (q : Bool), l.all (fun x => cu x q) = !(l.any fun x => !cu x q) := fun l q => by
  induction l with
  | nil => rfl
  | cons a l ih => simp [ih]
 have hnum : yQ b = (aq b.active 0 1 && (aq b.turn 0 1000 && (aq b.phase 0 10 && (aq b.holder (-1) 1 && !rB b)))) := by
  rw [Bool.eq_iff_iff]
  simp only [yQ, aq, rB, Bool.and_eq_true, Bool.not_eq_true', Bool.or_eq_false_iff, decide_eq_true_eq, decide_eq_false_iff_not, Bool.not_eq_false']
  omega
 have key : ∀ (x y : Bool), (b.stack.all (fun x => cu x false) = true → x = y) → ((b.stack.all (fun x => cu x false) && x) = true ↔ (b.stack.all (fun x => cu x false) && y) = true) := by
  intro x y h
  cases hs : b.stack.all (fun x => cu x false) with
  | false => simp
  | true => rw [h hs]
 have hf : b.stack.all (fun x => cu x false) = true → (rE b && fX b) = (bo bc b && fY b) := by
  intro hs
  rw [List.all_eq_true] at hs
  rw [Cy fun x hx => GX (hs x hx)]
  cases hp : bo bc b with
  | false => rfl
  | true => rw [Fl hp]
 have e1 : lZ b = (yQ b && (b.queue.all (fun x => cu x true) && (bz b.s0 && (bz b.s1 && (b.stack.all (fun x => cu x false) && (rE b && fX b)))))) := by
  rw [lZ]
  cases b.stack.all (fun x => cu x false) <;> simp
 have e2 : aw b = (yQ b && (b.queue.all (fun x => cu x true) && (bz b.s0 && (bz b.s1 && (b.stack.all (fun x => cu x false) && (bo bc b && fY b)))))) := by
  rw [aw, hnum, hall, hall]
  cases aq b.active 0 1 <;> cases aq b.turn 0 1000 <;> cases aq b.phase 0 10 <;> cases aq b.holder (-1) 1 <;> cases rB b <;> cases bz b.s0 <;> cases bz b.s1 <;> cases (b.stack.any fun x => !cu x false) <;> cases (b.queue.any fun x => !cu x true) <;> rfl
 rw [e1, e2]
 simp only [Bool.and_eq_true]
 have := key _ _ hf
 simp only [Bool.and_eq_true] at this
 rw [this]
end Go.Proofs.YtieaihgbjikggaaGreat
namespace Go.Proofs.YtieaihgbjikggaaGreat
open Go Go.Sx
set_option maxRecDepth 100000
set_option maxHeartbeats 1000000
end Go.Proofs.YtieaihgbjikggaaGreat
namespace Go.Proofs.YtieaihgbjikggaaGreat
open Go Go.Sx
set_option maxRecDepth 100000
set_option maxHeartbeats 1000000
def gi (s : St) : Bool := !decide ((s.lib.length : Int) > 40) && (!decide ((s.hand.length : Int) > 40) && (!decide ((s.field.length : Int) > 40) && !decide ((s.grave.length : Int) > 40)))
def lR (l : List It) : Bool := !decide ((l.length : Int) > 20) && l.all fun x => !decide ((x.tgs.length : Int) > 6)
def ej (b : Bd) : Bool := gi b.s0 && (gi b.s1 && (lR b.stack && (lR b.queue && ((decide ((b.objs.length : Int) ≤ 30) && decide ((b.att.length : Int) ≤ 30)) && decide ((b.blocks.length : Int) ≤ 30)))))
theorem DL {H : Heap} {O : Own} {v : d9} {b : Bd} (h : BdR H O v b) : RetO PP kb [.agg (ay v b).toArray] H O (.bool (ej b)) := by
 refine oZ (vs := ay v b) (by kernel_rfl) (au h) ?_
 simp only [gD]
 have len1 : ∀ {H' : Heap} {O' : Own} {w : Value} {l : List Int}, RSl H' O' 1 w (aO l) → al .len [w] = some (iV l.length) := fun h => by have := h.len; rwa [aO, List.length_map] at this
 have lo := h.objs.len
 have lb := h.blocks.len
 rw [List.length_map] at lo lb
 have la := len1 h.att
 refine ai fun r0 => ?_
 obtain ⟨s01, s02, s03, s04⟩ := fu h.s0
 refine ae (aj (mf b.s0 s01 s02 s03 s04 _ _) rfl ⟨s01, s02, s03, s04, trivial⟩ fun Hs0 ls0 => ?_)
 replace h := h.le ls0
 refine ab _ (len1 h.s0.lib) (ab _ (cT _ _) (ak (fun ks0lib => ah ⟨?_, rfl⟩) (fun ks0lib => ?_)))
 ·simp only [ej, gi, ks0lib, Bool.not_true, Bool.not_false, Bool.true_and, Bool.false_and, Bool.and_false]
 refine ab _ (len1 h.s0.hand) (ab _ (cT _ _) (ak (fun ks0hand => ah ⟨?_, rfl⟩) (fun ks0hand => ?_)))
 ·simp only [ej, gi, ks0lib, ks0hand, Bool.not_true, Bool.not_false, Bool.true_and, Bool.false_and, Bool.and_false]
 refine ab _ (len1 h.s0.field) (ab _ (cT _ _) (ak (fun ks0field => ah ⟨?_, rfl⟩) (fun ks0field => ?_)))
 ·simp only [ej, gi, ks0lib, ks0hand, ks0field, Bool.not_true, Bool.not_false, Bool.true_and, Bool.false_and, Bool.and_false]
 refine ab _ (len1 h.s0.grave) (ab _ (cT _ _) (ak (fun ks0grave => ah ⟨?_, rfl⟩) (fun ks0grave => ?_)))
 ·simp only [ej, gi, ks0lib, ks0hand, ks0field, ks0grave, Bool.not_true, Bool.not_false, Bool.true_and, Bool.false_and, Bool.and_false]
 obtain ⟨s11, s12, s13, s14⟩ := fu h.s1
 refine ae (aj (mf b.s1 s11 s12 s13 s14 _ _) rfl ⟨s11, s12, s13, s14, trivial⟩ fun Hs1 ls1 => ?_)
 replace h := h.le ls1
 refine ab _ (len1 h.s1.lib) (ab _ (cT _ _) (ak (fun ks1lib => ah ⟨?_, rfl⟩) (fun ks1lib => ?_)))
 ·simp only [ej, gi, ks0lib, ks0hand, ks0field, ks0grave, ks1lib, Bool.not_true, Bool.not_false, Bool.true_and, Bool.false_and, Bool.and_false]
 refine ab _ (len1 h.s1.hand) (ab _ (cT _ _) (ak (fun ks1hand => ah ⟨?_, rfl⟩) (fun ks1hand => ?_)))
 ·simp only [ej, gi, ks0lib, ks0hand, ks0field, ks0grave, ks1lib, ks1hand, Bool.not_true, Bool.not_false, Bool.true_and, Bool.false_and, Bool.and_false]
 refine ab _ (len1 h.s1.field) (ab _ (cT _ _) (ak (fun ks1field => ah ⟨?_, rfl⟩) (fun ks1field => ?_)))
 ·simp only [ej, gi, ks0lib, ks0hand, ks0field, ks0grave, ks1lib, ks1hand, ks1field, Bool.not_true, Bool.not_false, Bool.true_and, Bool.false_and, Bool.and_false]
 refine ab _ (len1 h.s1.grave) (ab _ (cT _ _) (ak (fun ks1grave => ah ⟨?_, rfl⟩) (fun ks1grave => ?_)))
 ·simp only [ej, gi, ks0lib, ks0hand, ks0field, ks0grave, ks1lib, ks1hand, ks1field, ks1grave, Bool.not_true, Bool.not_false, Bool.true_and, Bool.false_and, Bool.and_false]
 refine ae (ae (ae (ai fun _ => ?_)))
 have lstack := ItsR.len h.stack
 refine ab _ lstack (ab _ (cT _ _) (ak (fun kstack => ah ⟨?_, rfl⟩) (fun kstack => ?_)))
 ·simp only [ej, gi, lR, ks0lib, ks0hand, ks0field, ks0grave, ks1lib, ks1hand, ks1field, ks1grave, kstack, Bool.not_true, Bool.not_false, Bool.true_and, Bool.false_and, Bool.and_false]
 have stkstack := h.stack
 obtain ⟨rowsstack, hrsstack, hrlstack, hitstack⟩ := stkstack
 have hBstack := hrsstack.lenB
 refine aR b.stack.length (fun i H' OO => OO = O ∧ Heap.le Hs1 H' ∧ (b.stack.all fun x => !decide ((x.tgs.length : Int) > 6)) = ((b.stack.drop i).all fun x => !decide ((x.tgs.length : Int) > 6))) ⟨rfl, Heap.le_refl _, rfl⟩ ?_
 rintro istack Hstack Ostack histack - ⟨rfl, hlestack, horstack⟩
 replace h := h.le hlestack
 refine ab _ lstack (ab _ (aB _ _) (ak (fun hb => ?_) (fun hb => ?_)))
 ·have hlt : istack < b.stack.length := by simpa using hb
  obtain ⟨a, h1, _, h3, _⟩ := (hrsstack.le hlestack).idx .i64 istack rowsstack[istack] (by simp [hrlstack, hlt])
  obtain ⟨s, hrow, hs⟩ := (hitstack istack rowsstack[istack] b.stack[istack] (by simp [hrlstack, hlt]) (by simp [hlt])).le hlestack
  have hr := h3 4 1 (by omega)
  rw [hrow] at hr
  have hst : ((b.stack.drop istack).all fun x => !decide ((x.tgs.length : Int) > 6)) = (!decide ((b.stack[istack].tgs.length : Int) > 6) && ((b.stack.drop (istack + 1)).all fun x => !decide ((x.tgs.length : Int) > 6))) := by rw [List.drop_eq_getElem_cons hlt, List.all_cons]
  have lt := hs.len
  rw [List.length_map] at lt
  refine ab _ h1 (aL rfl (ap hr rfl ⟨hs.one, trivial⟩ (ab _ lt (ab _ (cT _ _) (ak (fun hc => ah ⟨?_, rfl⟩) (fun hc => ?_))))))
  ·simp only [ej, gi, lR, ks0lib, ks0hand, ks0field, ks0grave, ks1lib, ks1hand, ks1field, ks1grave, kstack, horstack, hst, hc, Bool.not_true, Bool.not_false, Bool.true_and, Bool.false_and, Bool.and_false]
  ·refine ab _ (ax (by omega)) (aK (by simp [Eqs]) hlt ⟨rfl, hlestack, ?_⟩)
   rw [horstack, hst, hc]; rfl
 have hgestack : b.stack.length ≤ istack := by simpa using hb
 rw [List.drop_of_length_le hgestack] at horstack
 have kallstack : (b.stack.all fun x => !decide ((x.tgs.length : Int) > 6)) = true := by rw [horstack]; rfl
 clear hb
 refine ae ?_
 have lqueue := ItsR.len h.queue
 refine ab _ lqueue (ab _ (cT _ _) (ak (fun kqueue => ah ⟨?_, rfl⟩) (fun kqueue => ?_)))
 ·simp only [ej, gi, lR, ks0lib, ks0hand, ks0field, ks0grave, ks1lib, ks1hand, ks1field, ks1grave, kstack, kallstack, kqueue, Bool.not_true, Bool.not_false, Bool.true_and, Bool.false_and, Bool.and_false]
 have stkqueue := h.queue
 obtain ⟨rowsqueue, hrsqueue, hrlqueue, hitqueue⟩ := stkqueue
 have hBqueue := hrsqueue.lenB
 refine aR b.queue.length (fun i H' OO => OO = Ostack ∧ Heap.le Hstack H' ∧ (b.queue.all fun x => !decide ((x.tgs.length : Int) > 6)) = ((b.queue.drop i).all fun x => !decide ((x.tgs.length : Int) > 6))) ⟨rfl, Heap.le_refl _, rfl⟩ ?_
 rintro iqueue Hqueue Oqueue hiqueue - ⟨rfl, hlequeue, horqueue⟩
 replace h := h.le hlequeue
 refine ab _ lqueue (ab _ (aB _ _) (ak (fun hb => ?_) (fun hb => ?_)))
 ·have hlt : iqueue < b.queue.length := by simpa using hb
  obtain ⟨a, h1, _, h3, _⟩ := (hrsqueue.le hlequeue).idx .i64 iqueue rowsqueue[iqueue] (by simp [hrlqueue, hlt])
  obtain ⟨s, hrow, hs⟩ := (hitqueue iqueue rowsqueue[iqueue] b.queue[iqueue] (by simp [hrlqueue, hlt]) (by simp [hlt])).le hlequeue
  have hr := h3 4 1 (by omega)
  rw [hrow] at hr
  have hst : ((b.queue.drop iqueue).all fun x => !decide ((x.tgs.length : Int) > 6)) = (!decide ((b.queue[iqueue].tgs.length : Int) > 6) && ((b.queue.drop (iqueue + 1)).all fun x => !decide ((x.tgs.length : Int) > 6))) := by rw [List.drop_eq_getElem_cons hlt, List.all_cons]
  have lt := hs.len
  rw [List.length_map] at lt
  refine ab _ h1 (aL rfl (ap hr rfl ⟨hs.one, trivial⟩ (ab _ lt (ab _ (cT _ _) (ak (fun hc => ah ⟨?_, rfl⟩) (fun hc => ?_))))))
  ·simp only [ej, gi, lR, ks0lib, ks0hand, ks0field, ks0grave, ks1lib, ks1hand, ks1field, ks1grave, kstack, kallstack, kqueue, horqueue, hst, hc, Bool.not_true, Bool.not_false, Bool.true_and, Bool.false_and, Bool.and_false]
  ·refine ab _ (ax (by omega)) (aK (by simp [Eqs]) hlt ⟨rfl, hlequeue, ?_⟩)
   rw [horqueue, hst, hc]; rfl
 have hgequeue : b.queue.length ≤ iqueue := by simpa using hb
 rw [List.drop_of_length_le hgequeue] at horqueue
 have kallqueue : (b.queue.all fun x => !decide ((x.tgs.length : Int) > 6)) = true := by rw [horqueue]; rfl
 clear hb
 repeat (first | refine ae ?_ | refine af ?_ | refine ab _ lo ?_ | refine ab _ la ?_ | refine ab _ lb ?_ | refine ab _ (eh _ _) ?_ | refine ab _ (bF _ _) ?_)
 refine ah ⟨?_, rfl⟩
 simp only [ej, gi, lR, ks0lib, ks0hand, ks0field, ks0grave, ks1lib, ks1hand, ks1field, ks1grave, kstack, kallstack, kqueue, kallqueue, Bool.not_true, Bool.not_false, Bool.true_and, Bool.false_and, Bool.and_false]
end Go.Proofs.YtieaihgbjikggaaGreat
namespace Go.Proofs.YtieaihgbjikggaaGreat
open Go Go.Sx
set_option maxRecDepth 100000
set_option maxHeartbeats 1000000
def tys : Tys := ⟨bf, dO, bM, bC, ar⟩
theorem tA {H : Heap} {v : Value} {l : List (List Value)} (h : Sl H 12 v l) (hb : l.length ≤ 2 ^ 40) : Triple PP dm [v] H [] fun v' H' O' => OSl dO 12 v' l O' := by
 refine fV (vs := [v]) (by kernel_rfl) ⟨h.one, trivial⟩ ?_
 simp only [cd]
 obtain ⟨a, cap, rfl, h1, h2, h3⟩ := h
 have hev : al (.bin .eql .slice) [.slice a l.length cap, .slice none 0 0] = some (.bool a.isNone) := by cases a <;> rfl
 refine ab _ hev (ak (fun hn => ah ?_) (fun hn => fun r0 => ?_))
 ·have hl : l = [] := by
   by_cases hl : l = []
   ·exact hl
   ·obtain ⟨ad, rfl, _⟩ := h3 hl; cases hn
  subst hl
  exact OSl.nil dO 12
 ·refine aI (rows := []) (news := l) (O1 := []) (O2 := []) (e := dO) (size := 12) (bytes := 80) (by kernel_rfl) (List.Perm.refl _) (.inl ⟨⟨_, rfl⟩, rfl, rfl⟩) (fun Hf hl _ => Sl.le hl ⟨a, cap, rfl, h1, h2, h3⟩) (by simp; omega) (by simp; omega) ?_
  intro v' O1' H' _ ho
  refine ah ?_
  rw [List.append_nil]
  exact ho
theorem ux {H : Heap} {v : Value} {l : List (List Value)} (h : Sl H 2 v l) (hb : l.length ≤ 2 ^ 40) : Triple PP dF [v] H [] fun v' H' O' => OSl bM 2 v' l O' := by
 refine gG (vs := [v]) (by kernel_rfl) ⟨h.one, trivial⟩ ?_
 simp only [cz]
 obtain ⟨a, cap, rfl, h1, h2, h3⟩ := h
 have hev : al (.bin .eql .slice) [.slice a l.length cap, .slice none 0 0] = some (.bool a.isNone) := by cases a <;> rfl
 refine ab _ hev (ak (fun hn => ah ?_) (fun hn => fun r0 => ?_))
 ·have hl : l = [] := by
   by_cases hl : l = []
   ·exact hl
   ·obtain ⟨ad, rfl, _⟩ := h3 hl; cases hn
  subst hl
  exact OSl.nil bM 2
 ·refine aI (rows := []) (news := l) (O1 := []) (O2 := []) (e := bM) (size := 2) (bytes := 16) (by kernel_rfl) (List.Perm.refl _) (.inl ⟨⟨_, rfl⟩, rfl, rfl⟩) (fun Hf hl _ => Sl.le hl ⟨a, cap, rfl, h1, h2, h3⟩) (by simp; omega) (by simp; omega) ?_
  intro v' O1' H' _ ho
  refine ah ?_
  rw [List.append_nil]
  exact ho
theorem vN {H : Heap} {v : Value} {l : List (List Value)} (h : Sl H 5 v l) (hb : l.length ≤ 2 ^ 40) : Triple PP dU [v] H [] fun v' H' O' => OSl bC 5 v' l O' := by
 refine il (vs := [v]) (by kernel_rfl) ⟨h.one, trivial⟩ ?_
 simp only [cF]
 obtain ⟨a, cap, rfl, h1, h2, h3⟩ := h
 have hev : al (.bin .eql .slice) [.slice a l.length cap, .slice none 0 0] = some (.bool a.isNone) := by cases a <;> rfl
 refine ab _ hev (ak (fun hn => ah ?_) (fun hn => fun r0 => ?_))
 ·have hl : l = [] := by
   by_cases hl : l = []
   ·exact hl
   ·obtain ⟨ad, rfl, _⟩ := h3 hl; cases hn
  subst hl
  exact OSl.nil bC 5
 ·refine aI (rows := []) (news := l) (O1 := []) (O2 := []) (e := bC) (size := 5) (bytes := 56) (by kernel_rfl) (List.Perm.refl _) (.inl ⟨⟨_, rfl⟩, rfl, rfl⟩) (fun Hf hl _ => Sl.le hl ⟨a, cap, rfl, h1, h2, h3⟩) (by simp; omega) (by simp; omega) ?_
  intro v' O1' H' _ ho
  refine ah ?_
  rw [List.append_nil]
  exact ho
theorem tz {H : Heap} {v : Value} {l : List (List Value)} (h : Sl H 2 v l) (hb : l.length ≤ 2 ^ 40) : Triple PP dl [v] H [] fun v' H' O' => OSl ar 2 v' l O' := by
 refine fU (vs := [v]) (by kernel_rfl) ⟨h.one, trivial⟩ ?_
 simp only [bZ]
 obtain ⟨a, cap, rfl, h1, h2, h3⟩ := h
 have hev : al (.bin .eql .slice) [.slice a l.length cap, .slice none 0 0] = some (.bool a.isNone) := by cases a <;> rfl
 refine ab _ hev (ak (fun hn => ah ?_) (fun hn => fun r0 => ?_))
 ·have hl : l = [] := by
   by_cases hl : l = []
   ·exact hl
   ·obtain ⟨ad, rfl, _⟩ := h3 hl; cases hn
  subst hl
  exact OSl.nil ar 2
 ·refine aI (rows := []) (news := l) (O1 := []) (O2 := []) (e := ar) (size := 2) (bytes := 16) (by kernel_rfl) (List.Perm.refl _) (.inl ⟨⟨_, rfl⟩, rfl, rfl⟩) (fun Hf hl _ => Sl.le hl ⟨a, cap, rfl, h1, h2, h3⟩) (by simp; omega) (by simp; omega) ?_
  intro v' O1' H' _ ho
  refine ah ?_
  rw [List.append_nil]
  exact ho
end Go.Proofs.YtieaihgbjikggaaGreat
