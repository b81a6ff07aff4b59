/- Which boards are valid: what the program says. -/
import Derived.Test.YtieaihgbjikggaaGreatC1
namespace Go.Proofs.YtieaihgbjikggaaGreat
open Go Go.Sx
set_option maxRecDepth 100000
set_option maxHeartbeats 1000000
theorem En {α : Type} [DecidableEq α] : ∀ {l r : List α}, l.Nodup → (∀ x ∈ l, x ∈ r) → l.length ≤ r.length
 | [], _, _, _ => Nat.zero_le _
 | a :: l, r, hn, hs => by
  rw [List.nodup_cons] at hn
  have har : a ∈ r := hs a (by simp)
  have h1 := En (r := r.erase a) hn.2 fun x hx => by
   have : x ≠ a := fun e => hn.1 (e ▸ hx)
   exact (List.mem_erase_of_ne this).2 (hs x (by simp [hx]))
  rw [List.length_erase_of_mem har] at h1
  have := List.length_pos_of_mem har
  simp only [List.length_cons]; omega
theorem zt {α : Type} [DecidableEq α] {l r : List α} (hn : l.Nodup) (hs : ∀ x ∈ l, x ∈ r) (hl : r.length ≤ l.length) : ∀ x ∈ r, x ∈ l := by
 intro x hx
 rcases Classical.em (x ∈ l) with h | h
 ·exact h
 ·have := En (l := x :: l) (r := r) (List.nodup_cons.2 ⟨h, hn⟩) (fun y hy => by
   rcases List.mem_cons.1 hy with rfl | hy
   ·exact hx
   ·exact hs y hy)
  simp only [List.length_cons] at this; omega
theorem Cc {val : Ob → Bool} {ps cs : List (Int × Int)} : ∀ {l : List Ob} {prev : Option Int}, na val ps cs prev l = true →
  (∀ o ∈ l, val o = true ∧ (cn ps o.id).isSome = true ∧ ∀ p, prev = some p → p < o.id) ∧ (l.map (·.id)).Nodup
 | [], _, _ => ⟨by simp, by simp⟩
 | o :: r, prev, h => by
  simp only [na, zq, Bool.and_eq_true, Bool.not_eq_true', Bool.or_eq_false_iff, Bool.not_eq_false'] at h
  obtain ⟨⟨⟨⟨⟨h1, h2⟩, h3⟩, _⟩, _⟩, h6⟩ := h
  obtain ⟨k1, k2⟩ := Cc h6
  have hp : ∀ p, prev = some p → p < o.id := by
   rintro p rfl
   simp only [ip, decide_eq_false_iff_not] at h2
   omega
  refine ⟨?_, ?_⟩
  ·intro x hx
   rcases List.mem_cons.1 hx with rfl | hx
   ·refine ⟨h1, ?_, hp⟩
    cases hl : cn ps x.id with
    | none => rw [hl] at h3; cases h3
    | some v => rfl
   ·obtain ⟨a1, a2, a3⟩ := k1 x hx
    exact ⟨a1, a2, fun p e => by have := a3 _ rfl; have := hp p e; omega⟩
  ·rw [List.map_cons, List.nodup_cons]
   refine ⟨?_, k2⟩
   intro hm
   obtain ⟨x, hx, e⟩ := List.mem_map.1 hm
   have := (k1 x hx).2.2 _ rfl
   omega
theorem zj {val : Ob → Bool} {b : Bd} (h : bm val b = true) : ∀ x ∈ (aH b).map (·.1), ∃ o ∈ b.objs, o.id = x ∧ val o = true := by
 simp only [bm, Bool.and_eq_true, decide_eq_true_eq] at h
 obtain ⟨_, h2, h3⟩ := h
 obtain ⟨k1, k2⟩ := Cc h2
 intro x hx
 have := zt (l := b.objs.map (·.id)) (r := (aH b).map (·.1)) k2 (fun y hy => by
  obtain ⟨o, ho, rfl⟩ := List.mem_map.1 hy
  have := (k1 o ho).2.1
  rcases Classical.em (o.id ∈ (aH b).map (·.1)) with h | h
  ·exact h
  ·rw [eV.2 h] at this; cases this) (by simp [h3]) x hx
 obtain ⟨o, ho, rfl⟩ := List.mem_map.1 this
 exact ⟨o, ho, rfl, (k1 o ho).1⟩
theorem pn {o : Ob} (h : ba o = true) : 1 ≤ o.id ∧ o.id ≤ 500 := by
 simp only [ba, Bool.and_eq_true, decide_eq_true_eq] at h
 exact ⟨h.1.2.1.1.1.2, h.1.2.1.1.2⟩
theorem EZ {b : Bd} (h : bm ba b = true) : ∀ x, x ∈ b.s0.field ∨ x ∈ b.s1.field → 0 < x ∧ x ≤ 500 := by
 intro x hx
 obtain ⟨o, _, rfl, ho⟩ := zj h x (by
  simp only [aH, bF, List.map_append, List.map_map, List.mem_append, List.mem_map, Function.comp]
  rcases hx with hx | hx
  ·left; right; right; left; exact ⟨x, hx, rfl⟩
  ·right; left; right; right; left; exact ⟨x, hx, rfl⟩)
 have := pn ho
 omega
def fX (b : Bd) : Bool := if b.active = 0 then jH b.s0.field b.s1.field b.att b.blocks else jH b.s1.field b.s0.field b.att b.blocks
theorem IC {H : Heap} {O : Own} {v : d8} {b : Bd} (h : BdR H O v b) (ha : b.active = 0 ∨ b.active = 1) (hp : ∀ x, x ∈ b.s0.field ∨ x ∈ b.s1.field → 0 < x ∧ x ≤ 500) :
  RetO PP rT [.agg (ay v b).toArray] H O (.bool (fX b)) := by
 refine vG (vs := ay v b) (by kernel_rfl) (au h) ?_
 simp only [mG]
 refine ai fun r0 => ae ?_
 have e34 : g (ay v b) 34 = iV b.active := rfl
 rw [e34]
 have hs : ∀ n : Int, n = 0 ∨ n = 1 → al (.bin .sub .int) [iV 1, iV n] = some (iV (1 - n)) := by
  rintro n (rfl | rfl) <;> rfl
 rcases ha with ha | ha
 ·rw [ha]
  refine ⟨.i64, 0, rfl, fun _ => ae (ae (ab _ (hs 0 (.inl rfl)) ⟨.i64, 1, rfl, fun e => absurd e (by omega), fun _ => ⟨.i64, 1, rfl, fun _ => ?_, fun e => absurd rfl e⟩⟩)), fun e => absurd rfl e⟩
  refine ae ?_
  refine zM h.s0.field h.s1.field h.att h.blocks (fun x hx => (hp x (.inl hx)).1) (fun x hx => hp x (.inr hx)) ?_ ?_ ?_
  ·intros; simp [Eqs]
  ·intros; simp [Eqs]
  ·exact fun H' _ => ⟨by simp [fX, ha], rfl⟩
 ·rw [ha]
  refine ⟨.i64, 1, rfl, fun e => absurd e (by omega), fun _ => ⟨.i64, 1, rfl, fun _ => ae (ae (ab _ (hs 1 (.inr rfl)) ⟨.i64, 0, rfl, fun _ => ?_, fun e => absurd rfl e⟩)), fun e => absurd rfl e⟩⟩
  refine ae ?_
  refine zM h.s1.field h.s0.field h.att h.blocks (fun x hx => (hp x (.inr hx)).1) (fun x hx => hp x (.inl hx)) ?_ ?_ ?_
  ·intros; simp [Eqs]
  ·intros; simp [Eqs]
  ·exact fun H' _ => ⟨by simp [fX, ha], rfl⟩
theorem yC {b : Bool} (h : (!b) = true) : b = false := by simpa using h
theorem rX {b : Bool} (h : (!b) = false) : b = true := by simpa using h
def bu (s : St) : Bool := aq s.life 0 9999 && (([s.p0, s.p1, s.p2, s.p3].all fun n => aq n 0 99) && (aq s.mull 0 7 && aq s.acts 0 255))
def rA (b : Bd) : Bool := ((!aq b.passes 0 2 || decide ((b.objs.length : Int) > 500)) || decide ((b.stack.length : Int) > 200)) || decide ((b.queue.length : Int) > 200)
def aw (b : Bd) : Bool := aq b.active 0 1 && (aq b.turn 0 1000 && (aq b.phase 0 10 && (aq b.holder (-1) 1 && (!rA b && (bu b.s0 && (bu b.s1 &&
 (!(b.stack.any fun x => !ct x false) && (!(b.queue.any fun x => !ct x true) && (bm ba b && fX b)))))))))
theorem bg {H : Heap} {O : Own} {v : d8} {b : Bd} (h : BdR H O v b) : RetO PP oF [.agg (ay v b).toArray] H O (.bool (aw b)) := by
 refine wW (vs := ay v b) (by kernel_rfl) (au h) ?_
 simp only [oA]
 refine ai fun r0 => ?_
 refine ae (aj (dd b.active 0 1 H O) rfl ⟨rfl, trivial⟩ fun H1 l1 => ab _ (az _) (ak (fun hb => ah ⟨?_, rfl⟩) (fun hb => ?_)))
 ·have kf : aq b.active 0 1 = false := yC hb
  simp only [aw, kf, Bool.true_and, Bool.false_and, Bool.and_false]
 have k1 : aq b.active 0 1 = true := rX hb
 replace h := h.le l1
 clear hb
 refine ae (aj (dd b.turn 0 1000 H1 O) rfl ⟨rfl, trivial⟩ fun H2 l2 => ab _ (az _) (ak (fun hb => ah ⟨?_, rfl⟩) (fun hb => ?_)))
 ·have kf : aq b.turn 0 1000 = false := yC hb
  simp only [aw, k1, kf, Bool.true_and, Bool.false_and, Bool.and_false]
 have k2 : aq b.turn 0 1000 = true := rX hb
 replace h := h.le l2
 clear hb
 refine ae (aj (dd b.phase 0 10 H2 O) rfl ⟨rfl, trivial⟩ fun H3 l3 => ab _ (az _) (ak (fun hb => ah ⟨?_, rfl⟩) (fun hb => ?_)))
 ·have kf : aq b.phase 0 10 = false := yC hb
  simp only [aw, k1, k2, kf, Bool.true_and, Bool.false_and, Bool.and_false]
 have k3 : aq b.phase 0 10 = true := rX hb
 replace h := h.le l3
 clear hb
 refine ae (aj (dd b.holder (-1) 1 H3 O) rfl ⟨rfl, trivial⟩ fun H4 l4 => ab _ (az _) (ak (fun hb => ah ⟨?_, rfl⟩) (fun hb => ?_)))
 ·have kf : aq b.holder (-1) 1 = false := yC hb
  simp only [aw, k1, k2, k3, kf, Bool.true_and, Bool.false_and, Bool.and_false]
 have k4 : aq b.holder (-1) 1 = true := rX hb
 replace h := h.le l4
 clear hb
 refine ae (aj (dd b.passes 0 2 H4 O) rfl ⟨rfl, trivial⟩ fun H5 l5 => ab _ (az _) ?_)
 replace h := h.le l5
 have lo := h.objs.len
 rw [List.length_map] at lo
 refine ae (af (af ?_))
 refine ab _ (lo) (af (ab _ (cR _ _) (af (ab _ (aA _ _) ?_))))
 refine ae (af (af ?_))
 refine ab _ (ItsR.len h.stack) (af (ab _ (cR _ _) (af (ab _ (aA _ _) ?_))))
 refine ae (af (af ?_))
 refine ab _ (ItsR.len h.queue) (af (ab _ (cR _ _) (af (ab _ (aA _ _) ?_))))
 refine ak (fun hb => ah ⟨?_, rfl⟩) (fun hb => ?_)
 ·have kf : rA b = true := hb
  simp only [aw, k1, k2, k3, k4, kf, Bool.true_and, Bool.not_true, Bool.false_and]
 have kmid : rA b = false := hb
 clear hb
 refine ae (ai fun r1 => ae ?_)
 refine ae (aj (dd b.s0.life 0 9999 H5 O) rfl ⟨rfl, trivial⟩ fun H6 l6 => ab _ (az _) (ak (fun hb => ah ⟨?_, rfl⟩) (fun hb => ?_)))
 ·have kf : aq b.s0.life 0 9999 = false := yC hb
  simp only [aw, bu, k1, k2, k3, k4, kmid, kf, Bool.true_and, Bool.false_and, Bool.and_false, Bool.not_false]
 have k6 : aq b.s0.life 0 9999 = true := rX hb
 replace h := h.le l6
 clear hb
 refine ae (aj (vm b.s0.p0 b.s0.p1 b.s0.p2 b.s0.p3 H6 O) rfl ⟨rfl, trivial⟩ fun H7 l7 => ab _ (az _) (ak (fun hb => ah ⟨?_, rfl⟩) (fun hb => ?_)))
 ·have kf : ([b.s0.p0, b.s0.p1, b.s0.p2, b.s0.p3].all fun n => aq n 0 99) = false := yC hb
  simp only [aw, bu, k1, k2, k3, k4, kmid, k6, kf, Bool.true_and, Bool.false_and, Bool.and_false, Bool.not_false]
 have k7 : ([b.s0.p0, b.s0.p1, b.s0.p2, b.s0.p3].all fun n => aq n 0 99) = true := rX hb
 replace h := h.le l7
 clear hb
 refine ae (aj (dd b.s0.mull 0 7 H7 O) rfl ⟨rfl, trivial⟩ fun H8 l8 => ab _ (az _) (ak (fun hb => ah ⟨?_, rfl⟩) (fun hb => ?_)))
 ·have kf : aq b.s0.mull 0 7 = false := yC hb
  simp only [aw, bu, k1, k2, k3, k4, kmid, k6, k7, kf, Bool.true_and, Bool.false_and, Bool.and_false, Bool.not_false]
 have k8 : aq b.s0.mull 0 7 = true := rX hb
 replace h := h.le l8
 clear hb
 refine ae (aj (dd b.s0.acts 0 255 H8 O) rfl ⟨rfl, trivial⟩ fun H9 l9 => ab _ (az _) (ak (fun hb => ah ⟨?_, rfl⟩) (fun hb => ?_)))
 ·have kf : aq b.s0.acts 0 255 = false := yC hb
  simp only [aw, bu, k1, k2, k3, k4, kmid, k6, k7, k8, kf, Bool.true_and, Bool.false_and, Bool.and_false, Bool.not_false]
 have k9 : aq b.s0.acts 0 255 = true := rX hb
 replace h := h.le l9
 clear hb
 refine ai fun r2 => ae ?_
 refine ae (aj (dd b.s1.life 0 9999 H9 O) rfl ⟨rfl, trivial⟩ fun H10 l10 => ab _ (az _) (ak (fun hb => ah ⟨?_, rfl⟩) (fun hb => ?_)))
 ·have kf : aq b.s1.life 0 9999 = false := yC hb
  simp only [aw, bu, k1, k2, k3, k4, kmid, k6, k7, k8, k9, kf, Bool.true_and, Bool.false_and, Bool.and_false, Bool.not_false]
 have k10 : aq b.s1.life 0 9999 = true := rX hb
 replace h := h.le l10
 clear hb
 refine ae (aj (vm b.s1.p0 b.s1.p1 b.s1.p2 b.s1.p3 H10 O) rfl ⟨rfl, trivial⟩ fun H11 l11 => ab _ (az _) (ak (fun hb => ah ⟨?_, rfl⟩) (fun hb => ?_)))
 ·have kf : ([b.s1.p0, b.s1.p1, b.s1.p2, b.s1.p3].all fun n => aq n 0 99) = false := yC hb
  simp only [aw, bu, k1, k2, k3, k4, kmid, k6, k7, k8, k9, k10, kf, Bool.true_and, Bool.false_and, Bool.and_false, Bool.not_false]
 have k11 : ([b.s1.p0, b.s1.p1, b.s1.p2, b.s1.p3].all fun n => aq n 0 99) = true := rX hb
 replace h := h.le l11
 clear hb
 refine ae (aj (dd b.s1.mull 0 7 H11 O) rfl ⟨rfl, trivial⟩ fun H12 l12 => ab _ (az _) (ak (fun hb => ah ⟨?_, rfl⟩) (fun hb => ?_)))
 ·have kf : aq b.s1.mull 0 7 = false := yC hb
  simp only [aw, bu, k1, k2, k3, k4, kmid, k6, k7, k8, k9, k10, k11, kf, Bool.true_and, Bool.false_and, Bool.and_false, Bool.not_false]
 have k12 : aq b.s1.mull 0 7 = true := rX hb
 replace h := h.le l12
 clear hb
 refine ae (aj (dd b.s1.acts 0 255 H12 O) rfl ⟨rfl, trivial⟩ fun H13 l13 => ab _ (az _) (ak (fun hb => ah ⟨?_, rfl⟩) (fun hb => ?_)))
 ·have kf : aq b.s1.acts 0 255 = false := yC hb
  simp only [aw, bu, k1, k2, k3, k4, kmid, k6, k7, k8, k9, k10, k11, k12, kf, Bool.true_and, Bool.false_and, Bool.and_false, Bool.not_false]
 have k13 : aq b.s1.acts 0 255 = true := rX hb
 replace h := h.le l13
 clear hb
 refine ae (aj (lc (p := fun x => !ct x false) h.stack rfl (jF aE (by decide)) fun H' _ row x hx => Hl hx) rfl ⟨rfl, trivial⟩ fun H20 l20 => ak (fun hb => ah ⟨?_, rfl⟩) (fun hb => ?_))
 ·simp only [aw, bu, k1, k2, k3, k4, kmid, k6, k7, k8, k9, k10, k11, k12, k13, hb, Bool.true_and, Bool.not_true, Bool.not_false, Bool.false_and]
 replace h := h.le l20
 refine ae (aj (lc (p := fun x => !ct x true) h.queue rfl (jF aE (by decide)) fun H' _ row x hx => Hk hx) rfl ⟨rfl, trivial⟩ fun H21 l21 => ab _ (az _) (ak (fun hq => ?_) (fun hq => ah ⟨?_, rfl⟩)))
 ·replace h := h.le l21
  simp only [Bool.not_eq_true'] at hq
  have hfin : aw b = (bm ba b && fX b) := by simp only [aw, bu, k1, k2, k3, k4, kmid, k6, k7, k8, k9, k10, k11, k12, k13, hb, hq, Bool.true_and, Bool.not_false]
  refine ae (aj (IA h) rfl ⟨rfl, trivial⟩ fun H22 l22 => ak (fun hp => ?_) (fun hp => ah ⟨?_, rfl⟩))
  ·replace h := h.le l22
   have ha : b.active = 0 ∨ b.active = 1 := by have := k1; simp only [aq, decide_eq_true_eq] at this; omega
   refine ae (aj (IC h ha (EZ hp)) rfl ⟨rfl, trivial⟩ fun H23 l23 => ah ⟨?_, rfl⟩)
   rw [hfin, hp, Bool.true_and]; rfl
  ·rw [hfin, hp]; rfl
 ·simp only [Bool.not_eq_false'] at hq
  simp only [aw, bu, k1, k2, k3, k4, kmid, k6, k7, k8, k9, k10, k11, k12, k13, hb, hq, Bool.true_and, Bool.not_false, Bool.not_true, Bool.false_and]
end Go.Proofs.YtieaihgbjikggaaGreat
namespace Go.Proofs.YtieaihgbjikggaaGreat
open Go Go.Sx
set_option maxRecDepth 100000
set_option maxHeartbeats 1000000
theorem CR {a b : Bool} (h : a = true ↔ b = true) : (Value.bool a : Value) = .bool b := by rw [Bool.eq_iff_iff.2 h]
theorem ud (n : Int) (H : Heap) (O : Own) : RetO PP jY [iV n] H O (.bool (aq n 0 99)) := by
 refine oX (vs := [iV n]) (by kernel_rfl) ⟨rfl, trivial⟩ ?_
 simp only [gB]
 refine ab _ (ef _ _) (af (ab _ (ef _ _) (af (ab _ (bE _ _) ?_))))
 refine ah ⟨CR ?_, rfl⟩
 simp [aq]
theorem mL (o : Ob) : ba o = true ↔ ((0 ≤ o.power ∧ o.power ≤ 99) ∧ (0 ≤ o.tough ∧ o.tough ≤ 99) ∧ (0 ≤ o.dmg ∧ o.dmg ≤ 99) ∧ (0 ≤ o.cnt ∧ o.cnt ≤ 99) ∧ (0 ≤ o.pp ∧ o.pp ≤ 99) ∧ (0 ≤ o.pt ∧ o.pt ≤ 99)) ∧
  (o.card = -1 ∨ (o.power = 0 ∧ o.tough = 0)) ∧ 1 ≤ o.id ∧ o.id ≤ 500 ∧ -1 ≤ o.card ∧ o.card < 400 ∧ (o.owner = 0 ∨ o.owner = 1) := by
 simp only [ba, aq, List.all_cons, List.all_nil, Bool.and_true, Bool.and_eq_true, Bool.or_eq_true, decide_eq_true_eq, beq_iff_eq, ge_iff_le]
 omega
theorem yL (o : Ob) (H : Heap) (O : Own) : RetO PP jX [.agg o.row.toArray] H O (.bool (ba o)) := by
 refine oW (vs := o.row) (by kernel_rfl) (by simp [Ob.row, Ones, Value.oneCell']) ?_
 simp only [gA]
 repeat (first | refine ae ?_ | refine af ?_ | refine ai fun _ => ?_ | refine ab _ (aB _ _) ?_ | refine ab _ (cR _ _) ?_ | refine ab _ (ef _ _) ?_ | refine ab _ (dS _ _) ?_ | refine ab _ (aF _ _) ?_ | refine ab _ (aX _ _) ?_ | refine ab _ (bE _ _) ?_ | refine ab _ (aA _ _) ?_ | refine ab _ (az _) ?_ | refine ab _ (su _ _) ?_ | refine ab _ (nQ _ _) ?_)
 refine ak (fun h1 => ah ⟨CR ?_, rfl⟩) (fun h1 => ?_)
 ·rw [mL]; simp at h1 ⊢; omega
 refine ae (ab _ (ef _ _) (ae (af (af (ab _ (aX _ _) (af (ae (af (af (af (af (ab _ (aX _ _) (af (af (af (ab _ (aA _ _) (af (ab _ (bE _ _) ?_))))))))))))))))))
 refine ak (fun h2 => ah ⟨CR ?_, rfl⟩) (fun h2 => ?_)
 ·rw [mL]; simp at h1 h2 ⊢; omega
 have key : ∀ (x : Bool), (x = true ↔ ((0 ≤ o.power ∧ o.power ≤ 99) ∧ (0 ≤ o.tough ∧ o.tough ≤ 99) ∧ (0 ≤ o.dmg ∧ o.dmg ≤ 99) ∧ (0 ≤ o.cnt ∧ o.cnt ≤ 99) ∧ (0 ≤ o.pp ∧ o.pp ≤ 99) ∧ (0 ≤ o.pt ∧ o.pt ≤ 99))) → (Value.bool x : Value) = .bool (ba o) := by
  intro x hx
  refine CR ?_
  rw [hx, mL]
  simp at h1 h2 ⊢; omega
 refine ae (aj (ud o.power H O) rfl ⟨rfl, trivial⟩ fun H1 _ => ak (fun k1 => ?_) (fun k1 => ah ⟨key _ ?_, rfl⟩))
 rotate_left
 ·simp [aq] at k1 ⊢; omega
 refine ae (aj (ud o.tough H1 O) rfl ⟨rfl, trivial⟩ fun H2 _ => ak (fun k2 => ?_) (fun k2 => ah ⟨key _ ?_, rfl⟩))
 rotate_left
 ·simp [aq] at k2 ⊢; omega
 refine ae (aj (ud o.dmg H2 O) rfl ⟨rfl, trivial⟩ fun H3 _ => ak (fun k3 => ?_) (fun k3 => ah ⟨key _ ?_, rfl⟩))
 rotate_left
 ·simp [aq] at k3 ⊢; omega
 refine ae (aj (ud o.cnt H3 O) rfl ⟨rfl, trivial⟩ fun H4 _ => ak (fun k4 => ?_) (fun k4 => ah ⟨key _ ?_, rfl⟩))
 rotate_left
 ·simp [aq] at k4 ⊢; omega
 refine ae (aj (ud o.pp H4 O) rfl ⟨rfl, trivial⟩ fun H5 _ => ak (fun k5 => ?_) (fun k5 => ah ⟨key _ ?_, rfl⟩))
 rotate_left
 ·simp [aq] at k5 ⊢; omega
 refine ae (aj (ud o.pt H5 O) rfl ⟨rfl, trivial⟩ fun H6 _ => ah ⟨key _ ?_, rfl⟩)
 simp [aq] at k1 k2 k3 k4 k5 ⊢; omega
theorem IQ {vl vh vf vg : Value} (s : St) (hl : vl.oneCell' = true) (hh : vh.oneCell' = true) (hf : vf.oneCell' = true) (hg : vg.oneCell' = true) (H : Heap) (O : Own) :
  RetO PP lp [.agg (HP vl vh vf vg s).toArray] H O (.bool (bu s)) := by
 refine pF (vs := HP vl vh vf vg s) (by kernel_rfl) ⟨rfl, rfl, rfl, rfl, rfl, hl, hh, hf, hg, rfl, rfl, rfl, rfl, rfl, trivial⟩ ?_
 simp only [gW]
 have key : ∀ (x : Bool), (x = true ↔ ((0 ≤ s.life ∧ s.life ≤ 9999) ∧ (0 ≤ s.p0 ∧ s.p0 ≤ 99) ∧ (0 ≤ s.p1 ∧ s.p1 ≤ 99) ∧ (0 ≤ s.p2 ∧ s.p2 ≤ 99) ∧ (0 ≤ s.p3 ∧ s.p3 ≤ 99) ∧ (0 ≤ s.mull ∧ s.mull ≤ 7) ∧ (0 ≤ s.acts ∧ s.acts ≤ 255))) → (Value.bool x : Value) = .bool (bu s) := by
  intro x hx
  refine CR ?_
  rw [hx]
  simp only [bu, aq, List.all_cons, List.all_nil, Bool.and_true, Bool.and_eq_true, decide_eq_true_eq]
  omega
 refine ai fun _ => ae (ab _ (aB _ _) (af (ab _ (aB _ _) (af (ab _ (aA _ _) ?_)))))
 refine ak (fun h1 => ah ⟨key _ ?_, rfl⟩) (fun h1 => ?_)
 ·simp at h1 ⊢; omega
 refine ab _ (aB _ _) (af (ab _ (aB _ _) (af (ab _ (aA _ _) ?_))))
 refine ak (fun h2 => ah ⟨key _ ?_, rfl⟩) (fun h2 => ?_)
 ·simp at h2 ⊢; omega
 refine ab _ (aB _ _) (af (ab _ (aB _ _) (af (ab _ (aA _ _) ?_))))
 refine ak (fun h3 => ah ⟨key _ ?_, rfl⟩) (fun h3 => ?_)
 ·simp at h3 ⊢; omega
 refine ab _ (aB _ _) (af (ab _ (aB _ _) (af (ab _ (aA _ _) ?_))))
 refine ak (fun h4 => ah ⟨key _ ?_, rfl⟩) (fun h4 => ?_)
 ·simp at h4 ⊢; omega
 repeat (first | refine ae ?_ | refine af ?_ | refine ai fun _ => ?_ | refine ab _ (aB _ _) ?_ | refine ab _ (cR _ _) ?_ | refine ab _ (ef _ _) ?_ | refine ab _ (dS _ _) ?_ | refine ab _ (aF _ _) ?_ | refine ab _ (aX _ _) ?_ | refine ab _ (bE _ _) ?_ | refine ab _ (aA _ _) ?_ | refine ab _ (az _) ?_ | refine ab _ (su _ _) ?_ | refine ab _ (nQ _ _) ?_)
 refine ah ⟨key _ ?_, rfl⟩
 simp at h1 h2 h3 h4 ⊢; omega
end Go.Proofs.YtieaihgbjikggaaGreat
namespace Go.Proofs.YtieaihgbjikggaaGreat
open Go Go.Sx
set_option maxRecDepth 100000
set_option maxHeartbeats 1000000
abbrev IY (n : Nat) (R : Nat → Value → Heap → Own → Prop) : List Value → Heap → Own → Prop := fun vs H O => ∃ (i : Nat) (x : Value), vs = [x, iV i] ∧ i ≤ n ∧ R i x H O
abbrev MY (n : Nat) : List Value → Heap → Own → Nat := fun vs _ _ => match g vs 1 with | .int _ k => n - k.toNat | _ => 0
theorem dq {P : Program} {lab key : Nat} {x0 : Value} {body : (List Value → Heap → Own → Prop) → List Value → Tree} {H : Heap} {O : Own} {Q : Value → Heap → Own → Prop} (n : Nat) (R : Nat → Value → Heap → Own → Prop)
  (h0 : R 0 x0 H O) (step : ∀ i x H' O', i ≤ n → Heap.le H H' → R i x H' O' → (body (FJ (IY n R) (MY n) (n - i)) [x, iV i]).den P Q H' O') :
  (Tree.loop lab key [x0, .int .i64 0] body).den P Q H O := by
 refine iy (IY n R) (MY n) ⟨0, x0, rfl, Nat.zero_le _, h0⟩ ?_
 rintro vs H' O' _ _ hle ⟨i, x, rfl, hi, hr⟩
 exact step i x H' O' hi hle hr
theorem aN {P : Program} {lab n i : Nat} {R : Nat → Value → Heap → Own → Prop} {x : Value} {eqs : List (List Value × List Value)} {H : Heap} {O : Own} {Q : Value → Heap → Own → Prop} (he : Eqs eqs) (hi : i < n) (hr : R (i + 1) x H O) :
  (Tree.cont lab (FJ (IY n R) (MY n) (n - i)) [x, iV ((i + 1 : Nat) : Int)] eqs).den P Q H O := by
 refine dV he ⟨i + 1, x, rfl, hi, hr⟩ ?_
 show n - ((i + 1 : Nat) : Int).toNat < n - i
 simp; omega
theorem y9 {α : Type} [BEq α] [LawfulBEq α] {l : List α} {i : Nat} (h : i < l.length) (n : α) : (l.take (i + 1)).count n = (l.take i).count n + (if l[i] == n then 1 else 0) := by
 rw [List.take_add_one, List.getElem?_eq_getElem h, Option.toList_some, List.count_append, List.count_singleton]
theorem gi {H : Heap} {O : Own} {v : Value} {l : List Int} (h : RSl H O 1 v (aO l)) (n : Int) : RetO PP jW [v, iV n] H O (iV ((l.count n : Nat) : Int)) := by
 refine oV (vs := [v, iV n]) (by kernel_rfl) ⟨h.one, rfl, trivial⟩ ?_
 simp only [gz]
 have hlen := h.len
 rw [aO, List.length_map] at hlen
 have hB := h.lenB
 simp only [aO, List.length_map] at hB
 refine dq l.length (fun i x H' O' => O' = O ∧ Heap.le H H' ∧ x = iV (((l.take i).count n : Nat) : Int)) ⟨rfl, Heap.le_refl H, by simp⟩ ?_
 rintro i x H' O' hi - ⟨rfl, hle, rfl⟩
 have hci : (l.take i).count n ≤ i := Nat.le_trans List.count_le_length (by simp; omega)
 refine ab _ hlen (ab _ (aB _ _) (ak (fun hb => ?_) (fun hb => ?_)))
 ·have hlt : i < l.length := by simpa using hb
  obtain ⟨a, h1, h2, _, h3, h4⟩ := (h.le hle).idx .i64 i [iV l[i]] (by simp [aO, hlt])
  refine ab _ h1 (ap h2 h3 h4 (ab _ (aF _ _) (ak (fun hb => ?_) (fun hb => ?_))))
  ·refine ab _ (ax (by omega)) (ab _ (ax (by omega)) (aN (by simp [Eqs]) hlt ⟨rfl, hle, ?_⟩))
   rw [y9 hlt, hb]; rfl
  ·refine ab _ (ax (by omega)) (aN (by simp [Eqs]) hlt ⟨rfl, hle, ?_⟩)
   rw [y9 hlt, hb]; rfl
 ·have : l.length ≤ i := by simpa using hb
  refine ah ⟨?_, rfl⟩
  rw [List.take_of_length_le this]; rfl
def gI (b : Bd) (id : Int) : Int := ib (fun o => o.id == id) b.objs 0
theorem w9 {H : Heap} {O : Own} {v : d8} {b : Bd} (h : BdR H O v b) (id : Int) : RetO PP jV [.agg (ay v b).toArray, iV id] H O (iV (gI b id)) := by
 refine oU (vs := ay v b ++ [iV id]) (by kernel_rfl) (aP (au h) ⟨rfl, trivial⟩) ?_
 simp only [gy]
 have lo := h.objs.len
 have hB := h.objs.lenB
 rw [List.length_map] at lo hB
 refine ai fun r0 => aR b.objs.length (fun i H' O' => O' = O ∧ Heap.le H H' ∧ gI b id = ib (fun o => o.id == id) (b.objs.drop i) i) ⟨rfl, Heap.le_refl H, by simp [gI]⟩ ?_
 rintro i H' O' hi - ⟨rfl, hle, hor⟩
 refine ae (ab _ lo (ab _ (aB _ _) (ak (fun hb => ?_) (fun hb => ?_))))
 ·have hlt : i < b.objs.length := by simpa using hb
  obtain ⟨a, h1, h2, h5, h3, h4⟩ := (h.objs.le hle).idx .i64 i (Ob.row b.objs[i]) (by simp [hlt])
  have hr : Reads H' O' (.pointer (some a)) 1 [iV b.objs[i].id] := by
   have := h5 0 1 (by omega)
   have e : bc (.pointer (some a)) 0 = .pointer (some a) := by simp [bc, Addr.add]
   rwa [e] at this
  refine ae (ab _ h1 (aL rfl (ap hr rfl ⟨rfl, trivial⟩ (ab _ (aF _ _) (ak (fun hb => ?_) (fun hb => ?_))))))
  ·refine ah ⟨?_, rfl⟩
   rw [hor, List.drop_eq_getElem_cons hlt, ib, if_pos hb]; rfl
  ·refine ab _ (ax (by omega)) (aK (by simp [Eqs]) hlt ⟨rfl, hle, ?_⟩)
   rw [hor, List.drop_eq_getElem_cons hlt, ib, if_neg (by rw [hb]; simp)]; rfl
 ·have hge : b.objs.length ≤ i := by simpa using hb
  refine ah ⟨?_, rfl⟩
  rw [hor, List.drop_of_length_le hge]; rfl
theorem IS {H : Heap} {O : Own} {row : List Value} {x : It} (h : ItR H O row x) (q : Bool) : RetO PP lu [.agg row.toArray, .bool q] H O (.bool (ct x q)) := by
 obtain ⟨s, rfl, hs⟩ := h
 refine pP (vs := [iV x.player, iV x.id, iV x.card, iV x.trig, s, .bool q]) (by kernel_rfl) ⟨rfl, rfl, rfl, rfl, hs.one, rfl, trivial⟩ ?_
 simp only [gY]
 have lt := hs.len
 have hB := hs.lenB
 rw [List.length_map] at lt hB
 have e4 : ∀ {k : Value → Tree} {Q : Value → Heap → Own → Prop} {H' : Heap} {O' : Own}, (k (iV x.tgs.length)).den PP Q H' O' → (Tree.pure [] .len [g [iV x.player, iV x.id, iV x.card, iV x.trig, s, Value.bool q] 4] k).den PP Q H' O' := fun hk => ab _ lt hk
 repeat (first | refine ae ?_ | refine af ?_ | refine ai fun _ => ?_ | refine ab _ (aB _ _) ?_ | refine ab _ (cR _ _) ?_ | refine ab _ (ef _ _) ?_ | refine ab _ (dS _ _) ?_ | refine ab _ (aF _ _) ?_ | refine ab _ (aX _ _) ?_ | refine ab _ (bE _ _) ?_ | refine ab _ (aA _ _) ?_ | refine ab _ (az _) ?_ | refine ab _ (su _ _) ?_ | refine ab _ (nQ _ _) ?_)
 refine e4 ?_
 refine af (ab _ (aB _ _) (af (ab _ (aA _ _) ?_)))
 have fiff : ct x q = true ↔ (0 ≤ x.player ∧ x.player ≤ 1) ∧ (1 ≤ x.id ∧ x.id ≤ 500) ∧ (0 ≤ x.card ∧ x.card ≤ 399) ∧ (-1 ≤ x.trig ∧ x.trig ≤ 1) ∧ (x.tgs.length ≤ 4 ∧ ¬ (0 ≤ x.trig ∧ 0 < x.tgs.length) ∧ ¬ (q = true ∧ x.trig < 0)) ∧ (x.tgs.any fun t => !d6 t) = false := by
  simp only [ct, aq, Bool.and_eq_true, Bool.not_eq_true', Bool.or_eq_false_iff, Bool.and_eq_false_iff, decide_eq_true_eq, decide_eq_false_iff_not]
  generalize (x.tgs.any fun t => !d6 t) = c
  cases q <;> simp only [Bool.false_eq_true, false_and, true_and, not_false_eq_true, and_true, reduceCtorEq, or_false, false_or, true_or] <;> constructor <;> intro e <;> (try obtain ⟨e1, e2, e3, e4, e5, e6⟩ := e) <;> (try refine ⟨?_, ?_, ?_, ?_, ?_, ?_⟩) <;> first | omega | assumption
 refine ak (fun h1 => ah ⟨CR ?_, rfl⟩) (fun h1 => ?_)
 ·rw [fiff]
  simp only [Bool.or_eq_true, decide_eq_true_eq] at h1
  refine ⟨fun e => (by cases e), fun ⟨e1, e2, e3, e4, e5, e6⟩ => ?_⟩
  omega
 simp only [Bool.or_eq_false_iff, decide_eq_false_iff_not] at h1
 refine ae (ab _ (ef _ _) (ae (af (af ?_))))
 refine e4 ?_
 refine af (ab _ (aB _ _) (af (ab _ (bE _ _) (af (ae (af (af (af (af (ab _ (aB _ _) (af (af (af (ab _ (bE _ _) (af (ab _ (aA _ _) ?_))))))))))))))))
 refine ak (fun h2 => ah ⟨CR ?_, rfl⟩) (fun h2 => ?_)
 ·rw [fiff]
  simp only [Bool.or_eq_true, Bool.and_eq_true, decide_eq_true_eq] at h2
  refine ⟨fun e => (by cases e), fun ⟨e1, e2, e3, e4, ⟨e5, e6, e7⟩, e8⟩ => ?_⟩
  rcases h2 with h2 | h2
  ·omega
  ·exact absurd h2 e7
 simp only [Bool.or_eq_false_iff, Bool.and_eq_false_iff, decide_eq_false_iff_not] at h2
 have hfin : (Value.bool (!(x.tgs.any fun t => !d6 t)) : Value) = .bool (ct x q) := by
  refine CR ?_
  rw [fiff, Bool.not_eq_true']
  refine ⟨fun e => ⟨by omega, by omega, by omega, by omega, ⟨by omega, by omega, fun e' => ?_⟩, e⟩, fun e => e.2.2.2.2.2⟩
  rcases h2.2 with h3 | h3
  ·rw [h3] at e'; cases e'.1
  ·exact h3 e'.2
 refine aR x.tgs.length (fun i H' O' => O' = O ∧ Heap.le H H' ∧ (x.tgs.any fun t => !d6 t) = ((x.tgs.drop i).any fun t => !d6 t)) ⟨rfl, Heap.le_refl H, rfl⟩ ?_
 rintro i H' O' hi - ⟨rfl, hle, hor⟩
 refine ae (e4 (ab _ (aB _ _) (ak (fun hb => ?_) (fun hb => ?_))))
 ·have hlt : i < x.tgs.length := by simpa using hb
  obtain ⟨a, k1, k2, _, k3, k4⟩ := (hs.le hle).idx .i64 i (Tg.row x.tgs[i]) (by simp [hlt])
  refine ae (ab _ k1 (ap k2 k3 k4 ?_))
  repeat (first | refine ae ?_ | refine af ?_ | refine ai fun _ => ?_ | refine ab _ (aB _ _) ?_ | refine ab _ (cR _ _) ?_ | refine ab _ (ef _ _) ?_ | refine ab _ (dS _ _) ?_ | refine ab _ (aF _ _) ?_ | refine ab _ (aX _ _) ?_ | refine ab _ (bE _ _) ?_ | refine ab _ (aA _ _) ?_ | refine ab _ (az _) ?_ | refine ab _ (su _ _) ?_ | refine ab _ (nQ _ _) ?_)
  have hst : ((x.tgs.drop i).any fun t => !d6 t) = (!d6 x.tgs[i] || ((x.tgs.drop (i + 1)).any fun t => !d6 t)) := by rw [List.drop_eq_getElem_cons hlt, List.any_cons]
  refine ak (fun hb => ah ⟨?_, rfl⟩) (fun hb => ?_)
  ·have : d6 x.tgs[i] = false := by simp [d6, aq] at hb ⊢; omega
   rw [← hfin, hor, hst, this]; rfl
  ·have : d6 x.tgs[i] = true := by simp [d6, aq] at hb ⊢; omega
   refine ab _ (ax (by omega)) (aK (by simp [Eqs]) hlt ⟨rfl, hle, ?_⟩)
   rw [hor, hst, this]; rfl
 ·have hge : x.tgs.length ≤ i := by simpa using hb
  refine ah ⟨?_, rfl⟩
  rw [← hfin, hor, List.drop_of_length_le hge]; rfl
end Go.Proofs.YtieaihgbjikggaaGreat
namespace Go.Proofs.YtieaihgbjikggaaGreat
open Go Go.Sx
set_option maxRecDepth 100000
set_option maxHeartbeats 1000000
def Kq (s : St) : Prop := s.lib.length ≤ 100000 ∧ s.hand.length ≤ 100000 ∧ s.field.length ≤ 100000 ∧ s.grave.length ≤ 100000
def FB (b : Bd) : Prop := Kq b.s0 ∧ Kq b.s1 ∧ b.stack.length ≤ 100000
def iw (p id : Int) (x : It) : Bool := (x.trig == -1 && x.id == id) && x.player == p
def pj (s : St) (id : Int) : Nat := ((s.lib.count id + s.hand.count id) + s.field.count id) + s.grave.count id
def pY (b : Bd) (p id : Int) : Nat := (if p = 0 then pj b.s0 id else pj b.s1 id) + b.stack.countP (iw p id)
theorem jb {α : Type} {l : List α} {i : Nat} (h : i < l.length) (p : α → Bool) : (l.take (i + 1)).countP p = (l.take i).countP p + (if p l[i] then 1 else 0) := by
 rw [List.take_add_one, List.getElem?_eq_getElem h, Option.toList_some, List.countP_append, List.countP_singleton]
theorem Bw {n : Nat} (h : n < 2 ^ 63) : al (.bin .add .int) [iV 0, iV (n : Int)] = some (iV (n : Int)) := by
 have := gp (i := 0) (n := n) (by omega)
 simpa using this
theorem HX {H : Heap} {O : Own} {v : d8} {b : Bd} (h : BdR H O v b) (hfit : FB b) {p : Int} (hp : p = 0 ∨ p = 1) (id : Int) :
  RetO PP jx [.agg (ay v b).toArray, iV p, iV id] H O (iV ((pY b p id : Nat) : Int)) := by
 refine nw (vs := ay v b ++ [iV p, iV id]) (by kernel_rfl) (aP (au h) ⟨rfl, rfl, trivial⟩) ?_
 simp only [fJ]
 obtain ⟨⟨f1, f2, f3, f4⟩, ⟨f5, f6, f7, f8⟩, f9⟩ := hfit
 refine ai fun r0 => ?_
 have e38 : g (ay v b ++ [iV p, iV id]) 38 = iV p := rfl
 rw [e38]
 rcases hp with rfl | rfl
 ·refine ⟨.i64, 0, rfl, fun _ => ?_, fun e => absurd rfl e⟩
  obtain ⟨z1, z2, z3, z4⟩ := fq h.s0
  have c1 : b.s0.lib.count id ≤ b.s0.lib.length := List.count_le_length
  have c2 : b.s0.hand.count id ≤ b.s0.hand.length := List.count_le_length
  have c3 : b.s0.field.count id ≤ b.s0.field.length := List.count_le_length
  have c4 : b.s0.grave.count id ≤ b.s0.grave.length := List.count_le_length
  refine ae (aj (me b.s0 z1 z2 z3 z4 H O) rfl ⟨z1, z2, z3, z4, trivial⟩ fun H1 l1 => ?_)
  replace h := h.le l1
  refine aj (gi h.s0.lib id) rfl ⟨rfl, trivial⟩ fun H2 l2 => ab _ (Bw (by omega)) ?_
  replace h := h.le l2
  refine aj (gi h.s0.hand id) rfl ⟨rfl, trivial⟩ fun H3 l3 => ab _ (gp (by omega)) ?_
  replace h := h.le l3
  refine aj (gi h.s0.field id) rfl ⟨rfl, trivial⟩ fun H4 l4 => ab _ (gp (by omega)) ?_
  replace h := h.le l4
  refine aj (gi h.s0.grave id) rfl ⟨rfl, trivial⟩ fun H5 l5 => ab _ (gp (by omega)) ?_
  replace h := h.le l5
  have hz : ((b.s0.lib.count id + b.s0.hand.count id) + b.s0.field.count id) + b.s0.grave.count id = pj b.s0 id := rfl
  have hzb : pj b.s0 id ≤ 400000 := by unfold pj; omega
  rw [hz]
  obtain ⟨rows, hrs, hrl, hit⟩ := h.stack
  have hsl : al .len [v.s] = some (iV b.stack.length) := ItsR.len h.stack
  refine dq b.stack.length (fun i x H' O' => O' = O ∧ Heap.le H5 H' ∧ x = iV ((pj b.s0 id + (b.stack.take i).countP (iw 0 id) : Nat) : Int)) ⟨rfl, Heap.le_refl _, by simp⟩ ?_
  rintro i x H' O' hi - ⟨rfl, hle, rfl⟩
  have hci : (b.stack.take i).countP (iw 0 id) ≤ i := Nat.le_trans List.countP_le_length (by simp; omega)
  refine ae (ab _ hsl (ab _ (aB _ _) (ak (fun hb => ?_) (fun hb => ?_))))
  ·have hlt : i < b.stack.length := by simpa using hb
   obtain ⟨a, h1, h2, _, h3, h4⟩ := (hrs.le hle).idx .i64 i rows[i] (by simp [hrl, hlt])
   obtain ⟨s, hrow, _⟩ := hit i rows[i] b.stack[i] (by simp [hrl, hlt]) (by simp [hlt])
   rw [hrow] at h2 h3 h4
   refine ae (ab _ h1 (ap h2 h3 h4 ?_))
   refine ai fun _ => ae (ae (ab _ (aF _ _) (ae (af (af (af (ab _ (aF _ _) (af (ab _ (bE _ _) (ae (af (af (af (ab _ (aF _ _) (af (ab _ (bE _ _) ?_))))))))))))))))
   refine ak (fun hb => ?_) (fun hb => ?_)
   ·refine ab _ (ax (by omega)) (ab _ (ax (by omega)) (aN (by simp [Eqs]) hlt ⟨rfl, hle, ?_⟩))
    have : iw 0 id b.stack[i] = true := hb
    rw [jb hlt, this]; rfl
   ·refine ab _ (ax (by omega)) (aN (by simp [Eqs]) hlt ⟨rfl, hle, ?_⟩)
    have : iw 0 id b.stack[i] = false := hb
    rw [jb hlt, this]; rfl
  ·have : b.stack.length ≤ i := by simpa using hb
   refine ah ⟨?_, rfl⟩
   rw [List.take_of_length_le this]; rfl
 ·refine ⟨.i64, 1, rfl, fun e => absurd e (by omega), fun _ => ⟨.i64, 1, rfl, fun _ => ?_, fun e => absurd rfl e⟩⟩
  obtain ⟨z1, z2, z3, z4⟩ := fq h.s1
  have c1 : b.s1.lib.count id ≤ b.s1.lib.length := List.count_le_length
  have c2 : b.s1.hand.count id ≤ b.s1.hand.length := List.count_le_length
  have c3 : b.s1.field.count id ≤ b.s1.field.length := List.count_le_length
  have c4 : b.s1.grave.count id ≤ b.s1.grave.length := List.count_le_length
  refine ae (aj (me b.s1 z1 z2 z3 z4 H O) rfl ⟨z1, z2, z3, z4, trivial⟩ fun H1 l1 => ?_)
  replace h := h.le l1
  refine aj (gi h.s1.lib id) rfl ⟨rfl, trivial⟩ fun H2 l2 => ab _ (Bw (by omega)) ?_
  replace h := h.le l2
  refine aj (gi h.s1.hand id) rfl ⟨rfl, trivial⟩ fun H3 l3 => ab _ (gp (by omega)) ?_
  replace h := h.le l3
  refine aj (gi h.s1.field id) rfl ⟨rfl, trivial⟩ fun H4 l4 => ab _ (gp (by omega)) ?_
  replace h := h.le l4
  refine aj (gi h.s1.grave id) rfl ⟨rfl, trivial⟩ fun H5 l5 => ab _ (gp (by omega)) ?_
  replace h := h.le l5
  have hz : ((b.s1.lib.count id + b.s1.hand.count id) + b.s1.field.count id) + b.s1.grave.count id = pj b.s1 id := rfl
  have hzb : pj b.s1 id ≤ 400000 := by unfold pj; omega
  rw [hz]
  obtain ⟨rows, hrs, hrl, hit⟩ := h.stack
  have hsl : al .len [v.s] = some (iV b.stack.length) := ItsR.len h.stack
  refine dq b.stack.length (fun i x H' O' => O' = O ∧ Heap.le H5 H' ∧ x = iV ((pj b.s1 id + (b.stack.take i).countP (iw 1 id) : Nat) : Int)) ⟨rfl, Heap.le_refl _, by simp⟩ ?_
  rintro i x H' O' hi - ⟨rfl, hle, rfl⟩
  have hci : (b.stack.take i).countP (iw 1 id) ≤ i := Nat.le_trans List.countP_le_length (by simp; omega)
  refine ae (ab _ hsl (ab _ (aB _ _) (ak (fun hb => ?_) (fun hb => ?_))))
  ·have hlt : i < b.stack.length := by simpa using hb
   obtain ⟨a, h1, h2, _, h3, h4⟩ := (hrs.le hle).idx .i64 i rows[i] (by simp [hrl, hlt])
   obtain ⟨s, hrow, _⟩ := hit i rows[i] b.stack[i] (by simp [hrl, hlt]) (by simp [hlt])
   rw [hrow] at h2 h3 h4
   refine ae (ab _ h1 (ap h2 h3 h4 ?_))
   refine ai fun _ => ae (ae (ab _ (aF _ _) (ae (af (af (af (ab _ (aF _ _) (af (ab _ (bE _ _) (ae (af (af (af (ab _ (aF _ _) (af (ab _ (bE _ _) ?_))))))))))))))))
   refine ak (fun hb => ?_) (fun hb => ?_)
   ·refine ab _ (ax (by omega)) (ab _ (ax (by omega)) (aN (by simp [Eqs]) hlt ⟨rfl, hle, ?_⟩))
    have : iw 1 id b.stack[i] = true := hb
    rw [jb hlt, this]; rfl
   ·refine ab _ (ax (by omega)) (aN (by simp [Eqs]) hlt ⟨rfl, hle, ?_⟩)
    have : iw 1 id b.stack[i] = false := hb
    rw [jb hlt, this]; rfl
  ·have : b.stack.length ≤ i := by simpa using hb
   refine ah ⟨?_, rfl⟩
   rw [List.take_of_length_le this]; rfl
end Go.Proofs.YtieaihgbjikggaaGreat
namespace Go.Proofs.YtieaihgbjikggaaGreat
open Go Go.Sx
set_option maxRecDepth 100000
set_option maxHeartbeats 1000000
theorem kS {α : Type} (p : α → Bool) : ∀ (l : List α) (i : Int), 0 ≤ i → (ib p l i = -1 ∧ ∀ x ∈ l, p x = false) ∨ ∃ (k : Nat) (x : α), l[k]? = some x ∧ p x = true ∧ ib p l i = i + k
 | [], i, _ => .inl ⟨rfl, by simp⟩
 | a :: l, i, h => by
  simp only [ib]
  by_cases hp : p a = true
  ·right; exact ⟨0, a, rfl, hp, by rw [if_pos hp]; simp⟩
  ·rw [if_neg hp]
   rcases kS p l (i + 1) (by omega) with ⟨h1, h2⟩ | ⟨k, x, h1, h2, h3⟩
   ·left
    refine ⟨h1, fun x hx => ?_⟩
    rcases List.mem_cons.1 hx with rfl | hx
    ·simpa using hp
    ·exact h2 x hx
   ·right; exact ⟨k + 1, x, by simpa using h1, h2, by rw [h3]; omega⟩
def qv (b : Bd) (i : Int) : Int := (b.objs[i.toNat]?.map (·.card)).getD 0
def lH (b : Bd) (x : It) : Bool := decide (x.trig ≥ 0) || !(decide (gI b x.id < 0) || (qv b (gI b x.id) != x.card))
def oI (x : It) : Bool := !decide (x.trig ≥ 0)
def AN (b : Bd) : Nat := b.s0.lib.length + b.s0.hand.length + b.s0.field.length + b.s0.grave.length + b.s1.lib.length + b.s1.hand.length + b.s1.field.length + b.s1.grave.length
def mf (b : Bd) : Option Int → List Ob → Bool
 | _, [] => true
 | prev, o :: r => (!(!ba o || ip prev o.id) && (((pY b o.owner o.id : Nat) : Int) == 1)) && mf b (some o.id) r
def rD (b : Bd) : Bool := b.stack.all (lH b) && (mf b none b.objs && (((AN b + b.stack.countP oI : Nat) : Int) == (b.objs.length : Int)))
theorem lG {o : Ob} (h : ba o = true) : o.owner = 0 ∨ o.owner = 1 := ((mL o).1 h).2.2.2.2.2.2
theorem Jw {H : Heap} {O : Own} {v : d8} {b : Bd} (h : BdR H O v b) (hfit : FB b) : RetO PP jS [.agg (ay v b).toArray] H O (.bool (rD b)) := by
 refine oR (vs := ay v b) (by kernel_rfl) (au h) ?_
 simp only [gv]
 have hfit' := hfit
 obtain ⟨⟨f1, f2, f3, f4⟩, ⟨f5, f6, f7, f8⟩, f9⟩ := hfit
 have len1 : ∀ {H' : Heap} {O' : Own} {w : Value} {l : List Int}, RSl H' O' 1 w (aO l) → al .len [w] = some (iV l.length) := fun h => by have := h.len; rwa [aO, List.length_map] at this
 obtain ⟨z1, z2, z3, z4⟩ := fq h.s0
 obtain ⟨z5, z6, z7, z8⟩ := fq h.s1
 refine ai fun r0 => ae (aj (me b.s0 z1 z2 z3 z4 H O) rfl ⟨z1, z2, z3, z4, trivial⟩ fun H1 l1 => ?_)
 replace h := h.le l1
 refine ab _ (len1 h.s0.lib) (ab _ (Bw (by omega)) (ab _ (len1 h.s0.hand) (ab _ (gp (by omega)) (ab _ (len1 h.s0.field) (ab _ (gp (by omega)) (ab _ (len1 h.s0.grave) (ab _ (gp (by omega)) ?_)))))))
 refine ae (aj (me b.s1 z5 z6 z7 z8 H1 O) rfl ⟨z5, z6, z7, z8, trivial⟩ fun H2 l2 => ?_)
 replace h := h.le l2
 refine ab _ (len1 h.s1.lib) (ab _ (gp (by omega)) (ab _ (len1 h.s1.hand) (ab _ (gp (by omega)) (ab _ (len1 h.s1.field) (ab _ (gp (by omega)) (ab _ (len1 h.s1.grave) (ab _ (gp (by omega)) ?_)))))))
 have hz : b.s0.lib.length + b.s0.hand.length + b.s0.field.length + b.s0.grave.length + b.s1.lib.length + b.s1.hand.length + b.s1.field.length + b.s1.grave.length = AN b := rfl
 have hzb : AN b ≤ 800000 := by unfold AN; omega
 rw [hz]
 have hsl : al .len [v.s] = some (iV b.stack.length) := ItsR.len h.stack
 have stk := h.stack
 obtain ⟨rows, hrs, hrl, hit⟩ := stk
 have lo := h.objs.len
 have lob := h.objs.lenB
 rw [List.length_map] at lo lob
 refine dq b.stack.length (fun i x H' O' => O' = O ∧ Heap.le H2 H' ∧ x = iV ((AN b + (b.stack.take i).countP oI : Nat) : Int) ∧ b.stack.all (lH b) = (b.stack.drop i).all (lH b)) ⟨rfl, Heap.le_refl _, by simp, rfl⟩ ?_
 rintro i x H' O' hi - ⟨rfl, hle, rfl, hor⟩
 have hci : (b.stack.take i).countP oI ≤ i := Nat.le_trans List.countP_le_length (by simp; omega)
 refine ae (ab _ hsl (ab _ (aB _ _) (ak (fun hb => ?_) (fun hb => ?_))))
 ·have hlt : i < b.stack.length := by simpa using hb
  obtain ⟨a, h1, h2, _, h3, h4⟩ := (hrs.le hle).idx .i64 i rows[i] (by simp [hrl, hlt])
  obtain ⟨s, hrow, _⟩ := hit i rows[i] b.stack[i] (by simp [hrl, hlt]) (by simp [hlt])
  rw [hrow] at h2 h3 h4
  have hst : (b.stack.drop i).all (lH b) = (lH b b.stack[i] && (b.stack.drop (i + 1)).all (lH b)) := by rw [List.drop_eq_getElem_cons hlt, List.all_cons]
  refine ae (ab _ h1 (ap h2 h3 h4 ?_))
  refine ai fun _ => ae (ae (ab _ (ef _ _) ?_))
  refine ak (fun hb => ?_) (fun hb => ?_)
  ·refine ab _ (ax (by omega)) (aN (by simp [Eqs]) hlt ⟨rfl, hle, ?_, ?_⟩)
   ·have : oI b.stack[i] = false := by simp only [oI, hb, Bool.not_true]
    rw [jb hlt, this]; rfl
   ·rw [hor, hst]
    have : lH b b.stack[i] = true := by simp only [lH, hb, Bool.true_or]
    rw [this, Bool.true_and]
  ·refine ab _ (ax (by omega)) (ae (ae (aj (w9 (h.le hle) b.stack[i].id) rfl ⟨rfl, trivial⟩ fun H3 l3 => ab _ (aB _ _) ?_)))
   refine ae (af (af (af ?_)))
   have hpv : ∃ pv : Value, pv.oneCell' = true ∧ (¬ (gI b b.stack[i].id < 0) → al (.idx 12) [v.o, iV (gI b b.stack[i].id)] = some pv ∧ yV pv = true ∧ Reads H3 O' (bc pv 1) 1 [iV (qv b (gI b b.stack[i].id))]) := by
    rcases kS (fun o => o.id == b.stack[i].id) b.objs 0 (by omega) with ⟨e, _⟩ | ⟨k, o, e1, _, e3⟩
    ·refine ⟨iV 0, rfl, fun hn => ?_⟩
     exfalso; apply hn
     show gI b b.stack[i].id < 0
     unfold gI; omega
    ·have e3 : gI b b.stack[i].id = (k : Int) := by unfold gI; omega
     obtain ⟨a, k1, k2, k3, _⟩ := ((h.objs.le (Heap.le_trans hle l3))).idx .i64 k (Ob.row o) (by rw [List.getElem?_map, e1]; rfl)
     refine ⟨.pointer (some a), rfl, fun _ => ⟨by rw [e3]; exact k1, rfl, ?_⟩⟩
     have := k3 1 1 (by omega)
     rw [e3]
     have ec : qv b (k : Int) = o.card := by simp [qv, e1]
     rw [ec]; exact this
   obtain ⟨pv, hpone, hpv⟩ := hpv
   have hon : On [((.bool (decide (gI b b.stack[i].id < 0)) : Value), false)] → ¬ (gI b b.stack[i].id < 0) := fun h => by
    have := h.1
    simp at this
    omega
   refine ⟨pv, fun ho => (hpv (hon ho)).1, .inr hpone, ?_⟩
   refine ⟨fun ho => (hpv (hon ho)).2.1, ?_⟩
   refine af (af ?_)
   refine ⟨[iV (qv b (gI b b.stack[i].id))], rfl, ⟨rfl, trivial⟩, fun ho => (hpv (hon ho)).2.2, ?_⟩
   refine ae (af (af (af (ab _ (aX _ _) (af (ab _ (aA _ _) ?_))))))
   have hsi : lH b b.stack[i] = !(decide (gI b b.stack[i].id < 0) || (qv b (gI b b.stack[i].id) != b.stack[i].card)) := by simp only [lH, hb, Bool.false_or]
   refine ak (fun hc => ah ⟨?_, rfl⟩) (fun hc => ?_)
   ·have : b.stack.all (lH b) = false := by rw [hor, hst, hsi, show (decide (gI b b.stack[i].id < 0) || (qv b (gI b b.stack[i].id) != b.stack[i].card)) = true from hc]; rfl
    rw [rD, this]; rfl
   ·refine ab _ (ax (by omega)) (aN (by simp [Eqs]) hlt ⟨rfl, Heap.le_trans hle l3, ?_, ?_⟩)
    ·have : oI b.stack[i] = true := by simp only [oI, hb, Bool.not_false]
     rw [jb hlt, this]; rfl
    ·rw [hor, hst, hsi, show (decide (gI b b.stack[i].id < 0) || (qv b (gI b b.stack[i].id) != b.stack[i].card)) = false from hc]; rfl
 ·have hge : b.stack.length ≤ i := by simpa using hb
  rw [List.take_of_length_le hge] at hci ⊢
  rw [List.drop_of_length_le hge] at hor
  have hfr : rD b = (mf b none b.objs && (((AN b + b.stack.countP oI : Nat) : Int) == (b.objs.length : Int))) := by rw [rD, hor]; rfl
  replace h := h.le hle
  refine aR b.objs.length (fun i H'' O'' => O'' = O' ∧ Heap.le H' H'' ∧ mf b none b.objs = mf b (kL b.objs i) (b.objs.drop i)) ⟨rfl, Heap.le_refl _, by simp [kL]⟩ ?_
  rintro j H'' O'' hj - ⟨rfl, hle2, hor2⟩
  refine ae (ab _ lo (ab _ (aB _ _) (ak (fun hb => ?_) (fun hb => ?_))))
  ·have hlt : j < b.objs.length := by simpa using hb
   obtain ⟨a, h1, h2, _, h3, h4⟩ := (h.objs.le hle2).idx .i64 j (Ob.row b.objs[j]) (by simp [hlt])
   refine ae (ab _ h1 (ap h2 h3 h4 (ai fun r2 => ae (ae (aj (yL b.objs[j] H'' O'') rfl ⟨rfl, trivial⟩ fun H4 l4 => ?_)))))
   have l4' := Heap.le_trans hle2 l4
   have hp : ∃ (pv : Value) (x : Int), pv.oneCell' = true ∧ (0 < j → al (.idx 12) [v.o, iV ((j : Int) - 1)] = some pv ∧ yV pv = true ∧ Reads H4 O'' pv 1 [iV x]) ∧ ip (kL b.objs j) b.objs[j].id = (decide ((j : Int) > 0) && decide (x ≥ b.objs[j].id)) := by
    rcases Nat.eq_zero_or_pos j with rfl | hpos
    ·exact ⟨iV 0, 0, rfl, fun h => absurd h (Nat.lt_irrefl 0), by simp [kL, ip]⟩
    ·obtain ⟨j', rfl⟩ : ∃ j', j = j' + 1 := ⟨j - 1, by omega⟩
     have hj' : j' < b.objs.length := by omega
     obtain ⟨a, k1, k2, k3, _⟩ := (h.objs.le l4').idx .i64 j' (Ob.row b.objs[j']) (by simp [hj'])
     refine ⟨.pointer (some a), b.objs[j'].id, rfl, fun _ => ⟨?_, rfl, ?_⟩, ?_⟩
     ·have e : ((j' + 1 : Nat) : Int) - 1 = (j' : Int) := by omega
      rw [e]; exact k1
     ·have := k3 0 1 (by omega)
      have e : bc (.pointer (some a)) 0 = .pointer (some a) := by simp [bc, Addr.add]
      rwa [e] at this
     ·rw [sW hj']
      have : ((j' + 1 : Nat) : Int) > 0 := by omega
      simp only [ip, this, decide_true, Bool.true_and]
   obtain ⟨pv, x, hpone, hpv, hprev⟩ := hp
   have hsub1 : al (.bin .sub .int) [iV j, iV 1] = some (iV ((j : Int) - 1)) := by
    simp only [al, fe, dP, if_true]
    rw [no (by omega) (by omega)]
   have hon : ∀ {u : Bool}, On [((.bool (decide ((j : Int) > 0)) : Value), true), (.bool u, false)] → 0 < j := fun h => by
    have := h.1
    simp at this
    omega
   refine ab _ (az _) (af (ab _ (cR _ _) ?_))
   repeat (first | refine ae ?_ | refine af ?_ | refine ab _ hsub1 ?_)
   refine ⟨pv, fun ho => (hpv (hon ho)).1, .inr hpone, ?_⟩
   refine ⟨fun ho => (hpv (hon ho)).2.1, ?_⟩
   refine af (af (af (af ?_)))
   refine ⟨[iV x], rfl, ⟨rfl, trivial⟩, fun ho => (hpv (hon ho)).2.2, ?_⟩
   refine ae (af (af (af (af (af (af (ab _ (ef _ _) (af (af (af (ab _ (bE _ _) (af (ab _ (aA _ _) ?_)))))))))))))
   have hstep : mf b (kL b.objs j) (b.objs.drop j) = ((!(!ba b.objs[j] || ip (kL b.objs j) b.objs[j].id) && (((pY b b.objs[j].owner b.objs[j].id : Nat) : Int) == 1)) && mf b (some b.objs[j].id) (b.objs.drop (j + 1))) := by
    rw [List.drop_eq_getElem_cons hlt, mf]
   refine ak (fun hc => ah ⟨?_, rfl⟩) (fun hc => ?_)
   ·rw [hfr, hor2, hstep, hprev, show (!ba b.objs[j] || (decide ((j : Int) > 0) && decide (x ≥ b.objs[j].id))) = true from hc]; rfl
   have hc' : (!ba b.objs[j] || (decide ((j : Int) > 0) && decide (x ≥ b.objs[j].id))) = false := hc
   have hval : ba b.objs[j] = true := by
    have := (Bool.or_eq_false_iff.1 hc').1
    simpa using this
   refine ae (ae (ae (aj (HX (h.le l4') hfit' (lG hval) b.objs[j].id) rfl ⟨rfl, trivial⟩ fun H5 l5 => ab _ (aX _ _) (ak (fun hd => ah ⟨?_, rfl⟩) (fun hd => ?_)))))
   ·have : (((pY b b.objs[j].owner b.objs[j].id : Nat) : Int) == 1) = false := by simpa using hd
    rw [hfr, hor2, hstep, this]; simp
   ·have : (((pY b b.objs[j].owner b.objs[j].id : Nat) : Int) == 1) = true := by simpa using hd
    refine ab _ (ax (by omega)) (aK (by simp [Eqs]) hlt ⟨rfl, Heap.le_trans l4' l5, ?_⟩)
    rw [hor2, hstep, hprev, hc', this, sW hlt]; rfl
  ·have hge : b.objs.length ≤ j := by simpa using hb
   rw [List.drop_of_length_le hge] at hor2
   refine ae (ab _ lo (ab _ (aF _ _) (ah ⟨?_, rfl⟩)))
   rw [hfr, hor2]; rfl
end Go.Proofs.YtieaihgbjikggaaGreat
namespace Go.Proofs.YtieaihgbjikggaaGreat
open Go Go.Sx
set_option maxRecDepth 100000
set_option maxHeartbeats 1000000
def y0 (own att : List Int) (x : Int) : Bool := ((((att.count x : Nat) : Int) == 1) && (((own.count x : Nat) : Int) == 1))
def iS (x y : Bl) : Bool := (y.attacker == x.attacker) || (y.blocker == x.blocker)
def oL (att other : List Int) (done : List Bl) (x : Bl) : Bool := (((att.count x.attacker : Nat) : Int) == 1) && ((((other.count x.blocker : Nat) : Int) == 1) && done.all fun y => !iS x y)
def BB (att other : List Int) : List Bl → List Bl → Bool
 | _, [] => true
 | done, x :: r => oL att other done x && BB att other (done ++ [x]) r
def rg (own other att : List Int) (bl : List Bl) : Bool := att.all (y0 own att) && BB att other [] bl
def fW (b : Bd) : Bool := if b.active = 0 then rg b.s0.field b.s1.field b.att b.blocks else rg b.s1.field b.s0.field b.att b.blocks
theorem ie {l : List Int} {x : Int} {c : Bool} (h : (((l.count x : Nat) : Int) != 1) = c) : (((l.count x : Nat) : Int) == 1) = !c := by rw [← h, bne, Bool.not_not]
theorem HY {H : Heap} {O : Own} {v : d8} {b : Bd} (h : BdR H O v b) (ha : b.active = 0 ∨ b.active = 1) : RetO PP jy [.agg (ay v b).toArray] H O (.bool (fW b)) := by
 refine ny (vs := ay v b) (by kernel_rfl) (au h) ?_
 simp only [fK]
 have e34 : g (ay v b) 34 = iV b.active := rfl
 rw [e34]
 have hs : ∀ n : Int, n = 0 ∨ n = 1 → al (.bin .sub .int) [iV 1, iV n] = some (iV (1 - n)) := by
  rintro n (rfl | rfl) <;> rfl
 have la := h.att.len
 have laB := h.att.lenB
 have lb := h.blocks.len
 have lbB := h.blocks.lenB
 simp only [aO, List.length_map] at la laB lb lbB
 rcases ha with ha | ha
 ·rw [ha]
  have hF : fW b = (b.att.all (y0 b.s0.field b.att) && BB b.att b.s1.field [] b.blocks) := by simp [fW, rg, ha]
  refine ai fun r0 => aR b.att.length (fun i H' O' => O' = O ∧ Heap.le H H' ∧ b.att.all (y0 b.s0.field b.att) = (b.att.drop i).all (y0 b.s0.field b.att)) ⟨rfl, Heap.le_refl H, rfl⟩ ?_
  rintro i H' O' hi - ⟨rfl, hle, hor⟩
  refine ae (ab _ la (ab _ (aB _ _) (ak (fun hb => ?_) (fun hb => ?_))))
  ·have hlt : i < b.att.length := by simpa using hb
   have hst : (b.att.drop i).all (y0 b.s0.field b.att) = (y0 b.s0.field b.att b.att[i] && (b.att.drop (i + 1)).all (y0 b.s0.field b.att)) := by rw [List.drop_eq_getElem_cons hlt, List.all_cons]
   obtain ⟨a, h1, h2, _, h3, h4⟩ := (h.att.le hle).idx .i64 i [iV b.att[i]] (by simp [aO, hlt])
   refine ae (ae (ab _ h1 (ap h2 h3 h4 (aj (gi (h.att.le hle) b.att[i]) rfl ⟨rfl, trivial⟩ fun H1 l1 => ab _ (aX _ _) (ak (fun hc => ah ⟨?_, rfl⟩) (fun hc => ae ?_))))))
   ·rw [hF, hor, hst, y0, ie hc]; rfl
   refine ⟨.i64, 0, rfl, fun _ => ?_, fun e => absurd rfl e⟩
   have l1' := Heap.le_trans hle l1
   obtain ⟨a, h1, h2, _, h3, h4⟩ := (h.att.le l1').idx .i64 i [iV b.att[i]] (by simp [aO, hlt])
   refine ae (ae (ab _ h1 (ap h2 h3 h4 (aj (gi (h.s0.field.le l1') b.att[i]) rfl ⟨rfl, trivial⟩ fun H2 l2 => ab _ (aX _ _) (ak (fun hd => ah ⟨?_, rfl⟩) (fun hd => ?_))))))
   ·rw [hF, hor, hst, y0, ie hc, ie hd]; rfl
   ·refine ab _ (ax (by omega)) (aK (by simp [Eqs]) hlt ⟨rfl, Heap.le_trans l1' l2, ?_⟩)
    rw [hor, hst, y0, ie hc, ie hd]; rfl
  ·have hge : b.att.length ≤ i := by simpa using hb
   rw [List.drop_of_length_le hge] at hor
   have hF2 : fW b = BB b.att b.s1.field [] b.blocks := by rw [hF, hor]; rfl
   refine aR b.blocks.length (fun j H'' O'' => O'' = O' ∧ Heap.le H' H'' ∧ BB b.att b.s1.field [] b.blocks = BB b.att b.s1.field (b.blocks.take j) (b.blocks.drop j)) ⟨rfl, Heap.le_refl _, rfl⟩ ?_
   rintro j H'' O'' hj - ⟨rfl, hle2, hor2⟩
   have hle2 := Heap.le_trans hle hle2
   refine ae (ab _ lb (ab _ (aB _ _) (ak (fun hb => ?_) (fun hb => ?_))))
   ·have hlt : j < b.blocks.length := by simpa using hb
    obtain ⟨a, h1, h2, _, h3, h4⟩ := (h.blocks.le hle2).idx .i64 j (Bl.row b.blocks[j]) (by simp [hlt])
    have hst : BB b.att b.s1.field (b.blocks.take j) (b.blocks.drop j) = (oL b.att b.s1.field (b.blocks.take j) b.blocks[j] && BB b.att b.s1.field (b.blocks.take (j + 1)) (b.blocks.drop (j + 1))) := by
     rw [List.drop_eq_getElem_cons hlt, BB, List.take_add_one, List.getElem?_eq_getElem hlt]; rfl
    refine ae (ab _ h1 (ap h2 h3 h4 (ai fun r1 => ae (ae (ae (aj (gi (h.att.le hle2) b.blocks[j].attacker) rfl ⟨rfl, trivial⟩ fun H1 l1 => ab _ (aX _ _) (ak (fun hc => ah ⟨?_, rfl⟩) (fun hc => ae (ab _ (hs _ (.inl rfl)) ?_)))))))))
    ·rw [hF2, hor2, hst, oL, ie hc]; rfl
    refine ⟨.i64, 1, rfl, fun e => absurd e (by omega), fun _ => ⟨.i64, 1, rfl, fun _ => ?_, fun e => absurd rfl e⟩⟩
    have l1' := Heap.le_trans hle2 l1
    refine ae (ae (aj (gi (h.s1.field.le l1') b.blocks[j].blocker) rfl ⟨rfl, trivial⟩ fun H2 l2 => ab _ (aX _ _) (ak (fun hd => ah ⟨?_, rfl⟩) (fun hd => ?_))))
    ·rw [hF2, hor2, hst, oL, ie hc, ie hd]; rfl
    have l2' := Heap.le_trans l1' l2
    have hone : oL b.att b.s1.field (b.blocks.take j) b.blocks[j] = (b.blocks.take j).all fun y => !iS b.blocks[j] y := by rw [oL, ie hc, ie hd]; rfl
    refine aR j (fun k H3 O3 => O3 = O'' ∧ Heap.le H2 H3 ∧ ((b.blocks.take j).all fun y => !iS b.blocks[j] y) = (((b.blocks.take j).drop k).all fun y => !iS b.blocks[j] y)) ⟨rfl, Heap.le_refl _, rfl⟩ ?_
    rintro k H3 O3 hk - ⟨rfl, hle3, hor3⟩
    have hle3 := Heap.le_trans l2' hle3
    refine ab _ (aB _ _) (ak (fun hb => ?_) (fun hb => ?_))
    ·have hltk : k < j := by simpa using hb
     have hltb : k < b.blocks.length := by omega
     have hst3 : (((b.blocks.take j).drop k).all fun y => !iS b.blocks[j] y) = (!iS b.blocks[j] b.blocks[k] && (((b.blocks.take j).drop (k + 1)).all fun y => !iS b.blocks[j] y)) := by
      rw [List.drop_eq_getElem_cons (by simp; omega), List.all_cons, List.getElem_take]
     obtain ⟨a, k1, _, k3, _⟩ := (h.blocks.le hle3).idx .i64 k (Bl.row b.blocks[k]) (by simp [hltb])
     have hr1 : Reads H3 O3 (bc (.pointer (some a)) 1) 1 [iV b.blocks[k].attacker] := k3 1 1 (by omega)
     have hr0 : Reads H3 O3 (.pointer (some a)) 1 [iV b.blocks[k].blocker] := by
      have := k3 0 1 (by omega)
      have e : bc (.pointer (some a)) 0 = .pointer (some a) := by simp [bc, Addr.add]
      rwa [e] at this
     refine ae (ab _ k1 (aL rfl (ap hr1 rfl ⟨rfl, trivial⟩ (ae (ab _ (aF _ _) ?_)))))
     refine ae (af (af (af ?_)))
     refine B2 k1 rfl (aL rfl ?_)
     refine af (af ?_)
     refine ⟨[iV b.blocks[k].blocker], rfl, ⟨rfl, trivial⟩, fun _ => hr0, ?_⟩
     refine ae (af (af (af (ab _ (aF _ _) (af (ab _ (aA _ _) ?_))))))
     refine ak (fun hx => ah ⟨?_, rfl⟩) (fun hx => ?_)
     ·rw [hF2, hor2, hst, hone, hor3, hst3, show iS b.blocks[j] b.blocks[k] = true from hx]; rfl
     ·refine ab _ (ax (by omega)) (aK (by simp [Eqs]) hltk ⟨rfl, Heap.le_trans (Heap.le_refl _) ?_, ?_⟩)
      ·assumption
      ·rw [hor3, hst3, show iS b.blocks[j] b.blocks[k] = false from hx]; rfl
    ·have hke : (b.blocks.take j).length ≤ k := by
      have : j ≤ k := by simpa using hb
      simp; omega
     rw [List.drop_of_length_le hke] at hor3
     refine ab _ (ax (by omega)) (aK (by simp [Eqs]) hlt ⟨rfl, ?_, ?_⟩)
     ·exact Heap.le_trans (by assumption) (Heap.le_trans l1 (Heap.le_trans l2 (by assumption)))
     ·rw [hor2, hst, hone, hor3]; rfl
   ·have hge2 : b.blocks.length ≤ j := by simpa using hb
    refine ah ⟨?_, rfl⟩
    rw [hF2, hor2, List.drop_of_length_le hge2]; rfl
 ·rw [ha]
  have hF : fW b = (b.att.all (y0 b.s1.field b.att) && BB b.att b.s0.field [] b.blocks) := by simp [fW, rg, ha]
  refine ai fun r0 => aR b.att.length (fun i H' O' => O' = O ∧ Heap.le H H' ∧ b.att.all (y0 b.s1.field b.att) = (b.att.drop i).all (y0 b.s1.field b.att)) ⟨rfl, Heap.le_refl H, rfl⟩ ?_
  rintro i H' O' hi - ⟨rfl, hle, hor⟩
  refine ae (ab _ la (ab _ (aB _ _) (ak (fun hb => ?_) (fun hb => ?_))))
  ·have hlt : i < b.att.length := by simpa using hb
   have hst : (b.att.drop i).all (y0 b.s1.field b.att) = (y0 b.s1.field b.att b.att[i] && (b.att.drop (i + 1)).all (y0 b.s1.field b.att)) := by rw [List.drop_eq_getElem_cons hlt, List.all_cons]
   obtain ⟨a, h1, h2, _, h3, h4⟩ := (h.att.le hle).idx .i64 i [iV b.att[i]] (by simp [aO, hlt])
   refine ae (ae (ab _ h1 (ap h2 h3 h4 (aj (gi (h.att.le hle) b.att[i]) rfl ⟨rfl, trivial⟩ fun H1 l1 => ab _ (aX _ _) (ak (fun hc => ah ⟨?_, rfl⟩) (fun hc => ae ?_))))))
   ·rw [hF, hor, hst, y0, ie hc]; rfl
   refine ⟨.i64, 1, rfl, fun e => absurd e (by omega), fun _ => ⟨.i64, 1, rfl, fun _ => ?_, fun e => absurd rfl e⟩⟩
   have l1' := Heap.le_trans hle l1
   obtain ⟨a, h1, h2, _, h3, h4⟩ := (h.att.le l1').idx .i64 i [iV b.att[i]] (by simp [aO, hlt])
   refine ae (ae (ab _ h1 (ap h2 h3 h4 (aj (gi (h.s1.field.le l1') b.att[i]) rfl ⟨rfl, trivial⟩ fun H2 l2 => ab _ (aX _ _) (ak (fun hd => ah ⟨?_, rfl⟩) (fun hd => ?_))))))
   ·rw [hF, hor, hst, y0, ie hc, ie hd]; rfl
   ·refine ab _ (ax (by omega)) (aK (by simp [Eqs]) hlt ⟨rfl, Heap.le_trans l1' l2, ?_⟩)
    rw [hor, hst, y0, ie hc, ie hd]; rfl
  ·have hge : b.att.length ≤ i := by simpa using hb
   rw [List.drop_of_length_le hge] at hor
   have hF2 : fW b = BB b.att b.s0.field [] b.blocks := by rw [hF, hor]; rfl
   refine aR b.blocks.length (fun j H'' O'' => O'' = O' ∧ Heap.le H' H'' ∧ BB b.att b.s0.field [] b.blocks = BB b.att b.s0.field (b.blocks.take j) (b.blocks.drop j)) ⟨rfl, Heap.le_refl _, rfl⟩ ?_
   rintro j H'' O'' hj - ⟨rfl, hle2, hor2⟩
   have hle2 := Heap.le_trans hle hle2
   refine ae (ab _ lb (ab _ (aB _ _) (ak (fun hb => ?_) (fun hb => ?_))))
   ·have hlt : j < b.blocks.length := by simpa using hb
    obtain ⟨a, h1, h2, _, h3, h4⟩ := (h.blocks.le hle2).idx .i64 j (Bl.row b.blocks[j]) (by simp [hlt])
    have hst : BB b.att b.s0.field (b.blocks.take j) (b.blocks.drop j) = (oL b.att b.s0.field (b.blocks.take j) b.blocks[j] && BB b.att b.s0.field (b.blocks.take (j + 1)) (b.blocks.drop (j + 1))) := by
     rw [List.drop_eq_getElem_cons hlt, BB, List.take_add_one, List.getElem?_eq_getElem hlt]; rfl
    refine ae (ab _ h1 (ap h2 h3 h4 (ai fun r1 => ae (ae (ae (aj (gi (h.att.le hle2) b.blocks[j].attacker) rfl ⟨rfl, trivial⟩ fun H1 l1 => ab _ (aX _ _) (ak (fun hc => ah ⟨?_, rfl⟩) (fun hc => ae (ab _ (hs _ (.inr rfl)) ?_)))))))))
    ·rw [hF2, hor2, hst, oL, ie hc]; rfl
    refine ⟨.i64, 0, rfl, fun _ => ?_, fun e => absurd rfl e⟩
    have l1' := Heap.le_trans hle2 l1
    refine ae (ae (aj (gi (h.s0.field.le l1') b.blocks[j].blocker) rfl ⟨rfl, trivial⟩ fun H2 l2 => ab _ (aX _ _) (ak (fun hd => ah ⟨?_, rfl⟩) (fun hd => ?_))))
    ·rw [hF2, hor2, hst, oL, ie hc, ie hd]; rfl
    have l2' := Heap.le_trans l1' l2
    have hone : oL b.att b.s0.field (b.blocks.take j) b.blocks[j] = (b.blocks.take j).all fun y => !iS b.blocks[j] y := by rw [oL, ie hc, ie hd]; rfl
    refine aR j (fun k H3 O3 => O3 = O'' ∧ Heap.le H2 H3 ∧ ((b.blocks.take j).all fun y => !iS b.blocks[j] y) = (((b.blocks.take j).drop k).all fun y => !iS b.blocks[j] y)) ⟨rfl, Heap.le_refl _, rfl⟩ ?_
    rintro k H3 O3 hk - ⟨rfl, hle3, hor3⟩
    have hle3 := Heap.le_trans l2' hle3
    refine ab _ (aB _ _) (ak (fun hb => ?_) (fun hb => ?_))
    ·have hltk : k < j := by simpa using hb
     have hltb : k < b.blocks.length := by omega
     have hst3 : (((b.blocks.take j).drop k).all fun y => !iS b.blocks[j] y) = (!iS b.blocks[j] b.blocks[k] && (((b.blocks.take j).drop (k + 1)).all fun y => !iS b.blocks[j] y)) := by
      rw [List.drop_eq_getElem_cons (by simp; omega), List.all_cons, List.getElem_take]
     obtain ⟨a, k1, _, k3, _⟩ := (h.blocks.le hle3).idx .i64 k (Bl.row b.blocks[k]) (by simp [hltb])
     have hr1 : Reads H3 O3 (bc (.pointer (some a)) 1) 1 [iV b.blocks[k].attacker] := k3 1 1 (by omega)
     have hr0 : Reads H3 O3 (.pointer (some a)) 1 [iV b.blocks[k].blocker] := by
      have := k3 0 1 (by omega)
      have e : bc (.pointer (some a)) 0 = .pointer (some a) := by simp [bc, Addr.add]
      rwa [e] at this
     refine ae (ab _ k1 (aL rfl (ap hr1 rfl ⟨rfl, trivial⟩ (ae (ab _ (aF _ _) ?_)))))
     refine ae (af (af (af ?_)))
     refine B2 k1 rfl (aL rfl ?_)
     refine af (af ?_)
     refine ⟨[iV b.blocks[k].blocker], rfl, ⟨rfl, trivial⟩, fun _ => hr0, ?_⟩
     refine ae (af (af (af (ab _ (aF _ _) (af (ab _ (aA _ _) ?_))))))
     refine ak (fun hx => ah ⟨?_, rfl⟩) (fun hx => ?_)
     ·rw [hF2, hor2, hst, hone, hor3, hst3, show iS b.blocks[j] b.blocks[k] = true from hx]; rfl
     ·refine ab _ (ax (by omega)) (aK (by simp [Eqs]) hltk ⟨rfl, Heap.le_trans (Heap.le_refl _) ?_, ?_⟩)
      ·assumption
      ·rw [hor3, hst3, show iS b.blocks[j] b.blocks[k] = false from hx]; rfl
    ·have hke : (b.blocks.take j).length ≤ k := by
      have : j ≤ k := by simpa using hb
      simp; omega
     rw [List.drop_of_length_le hke] at hor3
     refine ab _ (ax (by omega)) (aK (by simp [Eqs]) hlt ⟨rfl, ?_, ?_⟩)
     ·exact Heap.le_trans (by assumption) (Heap.le_trans l1 (Heap.le_trans l2 (by assumption)))
     ·rw [hor2, hst, hone, hor3]; rfl
   ·have hge2 : b.blocks.length ≤ j := by simpa using hb
    refine ah ⟨?_, rfl⟩
    rw [hF2, hor2, List.drop_of_length_le hge2]; rfl
end Go.Proofs.YtieaihgbjikggaaGreat
namespace Go.Proofs.YtieaihgbjikggaaGreat
open Go Go.Sx
set_option maxRecDepth 100000
set_option maxHeartbeats 1000000
def yP (b : Bd) : Bool := decide ((0 ≤ b.active ∧ b.active ≤ 1) ∧ (0 ≤ b.turn ∧ b.turn ≤ 1000) ∧ (0 ≤ b.phase ∧ b.phase ≤ 10) ∧ (-1 ≤ b.holder ∧ b.holder ≤ 1) ∧ (0 ≤ b.passes ∧ b.passes ≤ 2) ∧ b.objs.length ≤ 500 ∧ b.stack.length ≤ 200 ∧ b.queue.length ≤ 200)
def lY (b : Bd) : Bool := yP b && (b.stack.all (fun x => ct x false) && (b.queue.all (fun x => ct x true) && (bu b.s0 && (bu b.s1 && (rD b && fW b)))))
theorem jE {H : Heap} {O : Own} {v : d8} {b : Bd} (h : BdR H O v b) (hfit : FB b) : RetO PP jU [.agg (ay v b).toArray] H O (.bool (lY b)) := by
 refine oT (vs := ay v b) (by kernel_rfl) (au h) ?_
 simp only [gx]
 have lo := h.objs.len
 rw [List.length_map] at lo
 have ls := ItsR.len h.stack
 have lq := ItsR.len h.queue
 refine ai fun r0 => ?_
 repeat (first | refine ae ?_ | refine af ?_ | refine ai fun _ => ?_ | refine ab _ (aB _ _) ?_ | refine ab _ (cR _ _) ?_ | refine ab _ (ef _ _) ?_ | refine ab _ (dS _ _) ?_ | refine ab _ (aF _ _) ?_ | refine ab _ (aX _ _) ?_ | refine ab _ (bE _ _) ?_ | refine ab _ (aA _ _) ?_ | refine ab _ (az _) ?_ | refine ab _ (su _ _) ?_ | refine ab _ (nQ _ _) ?_)
 refine ab _ lo ?_
 refine af (ab _ (aB _ _) (af (ab _ (aA _ _) (ae (af (af ?_))))))
 refine ab _ ls ?_
 refine af (ab _ (aB _ _) (af (ab _ (aA _ _) (ae (af (af ?_))))))
 refine ab _ lq ?_
 refine af (ab _ (aB _ _) (af (ab _ (aA _ _) ?_)))
 refine ak (fun hn => ah ⟨?_, rfl⟩) (fun hn => ?_)
 ·have : yP b = false := by
   simp only [Bool.or_eq_true, decide_eq_true_eq] at hn
   simp only [yP, decide_eq_false_iff_not]
   omega
  rw [lY, this]; rfl
 have hnum : yP b = true := by
  simp only [Bool.or_eq_false_iff, decide_eq_false_iff_not] at hn
  simp only [yP, decide_eq_true_eq]
  omega
 have stk := h.stack
 obtain ⟨rows, hrs, hrl, hit⟩ := stk
 have hsB := hrs.lenB
 refine aR b.stack.length (fun i H' O' => O' = O ∧ Heap.le H H' ∧ b.stack.all (fun x => ct x false) = (b.stack.drop i).all (fun x => ct x false)) ⟨rfl, Heap.le_refl H, rfl⟩ ?_
 rintro i H' O' hi - ⟨rfl, hle, hor⟩
 refine ae (ab _ ls (ab _ (aB _ _) (ak (fun hb => ?_) (fun hb => ?_))))
 ·have hlt : i < b.stack.length := by simpa using hb
  obtain ⟨a, h1, h2, _, h3, h4⟩ := (hrs.le hle).idx .i64 i rows[i] (by simp [hrl, hlt])
  have hI := (hit i rows[i] b.stack[i] (by simp [hrl, hlt]) (by simp [hlt])).le hle
  obtain ⟨s, hrow, hs⟩ := hI
  rw [hrow] at h2 h3 h4
  have hst : (b.stack.drop i).all (fun x => ct x false) = (ct b.stack[i] false && (b.stack.drop (i + 1)).all (fun x => ct x false)) := by rw [List.drop_eq_getElem_cons hlt, List.all_cons]
  refine ae (ab _ h1 (ap h2 h3 h4 (aj (IS ⟨s, rfl, hs⟩ false) rfl ⟨rfl, trivial⟩ fun H1 l1 => ab _ (az _) (ak (fun hc => ah ⟨?_, rfl⟩) (fun hc => ?_)))))
  ·rw [lY, hor, hst, yC hc]; simp
  ·refine ab _ (ax (by omega)) (aK (by simp [Eqs]) hlt ⟨rfl, Heap.le_trans hle l1, ?_⟩)
   rw [hor, hst, rX hc]; rfl
 ·have hge : b.stack.length ≤ i := by simpa using hb
  rw [List.drop_of_length_le hge] at hor
  have hall : b.stack.all (fun x => ct x false) = true := by rw [hor]; rfl
  have que := h.queue
  obtain ⟨rows2, hrs2, hrl2, hit2⟩ := que
  have hqB := hrs2.lenB
  refine aR b.queue.length (fun j H'' O'' => O'' = O' ∧ Heap.le H' H'' ∧ b.queue.all (fun x => ct x true) = (b.queue.drop j).all (fun x => ct x true)) ⟨rfl, Heap.le_refl _, rfl⟩ ?_
  rintro j H'' O'' hj - ⟨rfl, hle2, hor2⟩
  have hle2 := Heap.le_trans hle hle2
  refine ae (ab _ lq (ab _ (aB _ _) (ak (fun hb => ?_) (fun hb => ?_))))
  ·have hlt : j < b.queue.length := by simpa using hb
   obtain ⟨a, h1, h2, _, h3, h4⟩ := (hrs2.le hle2).idx .i64 j rows2[j] (by simp [hrl2, hlt])
   have hI := (hit2 j rows2[j] b.queue[j] (by simp [hrl2, hlt]) (by simp [hlt])).le hle2
   obtain ⟨s, hrow, hs⟩ := hI
   rw [hrow] at h2 h3 h4
   have hst : (b.queue.drop j).all (fun x => ct x true) = (ct b.queue[j] true && (b.queue.drop (j + 1)).all (fun x => ct x true)) := by rw [List.drop_eq_getElem_cons hlt, List.all_cons]
   refine ae (ab _ h1 (ap h2 h3 h4 (aj (IS ⟨s, rfl, hs⟩ true) rfl ⟨rfl, trivial⟩ fun H1 l1 => ab _ (az _) (ak (fun hc => ah ⟨?_, rfl⟩) (fun hc => ?_)))))
   ·rw [lY, hor2, hst, yC hc]; simp
   ·refine ab _ (ax (by omega)) (aK (by simp [Eqs]) hlt ⟨rfl, ?_, ?_⟩)
    ·exact Heap.le_trans (by assumption) l1
    ·rw [hor2, hst, rX hc]; rfl
  ·have hge2 : b.queue.length ≤ j := by simpa using hb
   rw [List.drop_of_length_le hge2] at hor2
   have hall2 : b.queue.all (fun x => ct x true) = true := by rw [hor2]; rfl
   have hF : lY b = (bu b.s0 && (bu b.s1 && (rD b && fW b))) := by rw [lY, hnum, hall, hall2]; rfl
   replace h := h.le hle2
   obtain ⟨z1, z2, z3, z4⟩ := fq h.s0
   obtain ⟨z5, z6, z7, z8⟩ := fq h.s1
   refine ae (aj (IQ b.s0 z1 z2 z3 z4 H'' O'') rfl ⟨rfl, trivial⟩ fun H1 l1 => ak (fun k1 => ?_) (fun k1 => ah ⟨?_, rfl⟩))
   rotate_left
   ·rw [hF, k1]; rfl
   replace h := h.le l1
   refine ae (aj (IQ b.s1 z5 z6 z7 z8 H1 O'') rfl ⟨rfl, trivial⟩ fun H2 l2 => ak (fun k2 => ?_) (fun k2 => ah ⟨?_, rfl⟩))
   rotate_left
   ·rw [hF, k1, k2]; rfl
   replace h := h.le l2
   refine ae (aj (Jw h hfit) rfl ⟨rfl, trivial⟩ fun H3 l3 => ak (fun k3 => ?_) (fun k3 => ah ⟨?_, rfl⟩))
   rotate_left
   ·rw [hF, k1, k2, k3]; rfl
   replace h := h.le l3
   have ha : b.active = 0 ∨ b.active = 1 := by
    simp only [yP, decide_eq_true_eq] at hnum
    omega
   refine ae (aj (HY h ha) rfl ⟨rfl, trivial⟩ fun H4 l4 => ah ⟨?_, rfl⟩)
   rw [hF, k1, k2, k3]; rfl
end Go.Proofs.YtieaihgbjikggaaGreat
namespace Go.Proofs.YtieaihgbjikggaaGreat
open Go Go.Sx
set_option maxRecDepth 100000
set_option maxHeartbeats 1000000
theorem zr {α : Type} [DecidableEq α] : ∀ {l r : List α}, l.Nodup → (∀ x ∈ l, x ∈ r) → r.length ≤ l.length → r.Perm l
 | [], r, _, _, h => by
  have : r = [] := List.eq_nil_of_length_eq_zero (by simpa using h)
  subst this; exact List.Perm.refl _
 | a :: l, r, hn, hs, h => by
  rw [List.nodup_cons] at hn
  have har : a ∈ r := hs a (by simp)
  have h1 := zr (l := l) (r := r.erase a) hn.2 (fun x hx => (List.mem_erase_of_ne (fun e => hn.1 (by subst e; exact hx))).2 (hs x (by simp [hx]))) (by
   rw [List.length_erase_of_mem har]; simp only [List.length_cons] at h; omega)
  exact (List.perm_cons_erase har).trans (h1.cons a)
theorem qc {α β : Type} (f : α → β) : ∀ {l : List α}, (l.map f).Nodup → l.Nodup
 | [], _ => List.nodup_nil
 | a :: l, h => by
  rw [List.map_cons, List.nodup_cons] at h
  exact List.nodup_cons.2 ⟨fun hm => h.1 (List.mem_map.2 ⟨a, hm, rfl⟩), qc f h.2⟩
def AC : Option Int → List Ob → Bool
 | _, [] => true
 | prev, o :: r => !ip prev o.id && AC (some o.id) r
def ok1 (ps cs : List (Int × Int)) (o : Ob) : Bool := ba o && ((cn ps o.id).isSome && (((cn ps o.id).getD 0 == o.owner) && !((cn cs o.id).isSome && ((cn cs o.id).getD 0 != o.card))))
def ok2 (b : Bd) (o : Ob) : Bool := ba o && (((pY b o.owner o.id : Nat) : Int) == 1)
theorem kR {ps cs : List (Int × Int)} : ∀ (l : List Ob) (prev : Option Int), na ba ps cs prev l = (AC prev l && l.all (ok1 ps cs))
 | [], _ => rfl
 | o :: r, prev => by
  simp only [na, zq, AC, List.all_cons, ok1, kR r (some o.id), bne]
  cases ba o <;> cases ip prev o.id <;> cases cn ps o.id <;> cases cn cs o.id <;> simp [Bool.and_assoc, Bool.and_comm, Bool.and_left_comm]
theorem zp {b : Bd} : ∀ (l : List Ob) (prev : Option Int), mf b prev l = (AC prev l && l.all (ok2 b))
 | [], _ => rfl
 | o :: r, prev => by
  simp only [mf, AC, List.all_cons, ok2, zp r (some o.id)]
  cases ba o <;> cases ip prev o.id <;> simp [Bool.and_assoc, Bool.and_comm, Bool.and_left_comm]
theorem ir : ∀ {l : List Ob} {prev : Option Int}, AC prev l = true → (∀ o ∈ l, ∀ p, prev = some p → p < o.id) ∧ (l.map (·.id)).Nodup
 | [], _, _ => ⟨by simp, by simp⟩
 | o :: r, prev, h => by
  simp only [AC, Bool.and_eq_true, Bool.not_eq_true'] at h
  obtain ⟨k1, k2⟩ := ir h.2
  have hp : ∀ p, prev = some p → p < o.id := by
   rintro p rfl
   have := h.1
   simp only [ip, decide_eq_false_iff_not] at this
   omega
  refine ⟨fun x hx p e => ?_, ?_⟩
  ·rcases List.mem_cons.1 hx with rfl | hx
   ·exact hp p e
   ·have := k1 x hx _ rfl; have := hp p e; omega
  ·rw [List.map_cons, List.nodup_cons]
   refine ⟨fun hm => ?_, k2⟩
   obtain ⟨x, hx, e⟩ := List.mem_map.1 hm
   have := k1 x hx _ rfl
   omega
theorem JP {l : List Ob} (h : (l.map (·.id)).Nodup) : ∀ {x y : Ob}, x ∈ l → y ∈ l → x.id = y.id → x = y := by
 induction l with
 | nil => intro x y hx; cases hx
 | cons a l ih =>
  intro x y hx hy e
  rw [List.map_cons, List.nodup_cons] at h
  rcases List.mem_cons.1 hx with k1 | k1 <;> rcases List.mem_cons.1 hy with k2 | k2
  ·rw [k1, k2]
  ·exact absurd (List.mem_map.2 ⟨y, k2, by rw [← e, k1]⟩) h.1
  ·exact absurd (List.mem_map.2 ⟨x, k1, by rw [e, k2]⟩) h.1
  ·exact ih h.2 k1 k2 e
theorem Fo (l : List Int) (p q id : Int) : (l.map fun i => (i, p)).count (id, q) = if p = q then l.count id else 0 := by
 induction l with
 | nil => simp
 | cons a l ih =>
  simp only [List.map_cons, List.count_cons, ih, beq_iff_eq, Prod.mk.injEq]
  by_cases hp : p = q
  ·simp [hp]
  ·simp [hp]
theorem DE {l : List It} (ht : ∀ x ∈ l, x.trig < 0 → x.trig = -1) (p id : Int) : (cJ l).count (id, p) = l.countP (iw p id) := by
 induction l with
 | nil => rfl
 | cons x l ih =>
  have ih := ih fun y hy => ht y (by simp [hy])
  have hx := ht x (by simp)
  rw [show x :: l = [x] ++ l from rfl, lM, List.count_append, List.countP_append, ih]
  congr 1
  by_cases h : x.trig < 0
  ·rw [B9 h, List.count_singleton, List.countP_singleton]
   have h1 := hx h
   have e : ((x.id, x.player) == (id, p)) = iw p id x := by
    simp only [iw, h1, beq_self_eq_true, Bool.true_and]
    rw [Bool.eq_iff_iff]
    simp [Prod.ext_iff]
   rw [e]
  ·rw [zn h, List.countP_singleton]
   have : iw p id x = false := by
    have : x.trig ≠ -1 := by omega
    simp [iw, this]
   rw [this]; rfl
theorem GF (l : List It) : (cJ l).length = l.countP oI := by
 rw [cJ, List.length_map, bz, List.countP_eq_length_filter]
 congr 2
 funext x
 simp only [oI]
 by_cases h : x.trig < 0
 ·have : ¬ x.trig ≥ 0 := by omega
  simp [h, this]
 ·have : x.trig ≥ 0 := by omega
  simp [h, this]
theorem GE (b : Bd) : (aH b).length = AN b + b.stack.countP oI := by
 simp only [aH, bF, List.length_append, List.length_map, GF, AN]
 omega
theorem xY {b : Bd} (ht : ∀ x ∈ b.stack, x.trig < 0 → x.trig = -1) {p : Int} (hp : p = 0 ∨ p = 1) (id : Int) : (aH b).count (id, p) = pY b p id := by
 simp only [aH, bF, List.count_append, Fo, DE ht, pY, pj]
 rcases hp with rfl | rfl
 ·simp; omega
 ·simp; omega
theorem Cx {b : Bd} (ht : ∀ x ∈ b.stack, x.trig < 0 → x.trig = -1) : rD b = bm ba b := by
 simp only [rD, bm, kR, zp]
 have hl : ((((AN b + b.stack.countP oI : Nat) : Int) == (b.objs.length : Int)) = decide ((aH b).length = b.objs.length)) := by
  rw [GE, Bool.eq_iff_iff]
  simp only [beq_iff_eq, decide_eq_true_eq]
  omega
 rw [hl, Bool.eq_iff_iff]
 simp only [Bool.and_eq_true, List.all_eq_true, decide_eq_true_eq]
 constructor
 ·rintro ⟨hst, ⟨hord, hok⟩, hlen⟩
  obtain ⟨_, hnd⟩ := ir hord
  have hL : (b.objs.map fun o => (o.id, o.owner)).Nodup := by
   have e : (b.objs.map fun o => (o.id, o.owner)).map (·.1) = b.objs.map (·.id) := by rw [List.map_map]; rfl
   exact qc (·.1) (by rw [e]; exact hnd)
  have hsub : ∀ x ∈ (b.objs.map fun o => (o.id, o.owner)), x ∈ aH b := by
   intro x hx
   obtain ⟨o, ho, rfl⟩ := List.mem_map.1 hx
   have h2 := hok o ho
   simp only [ok2, Bool.and_eq_true, beq_iff_eq] at h2
   have hc := xY ht (lG h2.1) o.id
   refine List.count_pos_iff.1 ?_
   rw [hc]; omega
  have hperm := zr hL hsub (by simp [hlen])
  have hfst : ((aH b).map (·.1)).Perm (b.objs.map (·.id)) := by
   have := hperm.map (·.1)
   rwa [List.map_map] at this
  have hnp : ((aH b).map (·.1)).Nodup := hfst.nodup_iff.2 hnd
  refine ⟨hnp, ⟨hord, fun o ho => ?_⟩, hlen⟩
  have h2 := hok o ho
  simp only [ok2, Bool.and_eq_true, beq_iff_eq] at h2
  have hlk : cn (aH b) o.id = some o.owner := (hZ hnp).2 (hsub _ (List.mem_map.2 ⟨o, ho, rfl⟩))
  simp only [ok1, h2.1, hlk, Option.isSome_some, Option.getD_some, beq_self_eq_true, Bool.true_and, Bool.not_eq_true']
  cases hc : cn (aU b.stack) o.id with
  | none => rfl
  | some c =>
   simp only [Option.isSome_some, Option.getD_some, Bool.true_and, bne_eq_false_iff_eq]
   have hmem : (o.id, c) ∈ aU b.stack := by
    simp only [cn, Option.map_eq_some_iff] at hc
    obtain ⟨⟨k, c'⟩, hf, rfl⟩ := hc
    have h3 := List.find?_some hf
    have h4 := List.mem_of_find?_eq_some hf
    simp only [beq_iff_eq] at h3
    rw [h3]; exact h4
   simp only [aU, bz, List.mem_map, List.mem_filter, decide_eq_true_eq, Prod.mk.injEq] at hmem
   obtain ⟨x, ⟨hx, hxt⟩, e1, e2⟩ := hmem
   have hsx := hst x hx
   have hn : decide (x.trig ≥ 0) = false := by simp; omega
   simp only [lH, hn, Bool.false_or, Bool.not_eq_true', Bool.or_eq_false_iff, decide_eq_false_iff_not, bne_eq_false_iff_eq] at hsx
   rcases kS (fun o => o.id == x.id) b.objs 0 (by omega) with ⟨e, _⟩ | ⟨k, o', k1, k2, k3⟩
   ·exfalso; apply hsx.1; show gI b x.id < 0; unfold gI; omega
   ·have k3 : gI b x.id = (k : Int) := by unfold gI; omega
    have hca : qv b (gI b x.id) = o'.card := by rw [k3]; simp [qv, k1]
    simp only [beq_iff_eq] at k2
    have : o' = o := JP hnd (List.mem_of_getElem? k1) ho (by rw [k2, e1])
    rw [← e2, ← hsx.2, hca, this]
 ·rintro ⟨hnp, ⟨hord, hok⟩, hlen⟩
  obtain ⟨_, hnd⟩ := ir hord
  have hids := zt (l := b.objs.map (·.id)) (r := (aH b).map (·.1)) hnd (fun y hy => by
   obtain ⟨o, ho, rfl⟩ := List.mem_map.1 hy
   have h2 := hok o ho
   simp only [ok1, Bool.and_eq_true] at h2
   rcases Classical.em (o.id ∈ (aH b).map (·.1)) with h | h
   ·exact h
   ·have h3 := h2.2.1; rw [eV.2 h] at h3; cases h3) (by simp [hlen])
  refine ⟨fun x hx => ?_, ⟨hord, fun o ho => ?_⟩, hlen⟩
  ·by_cases hxt : x.trig < 0
   ·have hn : decide (x.trig ≥ 0) = false := by simp; omega
    have hxp : x.id ∈ (aH b).map (·.1) := by
     simp only [aH, List.map_append, List.mem_append]
     right; right
     simp only [cJ, bz, List.mem_map, List.mem_filter, decide_eq_true_eq]
     exact ⟨_, ⟨x, ⟨hx, hxt⟩, rfl⟩, rfl⟩
    obtain ⟨o, ho, hoid⟩ := List.mem_map.1 (hids _ hxp)
    simp only [lH, hn, Bool.false_or, Bool.not_eq_true', Bool.or_eq_false_iff, decide_eq_false_iff_not, bne_eq_false_iff_eq]
    rcases kS (fun o => o.id == x.id) b.objs 0 (by omega) with ⟨_, e⟩ | ⟨k, o', k1, k2, k3⟩
    ·have := e o ho; simp [hoid] at this
    ·have k3 : gI b x.id = (k : Int) := by unfold gI; omega
     refine ⟨by omega, ?_⟩
     rw [k3]
     simp only [beq_iff_eq] at k2
     have h2 := hok o' (List.mem_of_getElem? k1)
     simp only [ok1, Bool.and_eq_true, Bool.not_eq_true'] at h2
     have hcn : ((aU b.stack).map (·.1)).Nodup := by
      have e : (aU b.stack).map (·.1) = (cJ b.stack).map (·.1) := by simp only [aU, cJ, List.map_map]; rfl
      rw [e]
      simp only [aH, List.map_append] at hnp
      exact (List.nodup_append.1 (List.nodup_append.1 hnp).2.1).2.1
     have hlk : cn (aU b.stack) x.id = some x.card := (hZ hcn).2 (by
      simp only [aU, bz, List.mem_map, List.mem_filter, decide_eq_true_eq]
      exact ⟨x, ⟨hx, hxt⟩, rfl⟩)
     have h3 := h2.2.2.2
     rw [k2, hlk] at h3
     simp only [Option.isSome_some, Option.getD_some, Bool.true_and, bne_eq_false_iff_eq] at h3
     simp only [qv, Int.toNat_natCast, k1, Option.map_some, Option.getD_some]
     exact h3.symm
   ·have hn : decide (x.trig ≥ 0) = true := by simp; omega
    simp only [lH, hn, Bool.true_or]
  ·have h2 := hok o ho
   simp only [ok1, Bool.and_eq_true, beq_iff_eq] at h2
   obtain ⟨v1, v2, v3, _⟩ := h2
   have hlk : cn (aH b) o.id = some o.owner := by
    cases e : cn (aH b) o.id with
    | none => rw [e] at v2; cases v2
    | some c => rw [e] at v3; rw [← v3]; rfl
   have hmem := (hZ hnp).1 hlk
   have hnp' : (aH b).Nodup := qc (·.1) hnp
   have hc := xY ht (lG v1) o.id
   have h1 : (aH b).count (o.id, o.owner) = 1 := by
    have a1 := List.count_pos_iff.2 hmem
    have a2 := List.nodup_iff_count.1 hnp' (o.id, o.owner)
    omega
   simp only [ok2, v1, Bool.true_and, beq_iff_eq]
   rw [hc] at h1; omega
end Go.Proofs.YtieaihgbjikggaaGreat
namespace Go.Proofs.YtieaihgbjikggaaGreat
open Go Go.Sx
set_option maxRecDepth 100000
set_option maxHeartbeats 1000000
theorem xZ {l : List Int} (h : l.Nodup) (x : Int) : (((l.count x : Nat) : Int) == 1) = l.contains x := by
 have h1 := List.nodup_iff_count.1 h x
 by_cases hm : x ∈ l
 ·have h2 := List.count_pos_iff.2 hm
  have : l.count x = 1 := by omega
  simp [this, hm]
 ·have : l.count x = 0 := List.count_eq_zero.2 hm
  simp [this, hm]
theorem KU {own att : List Int} (ho : own.Nodup) : att.all (y0 own att) = (decide att.Nodup && att.all fun x => own.contains x) := by
 rw [Bool.eq_iff_iff]
 simp only [Bool.and_eq_true, List.all_eq_true, decide_eq_true_eq, y0, xZ ho, beq_iff_eq]
 constructor
 ·intro h
  refine ⟨List.nodup_iff_count.2 fun x => ?_, fun x hx => (h x hx).2⟩
  by_cases hm : x ∈ att
  ·have := (h x hm).1; omega
  ·have := List.count_eq_zero.2 hm; omega
 ·rintro ⟨h1, h2⟩ x hx
  refine ⟨?_, h2 x hx⟩
  have := List.nodup_iff_count.1 h1 x
  have := List.count_pos_iff.2 hx
  omega
theorem Jg {att other : List Int} (ha : att.Nodup) (ho : other.Nodup) : ∀ (l done : List Bl) (ua ub : List Int), (∀ a, a ∈ ua ↔ ∃ y ∈ done, y.attacker = a) → (∀ a, a ∈ ub ↔ ∃ y ∈ done, y.blocker = a) → uz att other ua ub l = BB att other done l
 | [], _, _, _, _, _ => rfl
 | x :: r, done, ua, ub, h1, h2 => by
  rw [uz, BB, Jg ha ho r (done ++ [x]) (x.attacker :: ua) (x.blocker :: ub)]
  ·congr 1
   rw [oL, xZ ha, xZ ho, Bool.eq_iff_iff]
   simp only [Bool.and_eq_true, Bool.not_eq_true', List.all_eq_true, iS, Bool.or_eq_false_iff, beq_eq_false_iff_ne, List.contains_iff_mem]
   have e1 : ua.contains x.attacker = false ↔ ∀ y ∈ done, y.attacker ≠ x.attacker := by
    rw [← Bool.not_eq_true, List.contains_iff_mem, h1]
    exact ⟨fun h y hy e => h ⟨y, hy, e⟩, fun h ⟨y, hy, e⟩ => h y hy e⟩
   have e2 : ub.contains x.blocker = false ↔ ∀ y ∈ done, y.blocker ≠ x.blocker := by
    rw [← Bool.not_eq_true, List.contains_iff_mem, h2]
    exact ⟨fun h y hy e => h ⟨y, hy, e⟩, fun h ⟨y, hy, e⟩ => h y hy e⟩
   rw [e1, e2]
   exact ⟨fun ⟨⟨a, b⟩, c, d⟩ => ⟨b, d, fun y hy => ⟨a y hy, c y hy⟩⟩, fun ⟨b, d, e⟩ => ⟨⟨fun y hy => (e y hy).1, b⟩, fun y hy => (e y hy).2, d⟩⟩
  ·intro a
   simp only [List.mem_cons, h1, List.mem_append, List.mem_singleton]
   constructor
   ·rintro (rfl | ⟨y, hy, e⟩)
    ·exact ⟨x, .inr (.inl rfl), rfl⟩
    ·exact ⟨y, .inl hy, e⟩
   ·rintro ⟨y, hy | hy, e⟩
    ·exact .inr ⟨y, hy, e⟩
    ·rcases hy with rfl | hy
     ·exact .inl e.symm
     ·cases hy
  ·intro a
   simp only [List.mem_cons, h2, List.mem_append, List.mem_singleton]
   constructor
   ·rintro (rfl | ⟨y, hy, e⟩)
    ·exact ⟨x, .inr (.inl rfl), rfl⟩
    ·exact ⟨y, .inl hy, e⟩
   ·rintro ⟨y, hy | hy, e⟩
    ·exact .inr ⟨y, hy, e⟩
    ·rcases hy with rfl | hy
     ·exact .inl e.symm
     ·cases hy
theorem Cz {own other att : List Int} {bl : List Bl} (ho : own.Nodup) (ht : other.Nodup) : rg own other att bl = jH own other att bl := by
 rw [rg, jH, KU ho]
 by_cases ha : att.Nodup
 ·rw [Jg ha ht bl [] [] [] (by simp) (by simp), Bool.and_assoc]
 ·simp [ha]
theorem uU {b : Bd} (h : bm ba b = true) : b.s0.field.Nodup ∧ b.s1.field.Nodup := by
 simp only [bm, Bool.and_eq_true, decide_eq_true_eq] at h
 have h1 := h.1
 have e : ∀ (l : List Int) (p : Int), (l.map fun i => (i, p)).map (·.1) = l := fun l p => by rw [List.map_map]; simp [Function.comp_def]
 simp only [aH, bF, List.map_append, e] at h1
 have h2 := List.nodup_append.1 h1
 have h3 := List.nodup_append.1 h2.2.1
 have f : ∀ {a b c d : List Int}, (a ++ (b ++ (c ++ d))).Nodup → c.Nodup := fun h => (List.nodup_append.1 (List.nodup_append.1 (List.nodup_append.1 h).2.1).2.1).1
 exact ⟨f h2.1, f h3.1⟩
theorem Fk {b : Bd} (h : bm ba b = true) : fW b = fX b := by
 obtain ⟨h0, h1⟩ := uU h
 rw [fW, fX, Cz h0 h1, Cz h1 h0]
theorem GW {x : It} {q : Bool} (h : ct x q = true) : x.trig < 0 → x.trig = -1 := by
 simp only [ct, aq, Bool.and_eq_true, decide_eq_true_eq] at h
 omega
theorem im (b : Bd) : lY b = aw b := by
 rw [Bool.eq_iff_iff]
 have hall : ∀ (l : List It) (q : Bool), l.all (fun x => ct x q) = !(l.any fun x => !ct x q) := fun l q => by
  induction l with
  | nil => rfl
  | cons a l ih => simp [ih]
 have hnum : yP b = (aq b.active 0 1 && (aq b.turn 0 1000 && (aq b.phase 0 10 && (aq b.holder (-1) 1 && !rA b)))) := by
  rw [Bool.eq_iff_iff]
  simp only [yP, aq, rA, Bool.and_eq_true, Bool.not_eq_true', Bool.or_eq_false_iff, decide_eq_true_eq, decide_eq_false_iff_not, Bool.not_eq_false']
  omega
 have key : ∀ (x y : Bool), (b.stack.all (fun x => ct x false) = true → x = y) → ((b.stack.all (fun x => ct x false) && x) = true ↔ (b.stack.all (fun x => ct x false) && y) = true) := by
  intro x y h
  cases hs : b.stack.all (fun x => ct x false) with
  | false => simp
  | true => rw [h hs]
 have hf : b.stack.all (fun x => ct x false) = true → (rD b && fW b) = (bm ba b && fX b) := by
  intro hs
  rw [List.all_eq_true] at hs
  rw [Cx fun x hx => GW (hs x hx)]
  cases hp : bm ba b with
  | false => rfl
  | true => rw [Fk hp]
 have e1 : lY b = (yP b && (b.queue.all (fun x => ct x true) && (bu b.s0 && (bu b.s1 && (b.stack.all (fun x => ct x false) && (rD b && fW b)))))) := by
  rw [lY]
  cases b.stack.all (fun x => ct x false) <;> simp
 have e2 : aw b = (yP b && (b.queue.all (fun x => ct x true) && (bu b.s0 && (bu b.s1 && (b.stack.all (fun x => ct x false) && (bm ba b && fX b)))))) := by
  rw [aw, hnum, hall, hall]
  cases aq b.active 0 1 <;> cases aq b.turn 0 1000 <;> cases aq b.phase 0 10 <;> cases aq b.holder (-1) 1 <;> cases rA b <;> cases bu b.s0 <;> cases bu b.s1 <;> cases (b.stack.any fun x => !ct x false) <;> cases (b.queue.any fun x => !ct x true) <;> rfl
 rw [e1, e2]
 simp only [Bool.and_eq_true]
 have := key _ _ hf
 simp only [Bool.and_eq_true] at this
 rw [this]
end Go.Proofs.YtieaihgbjikggaaGreat
namespace Go.Proofs.YtieaihgbjikggaaGreat
open Go Go.Sx
set_option maxRecDepth 100000
set_option maxHeartbeats 1000000
end Go.Proofs.YtieaihgbjikggaaGreat
namespace Go.Proofs.YtieaihgbjikggaaGreat
open Go Go.Sx
set_option maxRecDepth 100000
set_option maxHeartbeats 1000000
def gh (s : St) : Bool := !decide ((s.lib.length : Int) > 40) && (!decide ((s.hand.length : Int) > 40) && (!decide ((s.field.length : Int) > 40) && !decide ((s.grave.length : Int) > 40)))
def lQ (l : List It) : Bool := !decide ((l.length : Int) > 20) && l.all fun x => !decide ((x.tgs.length : Int) > 6)
def ei (b : Bd) : Bool := gh b.s0 && (gh b.s1 && (lQ b.stack && (lQ b.queue && ((decide ((b.objs.length : Int) ≤ 30) && decide ((b.att.length : Int) ≤ 30)) && decide ((b.blocks.length : Int) ≤ 30)))))
theorem DK {H : Heap} {O : Own} {v : d8} {b : Bd} (h : BdR H O v b) : RetO PP jZ [.agg (ay v b).toArray] H O (.bool (ei b)) := by
 refine oY (vs := ay v b) (by kernel_rfl) (au h) ?_
 simp only [gC]
 have len1 : ∀ {H' : Heap} {O' : Own} {w : Value} {l : List Int}, RSl H' O' 1 w (aO l) → al .len [w] = some (iV l.length) := fun h => by have := h.len; rwa [aO, List.length_map] at this
 have lo := h.objs.len
 have lb := h.blocks.len
 rw [List.length_map] at lo lb
 have la := len1 h.att
 refine ai fun r0 => ?_
 obtain ⟨s01, s02, s03, s04⟩ := fq h.s0
 refine ae (aj (me b.s0 s01 s02 s03 s04 _ _) rfl ⟨s01, s02, s03, s04, trivial⟩ fun Hs0 ls0 => ?_)
 replace h := h.le ls0
 refine ab _ (len1 h.s0.lib) (ab _ (cR _ _) (ak (fun ks0lib => ah ⟨?_, rfl⟩) (fun ks0lib => ?_)))
 ·simp only [ei, gh, ks0lib, Bool.not_true, Bool.not_false, Bool.true_and, Bool.false_and, Bool.and_false]
 refine ab _ (len1 h.s0.hand) (ab _ (cR _ _) (ak (fun ks0hand => ah ⟨?_, rfl⟩) (fun ks0hand => ?_)))
 ·simp only [ei, gh, ks0lib, ks0hand, Bool.not_true, Bool.not_false, Bool.true_and, Bool.false_and, Bool.and_false]
 refine ab _ (len1 h.s0.field) (ab _ (cR _ _) (ak (fun ks0field => ah ⟨?_, rfl⟩) (fun ks0field => ?_)))
 ·simp only [ei, gh, ks0lib, ks0hand, ks0field, Bool.not_true, Bool.not_false, Bool.true_and, Bool.false_and, Bool.and_false]
 refine ab _ (len1 h.s0.grave) (ab _ (cR _ _) (ak (fun ks0grave => ah ⟨?_, rfl⟩) (fun ks0grave => ?_)))
 ·simp only [ei, gh, ks0lib, ks0hand, ks0field, ks0grave, Bool.not_true, Bool.not_false, Bool.true_and, Bool.false_and, Bool.and_false]
 obtain ⟨s11, s12, s13, s14⟩ := fq h.s1
 refine ae (aj (me b.s1 s11 s12 s13 s14 _ _) rfl ⟨s11, s12, s13, s14, trivial⟩ fun Hs1 ls1 => ?_)
 replace h := h.le ls1
 refine ab _ (len1 h.s1.lib) (ab _ (cR _ _) (ak (fun ks1lib => ah ⟨?_, rfl⟩) (fun ks1lib => ?_)))
 ·simp only [ei, gh, ks0lib, ks0hand, ks0field, ks0grave, ks1lib, Bool.not_true, Bool.not_false, Bool.true_and, Bool.false_and, Bool.and_false]
 refine ab _ (len1 h.s1.hand) (ab _ (cR _ _) (ak (fun ks1hand => ah ⟨?_, rfl⟩) (fun ks1hand => ?_)))
 ·simp only [ei, gh, ks0lib, ks0hand, ks0field, ks0grave, ks1lib, ks1hand, Bool.not_true, Bool.not_false, Bool.true_and, Bool.false_and, Bool.and_false]
 refine ab _ (len1 h.s1.field) (ab _ (cR _ _) (ak (fun ks1field => ah ⟨?_, rfl⟩) (fun ks1field => ?_)))
 ·simp only [ei, gh, ks0lib, ks0hand, ks0field, ks0grave, ks1lib, ks1hand, ks1field, Bool.not_true, Bool.not_false, Bool.true_and, Bool.false_and, Bool.and_false]
 refine ab _ (len1 h.s1.grave) (ab _ (cR _ _) (ak (fun ks1grave => ah ⟨?_, rfl⟩) (fun ks1grave => ?_)))
 ·simp only [ei, gh, ks0lib, ks0hand, ks0field, ks0grave, ks1lib, ks1hand, ks1field, ks1grave, Bool.not_true, Bool.not_false, Bool.true_and, Bool.false_and, Bool.and_false]
 refine ae (ae (ai fun _ => ae ?_))
 have lstack := ItsR.len h.stack
 refine ab _ lstack (ab _ (cR _ _) (ak (fun kstack => ah ⟨?_, rfl⟩) (fun kstack => ?_)))
 ·simp only [ei, gh, lQ, ks0lib, ks0hand, ks0field, ks0grave, ks1lib, ks1hand, ks1field, ks1grave, kstack, Bool.not_true, Bool.not_false, Bool.true_and, Bool.false_and, Bool.and_false]
 have stkstack := h.stack
 obtain ⟨rowsstack, hrsstack, hrlstack, hitstack⟩ := stkstack
 have hBstack := hrsstack.lenB
 refine aR b.stack.length (fun i H' OO => OO = O ∧ Heap.le Hs1 H' ∧ (b.stack.all fun x => !decide ((x.tgs.length : Int) > 6)) = ((b.stack.drop i).all fun x => !decide ((x.tgs.length : Int) > 6))) ⟨rfl, Heap.le_refl _, rfl⟩ ?_
 rintro istack Hstack Ostack histack - ⟨rfl, hlestack, horstack⟩
 replace h := h.le hlestack
 refine ab _ lstack (ab _ (aB _ _) (ak (fun hb => ?_) (fun hb => ?_)))
 ·have hlt : istack < b.stack.length := by simpa using hb
  obtain ⟨a, h1, _, h3, _⟩ := (hrsstack.le hlestack).idx .i64 istack rowsstack[istack] (by simp [hrlstack, hlt])
  obtain ⟨s, hrow, hs⟩ := (hitstack istack rowsstack[istack] b.stack[istack] (by simp [hrlstack, hlt]) (by simp [hlt])).le hlestack
  have hr := h3 4 1 (by omega)
  rw [hrow] at hr
  have hst : ((b.stack.drop istack).all fun x => !decide ((x.tgs.length : Int) > 6)) = (!decide ((b.stack[istack].tgs.length : Int) > 6) && ((b.stack.drop (istack + 1)).all fun x => !decide ((x.tgs.length : Int) > 6))) := by rw [List.drop_eq_getElem_cons hlt, List.all_cons]
  have lt := hs.len
  rw [List.length_map] at lt
  refine ab _ h1 (aL rfl (ap hr rfl ⟨hs.one, trivial⟩ (ab _ lt (ab _ (cR _ _) (ak (fun hc => ah ⟨?_, rfl⟩) (fun hc => ?_))))))
  ·simp only [ei, gh, lQ, ks0lib, ks0hand, ks0field, ks0grave, ks1lib, ks1hand, ks1field, ks1grave, kstack, horstack, hst, hc, Bool.not_true, Bool.not_false, Bool.true_and, Bool.false_and, Bool.and_false]
  ·refine ab _ (ax (by omega)) (aK (by simp [Eqs]) hlt ⟨rfl, hlestack, ?_⟩)
   rw [horstack, hst, hc]; rfl
 have hgestack : b.stack.length ≤ istack := by simpa using hb
 rw [List.drop_of_length_le hgestack] at horstack
 have kallstack : (b.stack.all fun x => !decide ((x.tgs.length : Int) > 6)) = true := by rw [horstack]; rfl
 clear hb
 refine ae ?_
 have lqueue := ItsR.len h.queue
 refine ab _ lqueue (ab _ (cR _ _) (ak (fun kqueue => ah ⟨?_, rfl⟩) (fun kqueue => ?_)))
 ·simp only [ei, gh, lQ, ks0lib, ks0hand, ks0field, ks0grave, ks1lib, ks1hand, ks1field, ks1grave, kstack, kallstack, kqueue, Bool.not_true, Bool.not_false, Bool.true_and, Bool.false_and, Bool.and_false]
 have stkqueue := h.queue
 obtain ⟨rowsqueue, hrsqueue, hrlqueue, hitqueue⟩ := stkqueue
 have hBqueue := hrsqueue.lenB
 refine aR b.queue.length (fun i H' OO => OO = Ostack ∧ Heap.le Hstack H' ∧ (b.queue.all fun x => !decide ((x.tgs.length : Int) > 6)) = ((b.queue.drop i).all fun x => !decide ((x.tgs.length : Int) > 6))) ⟨rfl, Heap.le_refl _, rfl⟩ ?_
 rintro iqueue Hqueue Oqueue hiqueue - ⟨rfl, hlequeue, horqueue⟩
 replace h := h.le hlequeue
 refine ab _ lqueue (ab _ (aB _ _) (ak (fun hb => ?_) (fun hb => ?_)))
 ·have hlt : iqueue < b.queue.length := by simpa using hb
  obtain ⟨a, h1, _, h3, _⟩ := (hrsqueue.le hlequeue).idx .i64 iqueue rowsqueue[iqueue] (by simp [hrlqueue, hlt])
  obtain ⟨s, hrow, hs⟩ := (hitqueue iqueue rowsqueue[iqueue] b.queue[iqueue] (by simp [hrlqueue, hlt]) (by simp [hlt])).le hlequeue
  have hr := h3 4 1 (by omega)
  rw [hrow] at hr
  have hst : ((b.queue.drop iqueue).all fun x => !decide ((x.tgs.length : Int) > 6)) = (!decide ((b.queue[iqueue].tgs.length : Int) > 6) && ((b.queue.drop (iqueue + 1)).all fun x => !decide ((x.tgs.length : Int) > 6))) := by rw [List.drop_eq_getElem_cons hlt, List.all_cons]
  have lt := hs.len
  rw [List.length_map] at lt
  refine ab _ h1 (aL rfl (ap hr rfl ⟨hs.one, trivial⟩ (ab _ lt (ab _ (cR _ _) (ak (fun hc => ah ⟨?_, rfl⟩) (fun hc => ?_))))))
  ·simp only [ei, gh, lQ, ks0lib, ks0hand, ks0field, ks0grave, ks1lib, ks1hand, ks1field, ks1grave, kstack, kallstack, kqueue, horqueue, hst, hc, Bool.not_true, Bool.not_false, Bool.true_and, Bool.false_and, Bool.and_false]
  ·refine ab _ (ax (by omega)) (aK (by simp [Eqs]) hlt ⟨rfl, hlequeue, ?_⟩)
   rw [horqueue, hst, hc]; rfl
 have hgequeue : b.queue.length ≤ iqueue := by simpa using hb
 rw [List.drop_of_length_le hgequeue] at horqueue
 have kallqueue : (b.queue.all fun x => !decide ((x.tgs.length : Int) > 6)) = true := by rw [horqueue]; rfl
 clear hb
 repeat (first | refine ae ?_ | refine af ?_ | refine ab _ lo ?_ | refine ab _ la ?_ | refine ab _ lb ?_ | refine ab _ (ef _ _) ?_ | refine ab _ (bE _ _) ?_)
 refine ah ⟨?_, rfl⟩
 simp only [ei, gh, lQ, ks0lib, ks0hand, ks0field, ks0grave, ks1lib, ks1hand, ks1field, ks1grave, kstack, kallstack, kqueue, kallqueue, Bool.not_true, Bool.not_false, Bool.true_and, Bool.false_and, Bool.and_false]
end Go.Proofs.YtieaihgbjikggaaGreat
namespace Go.Proofs.YtieaihgbjikggaaGreat
open Go Go.Sx
set_option maxRecDepth 100000
set_option maxHeartbeats 1000000
def tys : Tys := ⟨be, dN, bL, bB, ar⟩
theorem tz {H : Heap} {v : Value} {l : List (List Value)} (h : Sl H 12 v l) (hb : l.length ≤ 2 ^ 40) : Triple PP dl [v] H [] fun v' H' O' => OSl dN 12 v' l O' := by
 refine fU (vs := [v]) (by kernel_rfl) ⟨h.one, trivial⟩ ?_
 simp only [bZ]
 obtain ⟨a, cap, rfl, h1, h2, h3⟩ := h
 have hev : al (.bin .eql .slice) [.slice a l.length cap, .slice none 0 0] = some (.bool a.isNone) := by cases a <;> rfl
 refine ab _ hev (ak (fun hn => ah ?_) (fun hn => fun r0 => ?_))
 ·have hl : l = [] := by
   by_cases hl : l = []
   ·exact hl
   ·obtain ⟨ad, rfl, _⟩ := h3 hl; cases hn
  subst hl
  exact OSl.nil dN 12
 ·refine aI (rows := []) (news := l) (O1 := []) (O2 := []) (e := dN) (size := 12) (bytes := 80) (by kernel_rfl) (List.Perm.refl _) (.inl ⟨⟨_, rfl⟩, rfl, rfl⟩) (fun Hf hl _ => Sl.le hl ⟨a, cap, rfl, h1, h2, h3⟩) (by simp; omega) (by simp; omega) ?_
  intro v' O1' H' _ ho
  refine ah ?_
  rw [List.append_nil]
  exact ho
theorem uw {H : Heap} {v : Value} {l : List (List Value)} (h : Sl H 2 v l) (hb : l.length ≤ 2 ^ 40) : Triple PP dE [v] H [] fun v' H' O' => OSl bL 2 v' l O' := by
 refine gF (vs := [v]) (by kernel_rfl) ⟨h.one, trivial⟩ ?_
 simp only [cw]
 obtain ⟨a, cap, rfl, h1, h2, h3⟩ := h
 have hev : al (.bin .eql .slice) [.slice a l.length cap, .slice none 0 0] = some (.bool a.isNone) := by cases a <;> rfl
 refine ab _ hev (ak (fun hn => ah ?_) (fun hn => fun r0 => ?_))
 ·have hl : l = [] := by
   by_cases hl : l = []
   ·exact hl
   ·obtain ⟨ad, rfl, _⟩ := h3 hl; cases hn
  subst hl
  exact OSl.nil bL 2
 ·refine aI (rows := []) (news := l) (O1 := []) (O2 := []) (e := bL) (size := 2) (bytes := 16) (by kernel_rfl) (List.Perm.refl _) (.inl ⟨⟨_, rfl⟩, rfl, rfl⟩) (fun Hf hl _ => Sl.le hl ⟨a, cap, rfl, h1, h2, h3⟩) (by simp; omega) (by simp; omega) ?_
  intro v' O1' H' _ ho
  refine ah ?_
  rw [List.append_nil]
  exact ho
theorem vM {H : Heap} {v : Value} {l : List (List Value)} (h : Sl H 5 v l) (hb : l.length ≤ 2 ^ 40) : Triple PP dT [v] H [] fun v' H' O' => OSl bB 5 v' l O' := by
 refine ik (vs := [v]) (by kernel_rfl) ⟨h.one, trivial⟩ ?_
 simp only [cE]
 obtain ⟨a, cap, rfl, h1, h2, h3⟩ := h
 have hev : al (.bin .eql .slice) [.slice a l.length cap, .slice none 0 0] = some (.bool a.isNone) := by cases a <;> rfl
 refine ab _ hev (ak (fun hn => ah ?_) (fun hn => fun r0 => ?_))
 ·have hl : l = [] := by
   by_cases hl : l = []
   ·exact hl
   ·obtain ⟨ad, rfl, _⟩ := h3 hl; cases hn
  subst hl
  exact OSl.nil bB 5
 ·refine aI (rows := []) (news := l) (O1 := []) (O2 := []) (e := bB) (size := 5) (bytes := 56) (by kernel_rfl) (List.Perm.refl _) (.inl ⟨⟨_, rfl⟩, rfl, rfl⟩) (fun Hf hl _ => Sl.le hl ⟨a, cap, rfl, h1, h2, h3⟩) (by simp; omega) (by simp; omega) ?_
  intro v' O1' H' _ ho
  refine ah ?_
  rw [List.append_nil]
  exact ho
theorem tu {H : Heap} {v : Value} {l : List (List Value)} (h : Sl H 2 v l) (hb : l.length ≤ 2 ^ 40) : Triple PP dk [v] H [] fun v' H' O' => OSl ar 2 v' l O' := by
 refine fT (vs := [v]) (by kernel_rfl) ⟨h.one, trivial⟩ ?_
 simp only [bY]
 obtain ⟨a, cap, rfl, h1, h2, h3⟩ := h
 have hev : al (.bin .eql .slice) [.slice a l.length cap, .slice none 0 0] = some (.bool a.isNone) := by cases a <;> rfl
 refine ab _ hev (ak (fun hn => ah ?_) (fun hn => fun r0 => ?_))
 ·have hl : l = [] := by
   by_cases hl : l = []
   ·exact hl
   ·obtain ⟨ad, rfl, _⟩ := h3 hl; cases hn
  subst hl
  exact OSl.nil ar 2
 ·refine aI (rows := []) (news := l) (O1 := []) (O2 := []) (e := ar) (size := 2) (bytes := 16) (by kernel_rfl) (List.Perm.refl _) (.inl ⟨⟨_, rfl⟩, rfl, rfl⟩) (fun Hf hl _ => Sl.le hl ⟨a, cap, rfl, h1, h2, h3⟩) (by simp; omega) (by simp; omega) ?_
  intro v' O1' H' _ ho
  refine ah ?_
  rw [List.append_nil]
  exact ho
end Go.Proofs.YtieaihgbjikggaaGreat
